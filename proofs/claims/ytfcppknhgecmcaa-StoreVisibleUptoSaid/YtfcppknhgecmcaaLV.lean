import Derived.Test.YtfcppknhgecmcaaLW
import Derived.KernelRfl
namespace Go.Proofs.Ytfcppknhgecmcaa.W
open Go Go.Wk
set_option linter.unusedVariables false

structure LookedR where
  parts : Int
  fst_ : Value
  fst : List WriteR
  thn_ : Value
  thn : List WriteR
  batch : Int
def encLooked (o : LookedR) : List Value := [.int .i64 o.parts, o.fst_, o.thn_, .int .i64 o.batch]
def latP (k : Key) (b : Int) (l : LaidR) : Bool := decide (l.key = k) && decide (l.batch ≤ b)
def latF (all : List LaidR) (k : Key) (b : Int) : Int := ((all.reverse.find? (latP k b)).map (·.v)).getD 0
theorem latF_app (all : List LaidR) (x : LaidR) (k : Key) (b : Int) : latF (all ++ [x]) k b = if latP k b x then x.v else latF all k b := by
  unfold latF
  rw [List.reverse_append, List.reverse_cons, List.reverse_nil, List.nil_append, List.singleton_append, List.find?_cons]
  cases latP k b x <;> simp
theorem latF_more (all r : List LaidR) (k : Key) (b : Int) (h : ∀ l ∈ r, b < l.batch) : latF (all ++ r) k b = latF all k b := by
  unfold latF
  rw [List.reverse_append, List.find?_append]
  have : r.reverse.find? (latP k b) = none := by
    rw [List.find?_eq_none]
    intro x hx
    have := h x (List.mem_reverse.1 hx)
    simp [latP]; omega
  rw [this]; rfl
theorem latF_congr (all : List LaidR) (k : Key) (b c : Int) (h : ∀ l ∈ all, (l.batch ≤ b ↔ l.batch ≤ c)) : latF all k b = latF all k c := by
  have : all.reverse.find? (latP k b) = all.reverse.find? (latP k c) := by
    have h' : ∀ l ∈ all.reverse, latP k b l = latP k c l := fun l hl => by simp [latP, h l (List.mem_reverse.1 hl)]
    generalize all.reverse = r at h'
    induction r with
    | nil => rfl
    | cons x r ih => rw [List.find?_cons, List.find?_cons, h' x (by simp), ih (fun l hl => h' l (by simp [hl]))]
  unfold latF; rw [this]
theorem latF_none (all : List LaidR) (k : Key) (b : Int) (h : ∀ l ∈ all, b < l.batch) : latF all k b = 0 := by
  have := latF_more [] all k b h
  rw [List.nil_append] at this
  exact this
structure VI (x : WS) (i : Nat) : Prop where
  inv : WInv x 0
  ch : ∀ k, x.st.ch k = (x.all.filter (fun l => decide (l.key = k))).map (·.v)
  pos : ∀ l ∈ x.all, 1 ≤ l.batch ∧ l.batch ≤ x.batch
  last : x.last ≤ 1 + i
  batch : x.batch ≤ 2 + 100 * i
  len : x.all.length ≤ 1 + i
theorem vis_lat {x : WS} {i : Nat} (h : VI x i) (k : Key) (b : Int) : visF x.st k b = latF x.all k b := by
  unfold visF latF
  rw [h.ch k, ← List.map_reverse, List.find?_map, ← List.filter_reverse, List.find?_filter]
  have key : ∀ r : List LaidR, (∀ l ∈ r, x.st.ver l.v = some (recOf l)) → r.find? (fun a => decide (decide (a.key = k) = true ∧ (visP x.st b ∘ fun x => x.v) a = true)) = r.find? (latP k b) := by
    intro r hr
    induction r with
    | nil => rfl
    | cons y r ih =>
      rw [List.find?_cons, List.find?_cons, ih (fun l hl => hr l (by simp [hl]))]
      have : decide (decide (y.key = k) = true ∧ (visP x.st b ∘ fun x => x.v) y = true) = latP k b y := by
        simp [visP, hr y (by simp), latP, recOf]
      rw [this]
  rw [key _ (fun l hl => h.inv.here l (List.mem_reverse.1 hl))]
theorem VI.drop {x : WS} {i j : Nat} {l : LaidR} (h : VI x i) (hl : x.all[j]? = some l) : VI (dropW x j l) i where
  inv := h.inv.drop hl
  ch k := by
    have hv : ∀ y ∈ x.all.eraseIdx j, y.v ≠ l.v := fun y hy e => by
      rw [List.mem_eraseIdx_iff_getElem?] at hy
      obtain ⟨m, hm, hm2⟩ := hy
      exact hm (nodup_inj h.inv.nod (i := m) (j := j) (x := l.v) (by rw [List.getElem?_map, hm2, ← e]; rfl) (by rw [List.getElem?_map, hl]; rfl))
    have hx : x.all.eraseIdx j = x.all.filter (fun y => decide (y.v ≠ l.v)) := by
      rw [List.eraseIdx_eq_take_drop_succ]
      have hj := (List.getElem?_eq_some_iff.1 hl)
      have e1 : x.all = x.all.take j ++ l :: x.all.drop (j + 1) := by
        rw [← hj.2, ← List.drop_eq_getElem_cons hj.1, List.take_append_drop]
      have hv' : ∀ y ∈ x.all.take j ++ x.all.drop (j + 1), y.v ≠ l.v := fun y hy => hv y (by rw [List.eraseIdx_eq_take_drop_succ]; exact hy)
      conv => rhs; rw [e1]
      rw [List.filter_append, List.filter_cons, if_neg (by simp), ← List.filter_append, List.filter_eq_self.2 (fun y hy => by simpa using hv' y hy)]
    show (if k = l.key then (x.st.ch k).filter (fun y => decide (y ≠ l.v)) else x.st.ch k) = ((x.all.eraseIdx j).filter _).map _
    rw [hx, h.ch k, List.filter_filter]
    split
    · rw [List.filter_map, List.filter_filter]
      congr 1
      apply List.filter_congr
      intro y _
      simp [Bool.and_comm]
    · rename_i hk
      congr 1
      apply List.filter_congr
      intro y hy
      by_cases e : y.key = k
      · have : y.v ≠ l.v := fun e2 => hk (by
          obtain ⟨m, hm⟩ := List.getElem?_of_mem hy
          have : m = j := nodup_inj h.inv.nod (i := m) (j := j) (x := l.v) (by rw [List.getElem?_map, hm, ← e2]; rfl) (by rw [List.getElem?_map, hl]; rfl)
          subst this
          rw [hl] at hm; cases hm; exact e.symm)
        simp [e, this]
      · simp [e]
  pos l' hl' := h.pos l' ((List.eraseIdx_sublist x.all j).subset hl')
  last := h.last
  batch := h.batch
  len := Nat.le_trans (List.length_eraseIdx_le _ _) h.len
theorem VI.put {x : WS} {i : Nat} (h : VI x i) (hi : StInv x.st) (q : WriteR) {d j : Int} (hd : 1 ≤ d ∧ d ≤ 100) : VI (putW x q d j) (i + 1) where
  inv := h.inv.put hi q hd.1
  ch k := by
    have e1 : (putW x q d j).st.ch k = if k = q.key then x.st.ch q.key ++ [x.st.last + 1] else x.st.ch k := by unfold putW; cases q.fill <;> rfl
    have e2 : (putW x q d j).all.filter (fun l => decide (l.key = k)) = x.all.filter (fun l => decide (l.key = k)) ++ (if k = q.key then [⟨x.st.last + 1, q.key, x.batch + d, j, q.fill, if q.fill && q.cell.is_ then q.cell else ⟨false, 0⟩⟩] else []) := by
      show (x.all ++ [_]).filter _ = _
      rw [List.filter_append]
      by_cases e : k = q.key
      · simp [e]
      · simp [e, Ne.symm e]
    rw [e1, e2, List.map_append]
    split
    · rename_i e; subst e; rw [h.ch]; rfl
    · rw [h.ch, List.map_nil, List.append_nil]
  pos l hl := by
    show 1 ≤ l.batch ∧ l.batch ≤ x.batch + d
    rcases List.mem_append.1 hl with hl | hl
    · have := h.pos l hl; omega
    · rw [List.mem_singleton] at hl; subst hl
      have := h.inv.bat0
      show 1 ≤ x.batch + d ∧ x.batch + d ≤ x.batch + d
      omega
  last := by show x.st.last + 1 ≤ 1 + ((i + 1 : Nat) : Int); have := h.last; have := h.inv.last; omega
  batch := by show x.batch + d ≤ 2 + 100 * ((i + 1 : Nat) : Int); have := h.batch; omega
  len := by show (x.all ++ [_]).length ≤ 1 + (i + 1); have := h.len; simp; omega
theorem VI.step {x : WS} {i : Nat} (h : VI x i) : VI x (i + 1) := ⟨h.inv, h.ch, h.pos, by have := h.last; omega, by have := h.batch; omega, by have := h.len; omega⟩
theorem VI.wrote {x x' : WS} {i : Nat} {q : WriteR} (h : VI x i) (hi : StInv x.st) (hw : Wrote x q x') : VI x' (i + 1) := by
  obtain ⟨x1, h1, h2⟩ := hw
  have hx1 : VI x1 i ∧ StInv x1.st := by
    rcases h1 with rfl | ⟨_, j, l, hl, rfl⟩
    · exact ⟨h, hi⟩
    · exact ⟨h.drop hl, rem_inv hi (h.inv.here l (List.mem_of_getElem? hl))⟩
  rcases h2 with rfl | ⟨d, j, hd, hd2, _, _, rfl⟩
  · exact hx1.1.step
  · exact hx1.1.put hx1.2 q ⟨hd, hd2⟩
theorem ws1_vi (p : Int) : VI (ws1 p) 0 where
  inv := ws1_inv p
  ch k := by
    show (if k = k9 then [] ++ [(0 : Int) + 1] else []) = _
    by_cases e : k = k9
    · subst e; rfl
    · rw [if_neg e]; simp [ws1, Ne.symm e]
  pos l hl := by
    rw [show (ws1 p).all = [⟨1, k9, 1, 0, false, ⟨false, 0⟩⟩] from rfl, List.mem_singleton] at hl
    subst hl
    exact ⟨(by decide : (1 : Int) ≤ 1), (by decide : (1 : Int) ≤ 2)⟩
  last := (by decide : (1 : Int) ≤ 1 + 0)
  batch := (by decide : (2 : Int) ≤ 2 + 100 * 0)
  len := (by decide : 1 ≤ 1 + 0)
/-- A write that takes nothing out. -/
theorem Wrote.keeps {x x' : WS} {q : WriteR} (hw : Wrote x q x') (hd : q.drop < 0) : x.batch ≤ x'.batch ∧ ∃ r, x'.all = x.all ++ r ∧ ∀ l ∈ r, x.batch < l.batch := by
  obtain ⟨x1, h1, h2⟩ := hw
  obtain rfl : x1 = x := h1.elim id (fun h => by omega)
  rcases h2 with rfl | ⟨d, j, hd1, _, _, _, rfl⟩
  · exact ⟨by omega, [], by simp, fun l hl => by cases hl⟩
  · refine ⟨by show x1.batch ≤ x1.batch + d; omega, [_], rfl, fun l hl => ?_⟩
    rw [List.mem_singleton] at hl; subst hl
    show x1.batch < x1.batch + d
    omega
set_option maxRecDepth 100000 in
theorem lawVisible_ret (c : Int) (fv tv : Value) (bb : Int) (Fp Fq : Nat → Prop) (ps qs : List WriteR) (w : World) (hps : ps.length ≤ 1048576) (hqs : qs.length ≤ 1048576) (hp : Rd encWrite 8 w Fp fv ps) (hq : Rd encWrite 8 w Fq tv qs) (hFp : ∀ b, Fp b → b < w.heap.size) (hGq : ∀ b, Fq b → b < w.heap.size) :
    Ret Try.prog 3 [.agg #[.int .i64 c, fv, tv, .int .i64 bb]] w fun v w' => v = .bool true ∧ Kp none_ w w' := by
  obtain ⟨pa, pcap, rfl, hpcap⟩ := hp.form
  obtain ⟨qa, qcap, rfl, hqcap⟩ := hq.form
  have hkw : Kp none_ w w := Kp.refl w
  refine enterR Try.func3 rfl Try.ntmps3 rfl ?_
  intro g0
  refine seq_ ?_
  refine region_ ?_
  refine wl_box (v := .agg #[.int .i64 c, .slice pa ps.length pcap, .slice qa qs.length qcap, .int .i64 bb]) rfl rfl ?_
  intro b1 w1 hg1 hk1 hb1
  have hp_w1 := hp.keep hk1
  have hq_w1 := hq.keep hk1
  have hkw_w1 := hkw.comp hk1 (fun _ _ e => e.elim)
  have hs1 := hk1.size
  refine wl_valE (v := .bool false) rfl (rf_assign rfl) rfl ?_
  refine wl_nil ?_
  refine thn ?_
  refine seq_ ?_
  refine region_q mixedP (by kernel_rfl) ?_
  refine qt_valE (v := .pointer (some ⟨b1, 1, none⟩)) rfl (fun wq hq => rf_fieldAddr Try.underlying24 rfl ti22 rfl rfl) rfl ?_
  refine qt_valE (v := .slice pa ps.length pcap) rfl (fun wq hq => rf_load Try.underlying22 rfl rfl rfl ((hb1.keep hq).cell rfl)) rfl ?_
  refine qt_valE (v := .pointer (some ⟨b1, 2, none⟩)) rfl (fun wq hq => rf_fieldAddr Try.underlying24 rfl ti22 rfl rfl) rfl ?_
  refine qt_valE (v := .slice qa qs.length qcap) rfl (fun wq hq => rf_load Try.underlying22 rfl rfl rfl ((hb1.keep hq).cell rfl)) rfl ?_
  refine qt_valE (v := .pointer (some ⟨b1, 3, none⟩)) rfl (fun wq hq => rf_fieldAddr Try.underlying24 rfl ti3 rfl rfl) rfl ?_
  refine qt_valE (v := .int .i64 bb) rfl (fun wq hq => rf_load Try.underlying3 rfl rfl rfl ((hb1.keep hq).cell rfl)) rfl ?_
  refine qt_valE (v := .slice pa ps.length pcap) rfl (fun wq hq => rf_assign rfl) rfl ?_
  refine qt_valE (v := .slice qa qs.length qcap) rfl (fun wq hq => rf_assign rfl) rfl ?_
  refine qt_valE (v := .int .i64 bb) rfl (fun wq hq => rf_assign rfl) rfl ?_
  refine qt_nil ?_
  intro w2 hk2
  have hp_w2 := hp_w1.keep hk2
  have hq_w2 := hq_w1.keep hk2
  have hkw_w2 := hkw_w1.comp hk2 (fun _ _ e => e.elim)
  have hb1_w2 := hb1.keep hk2
  have hs2 := hk2.size
  refine thn ?_
  refine seq_ ?_
  refine region_ ?_
  refine wl_valE (v := .pointer (some ⟨b1, 0, none⟩)) rfl (rf_fieldAddr Try.underlying24 rfl ti3 rfl rfl) rfl ?_
  refine wl_valE (v := .int .i64 c) rfl (rf_load Try.underlying3 rfl rfl rfl (hb1_w2.cell rfl)) rfl ?_
  refine wl_ret rfl (begun_ret c w2) (rf_call Try.call4 rfl rfl) ?_
  rintro vq w3 ⟨wb, s, h, av, F, p, rfl, hwr, hnw0, hk3⟩
  have hnw : ∀ y, fpS s h y ∨ F y ∨ y = wb → w.heap.size ≤ y := fun y hy => by have := hnw0 y hy; omega
  have hp_w3 := hp_w2.keep hk3
  have hq_w3 := hq_w2.keep hk3
  have hkw_w3 := hkw_w2.comp hk3 (fun _ _ e => e.elim)
  have hb1_w3 := hb1_w2.keep hk3
  have hs3 := hk3.size
  refine wl_valE (v := .tuple #[.pointer (some ⟨wb, 0, none⟩), .bool true]) rfl (rf_move rfl) rfl ?_
  refine wl_valE (v := .pointer (some ⟨wb, 0, none⟩)) rfl (rf_extract rfl rfl rfl) rfl ?_
  refine wl_valE (v := .bool true) rfl (rf_extract rfl rfl rfl) rfl ?_
  refine wl_valE (v := .pointer (some ⟨wb, 0, none⟩)) rfl (rf_assign rfl) rfl ?_
  refine wl_valE (v := .bool true) rfl (rf_assign rfl) rfl ?_
  refine wl_nil ?_
  refine thn ?_
  refine seq_ ?_
  refine seq_ ?_
  refine region_ ?_
  refine wl_valE (v := .bool true) rfl (rf_move rfl) rfl ?_
  refine wl_valE (v := .bool false) rfl (rf_not rfl rfl) rfl ?_
  refine wl_nil ?_
  refine thn ?_
  refine condF rfl rfl ?_
  refine skip_ ?_
  refine thn ?_
  refine seq_ ?_
  refine seq_ ?_
  refine region_ ?_
  refine wl_valE (v := .int .i64 ((0 : Nat) : Int)) rfl (rf_assign rfl) rfl ?_
  refine wl_nil ?_
  refine thn ?_
  refine block_ ?_
  refine loop_ (fun lk lf lw => ∃ (g : Nat → Value) (i0 : Nat) (x : WS) (h : StH) (av : Value) (F : Nat → Prop), lf = upds g [(3, .slice pa ps.length pcap), (4, .slice qa qs.length qcap), (5, .int .i64 bb), (6, .pointer (some ⟨wb, 0, none⟩)), (8, .int .i64 ((i0 : Nat) : Int))] ∧ i0 + lk = ps.length ∧ WR lw wb s x h av F ∧ VI x i0 ∧ (∀ y, fpS s h y ∨ F y ∨ y = wb → w.heap.size ≤ y) ∧ Kp (fun x => w.heap.size ≤ x) w3 lw) (ps.length) ?_ ?_
  · refine ⟨_, 0, ws1 p, h, av, F, upds_self ⟨rfl, rfl, rfl, rfl, rfl, trivial⟩, ?_⟩
    exact ⟨by omega, hwr, ws1_vi p, hnw, Kp.refl _⟩
  · intro lk0 lf0 wl hI0
    obtain ⟨gl0, i0, x, h, av, F, rfl, hik, hwx, hvi, hnx, hkl0⟩ := hI0
    have hp_wl := hp_w3.kp hkl0 (fun x hx e => by have := hFp x hx; first | omega | (have := hT1 x e; omega))
    have hq_wl := hq_w3.kp hkl0 (fun x hx e => by have := hGq x hx; first | omega | (have := hT1 x e; omega))
    have hkw_wl := hkw_w3.comp hkl0 (fun x hx e => by first | omega | (have := hT1 x e; omega))
    have hsl := hkl0.size
    refine seq_ ?_
    refine seq_ ?_
    refine region_ ?_
    refine wl_valE (v := .int .i64 ((i0 : Nat) : Int)) rfl (rf_move rfl) rfl ?_
    refine wl_valE (v := .slice pa ps.length pcap) rfl (rf_move rfl) rfl ?_
    refine wl_valE (v := .int .i64 ((ps.length : Nat) : Int)) rfl (rf_len_slice Try.underlying22 rfl rfl) rfl ?_
    refine wl_valE (v := .bool (decide (((i0 : Nat) : Int) < ((ps.length : Nat) : Int)))) rfl (rf_lss rfl rfl rfl rfl) rfl ?_
    refine wl_nil ?_
    refine thn ?_
    refine cond_ (t := decide (((i0 : Nat) : Int) < ((ps.length : Nat) : Int))) rfl rfl (fun c36 => ?_) (fun c36 => ?_)
    · have c36p := of_decide_eq_true c36
      obtain ⟨q, hqe⟩ : ∃ q, ps[i0]? = some q := ⟨_, List.getElem?_eq_getElem (by omega)⟩
      obtain ⟨b5, o5, cap5, e5, hcap5, hF5, hlt5, hcell5⟩ := hp_wl.get (by omega)
      cases e5
      refine skip_ ?_
      refine thn ?_
      refine seq_ ?_
      refine block_ ?_
      refine seq_ ?_
      refine region_ ?_
      refine wl_valE (v := .pointer (some ⟨wb, 0, none⟩)) rfl (rf_move rfl) rfl ?_
      refine wl_valE (v := .slice (some ⟨b5, o5, none⟩) ps.length pcap) rfl (rf_move rfl) rfl ?_
      refine wl_valE (v := .int .i64 ((i0 : Nat) : Int)) rfl (rf_move rfl) rfl ?_
      refine wl_valE (v := .pointer (some ⟨b5, o5 + i0 * 8, none⟩)) rfl (rf_indexAddr Try.underlying22 ti34 rfl rfl rfl rfl (by omega) (by omega)) rfl ?_
      refine wl_valE (v := .agg #[.int .i64 q.key.table, .int .i64 q.key.row, .int .i64 q.later, .int .i64 q.index, .bool q.fill, .bool q.cell.is_, .int .i64 q.cell.value, .int .i64 q.drop]) rfl (rf_loadAgg Try.underlying34 rfl ti34 rfl rfl (el_cells (hcell5 i0 q hqe)) rfl) rfl ?_
      refine wl_ret rfl (write_ret wb s x h av F q 0 wl hwx hvi.inv (by omega) (by have := hvi.batch; omega) (by have := hvi.last; omega) (by have := hvi.len; omega)) (rf_call Try.call5 rfl rfl) ?_
      rintro vq w4 ⟨rfl, x2, h2, av2, F2, hwy, hwo, hg2, hk4⟩
      have hvi2 := hvi.wrote hwx.store.inv hwo
      have hnx2 : ∀ y, fpS s h2 y ∨ F2 y ∨ y = wb → w.heap.size ≤ y := fun y hy => by
        rcases hy with e | e | e
        · rcases hg2 y (.inl e) with h | h | h
          · exact hnx y (.inl h)
          · exact hnx y (.inr (.inl h))
          · omega
        · rcases hg2 y (.inr e) with h | h | h
          · exact hnx y (.inl h)
          · exact hnx y (.inr (.inl h))
          · omega
        · exact hnx y (.inr (.inr e))
      have hp_w4 := hp_wl.kp hk4 (fun b hb e => by have := hFp b hb; have := hnx b e; omega)
      have hq_w4 := hq_wl.kp hk4 (fun b hb e => by have := hGq b hb; have := hnx b e; omega)
      have hkw_w4 := hkw_wl.comp hk4 (fun x hx e => by have := hnx x e; omega)
      have hkl0_w4 := hkl0.comp hk4 (fun x hx e => hnx x e)
      have hs4 := hk4.size
      refine wl_valE (v := .bool false) rfl (rf_not rfl rfl) rfl ?_
      refine wl_nil ?_
      refine thn ?_
      refine condF rfl rfl ?_
      refine skip_ ?_
      refine bln ?_
      refine thn ?_
      refine region_ ?_
      refine wl_valE (v := .int .i64 ((i0 : Nat) : Int)) rfl (rf_move rfl) rfl ?_
      refine wl_valE (v := .int .i64 ((i0 + 1 : Nat) : Int)) rfl (rf_add rfl rfl rfl rfl (IntWalk.i64_in _ (by omega))) rfl ?_
      refine wl_valE (v := .int .i64 ((i0 + 1 : Nat) : Int)) rfl (rf_assign rfl) rfl ?_
      refine wl_nil ?_
      refine thn ?_
      refine ⟨lk0 - 1, _, rfl, (by omega), _, i0 + 1, x2, h2, av2, F2, upds_self ⟨rfl, rfl, rfl, rfl, rfl, trivial⟩, ?_⟩
      exact ⟨by omega, hwy, hvi2, hnx2, hkl0_w4⟩
    · have c36p := of_decide_eq_false c36
      have hbw := hwx.blk
      obtain ⟨aa, ac, hav, hac⟩ := hwx.alls.form
      subst hav
      have hX : ∀ y, fpS s h y ∨ F y ∨ y = wb → y < wl.heap.size := fun y hy => by
        rcases hy with e | e | e
        · exact hwx.store.lt y e
        · exact (hwx.sep y e).2.2
        · subst e; exact hbw.lt
      obtain ⟨W1, hW1⟩ : ∃ n, n = wl.heap.size := ⟨_, rfl⟩
      rw [← hW1] at hX
      have hb0 := hvi.inv.bat0
      have hbt := hvi.batch
      have hlt := hvi.last
      have hle := hvi.len
      have hls := hvi.inv.last
      refine exit_ ?_
      refine thx (thx (blx ?_))
      refine thn ?_
      refine seq_ ?_
      refine region_ ?_
      refine wl_valE (v := .pointer (some ⟨wb, 0, none⟩)) rfl (rf_move rfl) rfl ?_
      refine wl_valE (v := .pointer (some ⟨wb, 0, none⟩)) rfl (rf_nilCheckP rfl rfl) rfl ?_
      refine wl_valE (v := .pointer (some ⟨wb, 3, none⟩)) rfl (rf_fieldAddr Try.underlying38 rfl ti3 rfl rfl) rfl ?_
      refine wl_valE (v := .int .i64 x.batch) rfl (rf_load Try.underlying3 rfl rfl rfl (hbw.cell rfl)) rfl ?_
      refine wl_valE (v := .int .i64 x.batch) rfl (rf_assign rfl) rfl ?_
      refine wl_nil ?_
      refine thn ?_
      refine seq_ ?_
      refine seq_ ?_
      refine cut_ (fun lf lw => ∃ (g : Nat → Value) (c56 : Bool), lf = upds g [(4, .slice qa qs.length qcap), (5, .int .i64 bb), (6, .pointer (some ⟨wb, 0, none⟩)), (9, .int .i64 x.batch), (56, .bool c56)] ∧ (c56 = true → 0 ≤ bb ∧ bb < x.batch) ∧ Kp (none_) wl lw) ?_ ?_
      · refine region_ ?_
        refine wl_valE (v := .int .i64 bb) rfl (rf_move rfl) rfl ?_
        refine wl_valE (v := .bool (decide (((0 : Nat) : Int) ≤ bb))) rfl (rf_geq rfl rfl rfl rfl) rfl ?_
        refine wl_valE (v := .bool (decide (((0 : Nat) : Int) ≤ bb))) rfl (rf_move rfl) rfl ?_
        refine wl_split (decide (((0 : Nat) : Int) ≤ bb)) (fun u11_2 => ?_) (fun u11_2 => ?_)
        · have u11_2p := of_decide_eq_true u11_2
          refine wl_guardT rfl rfl rfl u11_2 ?_
          refine wl_valE (v := .int .i64 bb) rfl (rf_move rfl) rfl ?_
          refine wl_guardT rfl rfl rfl u11_2 ?_
          refine wl_valE (v := .int .i64 x.batch) rfl (rf_move rfl) rfl ?_
          refine wl_guardT rfl rfl rfl u11_2 ?_
          refine wl_valE (v := .bool (decide (bb < x.batch))) rfl (rf_lss rfl rfl rfl rfl) rfl ?_
          refine wl_valE (v := .bool (decide (bb < x.batch))) rfl (rf_pickT rfl rfl rfl u11_2) rfl ?_
          refine wl_nil ?_
          refine cxn ⟨_, _, upds_self ⟨rfl, rfl, rfl, rfl, rfl, trivial⟩, ?_⟩
          exact ⟨fun c => ⟨by omega, by have := of_decide_eq_true c; omega⟩, Kp.refl _⟩
        · have u11_2p := of_decide_eq_false u11_2
          refine wl_guardF rfl rfl rfl u11_2 ?_
          refine wl_guardF rfl rfl rfl u11_2 ?_
          refine wl_guardF rfl rfl rfl u11_2 ?_
          refine wl_valE (v := .bool false) rfl (rf_pickF rfl rfl rfl u11_2) rfl ?_
          refine wl_nil ?_
          refine cxn ⟨_, _, upds_self ⟨rfl, rfl, rfl, rfl, rfl, trivial⟩, ?_⟩
          exact ⟨fun c => by simp at c, Kp.refl _⟩
      · intro lfcutr11 wc hIcutr11
        obtain ⟨glcutr11, c56, rfl, hc56, hkc1⟩ := hIcutr11
        have hp_wc := hp_wl.keep hkc1
        have hq_wc := hq_wl.keep hkc1
        have hkw_wc := hkw_wl.comp hkc1 (fun _ _ e => e.elim)
        have hkl0_wc := hkl0.comp hkc1 (fun _ _ e => e.elim)
        have hwx_wc := hwx.keep hkc1
        have hbw_wc := hbw.keep hkc1
        have hsc := hkc1.size
        refine thn ?_
        refine cut_ (fun lf lw => ∃ (g : Nat → Value) (bt : Int), lf = upds g [(4, .slice qa qs.length qcap), (5, .int .i64 bb), (6, .pointer (some ⟨wb, 0, none⟩)), (9, .int .i64 bt), (56, .bool c56)] ∧ bt ≤ x.batch ∧ Kp (none_) wc lw) ?_ ?_
        · refine cond_ (t := c56) rfl rfl (fun c56 => ?_) (fun c56 => ?_)
          · refine region_ ?_
            refine wl_valE (v := .int .i64 bb) rfl (rf_move rfl) rfl ?_
            refine wl_valE (v := .int .i64 bb) rfl (rf_assign rfl) rfl ?_
            refine wl_nil ?_
            refine cxn ⟨_, bb, upds_self ⟨rfl, rfl, rfl, rfl, rfl, trivial⟩, ?_⟩
            exact ⟨by have := hc56 c56; omega, Kp.refl _⟩
          · refine skip_ ?_
            refine cxn ⟨_, x.batch, upds_self ⟨rfl, rfl, rfl, rfl, rfl, trivial⟩, ?_⟩
            exact ⟨by omega, Kp.refl _⟩
        · intro lfcutc56 wd hIcutc56
          obtain ⟨glcutc56, bt, rfl, hbtx, hkc2⟩ := hIcutc56
          have hp_wd := hp_wc.keep hkc2
          have hq_wd := hq_wc.keep hkc2
          have hkw_wd := hkw_wc.comp hkc2 (fun _ _ e => e.elim)
          have hkl0_wd := hkl0_wc.comp hkc2 (fun _ _ e => e.elim)
          have hwx_wd := hwx_wc.keep hkc2
          have hbw_wd := hbw_wc.keep hkc2
          have hsd := hkc2.size
          refine thn ?_
          refine seq_ ?_
          refine region_ ?_
          refine wl_valE (v := .slice none 0 0) rfl (rf_assign rfl) rfl ?_
          refine wl_nil ?_
          refine thn ?_
          refine seq_ ?_
          refine seq_ ?_
          refine region_ ?_
          refine wl_valE (v := .int .i64 ((0 : Nat) : Int)) rfl (rf_assign rfl) rfl ?_
          refine wl_nil ?_
          refine thn ?_
          refine block_ ?_
          refine loop_ (fun lk lf lw => ∃ (g : Nat → Value) (i : Nat) (sv : Value) (G : Nat → Prop), lf = upds g [(4, .slice qa qs.length qcap), (6, .pointer (some ⟨wb, 0, none⟩)), (9, .int .i64 bt), (10, sv), (11, .int .i64 ((i : Nat) : Int))] ∧ i + lk = x.all.length ∧ Sl encI 1 3 lw G sv ((x.all.take i).map (fun l => visF x.st l.key bt)) ∧ (∀ y, G y → W1 ≤ y ∧ y < lw.heap.size) ∧ Kp (fun x => W1 ≤ x) wd lw) (x.all.length) ?_ ?_
          · refine ⟨_, 0, (.slice none 0 0), (fun _ => False), upds_self ⟨rfl, rfl, rfl, rfl, rfl, trivial⟩, ?_⟩
            exact ⟨by omega, Sl.nil _ _, fun y hy => hy.elim, Kp.refl _⟩
          · intro lk1 lf1 wm hI1
            obtain ⟨gl1, i, sv, G, rfl, hij, hsv, hG, hkl1⟩ := hI1
            have hp_wm := hp_wd.kp hkl1 (fun x hx e => by have := hFp x hx; first | omega | (have := hT1 x e; omega))
            have hq_wm := hq_wd.kp hkl1 (fun x hx e => by have := hGq x hx; first | omega | (have := hT1 x e; omega))
            have hkw_wm := hkw_wd.comp hkl1 (fun x hx e => by first | omega | (have := hT1 x e; omega))
            have hkl0_wm := hkl0_wd.comp hkl1 (fun x hx e => by omega)
            have hwx_wm := hwx_wd.kpN hkl1 (fun y hy e => by have := hX y hy; omega)
            have hbw_wm := hbw_wd.kp hkl1 (by have := hX wb (.inr (.inr rfl)); omega)
            have hsm := hkl1.size
            refine seq_ ?_
            refine seq_ ?_
            refine region_ ?_
            refine wl_valE (v := .int .i64 ((i : Nat) : Int)) rfl (rf_move rfl) rfl ?_
            refine wl_valE (v := .pointer (some ⟨wb, 0, none⟩)) rfl (rf_move rfl) rfl ?_
            refine wl_valE (v := .pointer (some ⟨wb, 0, none⟩)) rfl (rf_nilCheckP rfl rfl) rfl ?_
            refine wl_valE (v := .pointer (some ⟨wb, 1, none⟩)) rfl (rf_fieldAddr Try.underlying38 rfl ti36 rfl rfl) rfl ?_
            refine wl_valE (v := .slice aa x.all.length ac) rfl (rf_load Try.underlying36 rfl rfl rfl (hbw_wm.cell rfl)) rfl ?_
            refine wl_valE (v := .int .i64 ((x.all.length : Nat) : Int)) rfl (rf_len_slice Try.underlying36 rfl rfl) rfl ?_
            refine wl_valE (v := .bool (decide (((i : Nat) : Int) < ((x.all.length : Nat) : Int)))) rfl (rf_lss rfl rfl rfl rfl) rfl ?_
            refine wl_nil ?_
            refine thn ?_
            refine cond_ (t := decide (((i : Nat) : Int) < ((x.all.length : Nat) : Int))) rfl rfl (fun c64 => ?_) (fun c64 => ?_)
            · have c64p := of_decide_eq_true c64
              obtain ⟨l1, hl1⟩ : ∃ l, x.all[i]? = some l := ⟨_, List.getElem?_eq_getElem (by omega)⟩
              obtain ⟨ab, ao, ac2, et, hFb, hAt⟩ := hwx_wm.alls.at (by omega)
              simp only [Value.slice.injEq] at et
              obtain ⟨rfl, _, rfl⟩ := et
              have hab := hX ab (.inr (.inl hFb))
              have hbw2 := hbw_wm
              refine skip_ ?_
              refine thn ?_
              refine seq_ ?_
              refine block_ ?_
              refine seq_ ?_
              refine region_q mixedP (by kernel_rfl) ?_
              refine qt_valE (v := .pointer (some ⟨wb, 0, none⟩)) rfl (fun wq hq => rf_move rfl) rfl ?_
              refine qt_valE (v := .pointer (some ⟨wb, 0, none⟩)) rfl (fun wq hq => rf_nilCheckP rfl rfl) rfl ?_
              refine qt_valE (v := .pointer (some ⟨wb, 0, none⟩)) rfl (fun wq hq => rf_fieldAddr Try.underlying38 rfl ti35 rfl rfl) rfl ?_
              refine qt_valE (v := .pointer (some ⟨s, 0, none⟩)) rfl (fun wq hq => rf_load Try.underlying35 rfl rfl rfl ((hbw2.keep hq).cell rfl)) rfl ?_
              refine qt_valE (v := .pointer (some ⟨wb, 0, none⟩)) rfl (fun wq hq => rf_move rfl) rfl ?_
              refine qt_valE (v := .pointer (some ⟨wb, 0, none⟩)) rfl (fun wq hq => rf_nilCheckP rfl rfl) rfl ?_
              refine qt_valE (v := .pointer (some ⟨wb, 1, none⟩)) rfl (fun wq hq => rf_fieldAddr Try.underlying38 rfl ti36 rfl rfl) rfl ?_
              refine qt_valE (v := .slice (some ⟨ab, ao, none⟩) x.all.length ac) rfl (fun wq hq => rf_load Try.underlying36 rfl rfl rfl ((hbw2.keep hq).cell rfl)) rfl ?_
              refine qt_valE (v := .int .i64 ((i : Nat) : Int)) rfl (fun wq hq => rf_move rfl) rfl ?_
              refine qt_valE (v := .pointer (some ⟨ab, ao + i * 8, none⟩)) rfl (fun wq hq => rf_indexAddr Try.underlying36 ti44 rfl rfl rfl rfl (by omega) (by omega)) rfl ?_
              refine qt_valE (v := .pointer (some ⟨ab, ao + i * 8 + 1, none⟩)) rfl (fun wq hq => rf_fieldAddr Try.underlying44 rfl ti30 rfl rfl) rfl ?_
              refine qt_valE (v := .agg #[.int .i64 l1.key.table, .int .i64 l1.key.row]) rfl (fun wq hq => rf_loadAgg Try.underlying30 rfl ti30 rfl rfl (fun j u hj => hq.cell ((el_sub (hAt.cell hl1) 1 2) j u hj) (fun h => h)) rfl) rfl ?_
              refine qt_valE (v := .int .i64 bt) rfl (fun wq hq => rf_move rfl) rfl ?_
              refine qt_ret (v := .int .i64 (visF x.st l1.key bt)) rfl (fun wq hq => (visible_ret s x.st h wq (hwx_wm.keep hq).store l1.key bt (by omega)).mono (fun _ _ h => ⟨h.1, hq.trans h.2⟩)) (fun wq hq => rf_call Try.call6 rfl rfl) ?_
              refine qt_valE (v := .int .i64 (visF x.st l1.key bt)) rfl (fun wq hq => rf_assign rfl) rfl ?_
              refine qt_nil ?_
              intro w5 hk5
              have hp_w5 := hp_wm.keep hk5
              have hq_w5 := hq_wm.keep hk5
              have hkw_w5 := hkw_wm.comp hk5 (fun _ _ e => e.elim)
              have hkl0_w5 := hkl0_wm.comp hk5 (fun _ _ e => e.elim)
              have hwx_w5 := hwx_wm.keep hk5
              have hkl1_w5 := hkl1.comp hk5 (fun _ _ e => e.elim)
              have hsv_w5 := hsv.keep hk5
              have hbw2_w5 := hbw2.keep hk5
              have hAt_w5 := hAt.keep hk5
              have hs5 := hk5.size
              refine thn ?_
              refine seq_ ?_
              refine region_ ?_
              refine wl_valE (v := .int .i64 ((0 : Nat) : Int)) rfl (rf_assign rfl) rfl ?_
              refine wl_nil ?_
              refine thn ?_
              refine seq_ ?_
              refine seq_ ?_
              refine region_ ?_
              refine wl_valE (v := .int .i64 ((0 : Nat) : Int)) rfl (rf_assign rfl) rfl ?_
              refine wl_nil ?_
              refine thn ?_
              refine block_ ?_
              refine loop_ (fun lk lf lw => ∃ (g : Nat → Value) (j : Nat) (wn : Int), lf = upds g [(4, .slice qa qs.length qcap), (6, .pointer (some ⟨wb, 0, none⟩)), (9, .int .i64 bt), (10, sv), (11, .int .i64 ((i : Nat) : Int)), (12, .int .i64 (visF x.st l1.key bt)), (13, .int .i64 wn), (14, .int .i64 ((j : Nat) : Int)), (58, .int .i64 ((i : Nat) : Int)), (59, .pointer (some ⟨wb, 0, none⟩)), (60, .pointer (some ⟨wb, 0, none⟩)), (61, .pointer (some ⟨wb, 1, none⟩)), (62, .slice (some ⟨ab, ao, none⟩) x.all.length ac), (63, .int .i64 ((x.all.length : Nat) : Int)), (64, .bool (decide (((i : Nat) : Int) < ((x.all.length : Nat) : Int)))), (67, .pointer (some ⟨wb, 0, none⟩)), (68, .pointer (some ⟨wb, 0, none⟩)), (69, .pointer (some ⟨wb, 0, none⟩)), (70, .pointer (some ⟨s, 0, none⟩)), (71, .pointer (some ⟨wb, 0, none⟩)), (72, .pointer (some ⟨wb, 0, none⟩)), (73, .pointer (some ⟨wb, 1, none⟩)), (74, .slice (some ⟨ab, ao, none⟩) x.all.length ac), (75, .int .i64 ((i : Nat) : Int)), (76, .pointer (some ⟨ab, ao + i * 8, none⟩)), (77, .pointer (some ⟨ab, ao + i * 8 + 1, none⟩)), (78, .agg #[.int .i64 l1.key.table, .int .i64 l1.key.row]), (79, .int .i64 bt), (80, .int .i64 (visF x.st l1.key bt))] ∧ j + lk = x.all.length ∧ wn = latF (x.all.take j) l1.key bt ∧ Kp (none_) w5 lw) (x.all.length) ?_ ?_
              · refine ⟨_, 0, 0, upds_self ⟨rfl, rfl, rfl, rfl, rfl, rfl, rfl, rfl, rfl, rfl, rfl, rfl, rfl, rfl, rfl, rfl, rfl, rfl, rfl, rfl, rfl, rfl, rfl, rfl, rfl, rfl, rfl, rfl, rfl, trivial⟩, ?_⟩
                exact ⟨by omega, rfl, Kp.refl _⟩
              · intro lk2 lf2 wn2 hI2
                obtain ⟨gl2, j, wn, rfl, hjj, hwn, hkl2⟩ := hI2
                have hp_wn2 := hp_w5.keep hkl2
                have hq_wn2 := hq_w5.keep hkl2
                have hkw_wn2 := hkw_w5.comp hkl2 (fun _ _ e => e.elim)
                have hkl0_wn2 := hkl0_w5.comp hkl2 (fun _ _ e => e.elim)
                have hwx_wn2 := hwx_w5.keep hkl2
                have hkl1_wn2 := hkl1_w5.comp hkl2 (fun _ _ e => e.elim)
                have hsv_wn2 := hsv_w5.keep hkl2
                have hbw2_wn2 := hbw2_w5.keep hkl2
                have hAt_wn2 := hAt_w5.keep hkl2
                have hsn2 := hkl2.size
                refine seq_ ?_
                refine seq_ ?_
                refine region_ ?_
                refine wl_valE (v := .int .i64 ((j : Nat) : Int)) rfl (rf_move rfl) rfl ?_
                refine wl_valE (v := .pointer (some ⟨wb, 0, none⟩)) rfl (rf_move rfl) rfl ?_
                refine wl_valE (v := .pointer (some ⟨wb, 0, none⟩)) rfl (rf_nilCheckP rfl rfl) rfl ?_
                refine wl_valE (v := .pointer (some ⟨wb, 1, none⟩)) rfl (rf_fieldAddr Try.underlying38 rfl ti36 rfl rfl) rfl ?_
                refine wl_valE (v := .slice (some ⟨ab, ao, none⟩) x.all.length ac) rfl (rf_load Try.underlying36 rfl rfl rfl (hbw2_wn2.cell rfl)) rfl ?_
                refine wl_valE (v := .int .i64 ((x.all.length : Nat) : Int)) rfl (rf_len_slice Try.underlying36 rfl rfl) rfl ?_
                refine wl_valE (v := .bool (decide (((j : Nat) : Int) < ((x.all.length : Nat) : Int)))) rfl (rf_lss rfl rfl rfl rfl) rfl ?_
                refine wl_nil ?_
                refine thn ?_
                refine cond_ (t := decide (((j : Nat) : Int) < ((x.all.length : Nat) : Int))) rfl rfl (fun c87 => ?_) (fun c87 => ?_)
                · have c87p := of_decide_eq_true c87
                  obtain ⟨l2, hl2⟩ : ∃ l, x.all[j]? = some l := ⟨_, List.getElem?_eq_getElem (by omega)⟩
                  refine skip_ ?_
                  refine thn ?_
                  refine seq_ ?_
                  refine block_ ?_
                  refine seq_ ?_
                  refine region_q mixedP (by kernel_rfl) ?_
                  refine qt_valE (v := .pointer (some ⟨wb, 0, none⟩)) rfl (fun wq hq => rf_move rfl) rfl ?_
                  refine qt_valE (v := .pointer (some ⟨wb, 0, none⟩)) rfl (fun wq hq => rf_nilCheckP rfl rfl) rfl ?_
                  refine qt_valE (v := .pointer (some ⟨wb, 1, none⟩)) rfl (fun wq hq => rf_fieldAddr Try.underlying38 rfl ti36 rfl rfl) rfl ?_
                  refine qt_valE (v := .slice (some ⟨ab, ao, none⟩) x.all.length ac) rfl (fun wq hq => rf_load Try.underlying36 rfl rfl rfl ((hbw2_wn2.keep hq).cell rfl)) rfl ?_
                  refine qt_valE (v := .int .i64 ((j : Nat) : Int)) rfl (fun wq hq => rf_move rfl) rfl ?_
                  refine qt_valE (v := .pointer (some ⟨ab, ao + j * 8, none⟩)) rfl (fun wq hq => rf_indexAddr Try.underlying36 ti44 rfl rfl rfl rfl (by omega) (by omega)) rfl ?_
                  refine qt_valE (v := .pointer (some ⟨ab, ao + j * 8 + 1, none⟩)) rfl (fun wq hq => rf_fieldAddr Try.underlying44 rfl ti30 rfl rfl) rfl ?_
                  refine qt_valE (v := .agg #[.int .i64 l2.key.table, .int .i64 l2.key.row]) rfl (fun wq hq => rf_loadAgg Try.underlying30 rfl ti30 rfl rfl (fun j u hj => hq.cell ((el_sub (hAt_wn2.cell hl2) 1 2) j u hj) (fun h => h)) rfl) rfl ?_
                  refine qt_valE (v := .pointer (some ⟨wb, 0, none⟩)) rfl (fun wq hq => rf_move rfl) rfl ?_
                  refine qt_valE (v := .pointer (some ⟨wb, 0, none⟩)) rfl (fun wq hq => rf_nilCheckP rfl rfl) rfl ?_
                  refine qt_valE (v := .pointer (some ⟨wb, 1, none⟩)) rfl (fun wq hq => rf_fieldAddr Try.underlying38 rfl ti36 rfl rfl) rfl ?_
                  refine qt_valE (v := .slice (some ⟨ab, ao, none⟩) x.all.length ac) rfl (fun wq hq => rf_load Try.underlying36 rfl rfl rfl ((hbw2_wn2.keep hq).cell rfl)) rfl ?_
                  refine qt_valE (v := .int .i64 ((i : Nat) : Int)) rfl (fun wq hq => rf_move rfl) rfl ?_
                  refine qt_valE (v := .pointer (some ⟨ab, ao + i * 8, none⟩)) rfl (fun wq hq => rf_indexAddr Try.underlying36 ti44 rfl rfl rfl rfl (by omega) (by omega)) rfl ?_
                  refine qt_valE (v := .pointer (some ⟨ab, ao + i * 8 + 1, none⟩)) rfl (fun wq hq => rf_fieldAddr Try.underlying44 rfl ti30 rfl rfl) rfl ?_
                  refine qt_valE (v := .agg #[.int .i64 l1.key.table, .int .i64 l1.key.row]) rfl (fun wq hq => rf_loadAgg Try.underlying30 rfl ti30 rfl rfl (fun j u hj => hq.cell ((el_sub (hAt_wn2.cell hl1) 1 2) j u hj) (fun h => h)) rfl) rfl ?_
                  refine qt_valE (v := .bool (decide (l2.key = l1.key))) rfl (fun wq hq => rf_eqlS (by kernel_rfl) (eqKey l2.key l1.key _) rfl rfl rfl rfl) rfl ?_
                  refine qt_valE (v := .bool (decide (l2.key = l1.key))) rfl (fun wq hq => rf_move rfl) rfl ?_
                  refine qt_split (decide (l2.key = l1.key)) (fun u22_17 => ?_) (fun u22_17 => ?_)
                  · have u22_17p := of_decide_eq_true u22_17
                    refine qt_guardT rfl rfl rfl u22_17 ?_
                    refine qt_valE (v := .pointer (some ⟨wb, 0, none⟩)) rfl (fun wq hq => rf_move rfl) rfl ?_
                    refine qt_guardT rfl rfl rfl u22_17 ?_
                    refine qt_valE (v := .pointer (some ⟨wb, 0, none⟩)) rfl (fun wq hq => rf_nilCheckP rfl rfl) rfl ?_
                    refine qt_guardT rfl rfl rfl u22_17 ?_
                    refine qt_valE (v := .pointer (some ⟨wb, 1, none⟩)) rfl (fun wq hq => rf_fieldAddr Try.underlying38 rfl ti36 rfl rfl) rfl ?_
                    refine qt_guardT rfl rfl rfl u22_17 ?_
                    refine qt_valE (v := .slice (some ⟨ab, ao, none⟩) x.all.length ac) rfl (fun wq hq => rf_load Try.underlying36 rfl rfl rfl ((hbw2_wn2.keep hq).cell rfl)) rfl ?_
                    refine qt_guardT rfl rfl rfl u22_17 ?_
                    refine qt_valE (v := .int .i64 ((j : Nat) : Int)) rfl (fun wq hq => rf_move rfl) rfl ?_
                    refine qt_guardT rfl rfl rfl u22_17 ?_
                    refine qt_valE (v := .pointer (some ⟨ab, ao + j * 8, none⟩)) rfl (fun wq hq => rf_indexAddr Try.underlying36 ti44 rfl rfl rfl rfl (by omega) (by omega)) rfl ?_
                    refine qt_guardT rfl rfl rfl u22_17 ?_
                    refine qt_valE (v := .pointer (some ⟨ab, ao + j * 8 + 3, none⟩)) rfl (fun wq hq => rf_fieldAddr Try.underlying44 rfl ti42 rfl rfl) rfl ?_
                    refine qt_guardT rfl rfl rfl u22_17 ?_
                    refine qt_valE (v := .pointer (some ⟨ab, ao + j * 8 + 3, none⟩)) rfl (fun wq hq => rf_fieldAddr Try.underlying42 rfl ti3 rfl rfl) rfl ?_
                    refine qt_guardT rfl rfl rfl u22_17 ?_
                    refine qt_valE (v := .int .i64 l2.batch) rfl (fun wq hq => rf_load Try.underlying3 rfl rfl rfl (hq.cell ((hAt_wn2.cell hl2 3 _ rfl)) (fun h => h))) rfl ?_
                    refine qt_guardT rfl rfl rfl u22_17 ?_
                    refine qt_valE (v := .int .i64 bt) rfl (fun wq hq => rf_move rfl) rfl ?_
                    refine qt_guardT rfl rfl rfl u22_17 ?_
                    refine qt_valE (v := .bool (decide (l2.batch ≤ bt))) rfl (fun wq hq => rf_leq rfl rfl rfl rfl) rfl ?_
                    refine qt_valE (v := .bool (decide (l2.batch ≤ bt))) rfl (fun wq hq => rf_pickT rfl rfl rfl u22_17) rfl ?_
                    refine qt_nil ?_
                    intro w6 hk6
                    have hp_w6 := hp_wn2.keep hk6
                    have hq_w6 := hq_wn2.keep hk6
                    have hkw_w6 := hkw_wn2.comp hk6 (fun _ _ e => e.elim)
                    have hkl0_w6 := hkl0_wn2.comp hk6 (fun _ _ e => e.elim)
                    have hwx_w6 := hwx_wn2.keep hk6
                    have hkl1_w6 := hkl1_wn2.comp hk6 (fun _ _ e => e.elim)
                    have hsv_w6 := hsv_wn2.keep hk6
                    have hbw2_w6 := hbw2_wn2.keep hk6
                    have hAt_w6 := hAt_wn2.keep hk6
                    have hkl2_w6 := hkl2.comp hk6 (fun _ _ e => e.elim)
                    have hs6 := hk6.size
                    refine thn ?_
                    refine cond_ (t := decide (l2.batch ≤ bt)) rfl rfl (fun c119 => ?_) (fun c119 => ?_)
                    · have c119p := of_decide_eq_true c119
                      refine region_ ?_
                      refine wl_valE (v := .pointer (some ⟨wb, 0, none⟩)) rfl (rf_move rfl) rfl ?_
                      refine wl_valE (v := .pointer (some ⟨wb, 0, none⟩)) rfl (rf_nilCheckP rfl rfl) rfl ?_
                      refine wl_valE (v := .pointer (some ⟨wb, 1, none⟩)) rfl (rf_fieldAddr Try.underlying38 rfl ti36 rfl rfl) rfl ?_
                      refine wl_valE (v := .slice (some ⟨ab, ao, none⟩) x.all.length ac) rfl (rf_load Try.underlying36 rfl rfl rfl (hbw2_w6.cell rfl)) rfl ?_
                      refine wl_valE (v := .int .i64 ((j : Nat) : Int)) rfl (rf_move rfl) rfl ?_
                      refine wl_valE (v := .pointer (some ⟨ab, ao + j * 8, none⟩)) rfl (rf_indexAddr Try.underlying36 ti44 rfl rfl rfl rfl (by omega) (by omega)) rfl ?_
                      refine wl_valE (v := .pointer (some ⟨ab, ao + j * 8, none⟩)) rfl (rf_fieldAddr Try.underlying44 rfl ti3 rfl rfl) rfl ?_
                      refine wl_valE (v := .int .i64 l2.v) rfl (rf_load Try.underlying3 rfl rfl rfl ((hAt_w6.cell hl2 0 _ rfl))) rfl ?_
                      refine wl_valE (v := .int .i64 l2.v) rfl (rf_assign rfl) rfl ?_
                      refine wl_nil ?_
                      refine bln ?_
                      refine thn ?_
                      refine region_ ?_
                      refine wl_valE (v := .int .i64 ((j : Nat) : Int)) rfl (rf_move rfl) rfl ?_
                      refine wl_valE (v := .int .i64 ((j + 1 : Nat) : Int)) rfl (rf_add rfl rfl rfl rfl (IntWalk.i64_in _ (by omega))) rfl ?_
                      refine wl_valE (v := .int .i64 ((j + 1 : Nat) : Int)) rfl (rf_assign rfl) rfl ?_
                      refine wl_nil ?_
                      refine thn ?_
                      refine ⟨lk2 - 1, _, rfl, (by omega), _, j + 1, l2.v, upds_self ⟨rfl, rfl, rfl, rfl, rfl, rfl, rfl, rfl, rfl, rfl, rfl, rfl, rfl, rfl, rfl, rfl, rfl, rfl, rfl, rfl, rfl, rfl, rfl, rfl, rfl, rfl, rfl, rfl, rfl, trivial⟩, ?_⟩
                      refine ⟨by omega, ?_, hkl2_w6⟩
                      rw [List.take_add_one, hl2, Option.toList_some, latF_app, if_pos (by simp [latP, u22_17p, c119p])]
                    · have c119p := of_decide_eq_false c119
                      refine skip_ ?_
                      refine bln ?_
                      refine thn ?_
                      refine region_ ?_
                      refine wl_valE (v := .int .i64 ((j : Nat) : Int)) rfl (rf_move rfl) rfl ?_
                      refine wl_valE (v := .int .i64 ((j + 1 : Nat) : Int)) rfl (rf_add rfl rfl rfl rfl (IntWalk.i64_in _ (by omega))) rfl ?_
                      refine wl_valE (v := .int .i64 ((j + 1 : Nat) : Int)) rfl (rf_assign rfl) rfl ?_
                      refine wl_nil ?_
                      refine thn ?_
                      refine ⟨lk2 - 1, _, rfl, (by omega), _, j + 1, wn, upds_self ⟨rfl, rfl, rfl, rfl, rfl, rfl, rfl, rfl, rfl, rfl, rfl, rfl, rfl, rfl, rfl, rfl, rfl, rfl, rfl, rfl, rfl, rfl, rfl, rfl, rfl, rfl, rfl, rfl, rfl, trivial⟩, ?_⟩
                      refine ⟨by omega, ?_, hkl2_w6⟩
                      rw [List.take_add_one, hl2, Option.toList_some, latF_app, if_neg (by simp [latP, c119p])]; exact hwn
                  · have u22_17p := of_decide_eq_false u22_17
                    refine qt_guardF rfl rfl rfl u22_17 ?_
                    refine qt_guardF rfl rfl rfl u22_17 ?_
                    refine qt_guardF rfl rfl rfl u22_17 ?_
                    refine qt_guardF rfl rfl rfl u22_17 ?_
                    refine qt_guardF rfl rfl rfl u22_17 ?_
                    refine qt_guardF rfl rfl rfl u22_17 ?_
                    refine qt_guardF rfl rfl rfl u22_17 ?_
                    refine qt_guardF rfl rfl rfl u22_17 ?_
                    refine qt_guardF rfl rfl rfl u22_17 ?_
                    refine qt_guardF rfl rfl rfl u22_17 ?_
                    refine qt_guardF rfl rfl rfl u22_17 ?_
                    refine qt_valE (v := .bool false) rfl (fun wq hq => rf_pickF rfl rfl rfl u22_17) rfl ?_
                    refine qt_nil ?_
                    intro w7 hk7
                    have hp_w7 := hp_wn2.keep hk7
                    have hq_w7 := hq_wn2.keep hk7
                    have hkw_w7 := hkw_wn2.comp hk7 (fun _ _ e => e.elim)
                    have hkl0_w7 := hkl0_wn2.comp hk7 (fun _ _ e => e.elim)
                    have hwx_w7 := hwx_wn2.keep hk7
                    have hkl1_w7 := hkl1_wn2.comp hk7 (fun _ _ e => e.elim)
                    have hsv_w7 := hsv_wn2.keep hk7
                    have hbw2_w7 := hbw2_wn2.keep hk7
                    have hAt_w7 := hAt_wn2.keep hk7
                    have hkl2_w7 := hkl2.comp hk7 (fun _ _ e => e.elim)
                    have hs7 := hk7.size
                    refine thn ?_
                    refine condF rfl rfl ?_
                    refine skip_ ?_
                    refine bln ?_
                    refine thn ?_
                    refine region_ ?_
                    refine wl_valE (v := .int .i64 ((j : Nat) : Int)) rfl (rf_move rfl) rfl ?_
                    refine wl_valE (v := .int .i64 ((j + 1 : Nat) : Int)) rfl (rf_add rfl rfl rfl rfl (IntWalk.i64_in _ (by omega))) rfl ?_
                    refine wl_valE (v := .int .i64 ((j + 1 : Nat) : Int)) rfl (rf_assign rfl) rfl ?_
                    refine wl_nil ?_
                    refine thn ?_
                    refine ⟨lk2 - 1, _, rfl, (by omega), _, j + 1, wn, upds_self ⟨rfl, rfl, rfl, rfl, rfl, rfl, rfl, rfl, rfl, rfl, rfl, rfl, rfl, rfl, rfl, rfl, rfl, rfl, rfl, rfl, rfl, rfl, rfl, rfl, rfl, rfl, rfl, rfl, rfl, trivial⟩, ?_⟩
                    refine ⟨by omega, ?_, hkl2_w7⟩
                    rw [List.take_add_one, hl2, Option.toList_some, latF_app, if_neg (by simp [latP, u22_17p])]; exact hwn
                · have c87p := of_decide_eq_false c87
                  have hwn2 : wn = latF x.all l1.key bt := by rw [hwn, List.take_of_length_le (by omega)]
                  refine exit_ ?_
                  refine thx (thx (blx ?_))
                  refine thn ?_
                  refine seq_ ?_
                  refine seq_ ?_
                  refine region_ ?_
                  refine wl_valE (v := .int .i64 (visF x.st l1.key bt)) rfl (rf_move rfl) rfl ?_
                  refine wl_valE (v := .int .i64 wn) rfl (rf_move rfl) rfl ?_
                  refine wl_valE (v := .bool false) rfl (rf_neq rfl rfl rfl rfl) (congrArg Value.bool (decide_eq_false (by rw [hwn2, ← vis_lat hvi]; exact fun h => h rfl))) ?_
                  refine wl_nil ?_
                  refine thn ?_
                  refine condF rfl rfl ?_
                  refine skip_ ?_
                  refine thn ?_
                  refine region_ ?_
                  refine wl_valE (v := sv) rfl (rf_move rfl) rfl ?_
                  refine wl_valE (v := .int .i64 (visF x.st l1.key bt)) rfl (rf_move rfl) rfl ?_
                  refine wl_buildSlice (css := [[.int .i64 (visF x.st l1.key bt)]]) Try.underlying39 ti3 rfl rfl rfl (.cons rfl rfl rfl rfl rfl rfl .nil) (by simp) ?_
                  intro b8 w8 hg8 hk8 hb8
                  have ne8_wb : wb ≠ b8 := Nat.ne_of_lt (Nat.lt_of_lt_of_le hbw2_wn2.lt hg8)
                  have ne8_ab : ab ≠ b8 := Nat.ne_of_lt (Nat.lt_of_lt_of_le hAt_wn2.lt hg8)
                  have hp_w8 := hp_wn2.keep hk8
                  have hq_w8 := hq_wn2.keep hk8
                  have hkw_w8 := hkw_wn2.comp hk8 (fun _ _ e => e.elim)
                  have hkl0_w8 := hkl0_wn2.comp hk8 (fun _ _ e => e.elim)
                  have hwx_w8 := hwx_wn2.keep hk8
                  have hkl1_w8 := hkl1_wn2.comp hk8 (fun _ _ e => e.elim)
                  have hsv_w8 := hsv_wn2.keep hk8
                  have hbw2_w8 := hbw2_wn2.keep hk8
                  have hAt_w8 := hAt_wn2.keep hk8
                  have hkl2_w8 := hkl2.comp hk8 (fun _ _ e => e.elim)
                  have hs8 := hk8.size
                  refine wl_append encI_len encI_one Try.underlying39 ti3 rfl rfl rfl rfl rfl (hsv_w8) ((SlAt.of_blk (l := [visF x.st l1.key bt]) encI_len (by simp) hb8).rd (F := fun b => b = b8) rfl) (by simp; omega) (by simp; omega) ?_
                  intro v9 w9 hk9 ha9
                  have hp_w9 := hp_w8.kp hk9 (fun x hx e => by have := hFp x hx; have := (hG x e).1; omega)
                  have hq_w9 := hq_w8.kp hk9 (fun x hx e => by have := hGq x hx; have := (hG x e).1; omega)
                  have hkw_w9 := hkw_w8.comp hk9 (fun x hx e => by have := (hG x e).1; omega)
                  have hkl0_w9 := hkl0_w8.comp hk9 (fun x hx e => by have := (hG x e).1; omega)
                  have hwx_w9 := hwx_w8.kpN hk9 (fun y hy e => by have := hX y hy; have := (hG y e).1; omega)
                  have hkl1_w9 := hkl1_w8.comp hk9 (fun x hx e => (hG x e).1)
                  have hbw2_w9 := hbw2_w8.kp hk9 (fun e => by have := (hG _ e).1; have := hX wb (.inr (.inr rfl)); omega)
                  have hAt_w9 := hAt_w8.kp hk9 (fun e => by have := (hG _ e).1; omega)
                  have hs9 := hk9.size
                  refine wl_valE (v := v9) rfl (rf_assign rfl) rfl ?_
                  refine wl_nil ?_
                  refine bln ?_
                  refine thn ?_
                  refine region_ ?_
                  refine wl_valE (v := .int .i64 ((i : Nat) : Int)) rfl (rf_move rfl) rfl ?_
                  refine wl_valE (v := .int .i64 ((i + 1 : Nat) : Int)) rfl (rf_add rfl rfl rfl rfl (IntWalk.i64_in _ (by omega))) rfl ?_
                  refine wl_valE (v := .int .i64 ((i + 1 : Nat) : Int)) rfl (rf_assign rfl) rfl ?_
                  refine wl_nil ?_
                  refine thn ?_
                  refine ⟨lk1 - 1, _, rfl, (by omega), _, i + 1, (v9), (fun y => (G y ∨ W1 ≤ y) ∧ y < w9.heap.size), upds_self ⟨rfl, rfl, rfl, rfl, rfl, trivial⟩, ?_⟩
                  have hsv2 := ha9.tight
                  refine ⟨by omega, by rw [List.take_add_one, hl1, Option.toList_some, List.map_append, List.map_singleton]; exact hsv2.mono (fun y hy => ⟨hy.1.elim .inl (fun e => .inr (by omega)), hy.2⟩), fun y hy => ⟨hy.1.elim (fun e => (hG y e).1) id, hy.2⟩, hkl1_w9⟩
            · have c64p := of_decide_eq_false c64
              obtain rfl : i = x.all.length := by omega
              have hsv3 := hsv
              rw [List.take_length] at hsv3
              obtain ⟨sa, sc, hsvv, hsc⟩ := hsv3.form
              rw [List.length_map] at hsvv
              subst hsvv
              refine exit_ ?_
              refine thx (thx (blx ?_))
              refine thn ?_
              refine seq_ ?_
              refine region_ ?_
              refine wl_buildSlice0 Try.underlying36 ti44 ?_
              intro b10 w10 hg10 hk10 hb10
              have ne10_wb : wb ≠ b10 := Nat.ne_of_lt (Nat.lt_of_lt_of_le hbw_wm.lt hg10)
              have hp_w10 := hp_wm.keep hk10
              have hq_w10 := hq_wm.keep hk10
              have hkw_w10 := hkw_wm.comp hk10 (fun _ _ e => e.elim)
              have hkl0_w10 := hkl0_wm.comp hk10 (fun _ _ e => e.elim)
              have hwx_w10 := hwx_wm.keep hk10
              have hbw_w10 := hbw_wm.keep hk10
              have hkl1_w10 := hkl1.comp hk10 (fun _ _ e => e.elim)
              have hsv3_w10 := hsv3.keep hk10
              have hs10 := hk10.size
              refine wl_valE (v := .pointer (some ⟨wb, 0, none⟩)) rfl (rf_move rfl) rfl ?_
              refine wl_valE (v := .pointer (some ⟨wb, 0, none⟩)) rfl (rf_nilCheckP rfl rfl) rfl ?_
              refine wl_valE (v := .pointer (some ⟨wb, 1, none⟩)) rfl (rf_fieldAddr Try.underlying38 rfl ti36 rfl rfl) rfl ?_
              refine wl_valE (v := .slice aa x.all.length ac) rfl (rf_load Try.underlying36 rfl rfl rfl (hbw_w10.cell rfl)) rfl ?_
              refine wl_append encLaid_len encLaid_one Try.underlying36 ti44 rfl rfl rfl rfl rfl ((SlAt.of_blk (l := ([] : List LaidR)) encLaid_len (by simp) hb10).sl (F := fun y => y = b10) rfl) (hwx_w10.alls.rd) (by simp; omega) (by simp; omega) ?_
              intro v11 w11 hk11 ha11
              have hp_w11 := hp_w10.kp hk11 (fun x hx e => by have := hFp x hx; omega)
              have hq_w11 := hq_w10.kp hk11 (fun x hx e => by have := hGq x hx; omega)
              have hkw_w11 := hkw_w10.comp hk11 (fun x hx e => by omega)
              have hkl0_w11 := hkl0_w10.comp hk11 (fun x hx e => by omega)
              have hwx_w11 := hwx_w10.kpN hk11 (fun y hy e => by have := hX y hy; omega)
              have hbw_w11 := hbw_w10.kp hk11 (by omega)
              have hkl1_w11 := hkl1_w10.comp hk11 (fun x hx e => by omega)
              have hsv3_w11 := hsv3_w10.kp hk11 (fun x hx e => by have := hG x hx; omega)
              have hs11 := hk11.size
              replace ha11 := ha11.tight
              rw [List.nil_append] at ha11
              obtain ⟨wa, wc2, hwv, hwc2⟩ := ha11.form
              subst hwv
              refine wl_valE (v := .slice wa x.all.length wc2) rfl (rf_assign rfl) rfl ?_
              refine wl_nil ?_
              refine thn ?_
              refine seq_ ?_
              refine seq_ ?_
              refine region_ ?_
              refine wl_valE (v := .int .i64 ((0 : Nat) : Int)) rfl (rf_assign rfl) rfl ?_
              refine wl_nil ?_
              refine thn ?_
              refine block_ ?_
              obtain ⟨W3, hW3⟩ : ∃ n, n = w11.heap.size := ⟨_, rfl⟩
              have hT0 : ∀ y, fpS s h y ∨ F y ∨ y = wb ∨ W3 ≤ y → y < W1 ∨ W3 ≤ y := fun y hy => by
                rcases hy with e | e | e | e
                · exact .inl (hX y (.inl e))
                · exact .inl (hX y (.inr (.inl e)))
                · exact .inl (hX y (.inr (.inr e)))
                · exact .inr e
              have hT1 : ∀ y, fpS s h y ∨ F y ∨ y = wb ∨ W3 ≤ y → w.heap.size ≤ y := fun y hy => by
                rcases hy with e | e | e | e
                · exact hnx y (.inl e)
                · exact hnx y (.inr (.inl e))
                · exact hnx y (.inr (.inr e))
                · omega
              refine loop_ (fun lk lf lw => ∃ (g : Nat → Value) (n : Nat) (x2 : WS) (h2 : StH) (av2 : Value) (F2 : Nat → Prop) (rr : List LaidR), lf = upds g [(4, .slice qa qs.length qcap), (6, .pointer (some ⟨wb, 0, none⟩)), (9, .int .i64 bt), (10, .slice sa x.all.length sc), (15, .slice wa x.all.length wc2), (16, .int .i64 ((n : Nat) : Int))] ∧ n + lk = qs.length ∧ WR lw wb s x2 h2 av2 F2 ∧ VI x2 (i0 + n) ∧ x2.all = x.all ++ rr ∧ (∀ l ∈ rr, bt < l.batch) ∧ bt ≤ x2.batch ∧ (∀ y, fpS s h2 y ∨ F2 y ∨ y = wb → fpS s h y ∨ F y ∨ y = wb ∨ W3 ≤ y) ∧ Kp (fun y => fpS s h y ∨ F y ∨ y = wb ∨ W3 ≤ y) w11 lw) (qs.length) ?_ ?_
              · refine ⟨_, 0, x, h, (.slice aa x.all.length ac), F, [], upds_self ⟨rfl, rfl, rfl, rfl, rfl, rfl, trivial⟩, ?_⟩
                refine ⟨by omega, hwx_w11, hvi, by simp, (fun l hl => by cases hl), hbtx, fun y hy => ?_, Kp.refl _⟩
                rcases hy with e | e | e
                · exact .inl e
                · exact .inr (.inl e)
                · exact .inr (.inr (.inl e))
              · intro lk3 lf3 wp hI3
                obtain ⟨gl3, n, x2, h2, av2, F2, rr, rfl, hnk, hwx2, hvi2, hall2, hrr, hbt2, hgT, hkl3⟩ := hI3
                have hp_wp := hp_w11.kp hkl3 (fun x hx e => by have := hFp x hx; first | omega | (have := hT1 x e; omega))
                have hq_wp := hq_w11.kp hkl3 (fun x hx e => by have := hGq x hx; first | omega | (have := hT1 x e; omega))
                have hkw_wp := hkw_w11.comp hkl3 (fun x hx e => by first | omega | (have := hT1 x e; omega))
                have hsv3_wp := hsv3_w11.kp hkl3 (fun x hx e => by have := hG x hx; have := hT0 x e; omega)
                have hwas_wp := ha11.kp hkl3 (fun x hx e => by have := hT0 x e; omega)
                have hsp := hkl3.size
                refine seq_ ?_
                refine seq_ ?_
                refine region_ ?_
                refine wl_valE (v := .int .i64 ((n : Nat) : Int)) rfl (rf_move rfl) rfl ?_
                refine wl_valE (v := .slice qa qs.length qcap) rfl (rf_move rfl) rfl ?_
                refine wl_valE (v := .int .i64 ((qs.length : Nat) : Int)) rfl (rf_len_slice Try.underlying22 rfl rfl) rfl ?_
                refine wl_valE (v := .bool (decide (((n : Nat) : Int) < ((qs.length : Nat) : Int)))) rfl (rf_lss rfl rfl rfl rfl) rfl ?_
                refine wl_nil ?_
                refine thn ?_
                refine cond_ (t := decide (((n : Nat) : Int) < ((qs.length : Nat) : Int))) rfl rfl (fun c144 => ?_) (fun c144 => ?_)
                · have c144p := of_decide_eq_true c144
                  have hXw2 : ∀ y, fpS s h2 y ∨ F2 y ∨ y = wb → y < wp.heap.size := fun y hy => by
                    rcases hy with e | e | e
                    · exact hwx2.store.lt y e
                    · exact (hwx2.sep y e).2.2
                    · subst e; exact hwx2.blk.lt
                  obtain ⟨q, hqe⟩ : ∃ q, qs[n]? = some q := ⟨_, List.getElem?_eq_getElem (by omega)⟩
                  obtain ⟨b6, o6, cap6, e6, hcap6, hF6, hlt6, hcell6⟩ := hq_wp.get (by omega)
                  cases e6
                  refine skip_ ?_
                  refine thn ?_
                  refine seq_ ?_
                  refine block_ ?_
                  refine seq_ ?_
                  refine region_ ?_
                  refine wl_valE (v := .slice (some ⟨b6, o6, none⟩) qs.length qcap) rfl (rf_move rfl) rfl ?_
                  refine wl_valE (v := .int .i64 ((n : Nat) : Int)) rfl (rf_move rfl) rfl ?_
                  refine wl_valE (v := .pointer (some ⟨b6, o6 + n * 8, none⟩)) rfl (rf_indexAddr Try.underlying22 ti34 rfl rfl rfl rfl (by omega) (by omega)) rfl ?_
                  refine wl_valE (v := .agg #[.int .i64 q.key.table, .int .i64 q.key.row, .int .i64 q.later, .int .i64 q.index, .bool q.fill, .bool q.cell.is_, .int .i64 q.cell.value, .int .i64 q.drop]) rfl (rf_loadAgg Try.underlying34 rfl ti34 rfl rfl (el_cells (hcell6 n q hqe)) rfl) rfl ?_
                  refine wl_alloc ti34 ?_
                  intro b12 w12 hg12 hk12 hb12
                  have hp_w12 := hp_wp.keep hk12
                  have hq_w12 := hq_wp.keep hk12
                  have hkw_w12 := hkw_wp.comp hk12 (fun _ _ e => e.elim)
                  have hsv3_w12 := hsv3_wp.keep hk12
                  have hwas_w12 := hwas_wp.keep hk12
                  have hkl3_w12 := hkl3.comp hk12 (fun _ _ e => e.elim)
                  have hwx2_w12 := hwx2.keep hk12
                  have hs12 := hk12.size
                  refine wl_storeAgg (b := b12) (o := 0) (cs := [.int .i64 q.key.table, .int .i64 q.key.row, .int .i64 q.later, .int .i64 q.index, .bool q.fill, .bool q.cell.is_, .int .i64 q.cell.value, .int .i64 q.drop]) ti34 rfl rfl rfl rfl rfl (by simp [Value.oneCell']) hb12 (Nat.le_of_ble_eq_true rfl) ?_
                  intro w13 hk13 hb13
                  have hp_w13 := hp_w12.kp hk13 (fun x hx e => by have := hFp x hx; omega)
                  have hq_w13 := hq_w12.kp hk13 (fun x hx e => by have := hGq x hx; omega)
                  have hkw_w13 := hkw_w12.comp hk13 (fun x hx e => by omega)
                  have hsv3_w13 := hsv3_w12.kp hk13 (fun x hx e => by have := hG x hx; omega)
                  have hwas_w13 := hwas_w12.kp hk13 (fun x hx e => by omega)
                  have hkl3_w13 := hkl3_w12.comp hk13 (fun x hx e => .inr (.inr (.inr (by omega))))
                  have hwx2_w13 := hwx2_w12.kpN hk13 (fun y hy e => by have := hXw2 y hy; omega)
                  have hs13 := hk13.size
                  replace hb13 : Blk w13 b12 (.cells #[.int .i64 q.key.table, .int .i64 q.key.row, .int .i64 q.later, .int .i64 q.index, .bool q.fill, .bool q.cell.is_, .int .i64 q.cell.value, .int .i64 q.drop] _ (0, 0)) := hb13
                  refine wl_nil ?_
                  refine thn ?_
                  refine seq_ ?_
                  refine region_ ?_
                  refine wl_valE (v := .pointer (some ⟨b12, 7, none⟩)) rfl (rf_fieldAddr Try.underlying34 rfl ti3 rfl rfl) rfl ?_
                  refine wl_store (b := b12) (o := 7) (v := .int .i64 (-1 : Int)) ti3 rfl rfl rfl rfl rfl hb13 (by first | decide | exact Nat.le_of_ble_eq_true rfl | simp) ?_
                  intro w14 hk14 hb14
                  have hp_w14 := hp_w13.kp hk14 (fun x hx e => by have := hFp x hx; omega)
                  have hq_w14 := hq_w13.kp hk14 (fun x hx e => by have := hGq x hx; omega)
                  have hkw_w14 := hkw_w13.comp hk14 (fun x hx e => by omega)
                  have hsv3_w14 := hsv3_w13.kp hk14 (fun x hx e => by have := hG x hx; omega)
                  have hwas_w14 := hwas_w13.kp hk14 (fun x hx e => by omega)
                  have hkl3_w14 := hkl3_w13.comp hk14 (fun x hx e => .inr (.inr (.inr (by omega))))
                  have hwx2_w14 := hwx2_w13.kpN hk14 (fun y hy e => by have := hXw2 y hy; omega)
                  have hs14 := hk14.size
                  replace hb14 : Blk w14 b12 (.cells #[.int .i64 q.key.table, .int .i64 q.key.row, .int .i64 q.later, .int .i64 q.index, .bool q.fill, .bool q.cell.is_, .int .i64 q.cell.value, .int .i64 (-1 : Int)] _ (0, 0)) := hb14
                  refine wl_nil ?_
                  refine thn ?_
                  refine seq_ ?_
                  refine region_ ?_
                  refine wl_valE (v := .pointer (some ⟨wb, 0, none⟩)) rfl (rf_move rfl) rfl ?_
                  refine wl_valE (v := .agg #[.int .i64 q.key.table, .int .i64 q.key.row, .int .i64 q.later, .int .i64 q.index, .bool q.fill, .bool q.cell.is_, .int .i64 q.cell.value, .int .i64 (-1 : Int)]) rfl (rf_loadBlk Try.underlying34 rfl ti34 rfl rfl hb14 (Nat.le_of_ble_eq_true rfl)) rfl ?_
                  refine wl_ret rfl (write_ret wb s x2 h2 av2 F2 ⟨q.key, q.later, q.index, q.fill, q.cell, -1⟩ 0 w14 hwx2_w14 hvi2.inv (by omega) (by have := hvi2.batch; omega) (by have := hvi2.last; omega) (by have := hvi2.len; omega)) (rf_call Try.call5 rfl rfl) ?_
                  rintro vq w15 ⟨rfl, x3, h3, av3, F3, hwz, hwo, hg3, hk15⟩
                  have hvi3 := hvi2.wrote hwx2_w14.store.inv hwo
                  obtain ⟨hbb, r3, hr3, hr4⟩ := hwo.keeps (show (-1 : Int) < 0 by decide)
                  have hp_w15 := hp_w14.kp hk15 (fun x hx e => by have := hFp x hx; have := hT1 x (hgT x e); omega)
                  have hq_w15 := hq_w14.kp hk15 (fun x hx e => by have := hGq x hx; have := hT1 x (hgT x e); omega)
                  have hkw_w15 := hkw_w14.comp hk15 (fun x hx e => by have := hT1 x (hgT x e); omega)
                  have hsv3_w15 := hsv3_w14.kp hk15 (fun x hx e => by have := hG x hx; have := hT0 x (hgT x e); omega)
                  have hwas_w15 := hwas_w14.kp hk15 (fun x hx e => by have := hT0 x (hgT x e); omega)
                  have hkl3_w15 := hkl3_w14.comp hk15 (fun x hx e => hgT x e)
                  have hs15 := hk15.size
                  refine wl_valE (v := .bool false) rfl (rf_not rfl rfl) rfl ?_
                  refine wl_nil ?_
                  refine thn ?_
                  refine condF rfl rfl ?_
                  refine skip_ ?_
                  refine bln ?_
                  refine thn ?_
                  refine region_ ?_
                  refine wl_valE (v := .int .i64 ((n : Nat) : Int)) rfl (rf_move rfl) rfl ?_
                  refine wl_valE (v := .int .i64 ((n + 1 : Nat) : Int)) rfl (rf_add rfl rfl rfl rfl (IntWalk.i64_in _ (by omega))) rfl ?_
                  refine wl_valE (v := .int .i64 ((n + 1 : Nat) : Int)) rfl (rf_assign rfl) rfl ?_
                  refine wl_nil ?_
                  refine thn ?_
                  refine ⟨lk3 - 1, _, rfl, (by omega), _, n + 1, x3, h3, av3, F3, rr ++ r3, upds_self ⟨rfl, rfl, rfl, rfl, rfl, rfl, trivial⟩, ?_⟩
                  refine ⟨by omega, hwz, hvi3, by rw [hr3, hall2, List.append_assoc], fun l hl => ?_, by omega, fun y hy => ?_, hkl3_w15⟩
                  · rcases List.mem_append.1 hl with hl | hl
                    · exact hrr l hl
                    · have := hr4 l hl; omega
                  · rcases hy with e | e | e
                    · rcases hg3 y (.inl e) with h | h | h
                      · exact hgT y (.inl h)
                      · exact hgT y (.inr (.inl h))
                      · exact .inr (.inr (.inr (by omega)))
                    · rcases hg3 y (.inr e) with h | h | h
                      · exact hgT y (.inl h)
                      · exact hgT y (.inr (.inl h))
                      · exact .inr (.inr (.inr (by omega)))
                    · exact hgT y (.inr (.inr e))
                · have c144p := of_decide_eq_false c144
                  have hbw3 := hwx2.blk
                  have hls2 := hvi2.inv.last
                  have hlt2 := hvi2.last
                  have hbt3 := hvi2.batch
                  refine exit_ ?_
                  refine thx (thx (blx ?_))
                  refine thn ?_
                  refine seq_ ?_
                  refine seq_ ?_
                  refine region_ ?_
                  refine wl_valE (v := .int .i64 ((0 : Nat) : Int)) rfl (rf_assign rfl) rfl ?_
                  refine wl_nil ?_
                  refine thn ?_
                  refine block_ ?_
                  refine loop_ (fun lk lf lw => ∃ (g : Nat → Value) (m : Nat), lf = upds g [(6, .pointer (some ⟨wb, 0, none⟩)), (9, .int .i64 bt), (10, .slice sa x.all.length sc), (15, .slice wa x.all.length wc2), (18, .int .i64 ((m : Nat) : Int))] ∧ m + lk = x.all.length ∧ Kp (none_) wp lw) (x.all.length) ?_ ?_
                  · refine ⟨_, 0, upds_self ⟨rfl, rfl, rfl, rfl, rfl, trivial⟩, ?_⟩
                    exact ⟨by omega, Kp.refl _⟩
                  · intro lk4 lf4 wr hI4
                    obtain ⟨gl4, m, rfl, hmk, hkl4⟩ := hI4
                    have hp_wr := hp_wp.keep hkl4
                    have hq_wr := hq_wp.keep hkl4
                    have hkw_wr := hkw_wp.comp hkl4 (fun _ _ e => e.elim)
                    have hsv3_wr := hsv3_wp.keep hkl4
                    have hwas_wr := hwas_wp.keep hkl4
                    have hkl3_wr := hkl3.comp hkl4 (fun _ _ e => e.elim)
                    have hwx2_wr := hwx2.keep hkl4
                    have hbw3_wr := hbw3.keep hkl4
                    have hsr := hkl4.size
                    refine seq_ ?_
                    refine seq_ ?_
                    refine region_ ?_
                    refine wl_valE (v := .int .i64 ((m : Nat) : Int)) rfl (rf_move rfl) rfl ?_
                    refine wl_valE (v := .slice wa x.all.length wc2) rfl (rf_move rfl) rfl ?_
                    refine wl_valE (v := .int .i64 ((x.all.length : Nat) : Int)) rfl (rf_len_slice Try.underlying36 rfl rfl) rfl ?_
                    refine wl_valE (v := .bool (decide (((m : Nat) : Int) < ((x.all.length : Nat) : Int)))) rfl (rf_lss rfl rfl rfl rfl) rfl ?_
                    refine wl_nil ?_
                    refine thn ?_
                    refine cond_ (t := decide (((m : Nat) : Int) < ((x.all.length : Nat) : Int))) rfl rfl (fun c159 => ?_) (fun c159 => ?_)
                    · have c159p := of_decide_eq_true c159
                      obtain ⟨l4, hl4⟩ : ∃ l, x.all[m]? = some l := ⟨_, List.getElem?_eq_getElem (by omega)⟩
                      obtain ⟨wb5, wo, wc3, et, _, hwA⟩ := hwas_wr.at (by omega)
                      simp only [Value.slice.injEq] at et
                      obtain ⟨rfl, _, rfl⟩ := et
                      obtain ⟨sb, so, sc3, et, _, hsA⟩ := hsv3_wr.at (by rw [List.length_map]; omega)
                      simp only [Value.slice.injEq] at et
                      obtain ⟨rfl, _, rfl⟩ := et
                      have hsm : (x.all.map (fun l => visF x.st l.key bt))[m]? = some (visF x.st l4.key bt) := by rw [List.getElem?_map, hl4]; rfl
                      have hv1 : visF x2.st l4.key bt = visF x.st l4.key bt := by rw [vis_lat hvi2, vis_lat hvi, hall2, latF_more _ _ _ _ hrr]
                      have hv2 : visF x2.st l4.key 4611686018427387904 = visF x2.st l4.key 1099511627776 := by rw [vis_lat hvi2, vis_lat hvi2]; exact latF_congr _ _ _ _ (fun l hl => by have := hvi2.pos l hl; omega)
                      have hv3 : visF x2.st l4.key 0 = 0 := by rw [vis_lat hvi2]; exact latF_none _ _ _ (fun l hl => by have := hvi2.pos l hl; omega)
                      refine skip_ ?_
                      refine thn ?_
                      refine seq_ ?_
                      refine block_ ?_
                      refine seq_ ?_
                      refine region_q mixedP (by kernel_rfl) ?_
                      refine qt_valE (v := .pointer (some ⟨wb, 0, none⟩)) rfl (fun wq hq => rf_move rfl) rfl ?_
                      refine qt_valE (v := .pointer (some ⟨wb, 0, none⟩)) rfl (fun wq hq => rf_nilCheckP rfl rfl) rfl ?_
                      refine qt_valE (v := .pointer (some ⟨wb, 0, none⟩)) rfl (fun wq hq => rf_fieldAddr Try.underlying38 rfl ti35 rfl rfl) rfl ?_
                      refine qt_valE (v := .pointer (some ⟨s, 0, none⟩)) rfl (fun wq hq => rf_load Try.underlying35 rfl rfl rfl ((hbw3_wr.keep hq).cell rfl)) rfl ?_
                      refine qt_valE (v := .slice (some ⟨wb5, wo, none⟩) x.all.length wc2) rfl (fun wq hq => rf_move rfl) rfl ?_
                      refine qt_valE (v := .int .i64 ((m : Nat) : Int)) rfl (fun wq hq => rf_move rfl) rfl ?_
                      refine qt_valE (v := .pointer (some ⟨wb5, wo + m * 8, none⟩)) rfl (fun wq hq => rf_indexAddr Try.underlying36 ti44 rfl rfl rfl rfl (by omega) (by omega)) rfl ?_
                      refine qt_valE (v := .pointer (some ⟨wb5, wo + m * 8 + 1, none⟩)) rfl (fun wq hq => rf_fieldAddr Try.underlying44 rfl ti30 rfl rfl) rfl ?_
                      refine qt_valE (v := .agg #[.int .i64 l4.key.table, .int .i64 l4.key.row]) rfl (fun wq hq => rf_loadAgg Try.underlying30 rfl ti30 rfl rfl (fun j u hj => hq.cell ((el_sub (hwA.cell hl4) 1 2) j u hj) (fun h => h)) rfl) rfl ?_
                      refine qt_valE (v := .int .i64 bt) rfl (fun wq hq => rf_move rfl) rfl ?_
                      refine qt_ret (v := .int .i64 (visF x2.st l4.key bt)) rfl (fun wq hq => (visible_ret s x2.st h2 wq (hwx2_wr.keep hq).store l4.key bt (by omega)).mono (fun _ _ h => ⟨h.1, hq.trans h.2⟩)) (fun wq hq => rf_call Try.call6 rfl rfl) ?_
                      refine qt_valE (v := .slice (some ⟨sb, so, none⟩) x.all.length sc) rfl (fun wq hq => rf_move rfl) rfl ?_
                      refine qt_valE (v := .int .i64 ((m : Nat) : Int)) rfl (fun wq hq => rf_move rfl) rfl ?_
                      refine qt_valE (v := .pointer (some ⟨sb, so + m, none⟩)) rfl (fun wq hq => rf_indexAddr Try.underlying39 ti3 rfl rfl rfl rfl (by omega) (by omega)) (by simp) ?_
                      refine qt_valE (v := .int .i64 (visF x.st l4.key bt)) rfl (fun wq hq => rf_load Try.underlying3 rfl rfl rfl (hq.cell (el1 (hsA.cell hsm 0 _ rfl)) (fun h => h))) rfl ?_
                      refine qt_valE (v := .bool false) rfl (fun wq hq => rf_neq rfl rfl rfl rfl) (congrArg Value.bool (decide_eq_false (fun h => h hv1))) ?_
                      refine qt_valE (v := .bool false) rfl (fun wq hq => rf_move rfl) rfl ?_
                      refine qt_guardT rfl rfl rfl rfl ?_
                      refine qt_valE (v := .pointer (some ⟨wb, 0, none⟩)) rfl (fun wq hq => rf_move rfl) rfl ?_
                      refine qt_guardT rfl rfl rfl rfl ?_
                      refine qt_valE (v := .pointer (some ⟨wb, 0, none⟩)) rfl (fun wq hq => rf_nilCheckP rfl rfl) rfl ?_
                      refine qt_guardT rfl rfl rfl rfl ?_
                      refine qt_valE (v := .pointer (some ⟨wb, 0, none⟩)) rfl (fun wq hq => rf_fieldAddr Try.underlying38 rfl ti35 rfl rfl) rfl ?_
                      refine qt_guardT rfl rfl rfl rfl ?_
                      refine qt_valE (v := .pointer (some ⟨s, 0, none⟩)) rfl (fun wq hq => rf_load Try.underlying35 rfl rfl rfl ((hbw3_wr.keep hq).cell rfl)) rfl ?_
                      refine qt_guardT rfl rfl rfl rfl ?_
                      refine qt_valE (v := .slice (some ⟨wb5, wo, none⟩) x.all.length wc2) rfl (fun wq hq => rf_move rfl) rfl ?_
                      refine qt_guardT rfl rfl rfl rfl ?_
                      refine qt_valE (v := .int .i64 ((m : Nat) : Int)) rfl (fun wq hq => rf_move rfl) rfl ?_
                      refine qt_guardT rfl rfl rfl rfl ?_
                      refine qt_valE (v := .pointer (some ⟨wb5, wo + m * 8, none⟩)) rfl (fun wq hq => rf_indexAddr Try.underlying36 ti44 rfl rfl rfl rfl (by omega) (by omega)) rfl ?_
                      refine qt_guardT rfl rfl rfl rfl ?_
                      refine qt_valE (v := .pointer (some ⟨wb5, wo + m * 8 + 1, none⟩)) rfl (fun wq hq => rf_fieldAddr Try.underlying44 rfl ti30 rfl rfl) rfl ?_
                      refine qt_guardT rfl rfl rfl rfl ?_
                      refine qt_valE (v := .agg #[.int .i64 l4.key.table, .int .i64 l4.key.row]) rfl (fun wq hq => rf_loadAgg Try.underlying30 rfl ti30 rfl rfl (fun j u hj => hq.cell ((el_sub (hwA.cell hl4) 1 2) j u hj) (fun h => h)) rfl) rfl ?_
                      refine qt_guardT rfl rfl rfl rfl ?_
                      refine qt_ret (v := .int .i64 (visF x2.st l4.key 4611686018427387904)) rfl (fun wq hq => (visible_ret s x2.st h2 wq (hwx2_wr.keep hq).store l4.key 4611686018427387904 (by omega)).mono (fun _ _ h => ⟨h.1, hq.trans h.2⟩)) (fun wq hq => rf_call Try.call6 rfl rfl) ?_
                      refine qt_guardT rfl rfl rfl rfl ?_
                      refine qt_valE (v := .pointer (some ⟨wb, 0, none⟩)) rfl (fun wq hq => rf_move rfl) rfl ?_
                      refine qt_guardT rfl rfl rfl rfl ?_
                      refine qt_valE (v := .pointer (some ⟨wb, 0, none⟩)) rfl (fun wq hq => rf_nilCheckP rfl rfl) rfl ?_
                      refine qt_guardT rfl rfl rfl rfl ?_
                      refine qt_valE (v := .pointer (some ⟨wb, 0, none⟩)) rfl (fun wq hq => rf_fieldAddr Try.underlying38 rfl ti35 rfl rfl) rfl ?_
                      refine qt_guardT rfl rfl rfl rfl ?_
                      refine qt_valE (v := .pointer (some ⟨s, 0, none⟩)) rfl (fun wq hq => rf_load Try.underlying35 rfl rfl rfl ((hbw3_wr.keep hq).cell rfl)) rfl ?_
                      refine qt_guardT rfl rfl rfl rfl ?_
                      refine qt_valE (v := .slice (some ⟨wb5, wo, none⟩) x.all.length wc2) rfl (fun wq hq => rf_move rfl) rfl ?_
                      refine qt_guardT rfl rfl rfl rfl ?_
                      refine qt_valE (v := .int .i64 ((m : Nat) : Int)) rfl (fun wq hq => rf_move rfl) rfl ?_
                      refine qt_guardT rfl rfl rfl rfl ?_
                      refine qt_valE (v := .pointer (some ⟨wb5, wo + m * 8, none⟩)) rfl (fun wq hq => rf_indexAddr Try.underlying36 ti44 rfl rfl rfl rfl (by omega) (by omega)) rfl ?_
                      refine qt_guardT rfl rfl rfl rfl ?_
                      refine qt_valE (v := .pointer (some ⟨wb5, wo + m * 8 + 1, none⟩)) rfl (fun wq hq => rf_fieldAddr Try.underlying44 rfl ti30 rfl rfl) rfl ?_
                      refine qt_guardT rfl rfl rfl rfl ?_
                      refine qt_valE (v := .agg #[.int .i64 l4.key.table, .int .i64 l4.key.row]) rfl (fun wq hq => rf_loadAgg Try.underlying30 rfl ti30 rfl rfl (fun j u hj => hq.cell ((el_sub (hwA.cell hl4) 1 2) j u hj) (fun h => h)) rfl) rfl ?_
                      refine qt_guardT rfl rfl rfl rfl ?_
                      refine qt_ret (v := .int .i64 (visF x2.st l4.key 1099511627776)) rfl (fun wq hq => (newest_ret s x2.st h2 wq (hwx2_wr.keep hq).store l4.key (by omega)).mono (fun _ _ h => ⟨h.1, hq.trans h.2⟩)) (fun wq hq => rf_call Try.call7 rfl rfl) ?_
                      refine qt_guardT rfl rfl rfl rfl ?_
                      refine qt_valE (v := .bool false) rfl (fun wq hq => rf_neq rfl rfl rfl rfl) (congrArg Value.bool (decide_eq_false (fun h => h hv2))) ?_
                      refine qt_valE (v := .bool false) rfl (fun wq hq => rf_pickF rfl rfl rfl rfl) rfl ?_
                      refine qt_valE (v := .bool false) rfl (fun wq hq => rf_move rfl) rfl ?_
                      refine qt_guardT rfl rfl rfl rfl ?_
                      refine qt_valE (v := .pointer (some ⟨wb, 0, none⟩)) rfl (fun wq hq => rf_move rfl) rfl ?_
                      refine qt_guardT rfl rfl rfl rfl ?_
                      refine qt_valE (v := .pointer (some ⟨wb, 0, none⟩)) rfl (fun wq hq => rf_nilCheckP rfl rfl) rfl ?_
                      refine qt_guardT rfl rfl rfl rfl ?_
                      refine qt_valE (v := .pointer (some ⟨wb, 0, none⟩)) rfl (fun wq hq => rf_fieldAddr Try.underlying38 rfl ti35 rfl rfl) rfl ?_
                      refine qt_guardT rfl rfl rfl rfl ?_
                      refine qt_valE (v := .pointer (some ⟨s, 0, none⟩)) rfl (fun wq hq => rf_load Try.underlying35 rfl rfl rfl ((hbw3_wr.keep hq).cell rfl)) rfl ?_
                      refine qt_guardT rfl rfl rfl rfl ?_
                      refine qt_valE (v := .slice (some ⟨wb5, wo, none⟩) x.all.length wc2) rfl (fun wq hq => rf_move rfl) rfl ?_
                      refine qt_guardT rfl rfl rfl rfl ?_
                      refine qt_valE (v := .int .i64 ((m : Nat) : Int)) rfl (fun wq hq => rf_move rfl) rfl ?_
                      refine qt_guardT rfl rfl rfl rfl ?_
                      refine qt_valE (v := .pointer (some ⟨wb5, wo + m * 8, none⟩)) rfl (fun wq hq => rf_indexAddr Try.underlying36 ti44 rfl rfl rfl rfl (by omega) (by omega)) rfl ?_
                      refine qt_guardT rfl rfl rfl rfl ?_
                      refine qt_valE (v := .pointer (some ⟨wb5, wo + m * 8 + 1, none⟩)) rfl (fun wq hq => rf_fieldAddr Try.underlying44 rfl ti30 rfl rfl) rfl ?_
                      refine qt_guardT rfl rfl rfl rfl ?_
                      refine qt_valE (v := .agg #[.int .i64 l4.key.table, .int .i64 l4.key.row]) rfl (fun wq hq => rf_loadAgg Try.underlying30 rfl ti30 rfl rfl (fun j u hj => hq.cell ((el_sub (hwA.cell hl4) 1 2) j u hj) (fun h => h)) rfl) rfl ?_
                      refine qt_guardT rfl rfl rfl rfl ?_
                      refine qt_ret (v := .int .i64 (visF x2.st l4.key 0)) rfl (fun wq hq => (visible_ret s x2.st h2 wq (hwx2_wr.keep hq).store l4.key 0 (by omega)).mono (fun _ _ h => ⟨h.1, hq.trans h.2⟩)) (fun wq hq => rf_call Try.call6 rfl rfl) ?_
                      refine qt_guardT rfl rfl rfl rfl ?_
                      refine qt_valE (v := .bool false) rfl (fun wq hq => rf_neq rfl rfl rfl rfl) (congrArg Value.bool (decide_eq_false (fun h => h hv3))) ?_
                      refine qt_valE (v := .bool false) rfl (fun wq hq => rf_pickF rfl rfl rfl rfl) rfl ?_
                      refine qt_nil ?_
                      intro w16 hk16
                      have hp_w16 := hp_wr.keep hk16
                      have hq_w16 := hq_wr.keep hk16
                      have hkw_w16 := hkw_wr.comp hk16 (fun _ _ e => e.elim)
                      have hsv3_w16 := hsv3_wr.keep hk16
                      have hwas_w16 := hwas_wr.keep hk16
                      have hkl3_w16 := hkl3_wr.comp hk16 (fun _ _ e => e.elim)
                      have hwx2_w16 := hwx2_wr.keep hk16
                      have hbw3_w16 := hbw3_wr.keep hk16
                      have hkl4_w16 := hkl4.comp hk16 (fun _ _ e => e.elim)
                      have hwA_w16 := hwA.keep hk16
                      have hsA_w16 := hsA.keep hk16
                      have hs16 := hk16.size
                      refine thn ?_
                      refine condF rfl rfl ?_
                      refine skip_ ?_
                      refine bln ?_
                      refine thn ?_
                      refine region_ ?_
                      refine wl_valE (v := .int .i64 ((m : Nat) : Int)) rfl (rf_move rfl) rfl ?_
                      refine wl_valE (v := .int .i64 ((m + 1 : Nat) : Int)) rfl (rf_add rfl rfl rfl rfl (IntWalk.i64_in _ (by omega))) rfl ?_
                      refine wl_valE (v := .int .i64 ((m + 1 : Nat) : Int)) rfl (rf_assign rfl) rfl ?_
                      refine wl_nil ?_
                      refine thn ?_
                      refine ⟨lk4 - 1, _, rfl, (by omega), _, m + 1, upds_self ⟨rfl, rfl, rfl, rfl, rfl, trivial⟩, ?_⟩
                      exact ⟨by omega, hkl4_w16⟩
                    · have c159p := of_decide_eq_false c159
                      refine exit_ ?_
                      refine thx (thx (blx ?_))
                      refine thn ?_
                      refine seq_ ?_
                      refine region_ ?_
                      refine wl_valE (v := .bool true) rfl (rf_assign rfl) rfl ?_
                      refine wl_nil ?_
                      refine thn ?_
                      refine ret_ ?_
                      refine fin1 (v := .bool true) Try.results3 rfl rfl ?_
                      exact ⟨rfl, hkw_wr⟩
end Go.Proofs.Ytfcppknhgecmcaa.W
