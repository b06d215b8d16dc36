import Derived.Test.YtenhbogebfdjjaaE1
import Derived.KernelRfl
namespace Go.Proofs.Ytenhbogebfdjjaa.W
open Go Go.Wk
set_option linter.unusedVariables false

structure PairR where
  key : Key
  value : Int
  part : Int
def encPair (p : PairR) : List Value := [.int .i64 p.key.table, .int .i64 p.key.row, .int .i64 p.value, .int .i64 p.part]
theorem encPair_len (p : PairR) : (encPair p).length = 4 := rfl
theorem encPair_one (p : PairR) : ∀ u ∈ encPair p, u.oneCell' = true := by simp [encPair, Value.oneCell']
structure RefD (w : World) (rb : Nat) (np : Int) (all : List PairR) (av : Value) (F : Nat → Prop) : Prop where
  blk : Blk w rb (.cells #[.int .i64 np, av] 48 (0, 0))
  alls : Sl encPair 4 57 w F av all
  sep : ∀ y, F y → y ≠ rb ∧ y < w.heap.size
theorem RefD.kp {w w' : World} {rb : Nat} {np : Int} {all : List PairR} {av : Value} {F S : Nat → Prop} (q : RefD w rb np all av F) (hk : Kp S w w') (hs : ∀ y, y = rb ∨ F y → ¬ S y) : RefD w' rb np all av F :=
  ⟨q.blk.kp hk (hs rb (.inl rfl)), q.alls.kp hk (fun y h => hs y (.inr h)), fun y hy => ⟨(q.sep y hy).1, Nat.lt_of_lt_of_le (q.sep y hy).2 hk.size⟩⟩
theorem RefD.keep {w w' : World} {rb : Nat} {np : Int} {all : List PairR} {av : Value} {F : Nat → Prop} (q : RefD w rb np all av F) (hk : Kp none_ w w') : RefD w' rb np all av F := q.kp hk (fun _ _ h => h)
theorem RefD.lt {w : World} {rb : Nat} {np : Int} {all : List PairR} {av : Value} {F : Nat → Prop} (q : RefD w rb np all av F) : ∀ y, y = rb ∨ F y → y < w.heap.size := fun y hy => by
  rcases hy with rfl | h
  · exact q.blk.lt
  · exact (q.sep y h).2
theorem er_eq {α : Type} (l : List α) (i : Nat) : ([] ++ l.take i) ++ l.drop (i + 1) = l.eraseIdx i := by rw [List.nil_append, List.eraseIdx_eq_take_drop_succ]
theorem slFrom {α : Type} {enc : α → List Value} {sz : Nat} {e : TypeId} {w : World} {b o cap : Nat} {l : List α} {F : Nat → Prop} (h : SlAt enc sz e w b o cap l) (hF : F b) (k : Nat) (hk : k ≤ l.length) :
    Rd enc sz w F (.slice (if cap = k then some ⟨b, o, none⟩ else (some (⟨b, o, none⟩ : Addr)).map (·.add (k * sz))) (l.length - k) (cap - k)) (l.drop k) := by
  have hl := h.le
  by_cases e : cap = k
  · refine ⟨_, _, by rw [List.length_drop], by rw [List.length_drop]; omega, fun hp => ?_⟩
    rw [List.length_drop] at hp; omega
  · rw [if_neg e]
    have := (h.drop k (by omega)).rd hF
    rw [List.length_drop] at this
    simpa [add_at] using this
theorem refNew_ret (m : Int) (w : World) : Ret Try.prog 7 [.int .i64 m] w fun v w' => (¬ (1 ≤ m ∧ m ≤ 256) → v = .tuple #[.pointer none, .int .i64 21] ∧ Kp none_ w w') ∧ (1 ≤ m ∧ m ≤ 256 → ∃ rb, v = .tuple #[.pointer (some ⟨rb, 0, none⟩), .int .i64 0] ∧ RefD w' rb m [] (.slice none 0 0) (fun _ => False) ∧ Kp none_ w w' ∧ w.heap.size ≤ rb) := by
  have hkw : Kp none_ w w := Kp.refl w
  refine enterR Try.func7 rfl Try.ntmps7 rfl ?_
  intro g0
  refine seq_ ?_
  refine region_ ?_
  refine wl_valE (v := .pointer none) rfl (rf_assign rfl) rfl ?_
  refine wl_valE (v := .int .i64 ((0 : Nat) : Int)) rfl (rf_assign rfl) rfl ?_
  refine wl_nil ?_
  refine thn ?_
  refine seq_ ?_
  refine seq_ ?_
  refine region_ ?_
  refine wl_valE (v := .int .i64 m) rfl (rf_move rfl) rfl ?_
  refine wl_valE (v := .bool (decide (m < ((1 : Nat) : Int)))) rfl (rf_lss rfl rfl rfl rfl) rfl ?_
  refine wl_valE (v := .bool (decide (m < ((1 : Nat) : Int)))) rfl (rf_move rfl) rfl ?_
  refine wl_split (decide (m < ((1 : Nat) : Int))) (fun u1_2 => ?_) (fun u1_2 => ?_)
  · have u1_2p := of_decide_eq_true u1_2
    refine wl_guardF rfl rfl rfl u1_2 ?_
    refine wl_guardF rfl rfl rfl u1_2 ?_
    refine wl_valE (v := .bool true) rfl (rf_pickT rfl rfl rfl u1_2) rfl ?_
    refine wl_nil ?_
    refine thn ?_
    refine condT rfl rfl ?_
    refine seq_ ?_
    refine region_ ?_
    refine wl_valE (v := .pointer none) rfl (rf_assign rfl) rfl ?_
    refine wl_valE (v := .int .i64 ((21 : Nat) : Int)) rfl (rf_assign rfl) rfl ?_
    refine wl_nil ?_
    refine thn ?_
    refine ret_ ?_
    refine thr ?_
    refine fin2 (v1 := .pointer none) (v2 := .int .i64 ((21 : Nat) : Int)) Try.results7 rfl rfl rfl rfl ?_
    exact ⟨fun _ => ⟨rfl, hkw⟩, fun h => by omega⟩
  · have u1_2p := of_decide_eq_false u1_2
    refine wl_guardT rfl rfl rfl u1_2 ?_
    refine wl_valE (v := .int .i64 m) rfl (rf_move rfl) rfl ?_
    refine wl_guardT rfl rfl rfl u1_2 ?_
    refine wl_valE (v := .bool (decide (((256 : Nat) : Int) < m))) rfl (rf_gtr rfl rfl rfl rfl) rfl ?_
    refine wl_valE (v := .bool (decide (((256 : Nat) : Int) < m))) rfl (rf_pickF rfl rfl rfl u1_2) rfl ?_
    refine wl_nil ?_
    refine thn ?_
    refine cond_ (t := decide (((256 : Nat) : Int) < m)) rfl rfl (fun c9 => ?_) (fun c9 => ?_)
    · have c9p := of_decide_eq_true c9
      refine seq_ ?_
      refine region_ ?_
      refine wl_valE (v := .pointer none) rfl (rf_assign rfl) rfl ?_
      refine wl_valE (v := .int .i64 ((21 : Nat) : Int)) rfl (rf_assign rfl) rfl ?_
      refine wl_nil ?_
      refine thn ?_
      refine ret_ ?_
      refine thr ?_
      refine fin2 (v1 := .pointer none) (v2 := .int .i64 ((21 : Nat) : Int)) Try.results7 rfl rfl rfl rfl ?_
      exact ⟨fun _ => ⟨rfl, hkw⟩, fun h => by omega⟩
    · have c9p := of_decide_eq_false c9
      refine skip_ ?_
      refine thn ?_
      refine seq_ ?_
      refine region_ ?_
      refine wl_valE (v := .int .i64 m) rfl (rf_move rfl) rfl ?_
      refine wl_valE (v := .agg #[.int .i64 m, .slice none 0 0]) rfl (rf_build (offs := [(0, [.int .i64 m])]) (places := #[(0, 1), (1, 1)]) Try.underlying48 ti48 (fun w => by kernel_rfl) (.cons rfl rfl rfl rfl rfl rfl .nil)) rfl ?_
      refine wl_box (v := .agg #[.int .i64 m, .slice none 0 0]) rfl rfl ?_
      intro b1 w1 hg1 hk1 hb1
      have hkw_w1 := hkw.comp hk1 (fun _ _ e => e.elim)
      have hs1 := hk1.size
      refine wl_valE (v := .pointer (some ⟨b1, 0, none⟩)) rfl (rf_assign rfl) rfl ?_
      refine wl_valE (v := .int .i64 ((0 : Nat) : Int)) rfl (rf_assign rfl) rfl ?_
      refine wl_nil ?_
      refine thn ?_
      refine ret_ ?_
      refine fin2 (v1 := .pointer (some ⟨b1, 0, none⟩)) (v2 := .int .i64 ((0 : Nat) : Int)) Try.results7 rfl rfl rfl rfl ?_
      exact ⟨fun h => absurd ⟨by omega, by omega⟩ h, fun _ => ⟨_, rfl, ⟨hb1, Sl.nil _ _, fun y h => h.elim⟩, hkw_w1, by omega⟩⟩
theorem atN_ret (rb : Nat) (np : Int) (all : List PairR) (av : Value) (F : Nat → Prop) (w : World) (hd : RefD w rb np all av F) (k : Key) (hno : ∀ p ∈ all, p.key ≠ k) (hl : all.length ≤ 4611686018427387903) : Ret Try.prog 25 [.pointer (some ⟨rb, 0, none⟩), .agg #[.int .i64 k.table, .int .i64 k.row]] w fun v w' => v = .int .i64 (-1) ∧ Kp none_ w w' := by
  have hkw : Kp none_ w w := Kp.refl w
  have hb := hd.blk
  have hA := hd.alls
  have hsep := hd.sep
  have hwb := hb.lt
  obtain ⟨aa, ac, rfl, hac⟩ := hA.form
  refine enterR Try.func25 rfl Try.ntmps25 rfl ?_
  intro g0
  refine seq_ ?_
  refine region_ ?_
  refine wl_box (v := .agg #[.int .i64 k.table, .int .i64 k.row]) rfl rfl ?_
  intro b1 w1 hg1 hk1 hb1
  have ne1_rb : rb ≠ b1 := Nat.ne_of_lt (Nat.lt_of_lt_of_le hb.lt hg1)
  have hb_w1 := hb.keep hk1
  have hA_w1 := hA.keep hk1
  have hkw_w1 := hkw.comp hk1 (fun _ _ e => e.elim)
  have hs1 := hk1.size
  refine wl_valE (v := .int .i64 ((0 : Nat) : Int)) rfl (rf_assign rfl) rfl ?_
  refine wl_nil ?_
  refine thn ?_
  refine seq_ ?_
  refine seq_ ?_
  refine region_ ?_
  refine wl_valE (v := .int .i64 ((0 : Nat) : Int)) rfl (rf_assign rfl) rfl ?_
  refine wl_nil ?_
  refine thn ?_
  refine block_ ?_
  refine loop_ (fun lk lf lw => ∃ (g : Nat → Value) (j : Nat), lf = upds g [(0, .pointer (some ⟨rb, 0, none⟩)), (3, .pointer (some ⟨b1, 0, none⟩)), (5, .int .i64 ((j : Nat) : Int))] ∧ j + lk = all.length ∧ Kp (none_) w1 lw) (all.length) ?_ ?_
  · refine ⟨_, 0, upds_self ⟨rfl, rfl, rfl, trivial⟩, ?_⟩
    exact ⟨by omega, Kp.refl _⟩
  · intro lk0 lf0 wl hI0
    obtain ⟨gl0, j, rfl, hjk, hkl0⟩ := hI0
    have hb_wl := hb_w1.keep hkl0
    have hA_wl := hA_w1.keep hkl0
    have hkw_wl := hkw_w1.comp hkl0 (fun _ _ e => e.elim)
    have hb1_wl := hb1.keep hkl0
    have hsl := hkl0.size
    refine seq_ ?_
    refine seq_ ?_
    refine region_ ?_
    refine wl_valE (v := .int .i64 ((j : Nat) : Int)) rfl (rf_move rfl) rfl ?_
    refine wl_valE (v := .pointer (some ⟨rb, 0, none⟩)) rfl (rf_move rfl) rfl ?_
    refine wl_valE (v := .pointer (some ⟨rb, 0, none⟩)) rfl (rf_nilCheckP rfl rfl) rfl ?_
    refine wl_valE (v := .pointer (some ⟨rb, 1, none⟩)) rfl (rf_fieldAddr Try.underlying48 rfl ti38 rfl rfl) rfl ?_
    refine wl_valE (v := .slice aa all.length ac) rfl (rf_load Try.underlying38 rfl rfl rfl (hb_wl.cell rfl)) rfl ?_
    refine wl_valE (v := .int .i64 ((all.length : Nat) : Int)) rfl (rf_len_slice Try.underlying38 rfl rfl) rfl ?_
    refine wl_valE (v := .bool (decide (((j : Nat) : Int) < ((all.length : Nat) : Int)))) rfl (rf_lss rfl rfl rfl rfl) rfl ?_
    refine wl_nil ?_
    refine thn ?_
    refine cond_ (t := decide (((j : Nat) : Int) < ((all.length : Nat) : Int))) rfl rfl (fun c12 => ?_) (fun c12 => ?_)
    · have c12p := of_decide_eq_true c12
      obtain ⟨p, hp⟩ : ∃ p, all[j]? = some p := ⟨_, List.getElem?_eq_getElem (by omega)⟩
      obtain ⟨ab, ao, ac2, et, hFb, hAt⟩ := hA_wl.at (by omega)
      simp only [Value.slice.injEq] at et
      obtain ⟨rfl, _, rfl⟩ := et
      have hbx := hb_wl
      refine skip_ ?_
      refine thn ?_
      refine seq_ ?_
      refine block_ ?_
      refine seq_ ?_
      refine region_q mixedP (by kernel_rfl) ?_
      refine qt_valE (v := .pointer (some ⟨rb, 0, none⟩)) rfl (fun wq hq => rf_move rfl) rfl ?_
      refine qt_valE (v := .pointer (some ⟨rb, 0, none⟩)) rfl (fun wq hq => rf_nilCheckP rfl rfl) rfl ?_
      refine qt_valE (v := .pointer (some ⟨rb, 1, none⟩)) rfl (fun wq hq => rf_fieldAddr Try.underlying48 rfl ti38 rfl rfl) rfl ?_
      refine qt_valE (v := .slice (some ⟨ab, ao, none⟩) all.length ac) rfl (fun wq hq => rf_load Try.underlying38 rfl rfl rfl ((hbx.keep hq).cell rfl)) rfl ?_
      refine qt_valE (v := .int .i64 ((j : Nat) : Int)) rfl (fun wq hq => rf_move rfl) rfl ?_
      refine qt_valE (v := .pointer (some ⟨ab, ao + j * 4, none⟩)) rfl (fun wq hq => rf_indexAddr Try.underlying38 ti57 rfl rfl rfl rfl (by omega) (by omega)) rfl ?_
      refine qt_valE (v := .pointer (some ⟨ab, ao + j * 4, none⟩)) rfl (fun wq hq => rf_fieldAddr Try.underlying57 rfl ti28 rfl rfl) rfl ?_
      refine qt_valE (v := .agg #[.int .i64 p.key.table, .int .i64 p.key.row]) rfl (fun wq hq => rf_loadAgg Try.underlying28 rfl ti28 rfl rfl (fun j u hj => hq.cell ((el_sub (hAt.cell hp) 0 2) j u hj) (fun h => h)) rfl) rfl ?_
      refine qt_valE (v := .agg #[.int .i64 k.table, .int .i64 k.row]) rfl (fun wq hq => rf_loadBlk Try.underlying28 rfl ti28 rfl rfl (hb1_wl.keep hq) (Nat.le_of_ble_eq_true rfl)) rfl ?_
      refine qt_valE (v := .bool false) rfl (fun wq hq => rf_eqlS (by kernel_rfl) (eqKey p.key k _) rfl rfl rfl rfl) (congrArg Value.bool (decide_eq_false (hno p (List.mem_of_getElem? hp)))) ?_
      refine qt_nil ?_
      intro w2 hk2
      have hA_w2 := hA_wl.keep hk2
      have hkw_w2 := hkw_wl.comp hk2 (fun _ _ e => e.elim)
      have hb1_w2 := hb1_wl.keep hk2
      have hkl0_w2 := hkl0.comp hk2 (fun _ _ e => e.elim)
      have hbx_w2 := hbx.keep hk2
      have hAt_w2 := hAt.keep hk2
      have hs2 := hk2.size
      refine thn ?_
      refine condF rfl rfl ?_
      refine skip_ ?_
      refine bln ?_
      refine thn ?_
      refine region_ ?_
      refine wl_valE (v := .int .i64 ((j : Nat) : Int)) rfl (rf_move rfl) rfl ?_
      refine wl_valE (v := .int .i64 ((j + 1 : Nat) : Int)) rfl (rf_add rfl rfl rfl rfl (IntWalk.i64_in _ (by omega))) rfl ?_
      refine wl_valE (v := .int .i64 ((j + 1 : Nat) : Int)) rfl (rf_assign rfl) rfl ?_
      refine wl_nil ?_
      refine thn ?_
      refine ⟨lk0 - 1, _, rfl, (by omega), _, j + 1, upds_self ⟨rfl, rfl, rfl, trivial⟩, ?_⟩
      exact ⟨by omega, hkl0_w2⟩
    · have c12p := of_decide_eq_false c12
      refine exit_ ?_
      refine thx (thx (blx ?_))
      refine thn ?_
      refine seq_ ?_
      refine region_ ?_
      refine wl_valE (v := .int .i64 (-1 : Int)) rfl (rf_assign rfl) rfl ?_
      refine wl_nil ?_
      refine thn ?_
      refine ret_ ?_
      refine fin1 (v := .int .i64 (-1 : Int)) Try.results25 rfl rfl ?_
      exact ⟨rfl, hkw_wl⟩
theorem atY_ret (rb : Nat) (np : Int) (all : List PairR) (av : Value) (F : Nat → Prop) (w : World) (hd : RefD w rb np all av F) (k : Key) (i : Nat) (q : PairR) (hi : all[i]? = some q) (hq : q.key = k) (hno : ∀ j p, all[j]? = some p → p.key = k → j = i) (hl : all.length ≤ 4611686018427387903) : Ret Try.prog 25 [.pointer (some ⟨rb, 0, none⟩), .agg #[.int .i64 k.table, .int .i64 k.row]] w fun v w' => v = .int .i64 (i : Nat) ∧ Kp none_ w w' := by
  have hkw : Kp none_ w w := Kp.refl w
  have hb := hd.blk
  have hA := hd.alls
  have hsep := hd.sep
  have hwb := hb.lt
  obtain ⟨aa, ac, rfl, hac⟩ := hA.form
  obtain ⟨ab, ao, ac2, et, hFb, hAt⟩ := hA.at (by have := (List.getElem?_eq_some_iff.1 hi).1; omega)
  simp only [Value.slice.injEq] at et
  obtain ⟨rfl, _, rfl⟩ := et
  have hil := (List.getElem?_eq_some_iff.1 hi).1
  have hab := hsep ab hFb
  refine enterR Try.func25 rfl Try.ntmps25 rfl ?_
  intro g0
  refine seq_ ?_
  refine region_ ?_
  refine wl_box (v := .agg #[.int .i64 k.table, .int .i64 k.row]) rfl rfl ?_
  intro b1 w1 hg1 hk1 hb1
  have ne1_rb : rb ≠ b1 := Nat.ne_of_lt (Nat.lt_of_lt_of_le hb.lt hg1)
  have ne1_ab : ab ≠ b1 := Nat.ne_of_lt (Nat.lt_of_lt_of_le hAt.lt hg1)
  have hb_w1 := hb.keep hk1
  have hAt_w1 := hAt.keep hk1
  have hkw_w1 := hkw.comp hk1 (fun _ _ e => e.elim)
  have hs1 := hk1.size
  refine wl_valE (v := .int .i64 ((0 : Nat) : Int)) rfl (rf_assign rfl) rfl ?_
  refine wl_nil ?_
  refine thn ?_
  refine seq_ ?_
  refine seq_ ?_
  refine region_ ?_
  refine wl_valE (v := .int .i64 ((0 : Nat) : Int)) rfl (rf_assign rfl) rfl ?_
  refine wl_nil ?_
  refine thn ?_
  refine block_ ?_
  refine loop_ (fun lk lf lw => ∃ (g : Nat → Value) (j : Nat), lf = upds g [(0, .pointer (some ⟨rb, 0, none⟩)), (3, .pointer (some ⟨b1, 0, none⟩)), (5, .int .i64 ((j : Nat) : Int))] ∧ j + lk = all.length ∧ j ≤ i ∧ Kp (none_) w1 lw) (all.length) ?_ ?_
  · refine ⟨_, 0, upds_self ⟨rfl, rfl, rfl, trivial⟩, ?_⟩
    exact ⟨by omega, by omega, Kp.refl _⟩
  · intro lk0 lf0 wl hI0
    obtain ⟨gl0, j, rfl, hjk, hji, hkl0⟩ := hI0
    have hb_wl := hb_w1.keep hkl0
    have hAt_wl := hAt_w1.keep hkl0
    have hkw_wl := hkw_w1.comp hkl0 (fun _ _ e => e.elim)
    have hb1_wl := hb1.keep hkl0
    have hsl := hkl0.size
    refine seq_ ?_
    refine seq_ ?_
    refine region_ ?_
    refine wl_valE (v := .int .i64 ((j : Nat) : Int)) rfl (rf_move rfl) rfl ?_
    refine wl_valE (v := .pointer (some ⟨rb, 0, none⟩)) rfl (rf_move rfl) rfl ?_
    refine wl_valE (v := .pointer (some ⟨rb, 0, none⟩)) rfl (rf_nilCheckP rfl rfl) rfl ?_
    refine wl_valE (v := .pointer (some ⟨rb, 1, none⟩)) rfl (rf_fieldAddr Try.underlying48 rfl ti38 rfl rfl) rfl ?_
    refine wl_valE (v := .slice (some ⟨ab, ao, none⟩) all.length ac) rfl (rf_load Try.underlying38 rfl rfl rfl (hb_wl.cell rfl)) rfl ?_
    refine wl_valE (v := .int .i64 ((all.length : Nat) : Int)) rfl (rf_len_slice Try.underlying38 rfl rfl) rfl ?_
    refine wl_valE (v := .bool (decide (((j : Nat) : Int) < ((all.length : Nat) : Int)))) rfl (rf_lss rfl rfl rfl rfl) rfl ?_
    refine wl_nil ?_
    refine thn ?_
    refine cond_ (t := decide (((j : Nat) : Int) < ((all.length : Nat) : Int))) rfl rfl (fun c12 => ?_) (fun c12 => ?_)
    · have c12p := of_decide_eq_true c12
      obtain ⟨p, hp⟩ : ∃ p, all[j]? = some p := ⟨_, List.getElem?_eq_getElem (by omega)⟩
      refine skip_ ?_
      refine thn ?_
      refine seq_ ?_
      refine block_ ?_
      refine seq_ ?_
      refine region_q mixedP (by kernel_rfl) ?_
      refine qt_valE (v := .pointer (some ⟨rb, 0, none⟩)) rfl (fun wq hq => rf_move rfl) rfl ?_
      refine qt_valE (v := .pointer (some ⟨rb, 0, none⟩)) rfl (fun wq hq => rf_nilCheckP rfl rfl) rfl ?_
      refine qt_valE (v := .pointer (some ⟨rb, 1, none⟩)) rfl (fun wq hq => rf_fieldAddr Try.underlying48 rfl ti38 rfl rfl) rfl ?_
      refine qt_valE (v := .slice (some ⟨ab, ao, none⟩) all.length ac) rfl (fun wq hq => rf_load Try.underlying38 rfl rfl rfl ((hb_wl.keep hq).cell rfl)) rfl ?_
      refine qt_valE (v := .int .i64 ((j : Nat) : Int)) rfl (fun wq hq => rf_move rfl) rfl ?_
      refine qt_valE (v := .pointer (some ⟨ab, ao + j * 4, none⟩)) rfl (fun wq hq => rf_indexAddr Try.underlying38 ti57 rfl rfl rfl rfl (by omega) (by omega)) rfl ?_
      refine qt_valE (v := .pointer (some ⟨ab, ao + j * 4, none⟩)) rfl (fun wq hq => rf_fieldAddr Try.underlying57 rfl ti28 rfl rfl) rfl ?_
      refine qt_valE (v := .agg #[.int .i64 p.key.table, .int .i64 p.key.row]) rfl (fun wq hq => rf_loadAgg Try.underlying28 rfl ti28 rfl rfl (fun j u hj => hq.cell ((el_sub (hAt_wl.cell hp) 0 2) j u hj) (fun h => h)) rfl) rfl ?_
      refine qt_valE (v := .agg #[.int .i64 k.table, .int .i64 k.row]) rfl (fun wq hq => rf_loadBlk Try.underlying28 rfl ti28 rfl rfl (hb1_wl.keep hq) (Nat.le_of_ble_eq_true rfl)) rfl ?_
      refine qt_valE (v := .bool (decide (p.key = k))) rfl (fun wq hq => rf_eqlS (by kernel_rfl) (eqKey p.key k _) rfl rfl rfl rfl) rfl ?_
      refine qt_nil ?_
      intro w2 hk2
      have hb_w2 := hb_wl.keep hk2
      have hAt_w2 := hAt_wl.keep hk2
      have hkw_w2 := hkw_wl.comp hk2 (fun _ _ e => e.elim)
      have hb1_w2 := hb1_wl.keep hk2
      have hkl0_w2 := hkl0.comp hk2 (fun _ _ e => e.elim)
      have hs2 := hk2.size
      refine thn ?_
      refine cond_ (t := decide (p.key = k)) rfl rfl (fun c24 => ?_) (fun c24 => ?_)
      · have c24p := of_decide_eq_true c24
        refine seq_ ?_
        refine region_ ?_
        refine wl_valE (v := .int .i64 ((j : Nat) : Int)) rfl (rf_move rfl) rfl ?_
        refine wl_valE (v := .int .i64 ((j : Nat) : Int)) rfl (rf_assign rfl) rfl ?_
        refine wl_nil ?_
        refine thn ?_
        refine ret_ ?_
        refine blr (thr (thr (blr (thr ?_))))
        refine fin1 (v := .int .i64 ((j : Nat) : Int)) Try.results25 rfl rfl ?_
        exact ⟨by rw [hno j p hp c24p], hkw_w2⟩
      · have c24p := of_decide_eq_false c24
        refine skip_ ?_
        refine bln ?_
        refine thn ?_
        refine region_ ?_
        refine wl_valE (v := .int .i64 ((j : Nat) : Int)) rfl (rf_move rfl) rfl ?_
        refine wl_valE (v := .int .i64 ((j + 1 : Nat) : Int)) rfl (rf_add rfl rfl rfl rfl (IntWalk.i64_in _ (by omega))) rfl ?_
        refine wl_valE (v := .int .i64 ((j + 1 : Nat) : Int)) rfl (rf_assign rfl) rfl ?_
        refine wl_nil ?_
        refine thn ?_
        refine ⟨lk0 - 1, _, rfl, (by omega), _, j + 1, upds_self ⟨rfl, rfl, rfl, trivial⟩, ?_⟩
        refine ⟨by omega, ?_, hkl0_w2⟩
        rcases Nat.lt_or_eq_of_le hji with h | h
        · omega
        · subst h; rw [hi] at hp; cases hp; exact absurd hq c24p
    · have c12p := of_decide_eq_false c12
      omega
theorem refGetN_ret (rb : Nat) (np : Int) (all : List PairR) (av : Value) (F : Nat → Prop) (w : World) (hd : RefD w rb np all av F) (k : Key) (hno : ∀ p ∈ all, p.key ≠ k) (hl : all.length ≤ 2932031007401) : Ret Try.prog 16 [.pointer (some ⟨rb, 0, none⟩), .agg #[.int .i64 k.table, .int .i64 k.row]] w fun v w' => v = .tuple #[.int .i64 0, .bool false] ∧ Kp none_ w w' := by
  have hkw : Kp none_ w w := Kp.refl w
  have hb := hd.blk
  have hA := hd.alls
  have hsep := hd.sep
  have hwb := hb.lt
  obtain ⟨aa, ac, rfl, hac⟩ := hA.form
  have hdd := hd
  refine enterR Try.func16 rfl Try.ntmps16 rfl ?_
  intro g0
  refine seq_ ?_
  refine region_ ?_
  refine wl_box (v := .agg #[.int .i64 k.table, .int .i64 k.row]) rfl rfl ?_
  intro b1 w1 hg1 hk1 hb1
  have ne1_rb : rb ≠ b1 := Nat.ne_of_lt (Nat.lt_of_lt_of_le hb.lt hg1)
  have hb_w1 := hb.keep hk1
  have hdd_w1 := hdd.keep hk1
  have hkw_w1 := hkw.comp hk1 (fun _ _ e => e.elim)
  have hs1 := hk1.size
  refine wl_valE (v := .int .i64 ((0 : Nat) : Int)) rfl (rf_assign rfl) rfl ?_
  refine wl_valE (v := .bool false) rfl (rf_assign rfl) rfl ?_
  refine wl_nil ?_
  refine thn ?_
  refine seq_ ?_
  refine region_ ?_
  refine wl_valE (v := .pointer (some ⟨rb, 0, none⟩)) rfl (rf_move rfl) rfl ?_
  refine wl_valE (v := .agg #[.int .i64 k.table, .int .i64 k.row]) rfl (rf_loadBlk Try.underlying28 rfl ti28 rfl rfl hb1 (Nat.le_of_ble_eq_true rfl)) rfl ?_
  refine wl_ret rfl (atN_ret rb np all _ F w1 hdd_w1 k hno (by omega)) (rf_call Try.call25 rfl rfl) ?_
  rintro _ w2 ⟨rfl, hk2⟩
  have hb_w2 := hb_w1.keep hk2
  have hdd_w2 := hdd_w1.keep hk2
  have hkw_w2 := hkw_w1.comp hk2 (fun _ _ e => e.elim)
  have hb1_w2 := hb1.keep hk2
  have hs2 := hk2.size
  refine wl_valE (v := .int .i64 (-1)) rfl (rf_assign rfl) rfl ?_
  refine wl_nil ?_
  refine thn ?_
  refine seq_ ?_
  refine seq_ ?_
  refine region_ ?_
  refine wl_valE (v := .int .i64 (-1)) rfl (rf_move rfl) rfl ?_
  refine wl_valE (v := .bool true) rfl (rf_lss rfl rfl rfl rfl) (congrArg Value.bool (decide_eq_true (by decide))) ?_
  refine wl_nil ?_
  refine thn ?_
  refine condT rfl rfl ?_
  refine seq_ ?_
  refine region_ ?_
  refine wl_valE (v := .int .i64 ((0 : Nat) : Int)) rfl (rf_assign rfl) rfl ?_
  refine wl_valE (v := .bool false) rfl (rf_assign rfl) rfl ?_
  refine wl_nil ?_
  refine thn ?_
  refine ret_ ?_
  refine thr ?_
  refine fin2 (v1 := .int .i64 ((0 : Nat) : Int)) (v2 := .bool false) Try.results16 rfl rfl rfl rfl ?_
  exact ⟨rfl, hkw_w2⟩
theorem refGetY_ret (rb : Nat) (np : Int) (all : List PairR) (av : Value) (F : Nat → Prop) (w : World) (hd : RefD w rb np all av F) (k : Key) (i : Nat) (q : PairR) (hi : all[i]? = some q) (hq : q.key = k) (hno : ∀ j p, all[j]? = some p → p.key = k → j = i) (hl : all.length ≤ 2932031007401) : Ret Try.prog 16 [.pointer (some ⟨rb, 0, none⟩), .agg #[.int .i64 k.table, .int .i64 k.row]] w fun v w' => v = .tuple #[.int .i64 q.value, .bool true] ∧ Kp none_ w w' := by
  have hkw : Kp none_ w w := Kp.refl w
  have hb := hd.blk
  have hA := hd.alls
  have hsep := hd.sep
  have hwb := hb.lt
  obtain ⟨aa, ac, rfl, hac⟩ := hA.form
  have hdd := hd
  obtain ⟨ab, ao, ac2, et, hFb, hAt⟩ := hA.at (by have := (List.getElem?_eq_some_iff.1 hi).1; omega)
  simp only [Value.slice.injEq] at et
  obtain ⟨rfl, _, rfl⟩ := et
  have hil := (List.getElem?_eq_some_iff.1 hi).1
  have hab := hsep ab hFb
  refine enterR Try.func16 rfl Try.ntmps16 rfl ?_
  intro g0
  refine seq_ ?_
  refine region_ ?_
  refine wl_box (v := .agg #[.int .i64 k.table, .int .i64 k.row]) rfl rfl ?_
  intro b1 w1 hg1 hk1 hb1
  have ne1_rb : rb ≠ b1 := Nat.ne_of_lt (Nat.lt_of_lt_of_le hb.lt hg1)
  have ne1_ab : ab ≠ b1 := Nat.ne_of_lt (Nat.lt_of_lt_of_le hAt.lt hg1)
  have hb_w1 := hb.keep hk1
  have hAt_w1 := hAt.keep hk1
  have hdd_w1 := hdd.keep hk1
  have hkw_w1 := hkw.comp hk1 (fun _ _ e => e.elim)
  have hs1 := hk1.size
  refine wl_valE (v := .int .i64 ((0 : Nat) : Int)) rfl (rf_assign rfl) rfl ?_
  refine wl_valE (v := .bool false) rfl (rf_assign rfl) rfl ?_
  refine wl_nil ?_
  refine thn ?_
  refine seq_ ?_
  refine region_ ?_
  refine wl_valE (v := .pointer (some ⟨rb, 0, none⟩)) rfl (rf_move rfl) rfl ?_
  refine wl_valE (v := .agg #[.int .i64 k.table, .int .i64 k.row]) rfl (rf_loadBlk Try.underlying28 rfl ti28 rfl rfl hb1 (Nat.le_of_ble_eq_true rfl)) rfl ?_
  refine wl_ret rfl (atY_ret rb np all _ F w1 hdd_w1 k i q hi hq hno (by omega)) (rf_call Try.call25 rfl rfl) ?_
  rintro _ w2 ⟨rfl, hk2⟩
  have hb_w2 := hb_w1.keep hk2
  have hAt_w2 := hAt_w1.keep hk2
  have hdd_w2 := hdd_w1.keep hk2
  have hkw_w2 := hkw_w1.comp hk2 (fun _ _ e => e.elim)
  have hb1_w2 := hb1.keep hk2
  have hs2 := hk2.size
  refine wl_valE (v := .int .i64 ((i : Nat) : Int)) rfl (rf_assign rfl) rfl ?_
  refine wl_nil ?_
  refine thn ?_
  refine seq_ ?_
  refine seq_ ?_
  refine region_ ?_
  refine wl_valE (v := .int .i64 ((i : Nat) : Int)) rfl (rf_move rfl) rfl ?_
  refine wl_valE (v := .bool false) rfl (rf_lss rfl rfl rfl rfl) (congrArg Value.bool (decide_eq_false (by omega))) ?_
  refine wl_nil ?_
  refine thn ?_
  refine condF rfl rfl ?_
  refine skip_ ?_
  refine thn ?_
  refine seq_ ?_
  refine region_ ?_
  refine wl_valE (v := .pointer (some ⟨rb, 0, none⟩)) rfl (rf_move rfl) rfl ?_
  refine wl_valE (v := .pointer (some ⟨rb, 0, none⟩)) rfl (rf_nilCheckP rfl rfl) rfl ?_
  refine wl_valE (v := .pointer (some ⟨rb, 1, none⟩)) rfl (rf_fieldAddr Try.underlying48 rfl ti38 rfl rfl) rfl ?_
  refine wl_valE (v := .slice (some ⟨ab, ao, none⟩) all.length ac) rfl (rf_load Try.underlying38 rfl rfl rfl (hb_w2.cell rfl)) rfl ?_
  refine wl_valE (v := .int .i64 ((i : Nat) : Int)) rfl (rf_move rfl) rfl ?_
  refine wl_valE (v := .pointer (some ⟨ab, ao + i * 4, none⟩)) rfl (rf_indexAddr Try.underlying38 ti57 rfl rfl rfl rfl (by omega) (by omega)) rfl ?_
  refine wl_valE (v := .pointer (some ⟨ab, ao + i * 4 + 2, none⟩)) rfl (rf_fieldAddr Try.underlying57 rfl ti2 rfl rfl) rfl ?_
  refine wl_valE (v := .int .i64 q.value) rfl (rf_load Try.underlying2 rfl rfl rfl ((hAt_w2.cell hi 2 _ rfl))) rfl ?_
  refine wl_valE (v := .int .i64 q.value) rfl (rf_assign rfl) rfl ?_
  refine wl_valE (v := .bool true) rfl (rf_assign rfl) rfl ?_
  refine wl_nil ?_
  refine thn ?_
  refine ret_ ?_
  refine fin2 (v1 := .int .i64 q.value) (v2 := .bool true) Try.results16 rfl rfl rfl rfl ?_
  exact ⟨rfl, hkw_w2⟩
theorem refPutN_ret (rb : Nat) (np : Int) (all : List PairR) (av : Value) (F : Nat → Prop) (w : World) (hd : RefD w rb np all av F) (k : Key) (hno : ∀ p ∈ all, p.key ≠ k) (hl : all.length ≤ 2932031007401) (v : Int) (hs m : Nat) (hm : np = (m : Int)) (hm0 : 0 < m) (hm2 : m ≤ 256) : Ret Try.prog 14 [.pointer (some ⟨rb, 0, none⟩), .agg #[.int .i64 k.table, .int .i64 k.row], .int .i64 v, .int .u64 ((hs : Nat) : Int)] w fun v_ w' => v_ = .tuple #[.int .i64 0, .bool false] ∧ ∃ av' F', RefD w' rb np (all ++ [⟨k, v, ((hs % m : Nat) : Int)⟩]) av' F' ∧ (∀ y, F' y → F y ∨ w.heap.size ≤ y) ∧ Kp (fun y => y = rb ∨ F y) w w' := by
  subst hm
  have hmm := Nat.mod_lt hs hm0
  have hkT : Kp (fun y => y = rb ∨ F y) w w := Kp.refl w
  have hb := hd.blk
  have hA := hd.alls
  have hsep := hd.sep
  have hwb := hb.lt
  obtain ⟨aa, ac, rfl, hac⟩ := hA.form
  have hdd := hd
  refine enterR Try.func14 rfl Try.ntmps14 rfl ?_
  intro g0
  refine seq_ ?_
  refine region_ ?_
  refine wl_box (v := .agg #[.int .i64 k.table, .int .i64 k.row]) rfl rfl ?_
  intro b1 w1 hg1 hk1 hb1
  have ne1_rb : rb ≠ b1 := Nat.ne_of_lt (Nat.lt_of_lt_of_le hb.lt hg1)
  have hb_w1 := hb.keep hk1
  have hA_w1 := hA.keep hk1
  have hdd_w1 := hdd.keep hk1
  have hkT_w1 := hkT.comp hk1 (fun _ _ e => e.elim)
  have hs1 := hk1.size
  refine wl_valE (v := .int .i64 ((0 : Nat) : Int)) rfl (rf_assign rfl) rfl ?_
  refine wl_valE (v := .bool false) rfl (rf_assign rfl) rfl ?_
  refine wl_nil ?_
  refine thn ?_
  refine seq_ ?_
  refine region_ ?_
  refine wl_valE (v := .pointer (some ⟨rb, 0, none⟩)) rfl (rf_move rfl) rfl ?_
  refine wl_valE (v := .agg #[.int .i64 k.table, .int .i64 k.row]) rfl (rf_loadBlk Try.underlying28 rfl ti28 rfl rfl hb1 (Nat.le_of_ble_eq_true rfl)) rfl ?_
  refine wl_ret rfl (atN_ret rb _ all _ F w1 hdd_w1 k hno (by omega)) (rf_call Try.call25 rfl rfl) ?_
  rintro _ w2 ⟨rfl, hk2⟩
  have hb_w2 := hb_w1.keep hk2
  have hA_w2 := hA_w1.keep hk2
  have hdd_w2 := hdd_w1.keep hk2
  have hkT_w2 := hkT_w1.comp hk2 (fun _ _ e => e.elim)
  have hb1_w2 := hb1.keep hk2
  have hs2 := hk2.size
  refine wl_valE (v := .int .i64 (-1)) rfl (rf_assign rfl) rfl ?_
  refine wl_nil ?_
  refine thn ?_
  refine seq_ ?_
  refine seq_ ?_
  refine region_ ?_
  refine wl_valE (v := .int .i64 (-1)) rfl (rf_move rfl) rfl ?_
  refine wl_valE (v := .bool true) rfl (rf_lss rfl rfl rfl rfl) (congrArg Value.bool (decide_eq_true (by decide))) ?_
  refine wl_nil ?_
  refine thn ?_
  refine condT rfl rfl ?_
  refine seq_ ?_
  obtain ⟨WA, hWA⟩ : ∃ n, n = w2.heap.size := ⟨_, rfl⟩
  refine region_v 20 (fun wq => Kp (F) w2 wq) mixedP (by kernel_rfl) ?_
  intro w3 hk3
  have hb_w3 := hb_w2.keep hk3
  have hA_w3 := hA_w2.keep hk3
  have hkT_w3 := hkT_w2.comp hk3 (fun _ _ e => e.elim)
  have hb1_w3 := hb1_w2.keep hk3
  have hs3 := hk3.size
  have hS3 : Kp (F) w2 w3 := hk3.of_none
  refine vh_take (i := 0) (v := .pointer (some ⟨rb, 0, none⟩)) rfl rfl (by kernel_rfl) (by kernel_rfl) (by kernel_rfl) hS3 rfl (fun wq hq => rf_move rfl) rfl ?_
  refine vh_take (i := 1) (v := .pointer (some ⟨rb, 0, none⟩)) rfl rfl (by kernel_rfl) (by kernel_rfl) (by kernel_rfl) hS3 rfl (fun wq hq => rf_move rfl) rfl ?_
  refine vh_take (i := 2) (v := .pointer (some ⟨rb, 0, none⟩)) rfl rfl (by kernel_rfl) (by kernel_rfl) (by kernel_rfl) hS3 rfl (fun wq hq => rf_nilCheckP rfl rfl) rfl ?_
  refine vh_take (i := 3) (v := .pointer (some ⟨rb, 1, none⟩)) rfl rfl (by kernel_rfl) (by kernel_rfl) (by kernel_rfl) hS3 rfl (fun wq hq => rf_fieldAddr Try.underlying48 rfl ti38 rfl rfl) rfl ?_
  refine vh_take (i := 4) (v := .slice aa all.length ac) rfl rfl (by kernel_rfl) (by kernel_rfl) (by kernel_rfl) hS3 rfl (fun wq hq => rf_load Try.underlying38 rfl rfl rfl ((hb_w2.kp hq (fun e => (hsep _ e).1 rfl)).cell rfl)) rfl ?_
  refine vh_take (i := 5) (v := .agg #[.int .i64 k.table, .int .i64 k.row]) rfl rfl (by kernel_rfl) (by kernel_rfl) (by kernel_rfl) hS3 rfl (fun wq hq => rf_loadBlk Try.underlying28 rfl ti28 rfl rfl (hb1_w2.kp hq (fun e => by have := hsep _ e; omega)) (Nat.le_of_ble_eq_true rfl)) rfl ?_
  refine vh_take (i := 6) (v := .int .i64 v) rfl rfl (by kernel_rfl) (by kernel_rfl) (by kernel_rfl) hS3 rfl (fun wq hq => rf_move rfl) rfl ?_
  refine vh_take (i := 7) (v := .int .u64 ((hs : Nat) : Int)) rfl rfl (by kernel_rfl) (by kernel_rfl) (by kernel_rfl) hS3 rfl (fun wq hq => rf_move rfl) rfl ?_
  refine vh_take (i := 8) (v := .pointer (some ⟨rb, 0, none⟩)) rfl rfl (by kernel_rfl) (by kernel_rfl) (by kernel_rfl) hS3 rfl (fun wq hq => rf_move rfl) rfl ?_
  refine vh_take (i := 9) (v := .pointer (some ⟨rb, 0, none⟩)) rfl rfl (by kernel_rfl) (by kernel_rfl) (by kernel_rfl) hS3 rfl (fun wq hq => rf_nilCheckP rfl rfl) rfl ?_
  refine vh_take (i := 10) (v := .pointer (some ⟨rb, 0, none⟩)) rfl rfl (by kernel_rfl) (by kernel_rfl) (by kernel_rfl) hS3 rfl (fun wq hq => rf_fieldAddr Try.underlying48 rfl ti3 rfl rfl) rfl ?_
  refine vh_take (i := 11) (v := .int .i64 ((m : Nat) : Int)) rfl rfl (by kernel_rfl) (by kernel_rfl) (by kernel_rfl) hS3 rfl (fun wq hq => rf_load Try.underlying3 rfl rfl rfl ((hb_w2.kp hq (fun e => (hsep _ e).1 rfl)).cell rfl)) rfl ?_
  refine vh_take (i := 12) (v := .int .u64 ((m : Nat) : Int)) rfl rfl (by kernel_rfl) (by kernel_rfl) (by kernel_rfl) hS3 rfl (fun wq hq => rf_conv Try.underlying3 Try.underlying36 rfl rfl (IntWalk.u64_in _ (by omega))) rfl ?_
  refine vh_take (i := 13) (v := .int .u64 ((hs % m : Nat) : Int)) rfl rfl (by kernel_rfl) (by kernel_rfl) (by kernel_rfl) hS3 rfl (fun wq hq => rf_rem rfl rfl rfl rfl (by omega) (tmodN _ _)) rfl ?_
  refine vh_take (i := 14) (v := .int .i64 ((hs % m : Nat) : Int)) rfl rfl (by kernel_rfl) (by kernel_rfl) (by kernel_rfl) hS3 rfl (fun wq hq => rf_conv Try.underlying36 Try.underlying3 rfl rfl (IntWalk.i64_in _ (by omega))) rfl ?_
  refine vh_take (i := 15) (v := .agg #[.int .i64 k.table, .int .i64 k.row, .int .i64 v, .int .i64 ((hs % m : Nat) : Int)]) rfl rfl (by kernel_rfl) (by kernel_rfl) (by kernel_rfl) hS3 rfl (fun wq hq => rf_build (offs := [(0, [.int .i64 k.table, .int .i64 k.row]), (2, [.int .i64 v]), (3, [.int .i64 ((hs % m : Nat) : Int)])]) (places := #[(0, 2), (2, 1), (3, 1)]) Try.underlying57 ti57 (fun w => by kernel_rfl) (.cons rfl rfl rfl rfl rfl rfl (.cons rfl rfl rfl rfl rfl rfl (.cons rfl rfl rfl rfl rfl rfl .nil)))) rfl ?_
  refine vh_one (i := 16) (by kernel_rfl) rfl rfl ?_
  refine wl_buildSlice (css := [[.int .i64 k.table, .int .i64 k.row, .int .i64 v, .int .i64 ((hs % m : Nat) : Int)]]) Try.underlying38 ti57 rfl rfl rfl (.cons rfl rfl rfl rfl rfl rfl .nil) (by simp) ?_
  intro b4 w4 hg4 hk4 hb4
  have ne4_rb : rb ≠ b4 := Nat.ne_of_lt (Nat.lt_of_lt_of_le hb_w3.lt hg4)
  have ne4_b1 : b1 ≠ b4 := Nat.ne_of_lt (Nat.lt_of_lt_of_le hb1_w3.lt hg4)
  have hb_w4 := hb_w3.keep hk4
  have hA_w4 := hA_w3.keep hk4
  have hkT_w4 := hkT_w3.comp hk4 (fun _ _ e => e.elim)
  have hb1_w4 := hb1_w3.keep hk4
  have hS_w4 := hS3.comp hk4 (fun _ _ e => e.elim)
  have hs4 := hk4.size
  refine wl_nil ?_
  refine vh_back hS_w4 ?_
  refine vh_one (i := 17) (by kernel_rfl) rfl rfl ?_
  refine wl_append encPair_len encPair_one Try.underlying38 ti57 rfl rfl rfl rfl rfl (hA_w4) ((SlAt.of_blk (l := [(⟨k, v, ((hs % m : Nat) : Int)⟩ : PairR)]) encPair_len (by simp) hb4).rd (F := fun b => b = b4) rfl) (by simp; omega) (by simp; omega) ?_
  intro v5 w5 hk5 ha5
  have hb_w5 := hb_w4.kp hk5 (fun e => (hsep _ e).1 rfl)
  have hkT_w5 := hkT_w4.comp hk5 (fun y hy e => .inr e)
  have hb1_w5 := hb1_w4.kp hk5 (fun e => by have := hsep _ e; omega)
  have hS_w5 := hS_w4.comp hk5 (fun y hy e => e)
  have hs5 := hk5.size
  refine wl_nil ?_
  refine vh_back hS_w5 ?_
  refine vh_take (i := 18) (v := .pointer (some ⟨rb, 0, none⟩)) rfl rfl (by kernel_rfl) (by kernel_rfl) (by kernel_rfl) hS_w5 rfl (fun wq hq => rf_nilCheckP rfl rfl) rfl ?_
  refine vh_take (i := 19) (v := .pointer (some ⟨rb, 1, none⟩)) rfl rfl (by kernel_rfl) (by kernel_rfl) (by kernel_rfl) hS_w5 rfl (fun wq hq => rf_fieldAddr Try.underlying48 rfl ti38 rfl rfl) rfl ?_
  refine vh_last (by kernel_rfl) (by kernel_rfl) rfl ?_
  refine wl_store (b := rb) (o := 1) (v := v5) ti38 rfl rfl rfl rfl (by obtain ⟨_, _, e, _⟩ := ha5.form; rw [e]; rfl) hb_w5 (by first | decide | exact Nat.le_of_ble_eq_true rfl | simp) ?_
  intro w6 hk6 hb6
  have hkT_w6 := hkT_w5.comp hk6 (fun y hy e => .inl e)
  have hb1_w6 := hb1_w5.kp hk6 (Ne.symm ne1_rb)
  have hA9_w6 := ha5.kp hk6 (fun y hy e => hy.elim (fun h => (hsep y h).1 e) (fun h => by omega))
  have hs6 := hk6.size
  refine wl_nil ?_
  refine vh_end ?_
  refine thn ?_
  refine seq_ ?_
  refine region_ ?_
  refine wl_valE (v := .int .i64 ((0 : Nat) : Int)) rfl (rf_assign rfl) rfl ?_
  refine wl_valE (v := .bool false) rfl (rf_assign rfl) rfl ?_
  refine wl_nil ?_
  refine thn ?_
  refine ret_ ?_
  refine thr ?_
  refine fin2 (v1 := .int .i64 ((0 : Nat) : Int)) (v2 := .bool false) Try.results14 rfl rfl rfl rfl ?_
  have h9 := hA9_w6.tight
  exact ⟨rfl, _, _, ⟨hb6, h9, fun y hy => ⟨hy.1.elim (fun h => (hsep y h).1) (fun h => by omega), hy.2⟩⟩, fun y hy => hy.1.elim .inl (fun h => .inr (by omega)), hkT_w6⟩
theorem refPutY_ret (rb : Nat) (np : Int) (all : List PairR) (av : Value) (F : Nat → Prop) (w : World) (hd : RefD w rb np all av F) (k : Key) (i : Nat) (q : PairR) (hi : all[i]? = some q) (hq : q.key = k) (hno : ∀ j p, all[j]? = some p → p.key = k → j = i) (hl : all.length ≤ 2932031007401) (v : Int) (hs : Nat) : Ret Try.prog 14 [.pointer (some ⟨rb, 0, none⟩), .agg #[.int .i64 k.table, .int .i64 k.row], .int .i64 v, .int .u64 ((hs : Nat) : Int)] w fun v_ w' => v_ = .tuple #[.int .i64 q.value, .bool true] ∧ ∃ av' F', RefD w' rb np (all.set i { q with value := v }) av' F' ∧ (∀ y, F' y → F y ∨ w.heap.size ≤ y) ∧ Kp (fun y => y = rb ∨ F y) w w' := by
  have hkT : Kp (fun y => y = rb ∨ F y) w w := Kp.refl w
  have hb := hd.blk
  have hA := hd.alls
  have hsep := hd.sep
  have hwb := hb.lt
  obtain ⟨aa, ac, rfl, hac⟩ := hA.form
  have hdd := hd
  obtain ⟨ab, ao, ac2, et, hFb, hAt⟩ := hA.at (by have := (List.getElem?_eq_some_iff.1 hi).1; omega)
  simp only [Value.slice.injEq] at et
  obtain ⟨rfl, _, rfl⟩ := et
  have hil := (List.getElem?_eq_some_iff.1 hi).1
  have hab := hsep ab hFb
  refine enterR Try.func14 rfl Try.ntmps14 rfl ?_
  intro g0
  refine seq_ ?_
  refine region_ ?_
  refine wl_box (v := .agg #[.int .i64 k.table, .int .i64 k.row]) rfl rfl ?_
  intro b1 w1 hg1 hk1 hb1
  have ne1_rb : rb ≠ b1 := Nat.ne_of_lt (Nat.lt_of_lt_of_le hb.lt hg1)
  have ne1_ab : ab ≠ b1 := Nat.ne_of_lt (Nat.lt_of_lt_of_le hAt.lt hg1)
  have hb_w1 := hb.keep hk1
  have hAt_w1 := hAt.keep hk1
  have hdd_w1 := hdd.keep hk1
  have hkT_w1 := hkT.comp hk1 (fun _ _ e => e.elim)
  have hs1 := hk1.size
  refine wl_valE (v := .int .i64 ((0 : Nat) : Int)) rfl (rf_assign rfl) rfl ?_
  refine wl_valE (v := .bool false) rfl (rf_assign rfl) rfl ?_
  refine wl_nil ?_
  refine thn ?_
  refine seq_ ?_
  refine region_ ?_
  refine wl_valE (v := .pointer (some ⟨rb, 0, none⟩)) rfl (rf_move rfl) rfl ?_
  refine wl_valE (v := .agg #[.int .i64 k.table, .int .i64 k.row]) rfl (rf_loadBlk Try.underlying28 rfl ti28 rfl rfl hb1 (Nat.le_of_ble_eq_true rfl)) rfl ?_
  refine wl_ret rfl (atY_ret rb np all _ F w1 hdd_w1 k i q hi hq hno (by omega)) (rf_call Try.call25 rfl rfl) ?_
  rintro _ w2 ⟨rfl, hk2⟩
  have hb_w2 := hb_w1.keep hk2
  have hAt_w2 := hAt_w1.keep hk2
  have hdd_w2 := hdd_w1.keep hk2
  have hkT_w2 := hkT_w1.comp hk2 (fun _ _ e => e.elim)
  have hb1_w2 := hb1.keep hk2
  have hs2 := hk2.size
  refine wl_valE (v := .int .i64 ((i : Nat) : Int)) rfl (rf_assign rfl) rfl ?_
  refine wl_nil ?_
  refine thn ?_
  refine seq_ ?_
  refine seq_ ?_
  refine region_ ?_
  refine wl_valE (v := .int .i64 ((i : Nat) : Int)) rfl (rf_move rfl) rfl ?_
  refine wl_valE (v := .bool false) rfl (rf_lss rfl rfl rfl rfl) (congrArg Value.bool (decide_eq_false (by omega))) ?_
  refine wl_nil ?_
  refine thn ?_
  refine condF rfl rfl ?_
  refine skip_ ?_
  refine thn ?_
  refine seq_ ?_
  refine region_ ?_
  refine wl_valE (v := .pointer (some ⟨rb, 0, none⟩)) rfl (rf_move rfl) rfl ?_
  refine wl_valE (v := .pointer (some ⟨rb, 0, none⟩)) rfl (rf_nilCheckP rfl rfl) rfl ?_
  refine wl_valE (v := .pointer (some ⟨rb, 1, none⟩)) rfl (rf_fieldAddr Try.underlying48 rfl ti38 rfl rfl) rfl ?_
  refine wl_valE (v := .slice (some ⟨ab, ao, none⟩) all.length ac) rfl (rf_load Try.underlying38 rfl rfl rfl (hb_w2.cell rfl)) rfl ?_
  refine wl_valE (v := .int .i64 ((i : Nat) : Int)) rfl (rf_move rfl) rfl ?_
  refine wl_valE (v := .pointer (some ⟨ab, ao + i * 4, none⟩)) rfl (rf_indexAddr Try.underlying38 ti57 rfl rfl rfl rfl (by omega) (by omega)) rfl ?_
  refine wl_valE (v := .pointer (some ⟨ab, ao + i * 4 + 2, none⟩)) rfl (rf_fieldAddr Try.underlying57 rfl ti2 rfl rfl) rfl ?_
  refine wl_valE (v := .int .i64 q.value) rfl (rf_load Try.underlying2 rfl rfl rfl ((hAt_w2.cell hi 2 _ rfl))) rfl ?_
  refine wl_valE (v := .int .i64 q.value) rfl (rf_assign rfl) rfl ?_
  refine wl_nil ?_
  refine thn ?_
  refine seq_ ?_
  refine region_ ?_
  refine wl_valE (v := .pointer (some ⟨rb, 0, none⟩)) rfl (rf_move rfl) rfl ?_
  refine wl_valE (v := .pointer (some ⟨rb, 0, none⟩)) rfl (rf_nilCheckP rfl rfl) rfl ?_
  refine wl_valE (v := .pointer (some ⟨rb, 1, none⟩)) rfl (rf_fieldAddr Try.underlying48 rfl ti38 rfl rfl) rfl ?_
  refine wl_valE (v := .slice (some ⟨ab, ao, none⟩) all.length ac) rfl (rf_load Try.underlying38 rfl rfl rfl (hb_w2.cell rfl)) rfl ?_
  refine wl_valE (v := .int .i64 ((i : Nat) : Int)) rfl (rf_move rfl) rfl ?_
  refine wl_valE (v := .int .i64 v) rfl (rf_move rfl) rfl ?_
  refine wl_valE (v := .pointer (some ⟨ab, ao + i * 4, none⟩)) rfl (rf_indexAddr Try.underlying38 ti57 rfl rfl rfl rfl (by omega) (by omega)) rfl ?_
  refine wl_valE (v := .pointer (some ⟨ab, ao + i * 4 + 2, none⟩)) rfl (rf_fieldAddr Try.underlying57 rfl ti2 rfl rfl) rfl ?_
  refine wl_storeEl (i := i) (j := 2) (q := ({ q with value := v } : PairR)) (u := .int .i64 v) (c := [.int .i64 v]) encPair_len ti2 rfl rfl rfl (by simp) rfl rfl rfl (by simp [Value.oneCell']) hAt_w2 hi (Nat.le_of_ble_eq_true rfl) rfl ?_
  intro w3 hk3 ha3
  have hb_w3 := hb_w2.kp hk3 (fun e => hab.1 e.symm)
  have hkT_w3 := hkT_w2.comp hk3 (fun y hy e => .inr (e ▸ hFb))
  have hb1_w3 := hb1_w2.kp hk3 (Ne.symm ne1_ab)
  have hs3 := hk3.size
  refine wl_nil ?_
  refine thn ?_
  refine seq_ ?_
  refine region_ ?_
  refine wl_valE (v := .int .i64 q.value) rfl (rf_move rfl) rfl ?_
  refine wl_valE (v := .int .i64 q.value) rfl (rf_assign rfl) rfl ?_
  refine wl_valE (v := .bool true) rfl (rf_assign rfl) rfl ?_
  refine wl_nil ?_
  refine thn ?_
  refine ret_ ?_
  refine fin2 (v1 := .int .i64 q.value) (v2 := .bool true) Try.results14 rfl rfl rfl rfl ?_
  have h9 := (ha3.sl (F := F) hFb)
  rw [List.length_set] at h9
  exact ⟨rfl, _, F, ⟨hb_w3, h9, fun y hy => ⟨(hsep y hy).1, by have := (hsep y hy).2; omega⟩⟩, fun y hy => .inl hy, hkT_w3⟩
theorem refTakeN_ret (rb : Nat) (np : Int) (all : List PairR) (av : Value) (F : Nat → Prop) (w : World) (hd : RefD w rb np all av F) (k : Key) (hno : ∀ p ∈ all, p.key ≠ k) (hl : all.length ≤ 2932031007401) : Ret Try.prog 18 [.pointer (some ⟨rb, 0, none⟩), .agg #[.int .i64 k.table, .int .i64 k.row]] w fun v w' => v = .tuple #[.int .i64 0, .bool false] ∧ Kp none_ w w' := by
  have hkw : Kp none_ w w := Kp.refl w
  have hb := hd.blk
  have hA := hd.alls
  have hsep := hd.sep
  have hwb := hb.lt
  obtain ⟨aa, ac, rfl, hac⟩ := hA.form
  have hdd := hd
  refine enterR Try.func18 rfl Try.ntmps18 rfl ?_
  intro g0
  refine seq_ ?_
  refine region_ ?_
  refine wl_box (v := .agg #[.int .i64 k.table, .int .i64 k.row]) rfl rfl ?_
  intro b1 w1 hg1 hk1 hb1
  have ne1_rb : rb ≠ b1 := Nat.ne_of_lt (Nat.lt_of_lt_of_le hb.lt hg1)
  have hb_w1 := hb.keep hk1
  have hdd_w1 := hdd.keep hk1
  have hkw_w1 := hkw.comp hk1 (fun _ _ e => e.elim)
  have hs1 := hk1.size
  refine wl_valE (v := .int .i64 ((0 : Nat) : Int)) rfl (rf_assign rfl) rfl ?_
  refine wl_valE (v := .bool false) rfl (rf_assign rfl) rfl ?_
  refine wl_nil ?_
  refine thn ?_
  refine seq_ ?_
  refine region_ ?_
  refine wl_valE (v := .pointer (some ⟨rb, 0, none⟩)) rfl (rf_move rfl) rfl ?_
  refine wl_valE (v := .agg #[.int .i64 k.table, .int .i64 k.row]) rfl (rf_loadBlk Try.underlying28 rfl ti28 rfl rfl hb1 (Nat.le_of_ble_eq_true rfl)) rfl ?_
  refine wl_ret rfl (atN_ret rb np all _ F w1 hdd_w1 k hno (by omega)) (rf_call Try.call25 rfl rfl) ?_
  rintro _ w2 ⟨rfl, hk2⟩
  have hb_w2 := hb_w1.keep hk2
  have hdd_w2 := hdd_w1.keep hk2
  have hkw_w2 := hkw_w1.comp hk2 (fun _ _ e => e.elim)
  have hb1_w2 := hb1.keep hk2
  have hs2 := hk2.size
  refine wl_valE (v := .int .i64 (-1)) rfl (rf_assign rfl) rfl ?_
  refine wl_nil ?_
  refine thn ?_
  refine seq_ ?_
  refine seq_ ?_
  refine region_ ?_
  refine wl_valE (v := .int .i64 (-1)) rfl (rf_move rfl) rfl ?_
  refine wl_valE (v := .bool true) rfl (rf_lss rfl rfl rfl rfl) (congrArg Value.bool (decide_eq_true (by decide))) ?_
  refine wl_nil ?_
  refine thn ?_
  refine condT rfl rfl ?_
  refine seq_ ?_
  refine region_ ?_
  refine wl_valE (v := .int .i64 ((0 : Nat) : Int)) rfl (rf_assign rfl) rfl ?_
  refine wl_valE (v := .bool false) rfl (rf_assign rfl) rfl ?_
  refine wl_nil ?_
  refine thn ?_
  refine ret_ ?_
  refine thr ?_
  refine fin2 (v1 := .int .i64 ((0 : Nat) : Int)) (v2 := .bool false) Try.results18 rfl rfl rfl rfl ?_
  exact ⟨rfl, hkw_w2⟩
theorem refTakeY_ret (rb : Nat) (np : Int) (all : List PairR) (av : Value) (F : Nat → Prop) (w : World) (hd : RefD w rb np all av F) (k : Key) (i : Nat) (q : PairR) (hi : all[i]? = some q) (hq : q.key = k) (hno : ∀ j p, all[j]? = some p → p.key = k → j = i) (hl : all.length ≤ 2932031007401) : Ret Try.prog 18 [.pointer (some ⟨rb, 0, none⟩), .agg #[.int .i64 k.table, .int .i64 k.row]] w fun v w' => v = .tuple #[.int .i64 q.value, .bool true] ∧ ∃ av' F', RefD w' rb np (all.eraseIdx i) av' F' ∧ (∀ y, F' y → F y ∨ w.heap.size ≤ y) ∧ Kp (fun y => y = rb ∨ F y) w w' := by
  have hkT : Kp (fun y => y = rb ∨ F y) w w := Kp.refl w
  have hb := hd.blk
  have hA := hd.alls
  have hsep := hd.sep
  have hwb := hb.lt
  obtain ⟨aa, ac, rfl, hac⟩ := hA.form
  have hdd := hd
  obtain ⟨ab, ao, ac2, et, hFb, hAt⟩ := hA.at (by have := (List.getElem?_eq_some_iff.1 hi).1; omega)
  simp only [Value.slice.injEq] at et
  obtain ⟨rfl, _, rfl⟩ := et
  have hil := (List.getElem?_eq_some_iff.1 hi).1
  have hab := hsep ab hFb
  refine enterR Try.func18 rfl Try.ntmps18 rfl ?_
  intro g0
  refine seq_ ?_
  refine region_ ?_
  refine wl_box (v := .agg #[.int .i64 k.table, .int .i64 k.row]) rfl rfl ?_
  intro b1 w1 hg1 hk1 hb1
  have ne1_rb : rb ≠ b1 := Nat.ne_of_lt (Nat.lt_of_lt_of_le hb.lt hg1)
  have ne1_ab : ab ≠ b1 := Nat.ne_of_lt (Nat.lt_of_lt_of_le hAt.lt hg1)
  have hb_w1 := hb.keep hk1
  have hAt_w1 := hAt.keep hk1
  have hdd_w1 := hdd.keep hk1
  have hkT_w1 := hkT.comp hk1 (fun _ _ e => e.elim)
  have hs1 := hk1.size
  refine wl_valE (v := .int .i64 ((0 : Nat) : Int)) rfl (rf_assign rfl) rfl ?_
  refine wl_valE (v := .bool false) rfl (rf_assign rfl) rfl ?_
  refine wl_nil ?_
  refine thn ?_
  refine seq_ ?_
  refine region_ ?_
  refine wl_valE (v := .pointer (some ⟨rb, 0, none⟩)) rfl (rf_move rfl) rfl ?_
  refine wl_valE (v := .agg #[.int .i64 k.table, .int .i64 k.row]) rfl (rf_loadBlk Try.underlying28 rfl ti28 rfl rfl hb1 (Nat.le_of_ble_eq_true rfl)) rfl ?_
  refine wl_ret rfl (atY_ret rb np all _ F w1 hdd_w1 k i q hi hq hno (by omega)) (rf_call Try.call25 rfl rfl) ?_
  rintro _ w2 ⟨rfl, hk2⟩
  have hb_w2 := hb_w1.keep hk2
  have hAt_w2 := hAt_w1.keep hk2
  have hdd_w2 := hdd_w1.keep hk2
  have hkT_w2 := hkT_w1.comp hk2 (fun _ _ e => e.elim)
  have hb1_w2 := hb1.keep hk2
  have hs2 := hk2.size
  refine wl_valE (v := .int .i64 ((i : Nat) : Int)) rfl (rf_assign rfl) rfl ?_
  refine wl_nil ?_
  refine thn ?_
  refine seq_ ?_
  refine seq_ ?_
  refine region_ ?_
  refine wl_valE (v := .int .i64 ((i : Nat) : Int)) rfl (rf_move rfl) rfl ?_
  refine wl_valE (v := .bool false) rfl (rf_lss rfl rfl rfl rfl) (congrArg Value.bool (decide_eq_false (by omega))) ?_
  refine wl_nil ?_
  refine thn ?_
  refine condF rfl rfl ?_
  refine skip_ ?_
  refine thn ?_
  refine seq_ ?_
  refine region_ ?_
  refine wl_valE (v := .pointer (some ⟨rb, 0, none⟩)) rfl (rf_move rfl) rfl ?_
  refine wl_valE (v := .pointer (some ⟨rb, 0, none⟩)) rfl (rf_nilCheckP rfl rfl) rfl ?_
  refine wl_valE (v := .pointer (some ⟨rb, 1, none⟩)) rfl (rf_fieldAddr Try.underlying48 rfl ti38 rfl rfl) rfl ?_
  refine wl_valE (v := .slice (some ⟨ab, ao, none⟩) all.length ac) rfl (rf_load Try.underlying38 rfl rfl rfl (hb_w2.cell rfl)) rfl ?_
  refine wl_valE (v := .int .i64 ((i : Nat) : Int)) rfl (rf_move rfl) rfl ?_
  refine wl_valE (v := .pointer (some ⟨ab, ao + i * 4, none⟩)) rfl (rf_indexAddr Try.underlying38 ti57 rfl rfl rfl rfl (by omega) (by omega)) rfl ?_
  refine wl_valE (v := .pointer (some ⟨ab, ao + i * 4 + 2, none⟩)) rfl (rf_fieldAddr Try.underlying57 rfl ti2 rfl rfl) rfl ?_
  refine wl_valE (v := .int .i64 q.value) rfl (rf_load Try.underlying2 rfl rfl rfl ((hAt_w2.cell hi 2 _ rfl))) rfl ?_
  refine wl_valE (v := .int .i64 q.value) rfl (rf_assign rfl) rfl ?_
  refine wl_nil ?_
  refine thn ?_
  refine seq_ ?_
  refine region_ ?_
  refine wl_valE (v := .slice none 0 0) rfl (rf_assign rfl) rfl ?_
  refine wl_nil ?_
  refine thn ?_
  refine seq_ ?_
  refine region_ ?_
  refine wl_valE (v := .slice none 0 0) rfl (rf_move rfl) rfl ?_
  refine wl_valE (v := .pointer (some ⟨rb, 0, none⟩)) rfl (rf_move rfl) rfl ?_
  refine wl_valE (v := .pointer (some ⟨rb, 0, none⟩)) rfl (rf_nilCheckP rfl rfl) rfl ?_
  refine wl_valE (v := .pointer (some ⟨rb, 1, none⟩)) rfl (rf_fieldAddr Try.underlying48 rfl ti38 rfl rfl) rfl ?_
  refine wl_valE (v := .slice (some ⟨ab, ao, none⟩) all.length ac) rfl (rf_load Try.underlying38 rfl rfl rfl (hb_w2.cell rfl)) rfl ?_
  refine wl_valE (v := .int .i64 ((i : Nat) : Int)) rfl (rf_move rfl) rfl ?_
  refine wl_valE (v := .slice (some ⟨ab, ao, none⟩) i ac) rfl (rf_sliceTo (h := i) Try.underlying38 ti57 rfl rfl rfl rfl (by omega)) rfl ?_
  obtain ⟨WA, hWA⟩ : ∃ n, n = w2.heap.size := ⟨_, rfl⟩
  refine wl_append encPair_len encPair_one Try.underlying38 ti57 rfl rfl rfl rfl rfl (Sl.nil w2 (fun _ => False)) ((((hAt_w2.rd (F := F) hFb)).take i (by omega))) (by simp; omega) (by simp; omega) ?_
  intro v3 w3 hk3 ha3
  have hb_w3 := hb_w2.kp hk3 (fun e => e.elim)
  have hAt_w3 := hAt_w2.kp hk3 (fun e => e.elim)
  have hkT_w3 := hkT_w2.comp hk3 (fun y hy e => e.elim)
  have hb1_w3 := hb1_w2.kp hk3 (fun e => e.elim)
  have hs3 := hk3.size
  refine wl_valE (v := v3) rfl (rf_assign rfl) rfl ?_
  refine wl_nil ?_
  refine thn ?_
  refine seq_ ?_
  refine region_ ?_
  refine wl_valE (v := .pointer (some ⟨rb, 0, none⟩)) rfl (rf_move rfl) rfl ?_
  refine wl_valE (v := v3) rfl (rf_move rfl) rfl ?_
  refine wl_valE (v := .pointer (some ⟨rb, 0, none⟩)) rfl (rf_move rfl) rfl ?_
  refine wl_valE (v := .pointer (some ⟨rb, 0, none⟩)) rfl (rf_nilCheckP rfl rfl) rfl ?_
  refine wl_valE (v := .pointer (some ⟨rb, 1, none⟩)) rfl (rf_fieldAddr Try.underlying48 rfl ti38 rfl rfl) rfl ?_
  refine wl_valE (v := .slice (some ⟨ab, ao, none⟩) all.length ac) rfl (rf_load Try.underlying38 rfl rfl rfl (hb_w3.cell rfl)) rfl ?_
  refine wl_valE (v := .int .i64 ((i : Nat) : Int)) rfl (rf_move rfl) rfl ?_
  refine wl_valE (v := .int .i64 ((i + 1 : Nat) : Int)) rfl (rf_add rfl rfl rfl rfl (IntWalk.i64_in _ (by omega))) rfl ?_
  refine wl_valE (v := (.slice (if ac = i + 1 then some ⟨ab, ao, none⟩ else (some (⟨ab, ao, none⟩ : Addr)).map (·.add ((i + 1) * 4))) (all.length - (i + 1)) (ac - (i + 1)))) rfl (rf_sliceFrom (l := i + 1) Try.underlying38 ti57 rfl rfl rfl rfl (by omega)) rfl ?_
  refine wl_append encPair_len encPair_one Try.underlying38 ti57 rfl rfl rfl rfl rfl (ha3) ((slFrom hAt_w3 (F := F) hFb (i + 1) (by omega))) (by simp; omega) (by simp; omega) ?_
  intro v4 w4 hk4 ha4
  have hb_w4 := hb_w3.kp hk4 (fun e => by rcases e with h | h; exact h.elim; have := hb.lt; have := hab.2; have := hb1.lt; omega)
  have hAt_w4 := hAt_w3.kp hk4 (fun e => by rcases e with h | h; exact h.elim; have := hb.lt; have := hab.2; have := hb1.lt; omega)
  have hkT_w4 := hkT_w3.comp hk4 (fun y hy e => by rcases e with h | h; exact h.elim; omega)
  have hb1_w4 := hb1_w3.kp hk4 (fun e => by rcases e with h | h; exact h.elim; have := hb.lt; have := hab.2; have := hb1.lt; omega)
  have hs4 := hk4.size
  refine wl_valE (v := .pointer (some ⟨rb, 0, none⟩)) rfl (rf_nilCheckP rfl rfl) rfl ?_
  refine wl_valE (v := .pointer (some ⟨rb, 1, none⟩)) rfl (rf_fieldAddr Try.underlying48 rfl ti38 rfl rfl) rfl ?_
  refine wl_store (b := rb) (o := 1) (v := v4) ti38 rfl rfl rfl rfl (by obtain ⟨_, _, e, _⟩ := ha4.form; rw [e]; rfl) hb_w4 (by first | decide | exact Nat.le_of_ble_eq_true rfl | simp) ?_
  intro w5 hk5 hb5
  have hAt_w5 := hAt_w4.kp hk5 (fun e => hab.1 e)
  have hkT_w5 := hkT_w4.comp hk5 (fun y hy e => .inl e)
  have hb1_w5 := hb1_w4.kp hk5 (Ne.symm ne1_rb)
  have hap_w5 := ha4.kp hk5 (fun y hy e => by rcases hy with (h | h) | h; exact h.elim; omega; omega)
  have hs5 := hk5.size
  refine wl_nil ?_
  refine thn ?_
  refine seq_ ?_
  refine region_ ?_
  refine wl_valE (v := .int .i64 q.value) rfl (rf_move rfl) rfl ?_
  refine wl_valE (v := .int .i64 q.value) rfl (rf_assign rfl) rfl ?_
  refine wl_valE (v := .bool true) rfl (rf_assign rfl) rfl ?_
  refine wl_nil ?_
  refine thn ?_
  refine ret_ ?_
  refine fin2 (v1 := .int .i64 q.value) (v2 := .bool true) Try.results18 rfl rfl rfl rfl ?_
  have h9 := hap_w5.tight
  rw [er_eq] at h9
  exact ⟨rfl, _, (fun y => WA ≤ y ∧ y < w5.heap.size), ⟨hb5, h9.mono (fun y hy => ⟨by rcases hy.1 with (h | h) | h; exact h.elim; omega; omega, hy.2⟩), fun y hy => ⟨by omega, hy.2⟩⟩, fun y hy => .inr (by omega), hkT_w5⟩
theorem refEach_ret (rb : Nat) (np : Int) (all : List PairR) (av : Value) (F : Nat → Prop) (w : World) (hd : RefD w rb np all av F) (p : Int) (hl : all.length ≤ 2932031007401) : Ret Try.prog 11 [.pointer (some ⟨rb, 0, none⟩), .int .i64 p] w fun v w' => Sl encPair 4 57 w' (fun y => w.heap.size ≤ y ∧ y < w'.heap.size) v (all.filter (fun q => decide (q.part = p))) ∧ Kp none_ w w' := by
  have hkw : Kp none_ w w := Kp.refl w
  have hb := hd.blk
  have hA := hd.alls
  have hsep := hd.sep
  have hwb := hb.lt
  obtain ⟨aa, ac, rfl, hac⟩ := hA.form
  refine enterR Try.func11 rfl Try.ntmps11 rfl ?_
  intro g0
  refine seq_ ?_
  refine region_ ?_
  refine wl_valE (v := .slice none 0 0) rfl (rf_assign rfl) rfl ?_
  refine wl_nil ?_
  refine thn ?_
  refine seq_ ?_
  refine region_ ?_
  refine wl_valE (v := .slice none 0 0) rfl (rf_assign rfl) rfl ?_
  refine wl_nil ?_
  refine thn ?_
  refine seq_ ?_
  refine seq_ ?_
  refine region_ ?_
  refine wl_valE (v := .int .i64 ((0 : Nat) : Int)) rfl (rf_assign rfl) rfl ?_
  refine wl_nil ?_
  refine thn ?_
  refine block_ ?_
  refine loop_ (fun lk lf lw => ∃ (g : Nat → Value) (j : Nat) (ev_ : Value) (G : Nat → Prop), lf = upds g [(0, .pointer (some ⟨rb, 0, none⟩)), (1, .int .i64 p), (4, .slice none 0 0), (5, ev_), (6, .int .i64 ((j : Nat) : Int))] ∧ j + lk = all.length ∧ Sl encPair 4 57 lw G ev_ ((all.take j).filter (fun q => decide (q.part = p))) ∧ (∀ y, G y → w.heap.size ≤ y ∧ y < lw.heap.size) ∧ Kp (fun y => w.heap.size ≤ y) w lw) (all.length) ?_ ?_
  · refine ⟨_, 0, (.slice none 0 0), (fun _ => False), upds_self ⟨rfl, rfl, rfl, rfl, rfl, trivial⟩, ?_⟩
    exact ⟨by omega, Sl.nil _ _, fun y h => h.elim, Kp.refl _⟩
  · intro lk0 lf0 wl hI0
    obtain ⟨gl0, j, ev_, G, rfl, hjk, hev, hG, hkl0⟩ := hI0
    have hb_wl := hb.kp hkl0 (by omega)
    have hA_wl := hA.kp hkl0 (fun y hy e => by have := hsep y hy; omega)
    have hkw_wl := hkw.comp hkl0 (fun y hy e => by omega)
    have hsl := hkl0.size
    refine seq_ ?_
    refine seq_ ?_
    refine region_ ?_
    refine wl_valE (v := .int .i64 ((j : Nat) : Int)) rfl (rf_move rfl) rfl ?_
    refine wl_valE (v := .pointer (some ⟨rb, 0, none⟩)) rfl (rf_move rfl) rfl ?_
    refine wl_valE (v := .pointer (some ⟨rb, 0, none⟩)) rfl (rf_nilCheckP rfl rfl) rfl ?_
    refine wl_valE (v := .pointer (some ⟨rb, 1, none⟩)) rfl (rf_fieldAddr Try.underlying48 rfl ti38 rfl rfl) rfl ?_
    refine wl_valE (v := .slice aa all.length ac) rfl (rf_load Try.underlying38 rfl rfl rfl (hb_wl.cell rfl)) rfl ?_
    refine wl_valE (v := .int .i64 ((all.length : Nat) : Int)) rfl (rf_len_slice Try.underlying38 rfl rfl) rfl ?_
    refine wl_valE (v := .bool (decide (((j : Nat) : Int) < ((all.length : Nat) : Int)))) rfl (rf_lss rfl rfl rfl rfl) rfl ?_
    refine wl_nil ?_
    refine thn ?_
    refine cond_ (t := decide (((j : Nat) : Int) < ((all.length : Nat) : Int))) rfl rfl (fun c13 => ?_) (fun c13 => ?_)
    · have c13p := of_decide_eq_true c13
      obtain ⟨q, hq⟩ : ∃ q, all[j]? = some q := ⟨_, List.getElem?_eq_getElem (by omega)⟩
      obtain ⟨ab, ao, ac2, et, hFb, hAt⟩ := hA_wl.at (by omega)
      simp only [Value.slice.injEq] at et
      obtain ⟨rfl, _, rfl⟩ := et
      have hab := hsep ab hFb
      have hbx := hb_wl
      refine skip_ ?_
      refine thn ?_
      refine seq_ ?_
      refine block_ ?_
      refine seq_ ?_
      refine region_ ?_
      refine wl_valE (v := .pointer (some ⟨rb, 0, none⟩)) rfl (rf_move rfl) rfl ?_
      refine wl_valE (v := .pointer (some ⟨rb, 0, none⟩)) rfl (rf_nilCheckP rfl rfl) rfl ?_
      refine wl_valE (v := .pointer (some ⟨rb, 1, none⟩)) rfl (rf_fieldAddr Try.underlying48 rfl ti38 rfl rfl) rfl ?_
      refine wl_valE (v := .slice (some ⟨ab, ao, none⟩) all.length ac) rfl (rf_load Try.underlying38 rfl rfl rfl (hbx.cell rfl)) rfl ?_
      refine wl_valE (v := .int .i64 ((j : Nat) : Int)) rfl (rf_move rfl) rfl ?_
      refine wl_valE (v := .pointer (some ⟨ab, ao + j * 4, none⟩)) rfl (rf_indexAddr Try.underlying38 ti57 rfl rfl rfl rfl (by omega) (by omega)) rfl ?_
      refine wl_valE (v := .pointer (some ⟨ab, ao + j * 4 + 3, none⟩)) rfl (rf_fieldAddr Try.underlying57 rfl ti3 rfl rfl) rfl ?_
      refine wl_valE (v := .int .i64 q.part) rfl (rf_load Try.underlying3 rfl rfl rfl ((hAt.cell hq 3 _ rfl))) rfl ?_
      refine wl_valE (v := .int .i64 p) rfl (rf_move rfl) rfl ?_
      refine wl_valE (v := .bool (decide (q.part = p))) rfl (rf_eql rfl rfl rfl rfl) rfl ?_
      refine wl_nil ?_
      refine thn ?_
      refine cond_ (t := decide (q.part = p)) rfl rfl (fun c25 => ?_) (fun c25 => ?_)
      · have c25p := of_decide_eq_true c25
        refine region_ ?_
        refine wl_valE (v := ev_) rfl (rf_move rfl) rfl ?_
        refine wl_valE (v := .pointer (some ⟨rb, 0, none⟩)) rfl (rf_move rfl) rfl ?_
        refine wl_valE (v := .pointer (some ⟨rb, 0, none⟩)) rfl (rf_nilCheckP rfl rfl) rfl ?_
        refine wl_valE (v := .pointer (some ⟨rb, 1, none⟩)) rfl (rf_fieldAddr Try.underlying48 rfl ti38 rfl rfl) rfl ?_
        refine wl_valE (v := .slice (some ⟨ab, ao, none⟩) all.length ac) rfl (rf_load Try.underlying38 rfl rfl rfl (hbx.cell rfl)) rfl ?_
        refine wl_valE (v := .int .i64 ((j : Nat) : Int)) rfl (rf_move rfl) rfl ?_
        refine wl_valE (v := .pointer (some ⟨ab, ao + j * 4, none⟩)) rfl (rf_indexAddr Try.underlying38 ti57 rfl rfl rfl rfl (by omega) (by omega)) rfl ?_
        refine wl_valE (v := .agg #[.int .i64 q.key.table, .int .i64 q.key.row, .int .i64 q.value, .int .i64 q.part]) rfl (rf_loadAgg Try.underlying57 rfl ti57 rfl rfl (el_cells (hAt.cell hq)) rfl) rfl ?_
        refine wl_buildSlice (css := [[.int .i64 q.key.table, .int .i64 q.key.row, .int .i64 q.value, .int .i64 q.part]]) Try.underlying38 ti57 rfl rfl rfl (.cons rfl rfl rfl rfl rfl rfl .nil) (by simp) ?_
        intro b1 w1 hg1 hk1 hb1
        have ne1_rb : rb ≠ b1 := Nat.ne_of_lt (Nat.lt_of_lt_of_le hbx.lt hg1)
        have ne1_ab : ab ≠ b1 := Nat.ne_of_lt (Nat.lt_of_lt_of_le hAt.lt hg1)
        have hA_w1 := hA_wl.keep hk1
        have hkw_w1 := hkw_wl.comp hk1 (fun _ _ e => e.elim)
        have hkl0_w1 := hkl0.comp hk1 (fun _ _ e => e.elim)
        have hev_w1 := hev.keep hk1
        have hbx_w1 := hbx.keep hk1
        have hAt_w1 := hAt.keep hk1
        have hs1 := hk1.size
        refine wl_append encPair_len encPair_one Try.underlying38 ti57 rfl rfl rfl rfl rfl (hev_w1) ((SlAt.of_blk (l := [q]) encPair_len (by simp) hb1).rd (F := fun b => b = b1) rfl) (by have := List.length_filter_le (fun q => decide (q.part = p)) (all.take j); simp at this; simp; omega) (by have := List.length_filter_le (fun q => decide (q.part = p)) (all.take j); simp at this; simp; omega) ?_
        intro v2 w2 hk2 ha2
        have hA_w2 := hA_w1.kp hk2 (fun y hy e => by have := hsep y hy; have := hG y e; omega)
        have hkw_w2 := hkw_w1.comp hk2 (fun y hy e => by have := hG y e; omega)
        have hkl0_w2 := hkl0_w1.comp hk2 (fun y hy e => (hG y e).1)
        have hbx_w2 := hbx_w1.kp hk2 (fun e => by have := hG _ e; omega)
        have hAt_w2 := hAt_w1.kp hk2 (fun e => by have := hG _ e; omega)
        have hs2 := hk2.size
        refine wl_valE (v := v2) rfl (rf_assign rfl) rfl ?_
        refine wl_nil ?_
        refine bln ?_
        refine thn ?_
        refine region_ ?_
        refine wl_valE (v := .int .i64 ((j : Nat) : Int)) rfl (rf_move rfl) rfl ?_
        refine wl_valE (v := .int .i64 ((j + 1 : Nat) : Int)) rfl (rf_add rfl rfl rfl rfl (IntWalk.i64_in _ (by omega))) rfl ?_
        refine wl_valE (v := .int .i64 ((j + 1 : Nat) : Int)) rfl (rf_assign rfl) rfl ?_
        refine wl_nil ?_
        refine thn ?_
        refine ⟨lk0 - 1, _, rfl, (by omega), _, j + 1, (v2), (fun y => (G y ∨ w.heap.size ≤ y) ∧ y < w2.heap.size), upds_self ⟨rfl, rfl, rfl, rfl, rfl, trivial⟩, ?_⟩
        have h9 := ha2.tight
        exact ⟨by omega, by rw [List.take_add_one, hq, Option.toList_some, List.filter_append, List.filter_cons, if_pos (by simpa using c25p)]; exact h9.mono (fun y hy => ⟨hy.1.elim .inl (fun e => .inr (by omega)), hy.2⟩), fun y hy => ⟨hy.1.elim (fun e => (hG y e).1) id, hy.2⟩, hkl0_w2⟩
      · have c25p := of_decide_eq_false c25
        refine skip_ ?_
        refine bln ?_
        refine thn ?_
        refine region_ ?_
        refine wl_valE (v := .int .i64 ((j : Nat) : Int)) rfl (rf_move rfl) rfl ?_
        refine wl_valE (v := .int .i64 ((j + 1 : Nat) : Int)) rfl (rf_add rfl rfl rfl rfl (IntWalk.i64_in _ (by omega))) rfl ?_
        refine wl_valE (v := .int .i64 ((j + 1 : Nat) : Int)) rfl (rf_assign rfl) rfl ?_
        refine wl_nil ?_
        refine thn ?_
        refine ⟨lk0 - 1, _, rfl, (by omega), _, j + 1, (ev_), G, upds_self ⟨rfl, rfl, rfl, rfl, rfl, trivial⟩, ?_⟩
        exact ⟨by omega, by rw [List.take_add_one, hq, Option.toList_some, List.filter_append, List.filter_cons, if_neg (by simpa using c25p), List.filter_nil, List.append_nil]; exact hev, fun y hy => ⟨(hG y hy).1, by have := (hG y hy).2; omega⟩, hkl0⟩
    · have c13p := of_decide_eq_false c13
      refine exit_ ?_
      refine thx (thx (blx ?_))
      refine thn ?_
      refine seq_ ?_
      refine region_ ?_
      refine wl_valE (v := ev_) rfl (rf_move rfl) rfl ?_
      refine wl_valE (v := ev_) rfl (rf_assign rfl) rfl ?_
      refine wl_nil ?_
      refine thn ?_
      refine ret_ ?_
      refine fin1 (v := ev_) Try.results11 rfl rfl ?_
      have hj : j = all.length := by omega
      have h9 := hev
      rw [List.take_of_length_le (by omega)] at h9
      exact ⟨h9.mono (fun y hy => ⟨by have := (hG y hy).1; omega, by have := (hG y hy).2; omega⟩), hkw_wl⟩
theorem refClear_ret (rb : Nat) (np : Int) (all : List PairR) (av : Value) (F : Nat → Prop) (w : World) (hd : RefD w rb np all av F) : Ret Try.prog 23 [.pointer (some ⟨rb, 0, none⟩)] w fun v w' => v = .tuple #[] ∧ ∃ av' F', RefD w' rb np [] av' F' ∧ (∀ y, F' y → F y ∨ w.heap.size ≤ y) ∧ Kp (fun y => y = rb ∨ F y) w w' := by
  have hkT : Kp (fun y => y = rb ∨ F y) w w := Kp.refl w
  have hb := hd.blk
  have hA := hd.alls
  have hsep := hd.sep
  have hwb := hb.lt
  obtain ⟨aa, ac, rfl, hac⟩ := hA.form
  have hdd := hd
  refine enterR Try.func23 rfl Try.ntmps23 rfl ?_
  intro g0
  refine region_ ?_
  refine wl_valE (v := .pointer (some ⟨rb, 0, none⟩)) rfl (rf_move rfl) rfl ?_
  refine wl_valE (v := .pointer (some ⟨rb, 0, none⟩)) rfl (rf_nilCheckP rfl rfl) rfl ?_
  refine wl_valE (v := .pointer (some ⟨rb, 1, none⟩)) rfl (rf_fieldAddr Try.underlying48 rfl ti38 rfl rfl) rfl ?_
  refine wl_store (b := rb) (o := 1) (v := .slice none 0 0) ti38 rfl rfl rfl rfl rfl hb (by first | decide | exact Nat.le_of_ble_eq_true rfl | simp) ?_
  intro w1 hk1 hb1
  have hkT_w1 := hkT.comp hk1 (fun y hy e => .inl e)
  have hs1 := hk1.size
  replace hb1 : Blk w1 rb (.cells #[.int .i64 np, .slice none 0 0] _ (0, 0)) := hb1
  refine wl_nil ?_
  refine fin_ ?_
  refine fin0 Try.results23 ?_
  exact ⟨rfl, _, (fun _ => False), ⟨hb1, Sl.nil _ _, fun y h => h.elim⟩, fun y h => h.elim, hkT_w1⟩
theorem eqA57 (d : Nat) (w : World) (x0 y0 : Int) (x1 y1 : Int) (x2 y2 : Int) (x3 y3 : Int) : (Op.equalIn (d + 3) 57 (.agg #[.int .i64 x0, .int .i64 x1, .int .i64 x2, .int .i64 x3]) (.agg #[.int .i64 y0, .int .i64 y1, .int .i64 y2, .int .i64 y3])).run Try.prog w = .ok ((((decide (x0 = y0) && decide (x1 = y1))) && (decide (x2 = y2) && decide (x3 = y3)))) w := by
  refine eqA_of Try.underlying57 (by kernel_rfl) ?_
  refine eqf_cons rfl (part_agg Try.underlying28 rfl ti28) (part_agg Try.underlying28 rfl ti28) (eqA28 (d + 0) w _ _ _ _) ?_
  refine eqf_cons rfl (part_one Try.underlying2 rfl rfl) (part_one Try.underlying2 rfl rfl) (eq_int (d := d + 1) Try.underlying2) ?_
  exact eqf_last rfl (part_one Try.underlying3 rfl rfl) (part_one Try.underlying3 rfl rfl) (eq_int (d := d + 1) Try.underlying3)
theorem eqPair (x : PairR) (w : World) : (Op.equalIn 10000 57 (.agg (encPair x).toArray) (.agg (encPair x).toArray)).run Try.prog w = .ok true w := by
  have h := eqA57 9997 w x.key.table x.key.table x.key.row x.key.row x.value x.value x.part x.part
  simp at h
  exact h
theorem same_ret (v1 v2 : Value) (F1 F2 : Nat → Prop) (l : List PairR) (w : World) (h1 : Rd encPair 4 w F1 v1 l) (h2 : Rd encPair 4 w F2 v2 l) (hl : l.length ≤ 4611686018427387903) : Ret Try.prog 9 [v1, v2] w fun v w' => v = .bool true ∧ Kp none_ w w' := by
  obtain ⟨a1, c1, rfl, hc1⟩ := h1.form
  obtain ⟨a2, c2, rfl, hc2⟩ := h2.form
  have hkw : Kp none_ w w := Kp.refl w
  refine enterR Try.func9 rfl Try.ntmps9 rfl ?_
  intro g0
  refine seq_ ?_
  refine region_ ?_
  refine wl_valE (v := .bool false) rfl (rf_assign rfl) rfl ?_
  refine wl_nil ?_
  refine thn ?_
  refine seq_ ?_
  refine seq_ ?_
  refine region_ ?_
  refine wl_valE (v := .slice a1 l.length c1) rfl (rf_move rfl) rfl ?_
  refine wl_valE (v := .int .i64 ((l.length : Nat) : Int)) rfl (rf_len_slice Try.underlying38 rfl rfl) rfl ?_
  refine wl_valE (v := .slice a2 l.length c2) rfl (rf_move rfl) rfl ?_
  refine wl_valE (v := .int .i64 ((l.length : Nat) : Int)) rfl (rf_len_slice Try.underlying38 rfl rfl) rfl ?_
  refine wl_valE (v := .bool false) rfl (rf_neq rfl rfl rfl rfl) (congrArg Value.bool (decide_eq_false (by omega))) ?_
  refine wl_nil ?_
  refine thn ?_
  refine condF rfl rfl ?_
  refine skip_ ?_
  refine thn ?_
  refine seq_ ?_
  refine seq_ ?_
  refine region_ ?_
  refine wl_valE (v := .int .i64 ((0 : Nat) : Int)) rfl (rf_assign rfl) rfl ?_
  refine wl_nil ?_
  refine thn ?_
  refine block_ ?_
  refine loop_ (fun lk lf lw => ∃ (g : Nat → Value) (jj : Nat), lf = upds g [(0, .slice a1 l.length c1), (1, .slice a2 l.length c2), (5, .int .i64 ((jj : Nat) : Int))] ∧ jj + lk = l.length ∧ Kp (none_) w lw) (l.length) ?_ ?_
  · refine ⟨_, 0, upds_self ⟨rfl, rfl, rfl, trivial⟩, ?_⟩
    exact ⟨by omega, Kp.refl _⟩
  · intro lk0 lf0 wl hI0
    obtain ⟨gl0, jj, rfl, hjk, hkl0⟩ := hI0
    have h1_wl := h1.keep hkl0
    have h2_wl := h2.keep hkl0
    have hkw_wl := hkw.comp hkl0 (fun _ _ e => e.elim)
    have hsl := hkl0.size
    refine seq_ ?_
    refine seq_ ?_
    refine region_ ?_
    refine wl_valE (v := .int .i64 ((jj : Nat) : Int)) rfl (rf_move rfl) rfl ?_
    refine wl_valE (v := .slice a1 l.length c1) rfl (rf_move rfl) rfl ?_
    refine wl_valE (v := .int .i64 ((l.length : Nat) : Int)) rfl (rf_len_slice Try.underlying38 rfl rfl) rfl ?_
    refine wl_valE (v := .bool (decide (((jj : Nat) : Int) < ((l.length : Nat) : Int)))) rfl (rf_lss rfl rfl rfl rfl) rfl ?_
    refine wl_nil ?_
    refine thn ?_
    refine cond_ (t := decide (((jj : Nat) : Int) < ((l.length : Nat) : Int))) rfl rfl (fun c14 => ?_) (fun c14 => ?_)
    · have c14p := of_decide_eq_true c14
      obtain ⟨p, hp⟩ : ∃ p, l[jj]? = some p := ⟨_, List.getElem?_eq_getElem (by omega)⟩
      obtain ⟨b7, o7, cap7, e7, hcap7, hF7, hlt7, hcell7⟩ := h1_wl.get (by omega)
      cases e7
      obtain ⟨b8, o8, cap8, e8, hcap8, hF8, hlt8, hcell8⟩ := h2_wl.get (by omega)
      cases e8
      refine skip_ ?_
      refine thn ?_
      refine seq_ ?_
      refine block_ ?_
      refine seq_ ?_
      refine region_q mixedP (by kernel_rfl) ?_
      refine qt_valE (v := .slice (some ⟨b7, o7, none⟩) l.length c1) rfl (fun wq hq => rf_move rfl) rfl ?_
      refine qt_valE (v := .int .i64 ((jj : Nat) : Int)) rfl (fun wq hq => rf_move rfl) rfl ?_
      refine qt_valE (v := .pointer (some ⟨b7, o7 + jj * 4, none⟩)) rfl (fun wq hq => rf_indexAddr Try.underlying38 ti57 rfl rfl rfl rfl (by omega) (by omega)) rfl ?_
      refine qt_valE (v := .agg #[.int .i64 p.key.table, .int .i64 p.key.row, .int .i64 p.value, .int .i64 p.part]) rfl (fun wq hq => rf_loadAgg Try.underlying57 rfl ti57 rfl rfl (fun j u hj => hq.cell ((el_cells (hcell7 jj p hp)) j u hj) (fun h => h)) rfl) rfl ?_
      refine qt_valE (v := .slice (some ⟨b8, o8, none⟩) l.length c2) rfl (fun wq hq => rf_move rfl) rfl ?_
      refine qt_valE (v := .int .i64 ((jj : Nat) : Int)) rfl (fun wq hq => rf_move rfl) rfl ?_
      refine qt_valE (v := .pointer (some ⟨b8, o8 + jj * 4, none⟩)) rfl (fun wq hq => rf_indexAddr Try.underlying38 ti57 rfl rfl rfl rfl (by omega) (by omega)) rfl ?_
      refine qt_valE (v := .agg #[.int .i64 p.key.table, .int .i64 p.key.row, .int .i64 p.value, .int .i64 p.part]) rfl (fun wq hq => rf_loadAgg Try.underlying57 rfl ti57 rfl rfl (fun j u hj => hq.cell ((el_cells (hcell8 jj p hp)) j u hj) (fun h => h)) rfl) rfl ?_
      refine qt_valE (v := .bool false) rfl (fun wq hq => rf_neqS (by kernel_rfl) (eqPair p _) rfl rfl rfl rfl) rfl ?_
      refine qt_nil ?_
      intro w1 hk1
      have h1_w1 := h1_wl.keep hk1
      have h2_w1 := h2_wl.keep hk1
      have hkw_w1 := hkw_wl.comp hk1 (fun _ _ e => e.elim)
      have hkl0_w1 := hkl0.comp hk1 (fun _ _ e => e.elim)
      have hs1 := hk1.size
      refine thn ?_
      refine condF rfl rfl ?_
      refine skip_ ?_
      refine bln ?_
      refine thn ?_
      refine region_ ?_
      refine wl_valE (v := .int .i64 ((jj : Nat) : Int)) rfl (rf_move rfl) rfl ?_
      refine wl_valE (v := .int .i64 ((jj + 1 : Nat) : Int)) rfl (rf_add rfl rfl rfl rfl (IntWalk.i64_in _ (by omega))) rfl ?_
      refine wl_valE (v := .int .i64 ((jj + 1 : Nat) : Int)) rfl (rf_assign rfl) rfl ?_
      refine wl_nil ?_
      refine thn ?_
      refine ⟨lk0 - 1, _, rfl, (by omega), _, jj + 1, upds_self ⟨rfl, rfl, rfl, trivial⟩, ?_⟩
      exact ⟨by omega, hkl0_w1⟩
    · have c14p := of_decide_eq_false c14
      refine exit_ ?_
      refine thx (thx (blx ?_))
      refine thn ?_
      refine seq_ ?_
      refine region_ ?_
      refine wl_valE (v := .bool true) rfl (rf_assign rfl) rfl ?_
      refine wl_nil ?_
      refine thn ?_
      refine ret_ ?_
      refine fin1 (v := .bool true) Try.results9 rfl rfl ?_
      exact ⟨rfl, hkw_wl⟩

structure OpR where
  kind : Int
  key : Key
  v : Int
  num : Int
  two : Bool
def encOp (o : OpR) : List Value := [.int .i64 o.kind, .int .i64 o.key.table, .int .i64 o.key.row, .int .i64 o.v, .int .i64 o.num, .bool o.two]
theorem encOp_len (o : OpR) : (encOp o).length = 6 := rfl
end Go.Proofs.Ytenhbogebfdjjaa.W
