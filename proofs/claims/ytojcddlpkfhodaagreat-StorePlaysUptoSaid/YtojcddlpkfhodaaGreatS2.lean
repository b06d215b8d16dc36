import Derived.Test.YtojcddlpkfhodaaGreatS1
import Derived.KernelRfl
namespace Go.Proofs.YtojcddlpkfhodaaGreat.W
open Go Go.Wk
set_option linter.unusedVariables false
set_option linter.unusedSimpArgs false

def encTold (r : VerR) : List Value := [.int .i64 r.batch, .int .i64 r.index, .bool r.filled, .bool r.cell.is_, .int .i64 r.cell.value]
def visP (st : StS) (b : Int) (v : Int) : Bool := match st.ver v with | some r => decide (r.batch ≤ b) | none => false
def visF (st : StS) (k : Key) (b : Int) : Int := ((st.ch k).reverse.find? (visP st b)).getD 0
theorem vis_hit {st : StS} {k : Key} {b v : Int} {i : Nat} (hv : (st.ch k)[i]? = some v) (hb : visP st b v = true) (hno : ∀ j x, i < j → (st.ch k)[j]? = some x → visP st b x = false) : visF st k b = v := by
  have hi := (List.getElem?_eq_some_iff.1 hv).1
  have e : (st.ch k) = (st.ch k).take i ++ v :: (st.ch k).drop (i + 1) := by
    rw [← (List.getElem?_eq_some_iff.1 hv).2, ← List.drop_eq_getElem_cons hi, List.take_append_drop]
  have hf : (((st.ch k).drop (i + 1)).reverse).find? (visP st b) = none := by
    rw [List.find?_eq_none]
    intro x hx
    rw [List.mem_reverse] at hx
    obtain ⟨j, hj⟩ := List.getElem?_of_mem hx
    rw [List.getElem?_drop] at hj
    have := hno (i + 1 + j) x (by omega) hj
    simp [this]
  unfold visF
  rw [e, List.reverse_append, List.reverse_cons, List.append_assoc, List.find?_append, hf]
  simp [hb]
theorem vis_miss {st : StS} {k : Key} {b : Int} (hno : ∀ (j : Nat) (x : Int), (st.ch k)[j]? = some x → visP st b x = false) : visF st k b = 0 := by
  have hf : ((st.ch k).reverse).find? (visP st b) = none := by
    rw [List.find?_eq_none]
    intro x hx
    rw [List.mem_reverse] at hx
    obtain ⟨j, hj⟩ := List.getElem?_of_mem hx
    simp [hno j x hj]
  unfold visF; rw [hf]; rfl

def fillR (r : VerR) (c : Cell) : VerR := { r with filled := true, cell := if c.is_ then c else r.cell }
def fillSt (st : StS) (x : Int) (r : VerR) (c : Cell) : StS := { st with ver := fun v => if v = x then some (fillR r c) else st.ver v }
theorem fill_inv {st : StS} (h : StInv st) {x : Int} {r : VerR} (hv : st.ver x = some r) (c : Cell) : StInv (fillSt st x r c) where
  last0 := h.last0
  verb v r' hv' := by
    simp only [fillSt] at hv' ⊢
    split at hv'
    · rename_i e; cases hv'; subst e; exact h.verb v r hv
    · exact h.verb v r' hv'
  chv k v hv' := by
    obtain ⟨r', h1, h2⟩ := h.chv k v hv'
    simp only [fillSt]
    by_cases e : v = x
    · rw [if_pos e]; subst e; rw [hv] at h1; cases h1; exact ⟨_, rfl, h2⟩
    · rw [if_neg e]; exact ⟨r', h1, h2⟩
  sorted k := by
    refine (h.sorted k).imp (fun {a b} hab => ⟨hab.1, fun ra rb h1 h2 => ?_⟩)
    have key : ∀ v q, (fillSt st x r c).ver v = some q → ∃ q0, st.ver v = some q0 ∧ q0.batch = q.batch ∧ q0.index = q.index := fun v q hq => by
      simp only [fillSt] at hq
      split at hq
      · rename_i e; cases hq; subst e; exact ⟨r, hv, rfl, rfl⟩
      · exact ⟨q, hq, rfl, rfl⟩
    obtain ⟨a0, g1, g2, g3⟩ := key a ra h1
    obtain ⟨b0, g4, g5, g6⟩ := key b rb h2
    have := hab.2 a0 b0 g1 g4
    unfold ltP at *
    omega
theorem fill_done {w w' : World} {s vb : Nat} {st : StS} {h : StH} {x : Int} {r : VerR} {c : Cell} (hs : StoreR w s st h) (hv : st.ver x = some r) (hg : getL h.m x = some vb) (hb : Blk w' vb (.cells (encRec (fillR r c)).toArray 104 (0, 0))) (hk : Kp (fun y => y = vb) w w') : StoreR w' s (fillSt st x r c) h ∧ Kp (fpS s h) w w' := by
  have hvm : vb ∈ h.m.map (·.2) := List.mem_map.2 ⟨_, getL_mem hg, rfl⟩
  obtain ⟨r1, q1, q2⟩ := hs.some_ x vb hg
  have hT := fun k => hs.rec_ne k hvm q2
  have hbp : ¬ fpD h.bd h.bp h.rs vb := by
    rintro (e | e | e)
    · exact hT ⟨0, 0⟩ (.inr (.inr (.inr (.inl e))))
    · have := q2.eq (e ▸ hs.dict.arr); simp at this
    · exact hT ⟨0, 0⟩ (.inr (.inr (.inr (.inr e))))
  refine ⟨⟨fill_inv hs.inv hv c, hs.blk.kp hk (fun e => hT ⟨0, 0⟩ (.inl e.symm)), hs.vers.kp hk (fun e => hT ⟨0, 0⟩ (.inr (.inl e.symm))), hs.vkeys, hs.vals, hs.live, fun v b' hv' => ?_, fun v hv' => ?_, hs.dict.kp hk (fun y hy e => hbp (e ▸ hy)), hs.parts, fun k => (hs.chain k).kp hk (fun y hy e => (hs.disj y (by rw [hy]; simp)).2.2.2 (e ▸ hvm)), hs.chnone, fun y hy => Nat.lt_of_lt_of_le (hs.ownlt y hy) hk.size, hs.disj, hs.vrd, hs.came, hs.ptc⟩, hk.mono (fun y _ e => .inr (.inr (.inr (.inl (e ▸ hvm)))))⟩
  · obtain ⟨r', h1, h2⟩ := hs.some_ v b' hv'
    simp only [fillSt]
    by_cases e : v = x
    · subst e
      rw [hg] at hv'; cases hv'
      exact ⟨_, if_pos rfl, hb⟩
    · refine ⟨r', by rw [if_neg e]; exact h1, h2.kp hk (fun e2 => ?_)⟩
      subst e2
      have m1 := getL_mem hv'
      have m2 := getL_mem hg
      obtain ⟨i, hi⟩ := List.getElem?_of_mem m1
      obtain ⟨j, hj⟩ := List.getElem?_of_mem m2
      have hij := nodup_inj hs.vals (i := i) (j := j) (x := b') (by rw [List.getElem?_map, hi]; rfl) (by rw [List.getElem?_map, hj]; rfl)
      subst hij
      rw [hi] at hj
      cases hj
      exact e rfl
  · have := hs.none_' v hv'
    simp only [fillSt]
    rw [if_neg (fun e => by subst e; rw [hg] at hv'; cases hv')]
    exact this
theorem told_ret (vb : Nat) (r : VerR) (w : World) (hvb : Blk w vb (.cells (encRec r).toArray 104 (0, 0))) : Ret Tryz.prog 55 [.pointer (some ⟨vb, 0, none⟩)] w fun v w' => v = .agg (encTold r).toArray ∧ Kp none_ w w' := by
  have hkw : Kp none_ w w := Kp.refl w
  refine enterR Tryz.func55 rfl Tryz.ntmps55 rfl ?_
  intro g0
  refine seq_ ?_
  refine region_ ?_
  refine wl_alloc ti71 ?_
  intro b1 w1 hg1 hk1 hb1
  have ne1_vb : vb ≠ b1 := Nat.ne_of_lt (Nat.lt_of_lt_of_le hvb.lt hg1)
  have hvb_w1 := hvb.keep hk1
  have hkw_w1 := hkw.comp hk1 (fun _ _ e => e.elim)
  have hs1 := hk1.size
  refine wl_nil ?_
  refine thn ?_
  refine seq_ ?_
  refine region_h (S := fun wq => Kp (fun x => x = b1) w1 wq) mixedP ?_
  intro w2 hk2
  have hvb_w2 := hvb_w1.keep hk2
  have hkw_w2 := hkw_w1.comp hk2 (fun _ _ e => e.elim)
  have hb1_w2 := hb1.keep hk2
  have hs2 := hk2.size
  have hS2 : Kp (fun x => x = b1) w1 w2 := hk2.of_none
  refine wh_take (i := 0) (v := .pointer (some ⟨vb, 0, none⟩)) rfl (by kernel_rfl) (by kernel_rfl) (by kernel_rfl) hS2 rfl (fun wq hq => rf_move rfl) rfl ?_
  refine wh_take (i := 1) (v := .pointer (some ⟨vb, 0, none⟩)) rfl (by kernel_rfl) (by kernel_rfl) (by kernel_rfl) hS2 rfl (fun wq hq => rf_nilCheckP rfl rfl) rfl ?_
  refine wh_take (i := 2) (v := .pointer (some ⟨vb, 0, none⟩)) rfl (by kernel_rfl) (by kernel_rfl) (by kernel_rfl) hS2 rfl (fun wq hq => rf_fieldAddr Tryz.underlying104 rfl ti102 rfl rfl) rfl ?_
  refine wh_take (i := 3) (v := .pointer (some ⟨vb, 0, none⟩)) rfl (by kernel_rfl) (by kernel_rfl) (by kernel_rfl) hS2 rfl (fun wq hq => rf_fieldAddr Tryz.underlying102 rfl ti3 rfl rfl) rfl ?_
  refine wh_take (i := 4) (v := .int .i64 r.batch) rfl (by kernel_rfl) (by kernel_rfl) (by kernel_rfl) hS2 rfl (fun wq hq => rf_load Tryz.underlying3 rfl rfl rfl ((hvb_w1.kp hq (by omega)).cell rfl)) rfl ?_
  refine wh_take (i := 5) (v := .pointer (some ⟨vb, 0, none⟩)) rfl (by kernel_rfl) (by kernel_rfl) (by kernel_rfl) hS2 rfl (fun wq hq => rf_move rfl) rfl ?_
  refine wh_take (i := 6) (v := .pointer (some ⟨vb, 0, none⟩)) rfl (by kernel_rfl) (by kernel_rfl) (by kernel_rfl) hS2 rfl (fun wq hq => rf_nilCheckP rfl rfl) rfl ?_
  refine wh_take (i := 7) (v := .pointer (some ⟨vb, 0, none⟩)) rfl (by kernel_rfl) (by kernel_rfl) (by kernel_rfl) hS2 rfl (fun wq hq => rf_fieldAddr Tryz.underlying104 rfl ti102 rfl rfl) rfl ?_
  refine wh_take (i := 8) (v := .pointer (some ⟨vb, 1, none⟩)) rfl (by kernel_rfl) (by kernel_rfl) (by kernel_rfl) hS2 rfl (fun wq hq => rf_fieldAddr Tryz.underlying102 rfl ti3 rfl rfl) rfl ?_
  refine wh_take (i := 9) (v := .int .i64 r.index) rfl (by kernel_rfl) (by kernel_rfl) (by kernel_rfl) hS2 rfl (fun wq hq => rf_load Tryz.underlying3 rfl rfl rfl ((hvb_w1.kp hq (by omega)).cell rfl)) rfl ?_
  refine wh_take (i := 10) (v := .pointer (some ⟨vb, 0, none⟩)) rfl (by kernel_rfl) (by kernel_rfl) (by kernel_rfl) hS2 rfl (fun wq hq => rf_move rfl) rfl ?_
  refine wh_take (i := 11) (v := .pointer (some ⟨vb, 0, none⟩)) rfl (by kernel_rfl) (by kernel_rfl) (by kernel_rfl) hS2 rfl (fun wq hq => rf_nilCheckP rfl rfl) rfl ?_
  refine wh_take (i := 12) (v := .pointer (some ⟨vb, 4, none⟩)) rfl (by kernel_rfl) (by kernel_rfl) (by kernel_rfl) hS2 rfl (fun wq hq => rf_fieldAddr Tryz.underlying104 rfl ti4 rfl rfl) rfl ?_
  refine wh_take (i := 13) (v := .bool r.filled) rfl (by kernel_rfl) (by kernel_rfl) (by kernel_rfl) hS2 rfl (fun wq hq => rf_load Tryz.underlying4 rfl rfl rfl ((hvb_w1.kp hq (by omega)).cell rfl)) rfl ?_
  refine wh_take (i := 14) (v := .pointer (some ⟨vb, 0, none⟩)) rfl (by kernel_rfl) (by kernel_rfl) (by kernel_rfl) hS2 rfl (fun wq hq => rf_move rfl) rfl ?_
  refine wh_take (i := 15) (v := .pointer (some ⟨vb, 0, none⟩)) rfl (by kernel_rfl) (by kernel_rfl) (by kernel_rfl) hS2 rfl (fun wq hq => rf_nilCheckP rfl rfl) rfl ?_
  refine wh_take (i := 16) (v := .pointer (some ⟨vb, 5, none⟩)) rfl (by kernel_rfl) (by kernel_rfl) (by kernel_rfl) hS2 rfl (fun wq hq => rf_fieldAddr Tryz.underlying104 rfl ti43 rfl rfl) rfl ?_
  refine wh_take (i := 17) (v := .agg #[.bool r.cell.is_, .int .i64 r.cell.value]) rfl (by kernel_rfl) (by kernel_rfl) (by kernel_rfl) hS2 rfl (fun wq hq => rf_loadBlk Tryz.underlying43 rfl ti43 rfl rfl (hvb_w1.kp hq (by omega)) (Nat.le_of_ble_eq_true rfl)) rfl ?_
  refine wh_take (i := 18) (v := .agg #[.int .i64 r.batch, .int .i64 r.index, .bool r.filled, .bool r.cell.is_, .int .i64 r.cell.value]) rfl (by kernel_rfl) (by kernel_rfl) (by kernel_rfl) hS2 rfl (fun wq hq => rf_build (offs := [(0, [.int .i64 r.batch]), (1, [.int .i64 r.index]), (2, [.bool r.filled]), (3, [.bool r.cell.is_, .int .i64 r.cell.value])]) (places := #[(0, 1), (1, 1), (2, 1), (3, 2)]) Tryz.underlying71 ti71 (fun w => by kernel_rfl) (.cons rfl rfl rfl rfl rfl rfl (.cons rfl rfl rfl rfl rfl rfl (.cons rfl rfl rfl rfl rfl rfl (.cons rfl rfl rfl rfl rfl rfl .nil))))) rfl ?_
  refine wh_one (i := 19) (by kernel_rfl) rfl ?_
  refine wl_storeAgg (b := b1) (o := 0) (cs := [.int .i64 r.batch, .int .i64 r.index, .bool r.filled, .bool r.cell.is_, .int .i64 r.cell.value]) ti71 rfl rfl rfl rfl rfl (by simp [Value.oneCell']) hb1_w2 (Nat.le_of_ble_eq_true rfl) ?_
  intro w3 hk3 hb3
  have hvb_w3 := hvb_w2.kp hk3 ne1_vb
  have hkw_w3 := hkw_w2.comp hk3 (fun b h e => by omega)
  have hS_w3 := hS2.comp hk3 (fun b h e => by first | exact e | omega)
  have hs3 := hk3.size
  replace hb3 : Blk w3 b1 (.cells #[.int .i64 r.batch, .int .i64 r.index, .bool r.filled, .bool r.cell.is_, .int .i64 r.cell.value] _ (0, 0)) := hb3
  refine wl_nil ?_
  refine wh_back hS_w3 ?_
  refine wh_done (by kernel_rfl) ?_
  refine thn ?_
  refine ret_ ?_
  refine finV1 Tryz.results55 (RV.blk rfl Tryz.underlying71 rfl ti71 rfl (by with_reducible assumption) (Nat.le_of_ble_eq_true rfl)) ?_
  exact ⟨rfl, hkw_w3⟩
theorem visible_ret (s : Nat) (st : StS) (h : StH) (w : World) (hs : StoreR w s st h) (k : Key) (b : Int) (hl : st.last ≤ 17592186044415) : Ret Tryz.prog 26 [.pointer (some ⟨s, 0, none⟩), .agg #[.int .i64 k.table, .int .i64 k.row], .int .i64 b] w fun v w' => v = .int .i64 (visF st k b) ∧ Kp none_ w w' := by
  have hkw : Kp none_ w w := Kp.refl w
  have hb := hs.blk
  have hvm := hs.vers
  have hdd := hs.dict
  obtain ⟨⟨ca, cn, cc⟩, hsv⟩ : ∃ sv : Sv, sv = chainV h.ls k := ⟨_, rfl⟩
  have hch := hs.chain k
  rw [← hsv] at hch
  have hchlen := hs.inv.len k
  obtain ⟨_, _, e, hcc⟩ := hch.form
  simp only [slv] at e
  cases e
  refine enterR Tryz.func26 rfl Tryz.ntmps26 rfl ?_
  intro g0
  refine seq_ ?_
  refine region_ ?_
  refine wl_box (v := .agg #[.int .i64 k.table, .int .i64 k.row]) rfl rfl ?_
  intro b1 w1 hg1 hk1 hb1
  have ne1_s : s ≠ b1 := Nat.ne_of_lt (Nat.lt_of_lt_of_le hb.lt hg1)
  have ne1_hvr : h.vr ≠ b1 := Nat.ne_of_lt (Nat.lt_of_lt_of_le hvm.lt hg1)
  have hb_w1 := hb.keep hk1
  have hvm_w1 := hvm.keep hk1
  have hdd_w1 := hdd.keep hk1
  have hkw_w1 := hkw.comp hk1 (fun _ _ e => e.elim)
  have hch_w1 := hch.keep hk1
  have hs1 := hk1.size
  refine wl_valE (v := .int .i64 ((0 : Nat) : Int)) rfl (rf_assign rfl) rfl ?_
  refine wl_nil ?_
  refine thn ?_
  refine seq_ ?_
  refine region_q mixedP (by kernel_rfl) ?_
  refine qt_valE (v := .pointer (some ⟨s, 0, none⟩)) rfl (fun wq hq => rf_move rfl) rfl ?_
  refine qt_valE (v := .pointer (some ⟨s, 0, none⟩)) rfl (fun wq hq => rf_nilCheckP rfl rfl) rfl ?_
  refine qt_valE (v := .pointer (some ⟨s, 4, none⟩)) rfl (fun wq hq => rf_fieldAddr Tryz.underlying61 rfl ti54 rfl rfl) rfl ?_
  refine qt_valE (v := .pointer (some ⟨h.bd, 0, none⟩)) rfl (fun wq hq => rf_load Tryz.underlying54 rfl rfl rfl ((hb_w1.keep hq).cell rfl)) rfl ?_
  refine qt_valE (v := .agg #[.int .i64 k.table, .int .i64 k.row]) rfl (fun wq hq => rf_loadBlk Tryz.underlying41 rfl ti41 rfl rfl (hb1.keep hq) (Nat.le_of_ble_eq_true rfl)) rfl ?_
  refine qt_ret (v := .tuple #[.slice ca ((st.ch k).length) cc, .bool ((dgetC h.ls k).isSome)]) rfl (fun wq hq => (getC_ret k h.bd h.bp h.rs h.ls h.came h.n wq (hdd_w1.keep hq)).mono (fun _ _ h => ⟨by rw [h.1]; exact congrArg (fun q : Sv => Value.tuple #[.slice q.a q.n q.c, .bool _]) hsv.symm, hq.trans h.2⟩)) (fun wq hq => rf_call Tryz.call45 rfl rfl) ?_
  refine qt_valE (v := .tuple #[.slice ca ((st.ch k).length) cc, .bool ((dgetC h.ls k).isSome)]) rfl (fun wq hq => rf_move rfl) rfl ?_
  refine qt_valE (v := .slice ca ((st.ch k).length) cc) rfl (fun wq hq => rf_extract rfl rfl rfl) rfl ?_
  refine qt_valE (v := .bool ((dgetC h.ls k).isSome)) rfl (fun wq hq => rf_extract rfl rfl rfl) rfl ?_
  refine qt_valE (v := .slice ca ((st.ch k).length) cc) rfl (fun wq hq => rf_assign rfl) rfl ?_
  refine qt_valE (v := .bool ((dgetC h.ls k).isSome)) rfl (fun wq hq => rf_assign rfl) rfl ?_
  refine qt_nil ?_
  intro w2 hk2
  have hb_w2 := hb_w1.keep hk2
  have hvm_w2 := hvm_w1.keep hk2
  have hdd_w2 := hdd_w1.keep hk2
  have hkw_w2 := hkw_w1.comp hk2 (fun _ _ e => e.elim)
  have hch_w2 := hch_w1.keep hk2
  have hb1_w2 := hb1.keep hk2
  have hs2 := hk2.size
  refine thn ?_
  refine seq_ ?_
  refine seq_ ?_
  refine region_ ?_
  refine wl_valE (v := .slice ca ((st.ch k).length) cc) rfl (rf_move rfl) rfl ?_
  refine wl_valE (v := .int .i64 (((st.ch k).length : Nat) : Int)) rfl (rf_len_slice Tryz.underlying57 rfl rfl) rfl ?_
  refine wl_valE (v := .int .i64 ((((st.ch k).length : Nat) : Int) - ((1 : Nat) : Int))) rfl (rf_sub rfl rfl rfl rfl (IntWalk.i64_in _ (by omega))) rfl ?_
  refine wl_valE (v := .int .i64 ((((st.ch k).length : Nat) : Int) - ((1 : Nat) : Int))) rfl (rf_assign rfl) rfl ?_
  refine wl_nil ?_
  refine thn ?_
  refine block_ ?_
  refine loop_ (fun lk lf lw => ∃ (g : Nat → Value) (q : Nat), lf = upds g [(0, .pointer (some ⟨s, 0, none⟩)), (2, .int .i64 b), (7, .slice ca ((st.ch k).length) cc), (9, .int .i64 ((q : Int) - 1))] ∧ q = lk ∧ q ≤ (st.ch k).length ∧ (∀ j x, q ≤ j → (st.ch k)[j]? = some x → visP st b x = false) ∧ Kp (none_) w2 lw) ((st.ch k).length) ?_ ?_
  · refine ⟨_, (st.ch k).length, upds_self ⟨rfl, rfl, rfl, rfl, trivial⟩, ?_⟩
    exact ⟨rfl, by omega, fun j x h1 h2 => by have := (List.getElem?_eq_some_iff.1 h2).1; omega, Kp.refl _⟩
  · intro lk0 lf0 wl hI0
    obtain ⟨gl0, q, rfl, hqk, hql, hno, hkl0⟩ := hI0
    have hb_wl := hb_w2.keep hkl0
    have hvm_wl := hvm_w2.keep hkl0
    have hdd_wl := hdd_w2.keep hkl0
    have hkw_wl := hkw_w2.comp hkl0 (fun _ _ e => e.elim)
    have hch_wl := hch_w2.keep hkl0
    have hb1_wl := hb1_w2.keep hkl0
    have hsl := hkl0.size
    refine seq_ ?_
    refine seq_ ?_
    refine region_ ?_
    refine wl_valE (v := .int .i64 ((q : Int) - 1)) rfl (rf_move rfl) rfl ?_
    refine wl_valE (v := .bool (decide (((0 : Nat) : Int) ≤ (q : Int) - 1))) rfl (rf_geq rfl rfl rfl rfl) rfl ?_
    refine wl_nil ?_
    refine thn ?_
    refine cond_ (t := decide (((0 : Nat) : Int) ≤ (q : Int) - 1)) rfl rfl (fun c23 => ?_) (fun c23 => ?_)
    · have c23p := of_decide_eq_true c23
      obtain ⟨p, rfl⟩ : ∃ p, q = p + 1 := ⟨q - 1, by omega⟩
      obtain ⟨v0, hv0⟩ : ∃ v, (st.ch k)[p]? = some v := ⟨_, List.getElem?_eq_getElem (by omega)⟩
      obtain ⟨r0, hr0, _⟩ := hs.inv.chv k v0 (List.mem_of_getElem? hv0)
      obtain ⟨vb, hgv, hvb, _⟩ := hs.get hr0
      have hvb2 := hvb.keep hkw_wl
      obtain ⟨cb, co, cc2, e2, hown, hC⟩ := hch_wl.at (by omega)
      simp only [slv, Value.slice.injEq] at e2
      obtain ⟨rfl, _, rfl⟩ := e2
      refine skip_ ?_
      refine thn ?_
      refine seq_ ?_
      refine block_ ?_
      refine seq_ ?_
      refine region_q mixedP (by kernel_rfl) ?_
      refine qt_valE (v := .pointer (some ⟨s, 0, none⟩)) rfl (fun wq hq => rf_move rfl) rfl ?_
      refine qt_valE (v := .pointer (some ⟨s, 0, none⟩)) rfl (fun wq hq => rf_nilCheckP rfl rfl) rfl ?_
      refine qt_valE (v := .pointer (some ⟨s, 3, none⟩)) rfl (fun wq hq => rf_fieldAddr Tryz.underlying61 rfl ti59 rfl rfl) rfl ?_
      refine qt_valE (v := .map (some h.vr)) rfl (fun wq hq => rf_load Tryz.underlying59 rfl rfl rfl ((hb_wl.keep hq).cell rfl)) rfl ?_
      refine qt_valE (v := .slice (some ⟨cb, co, none⟩) ((st.ch k).length) cc) rfl (fun wq hq => rf_move rfl) rfl ?_
      refine qt_valE (v := .int .i64 ((p : Nat) : Int)) rfl (fun wq hq => rf_move rfl) (congrArg (Value.int .i64) (by omega)) ?_
      refine qt_valE (v := .pointer (some ⟨cb, co + p, none⟩)) rfl (fun wq hq => rf_indexAddr Tryz.underlying57 ti3 rfl rfl rfl rfl (by omega) (by omega)) (by simp) ?_
      refine qt_valE (v := .int .i64 v0) rfl (fun wq hq => rf_load Tryz.underlying3 rfl rfl rfl (hq.cell (el1 (hC.cell hv0 0 _ rfl)) (fun h => h))) rfl ?_
      refine qt_valE (v := .pointer (some ⟨vb, 0, none⟩)) rfl (fun wq hq => rf_lookup (a := v0) klI3 Tryz.underlying59 ti100 rfl rfl rfl rfl (hvm_wl.keep hq)) (by rw [hgv]; rfl) ?_
      refine qt_valE (v := .pointer (some ⟨vb, 0, none⟩)) rfl (fun wq hq => rf_nilCheckP rfl rfl) rfl ?_
      refine qt_valE (v := .pointer (some ⟨vb, 0, none⟩)) rfl (fun wq hq => rf_fieldAddr Tryz.underlying104 rfl ti102 rfl rfl) rfl ?_
      refine qt_valE (v := .pointer (some ⟨vb, 0, none⟩)) rfl (fun wq hq => rf_fieldAddr Tryz.underlying102 rfl ti3 rfl rfl) rfl ?_
      refine qt_valE (v := .int .i64 r0.batch) rfl (fun wq hq => rf_load Tryz.underlying3 rfl rfl rfl ((hvb2.keep hq).cell rfl)) rfl ?_
      refine qt_valE (v := .int .i64 b) rfl (fun wq hq => rf_move rfl) rfl ?_
      refine qt_valE (v := .bool (decide (r0.batch ≤ b))) rfl (fun wq hq => rf_leq rfl rfl rfl rfl) rfl ?_
      refine qt_nil ?_
      intro w3 hk3
      have hb_w3 := hb_wl.keep hk3
      have hvm_w3 := hvm_wl.keep hk3
      have hdd_w3 := hdd_wl.keep hk3
      have hkw_w3 := hkw_wl.comp hk3 (fun _ _ e => e.elim)
      have hch_w3 := hch_wl.keep hk3
      have hb1_w3 := hb1_wl.keep hk3
      have hkl0_w3 := hkl0.comp hk3 (fun _ _ e => e.elim)
      have hvb2_w3 := hvb2.keep hk3
      have hC_w3 := hC.keep hk3
      have hs3 := hk3.size
      refine thn ?_
      refine cond_ (t := decide (r0.batch ≤ b)) rfl rfl (fun c40 => ?_) (fun c40 => ?_)
      · have c40p := of_decide_eq_true c40
        refine seq_ ?_
        refine region_ ?_
        refine wl_valE (v := .slice (some ⟨cb, co, none⟩) ((st.ch k).length) cc) rfl (rf_move rfl) rfl ?_
        refine wl_valE (v := .int .i64 ((p : Nat) : Int)) rfl (rf_move rfl) (congrArg (Value.int .i64) (by omega)) ?_
        refine wl_valE (v := .pointer (some ⟨cb, co + p, none⟩)) rfl (rf_indexAddr Tryz.underlying57 ti3 rfl rfl rfl rfl (by omega) (by omega)) (by simp) ?_
        refine wl_valE (v := .int .i64 v0) rfl (rf_load Tryz.underlying3 rfl rfl rfl (el1 (hC_w3.cell hv0 0 _ rfl))) rfl ?_
        refine wl_valE (v := .int .i64 v0) rfl (rf_assign rfl) rfl ?_
        refine wl_nil ?_
        refine thn ?_
        refine ret_ ?_
        refine blr (thr (thr (blr (thr ?_))))
        refine fin1 (v := .int .i64 v0) Tryz.results26 rfl rfl ?_
        exact ⟨congrArg _ (vis_hit hv0 (by unfold visP; rw [hr0]; exact decide_eq_true c40p) (fun j x hj hx => hno j x (by omega) hx)).symm, hkw_w3⟩
      · have c40p := of_decide_eq_false c40
        refine skip_ ?_
        refine bln ?_
        refine thn ?_
        refine region_ ?_
        refine wl_valE (v := .int .i64 (((p + 1 : Nat) : Int) - 1)) rfl (rf_move rfl) rfl ?_
        refine wl_valE (v := .int .i64 ((p : Int) - 1)) rfl (rf_sub rfl rfl rfl rfl (by rw [IntWalk.i64_in _ (by omega)]; omega)) rfl ?_
        refine wl_valE (v := .int .i64 ((p : Int) - 1)) rfl (rf_assign rfl) rfl ?_
        refine wl_nil ?_
        refine thn ?_
        refine ⟨p, _, rfl, (by omega), _, p, upds_self ⟨rfl, rfl, rfl, rfl, trivial⟩, ?_⟩
        refine ⟨by omega, by omega, fun j x h1 h2 => ?_, hkl0_w3⟩
        rcases Nat.lt_or_eq_of_le h1 with h | h
        · exact hno j x (by omega) h2
        · subst h; rw [hv0] at h2; cases h2; unfold visP; rw [hr0]; exact decide_eq_false c40p
    · have c23p := of_decide_eq_false c23
      obtain rfl : q = 0 := by omega
      refine exit_ ?_
      refine thx (thx (blx ?_))
      refine thn ?_
      refine seq_ ?_
      refine region_ ?_
      refine wl_valE (v := .int .i64 ((0 : Nat) : Int)) rfl (rf_assign rfl) rfl ?_
      refine wl_nil ?_
      refine thn ?_
      refine ret_ ?_
      refine fin1 (v := .int .i64 ((0 : Nat) : Int)) Tryz.results26 rfl rfl ?_
      exact ⟨congrArg _ (vis_miss (fun j x hx => hno j x (by omega) hx)).symm, hkw_wl⟩
theorem newest_ret (s : Nat) (st : StS) (h : StH) (w : World) (hs : StoreR w s st h) (k : Key) (hl : st.last ≤ 17592186044415) : Ret Tryz.prog 24 [.pointer (some ⟨s, 0, none⟩), .agg #[.int .i64 k.table, .int .i64 k.row]] w fun v w' => v = .int .i64 (visF st k 1099511627776) ∧ Kp none_ w w' := by
  have hkw : Kp none_ w w := Kp.refl w
  refine enterR Tryz.func24 rfl Tryz.ntmps24 rfl ?_
  intro g0
  refine seq_ ?_
  refine region_ ?_
  refine wl_box (v := .agg #[.int .i64 k.table, .int .i64 k.row]) rfl rfl ?_
  intro b1 w1 hg1 hk1 hb1
  have hs_w1 := hs.keep hk1
  have hkw_w1 := hkw.comp hk1 (fun _ _ e => e.elim)
  have hs1 := hk1.size
  refine wl_valE (v := .int .i64 ((0 : Nat) : Int)) rfl (rf_assign rfl) rfl ?_
  refine wl_nil ?_
  refine thn ?_
  refine seq_ ?_
  refine region_ ?_
  refine wl_valE (v := .pointer (some ⟨s, 0, none⟩)) rfl (rf_move rfl) rfl ?_
  refine wl_valE (v := .agg #[.int .i64 k.table, .int .i64 k.row]) rfl (rf_loadBlk Tryz.underlying41 rfl ti41 rfl rfl hb1 (Nat.le_of_ble_eq_true rfl)) rfl ?_
  refine wl_ret rfl (visible_ret s st h w1 hs_w1 k 1099511627776 hl) (rf_call Tryz.call26 rfl rfl) ?_
  rintro _ w2 ⟨rfl, hk2⟩
  have hs_w2 := hs_w1.keep hk2
  have hkw_w2 := hkw_w1.comp hk2 (fun _ _ e => e.elim)
  have hb1_w2 := hb1.keep hk2
  have hs2 := hk2.size
  refine wl_valE (v := .int .i64 (visF st k 1099511627776)) rfl (rf_assign rfl) rfl ?_
  refine wl_nil ?_
  refine thn ?_
  refine ret_ ?_
  refine fin1 (v := .int .i64 (visF st k 1099511627776)) Tryz.results24 rfl rfl ?_
  exact ⟨rfl, hkw_w2⟩
theorem look_ret (s : Nat) (st : StS) (h : StH) (w : World) (hs : StoreR w s st h) (x : Int) (r : VerR) (hv : st.ver x = some r) : Ret Tryz.prog 18 [.pointer (some ⟨s, 0, none⟩), .int .i64 x] w fun v w' => v = .tuple #[.agg (encTold r).toArray, .int .i64 0] ∧ Kp none_ w w' := by
  have hkw : Kp none_ w w := Kp.refl w
  have hb := hs.blk
  have hvm := hs.vers
  have hdd := hs.dict
  obtain ⟨vb, hgv, hvb, hvbm⟩ := hs.get hv
  refine enterR Tryz.func18 rfl Tryz.ntmps18 rfl ?_
  intro g0
  refine seq_ ?_
  refine region_ ?_
  refine wl_alloc ti71 ?_
  intro b1 w1 hg1 hk1 hb1
  have ne1_s : s ≠ b1 := Nat.ne_of_lt (Nat.lt_of_lt_of_le hb.lt hg1)
  have ne1_hvr : h.vr ≠ b1 := Nat.ne_of_lt (Nat.lt_of_lt_of_le hvm.lt hg1)
  have ne1_vb : vb ≠ b1 := Nat.ne_of_lt (Nat.lt_of_lt_of_le hvb.lt hg1)
  have hb_w1 := hb.keep hk1
  have hvm_w1 := hvm.keep hk1
  have hdd_w1 := hdd.keep hk1
  have hkw_w1 := hkw.comp hk1 (fun _ _ e => e.elim)
  have hvb_w1 := hvb.keep hk1
  have hs1 := hk1.size
  refine wl_valE (v := .int .i64 ((0 : Nat) : Int)) rfl (rf_assign rfl) rfl ?_
  refine wl_nil ?_
  refine thn ?_
  refine seq_ ?_
  refine region_ ?_
  refine wl_valE (v := .pointer (some ⟨s, 0, none⟩)) rfl (rf_move rfl) rfl ?_
  refine wl_valE (v := .pointer (some ⟨s, 0, none⟩)) rfl (rf_nilCheckP rfl rfl) rfl ?_
  refine wl_valE (v := .pointer (some ⟨s, 3, none⟩)) rfl (rf_fieldAddr Tryz.underlying61 rfl ti59 rfl rfl) rfl ?_
  refine wl_valE (v := .map (some h.vr)) rfl (rf_load Tryz.underlying59 rfl rfl rfl (hb_w1.cell rfl)) rfl ?_
  refine wl_valE (v := .int .i64 x) rfl (rf_move rfl) rfl ?_
  refine wl_valE (v := .tuple #[.pointer (some ⟨vb, 0, none⟩), .bool true]) rfl (rf_lookup2 (a := x) klI3 Tryz.underlying59 ti100 rfl rfl rfl rfl hvm_w1) (by rw [hgv]; rfl) ?_
  refine wl_valE (v := .tuple #[.pointer (some ⟨vb, 0, none⟩), .bool true]) rfl (rf_move rfl) rfl ?_
  refine wl_valE (v := .pointer (some ⟨vb, 0, none⟩)) rfl (rf_extract rfl rfl rfl) rfl ?_
  refine wl_valE (v := .bool true) rfl (rf_extract rfl rfl rfl) rfl ?_
  refine wl_valE (v := .pointer (some ⟨vb, 0, none⟩)) rfl (rf_assign rfl) rfl ?_
  refine wl_valE (v := .bool true) rfl (rf_assign rfl) rfl ?_
  refine wl_nil ?_
  refine thn ?_
  refine seq_ ?_
  refine seq_ ?_
  refine region_ ?_
  refine wl_valE (v := .bool true) rfl (rf_move rfl) rfl ?_
  refine wl_valE (v := .bool false) rfl (rf_not rfl rfl) rfl ?_
  refine wl_nil ?_
  refine thn ?_
  refine condF rfl rfl ?_
  refine skip_ ?_
  refine thn ?_
  refine seq_ ?_
  refine region_ ?_
  refine wl_valE (v := .pointer (some ⟨vb, 0, none⟩)) rfl (rf_move rfl) rfl ?_
  refine wl_ret rfl (told_ret vb r w1 hvb_w1) (rf_call Tryz.call55 rfl rfl) ?_
  rintro _ w2 ⟨rfl, hk2⟩
  have hb_w2 := hb_w1.keep hk2
  have hvm_w2 := hvm_w1.keep hk2
  have hdd_w2 := hdd_w1.keep hk2
  have hkw_w2 := hkw_w1.comp hk2 (fun _ _ e => e.elim)
  have hvb_w2 := hvb_w1.keep hk2
  have hb1_w2 := hb1.keep hk2
  have hs2 := hk2.size
  refine wl_storeAgg (b := b1) (o := 0) (cs := (encTold r)) ti71 rfl rfl rfl rfl rfl (by simp [encTold, Value.oneCell']) hb1_w2 (Nat.le_of_ble_eq_true rfl) ?_
  intro w3 hk3 hb3
  have hb_w3 := hb_w2.kp hk3 ne1_s
  have hvm_w3 := hvm_w2.kp hk3 ne1_hvr
  have hdd_w3 := hdd_w2.kp hk3 (fun x hx e => by have := hs.dict.lt x hx; omega)
  have hkw_w3 := hkw_w2.comp hk3 (fun b h e => by omega)
  have hvb_w3 := hvb_w2.kp hk3 ne1_vb
  have hs3 := hk3.size
  refine wl_valE (v := .int .i64 ((0 : Nat) : Int)) rfl (rf_assign rfl) rfl ?_
  refine wl_nil ?_
  refine thn ?_
  refine ret_ ?_
  refine finV2 Tryz.results18 (RV.blk rfl Tryz.underlying71 rfl ti71 rfl (by with_reducible assumption) (Nat.le_of_ble_eq_true rfl)) (.tmp (v := .int .i64 ((0 : Nat) : Int)) rfl rfl) ?_
  exact ⟨rfl, hkw_w3⟩
theorem lookN_ret (s : Nat) (st : StS) (h : StH) (w : World) (hs : StoreR w s st h) (x : Int) (hv : st.ver x = none) : Ret Tryz.prog 18 [.pointer (some ⟨s, 0, none⟩), .int .i64 x] w fun v w' => v = .tuple #[.agg (encTold ⟨0, 0, ⟨0, 0⟩, false, ⟨false, 0⟩⟩).toArray, .int .i64 93] ∧ Kp none_ w w' := by
  have hkw : Kp none_ w w := Kp.refl w
  have hb := hs.blk
  have hvm := hs.vers
  have hdd := hs.dict
  have hgn := hs.getN hv
  refine enterR Tryz.func18 rfl Tryz.ntmps18 rfl ?_
  intro g0
  refine seq_ ?_
  refine region_ ?_
  refine wl_alloc ti71 ?_
  intro b1 w1 hg1 hk1 hb1
  have ne1_s : s ≠ b1 := Nat.ne_of_lt (Nat.lt_of_lt_of_le hb.lt hg1)
  have ne1_hvr : h.vr ≠ b1 := Nat.ne_of_lt (Nat.lt_of_lt_of_le hvm.lt hg1)
  have hb_w1 := hb.keep hk1
  have hvm_w1 := hvm.keep hk1
  have hdd_w1 := hdd.keep hk1
  have hkw_w1 := hkw.comp hk1 (fun _ _ e => e.elim)
  have hs1 := hk1.size
  refine wl_valE (v := .int .i64 ((0 : Nat) : Int)) rfl (rf_assign rfl) rfl ?_
  refine wl_nil ?_
  refine thn ?_
  refine seq_ ?_
  refine region_ ?_
  refine wl_valE (v := .pointer (some ⟨s, 0, none⟩)) rfl (rf_move rfl) rfl ?_
  refine wl_valE (v := .pointer (some ⟨s, 0, none⟩)) rfl (rf_nilCheckP rfl rfl) rfl ?_
  refine wl_valE (v := .pointer (some ⟨s, 3, none⟩)) rfl (rf_fieldAddr Tryz.underlying61 rfl ti59 rfl rfl) rfl ?_
  refine wl_valE (v := .map (some h.vr)) rfl (rf_load Tryz.underlying59 rfl rfl rfl (hb_w1.cell rfl)) rfl ?_
  refine wl_valE (v := .int .i64 x) rfl (rf_move rfl) rfl ?_
  refine wl_valE (v := .tuple #[.pointer none, .bool false]) rfl (rf_lookup2 (a := x) klI3 Tryz.underlying59 ti100 rfl rfl rfl rfl hvm_w1) (by rw [hgn]; rfl) ?_
  refine wl_valE (v := .tuple #[.pointer none, .bool false]) rfl (rf_move rfl) rfl ?_
  refine wl_valE (v := .pointer none) rfl (rf_extract rfl rfl rfl) rfl ?_
  refine wl_valE (v := .bool false) rfl (rf_extract rfl rfl rfl) rfl ?_
  refine wl_valE (v := .pointer none) rfl (rf_assign rfl) rfl ?_
  refine wl_valE (v := .bool false) rfl (rf_assign rfl) rfl ?_
  refine wl_nil ?_
  refine thn ?_
  refine seq_ ?_
  refine seq_ ?_
  refine region_ ?_
  refine wl_valE (v := .bool false) rfl (rf_move rfl) rfl ?_
  refine wl_valE (v := .bool true) rfl (rf_not rfl rfl) rfl ?_
  refine wl_nil ?_
  refine thn ?_
  refine condT rfl rfl ?_
  refine seq_ ?_
  refine region_ ?_
  refine wl_valE (v := .agg #[.int .i64 ((0 : Nat) : Int), .int .i64 ((0 : Nat) : Int), .bool false, .bool false, .int .i64 ((0 : Nat) : Int)]) rfl (rf_build (offs := []) (places := #[(0, 1), (1, 1), (2, 1), (3, 2)]) Tryz.underlying71 ti71 (fun w => by kernel_rfl) .nil) rfl ?_
  refine wl_storeAgg (b := b1) (o := 0) (cs := [.int .i64 ((0 : Nat) : Int), .int .i64 ((0 : Nat) : Int), .bool false, .bool false, .int .i64 ((0 : Nat) : Int)]) ti71 rfl rfl rfl rfl rfl (by simp [Value.oneCell']) hb1 (Nat.le_of_ble_eq_true rfl) ?_
  intro w2 hk2 hb2
  have hb_w2 := hb_w1.kp hk2 ne1_s
  have hvm_w2 := hvm_w1.kp hk2 ne1_hvr
  have hdd_w2 := hdd_w1.kp hk2 (fun x hx e => by have := hs.dict.lt x hx; omega)
  have hkw_w2 := hkw_w1.comp hk2 (fun b h e => by omega)
  have hs2 := hk2.size
  replace hb2 : Blk w2 b1 (.cells #[.int .i64 ((0 : Nat) : Int), .int .i64 ((0 : Nat) : Int), .bool false, .bool false, .int .i64 ((0 : Nat) : Int)] _ (0, 0)) := hb2
  refine wl_valE (v := .int .i64 ((93 : Nat) : Int)) rfl (rf_assign rfl) rfl ?_
  refine wl_nil ?_
  refine thn ?_
  refine ret_ ?_
  refine thr ?_
  refine finV2 Tryz.results18 (RV.blk rfl Tryz.underlying71 rfl ti71 rfl (by with_reducible assumption) (Nat.le_of_ble_eq_true rfl)) (.tmp (v := .int .i64 ((93 : Nat) : Int)) rfl rfl) ?_
  exact ⟨rfl, hkw_w2⟩
theorem fillN_ret (s : Nat) (st : StS) (h : StH) (w : World) (hs : StoreR w s st h) (c : Cell) (x : Int) (hv : st.ver x = none) : Ret Tryz.prog 14 [.pointer (some ⟨s, 0, none⟩), .int .i64 x, .agg #[.bool c.is_, .int .i64 c.value]] w fun v w' => v = .int .i64 93 ∧ Kp none_ w w' := by
  have hkw : Kp none_ w w := Kp.refl w
  have hb := hs.blk
  have hvm := hs.vers
  have hdd := hs.dict
  have hgn := hs.getN hv
  refine enterR Tryz.func14 rfl Tryz.ntmps14 rfl ?_
  intro g0
  refine seq_ ?_
  refine region_ ?_
  refine wl_box (v := .agg #[.bool c.is_, .int .i64 c.value]) rfl rfl ?_
  intro b1 w1 hg1 hk1 hb1
  have ne1_s : s ≠ b1 := Nat.ne_of_lt (Nat.lt_of_lt_of_le hb.lt hg1)
  have ne1_hvr : h.vr ≠ b1 := Nat.ne_of_lt (Nat.lt_of_lt_of_le hvm.lt hg1)
  have hb_w1 := hb.keep hk1
  have hvm_w1 := hvm.keep hk1
  have hdd_w1 := hdd.keep hk1
  have hkw_w1 := hkw.comp hk1 (fun _ _ e => e.elim)
  have hs1 := hk1.size
  refine wl_valE (v := .int .i64 ((0 : Nat) : Int)) rfl (rf_assign rfl) rfl ?_
  refine wl_nil ?_
  refine thn ?_
  refine seq_ ?_
  refine region_ ?_
  refine wl_valE (v := .pointer (some ⟨s, 0, none⟩)) rfl (rf_move rfl) rfl ?_
  refine wl_valE (v := .pointer (some ⟨s, 0, none⟩)) rfl (rf_nilCheckP rfl rfl) rfl ?_
  refine wl_valE (v := .pointer (some ⟨s, 3, none⟩)) rfl (rf_fieldAddr Tryz.underlying61 rfl ti59 rfl rfl) rfl ?_
  refine wl_valE (v := .map (some h.vr)) rfl (rf_load Tryz.underlying59 rfl rfl rfl (hb_w1.cell rfl)) rfl ?_
  refine wl_valE (v := .int .i64 x) rfl (rf_move rfl) rfl ?_
  refine wl_valE (v := .tuple #[.pointer none, .bool false]) rfl (rf_lookup2 (a := x) klI3 Tryz.underlying59 ti100 rfl rfl rfl rfl hvm_w1) (by rw [hgn]; rfl) ?_
  refine wl_valE (v := .tuple #[.pointer none, .bool false]) rfl (rf_move rfl) rfl ?_
  refine wl_valE (v := .pointer none) rfl (rf_extract rfl rfl rfl) rfl ?_
  refine wl_valE (v := .bool false) rfl (rf_extract rfl rfl rfl) rfl ?_
  refine wl_valE (v := .pointer none) rfl (rf_assign rfl) rfl ?_
  refine wl_valE (v := .bool false) rfl (rf_assign rfl) rfl ?_
  refine wl_nil ?_
  refine thn ?_
  refine seq_ ?_
  refine seq_ ?_
  refine region_ ?_
  refine wl_valE (v := .bool false) rfl (rf_move rfl) rfl ?_
  refine wl_valE (v := .bool true) rfl (rf_not rfl rfl) rfl ?_
  refine wl_nil ?_
  refine thn ?_
  refine condT rfl rfl ?_
  refine seq_ ?_
  refine region_ ?_
  refine wl_valE (v := .int .i64 ((93 : Nat) : Int)) rfl (rf_assign rfl) rfl ?_
  refine wl_nil ?_
  refine thn ?_
  refine ret_ ?_
  refine thr ?_
  refine fin1 (v := .int .i64 ((93 : Nat) : Int)) Tryz.results14 rfl rfl ?_
  exact ⟨rfl, hkw_w1⟩
theorem fillE_ret (s : Nat) (st : StS) (h : StH) (w : World) (hs : StoreR w s st h) (c : Cell) (x : Int) (r : VerR) (hv : st.ver x = some r) (hf : r.filled = true) : Ret Tryz.prog 14 [.pointer (some ⟨s, 0, none⟩), .int .i64 x, .agg #[.bool c.is_, .int .i64 c.value]] w fun v w' => v = .int .i64 95 ∧ Kp none_ w w' := by
  have hkw : Kp none_ w w := Kp.refl w
  have hb := hs.blk
  have hvm := hs.vers
  have hdd := hs.dict
  obtain ⟨vb, hgv, hvb, hvbm⟩ := hs.get hv
  refine enterR Tryz.func14 rfl Tryz.ntmps14 rfl ?_
  intro g0
  refine seq_ ?_
  refine region_ ?_
  refine wl_box (v := .agg #[.bool c.is_, .int .i64 c.value]) rfl rfl ?_
  intro b1 w1 hg1 hk1 hb1
  have ne1_s : s ≠ b1 := Nat.ne_of_lt (Nat.lt_of_lt_of_le hb.lt hg1)
  have ne1_hvr : h.vr ≠ b1 := Nat.ne_of_lt (Nat.lt_of_lt_of_le hvm.lt hg1)
  have ne1_vb : vb ≠ b1 := Nat.ne_of_lt (Nat.lt_of_lt_of_le hvb.lt hg1)
  have hb_w1 := hb.keep hk1
  have hvm_w1 := hvm.keep hk1
  have hdd_w1 := hdd.keep hk1
  have hkw_w1 := hkw.comp hk1 (fun _ _ e => e.elim)
  have hvb_w1 := hvb.keep hk1
  have hs1 := hk1.size
  refine wl_valE (v := .int .i64 ((0 : Nat) : Int)) rfl (rf_assign rfl) rfl ?_
  refine wl_nil ?_
  refine thn ?_
  refine seq_ ?_
  refine region_ ?_
  refine wl_valE (v := .pointer (some ⟨s, 0, none⟩)) rfl (rf_move rfl) rfl ?_
  refine wl_valE (v := .pointer (some ⟨s, 0, none⟩)) rfl (rf_nilCheckP rfl rfl) rfl ?_
  refine wl_valE (v := .pointer (some ⟨s, 3, none⟩)) rfl (rf_fieldAddr Tryz.underlying61 rfl ti59 rfl rfl) rfl ?_
  refine wl_valE (v := .map (some h.vr)) rfl (rf_load Tryz.underlying59 rfl rfl rfl (hb_w1.cell rfl)) rfl ?_
  refine wl_valE (v := .int .i64 x) rfl (rf_move rfl) rfl ?_
  refine wl_valE (v := .tuple #[.pointer (some ⟨vb, 0, none⟩), .bool true]) rfl (rf_lookup2 (a := x) klI3 Tryz.underlying59 ti100 rfl rfl rfl rfl hvm_w1) (by rw [hgv]; rfl) ?_
  refine wl_valE (v := .tuple #[.pointer (some ⟨vb, 0, none⟩), .bool true]) rfl (rf_move rfl) rfl ?_
  refine wl_valE (v := .pointer (some ⟨vb, 0, none⟩)) rfl (rf_extract rfl rfl rfl) rfl ?_
  refine wl_valE (v := .bool true) rfl (rf_extract rfl rfl rfl) rfl ?_
  refine wl_valE (v := .pointer (some ⟨vb, 0, none⟩)) rfl (rf_assign rfl) rfl ?_
  refine wl_valE (v := .bool true) rfl (rf_assign rfl) rfl ?_
  refine wl_nil ?_
  refine thn ?_
  refine seq_ ?_
  refine seq_ ?_
  refine region_ ?_
  refine wl_valE (v := .bool true) rfl (rf_move rfl) rfl ?_
  refine wl_valE (v := .bool false) rfl (rf_not rfl rfl) rfl ?_
  refine wl_nil ?_
  refine thn ?_
  refine condF rfl rfl ?_
  refine skip_ ?_
  refine thn ?_
  refine seq_ ?_
  refine seq_ ?_
  refine region_ ?_
  refine wl_valE (v := .pointer (some ⟨vb, 0, none⟩)) rfl (rf_move rfl) rfl ?_
  refine wl_valE (v := .pointer (some ⟨vb, 0, none⟩)) rfl (rf_nilCheckP rfl rfl) rfl ?_
  refine wl_valE (v := .pointer (some ⟨vb, 4, none⟩)) rfl (rf_fieldAddr Tryz.underlying104 rfl ti4 rfl rfl) rfl ?_
  refine wl_valE (v := .bool r.filled) rfl (rf_load Tryz.underlying4 rfl rfl rfl (hvb_w1.cell rfl)) rfl ?_
  refine wl_nil ?_
  refine thn ?_
  refine condT' rfl rfl (t := r.filled) (hf) ?_
  refine seq_ ?_
  refine region_ ?_
  refine wl_valE (v := .int .i64 ((95 : Nat) : Int)) rfl (rf_assign rfl) rfl ?_
  refine wl_nil ?_
  refine thn ?_
  refine ret_ ?_
  refine thr ?_
  refine fin1 (v := .int .i64 ((95 : Nat) : Int)) Tryz.results14 rfl rfl ?_
  exact ⟨rfl, hkw_w1⟩
theorem fill_ret (s : Nat) (st : StS) (h : StH) (w : World) (hs : StoreR w s st h) (c : Cell) (x : Int) (r : VerR) (hv : st.ver x = some r) (hf : r.filled = false) : Ret Tryz.prog 14 [.pointer (some ⟨s, 0, none⟩), .int .i64 x, .agg #[.bool c.is_, .int .i64 c.value]] w fun v w' => v = .int .i64 0 ∧ StoreR w' s (fillSt st x r c) h ∧ Kp (fpS s h) w w' := by
  have hb := hs.blk
  have hvm := hs.vers
  have hdd := hs.dict
  obtain ⟨vb, hgv, hvb, hvbm⟩ := hs.get hv
  have hkv : Kp (fun y => y = vb) w w := Kp.refl w
  refine enterR Tryz.func14 rfl Tryz.ntmps14 rfl ?_
  intro g0
  refine seq_ ?_
  refine region_ ?_
  refine wl_box (v := .agg #[.bool c.is_, .int .i64 c.value]) rfl rfl ?_
  intro b1 w1 hg1 hk1 hb1
  have ne1_s : s ≠ b1 := Nat.ne_of_lt (Nat.lt_of_lt_of_le hb.lt hg1)
  have ne1_hvr : h.vr ≠ b1 := Nat.ne_of_lt (Nat.lt_of_lt_of_le hvm.lt hg1)
  have ne1_vb : vb ≠ b1 := Nat.ne_of_lt (Nat.lt_of_lt_of_le hvb.lt hg1)
  have hb_w1 := hb.keep hk1
  have hvm_w1 := hvm.keep hk1
  have hvb_w1 := hvb.keep hk1
  have hkv_w1 := hkv.comp hk1 (fun _ _ e => e.elim)
  have hs1 := hk1.size
  refine wl_valE (v := .int .i64 ((0 : Nat) : Int)) rfl (rf_assign rfl) rfl ?_
  refine wl_nil ?_
  refine thn ?_
  refine seq_ ?_
  refine region_ ?_
  refine wl_valE (v := .pointer (some ⟨s, 0, none⟩)) rfl (rf_move rfl) rfl ?_
  refine wl_valE (v := .pointer (some ⟨s, 0, none⟩)) rfl (rf_nilCheckP rfl rfl) rfl ?_
  refine wl_valE (v := .pointer (some ⟨s, 3, none⟩)) rfl (rf_fieldAddr Tryz.underlying61 rfl ti59 rfl rfl) rfl ?_
  refine wl_valE (v := .map (some h.vr)) rfl (rf_load Tryz.underlying59 rfl rfl rfl (hb_w1.cell rfl)) rfl ?_
  refine wl_valE (v := .int .i64 x) rfl (rf_move rfl) rfl ?_
  refine wl_valE (v := .tuple #[.pointer (some ⟨vb, 0, none⟩), .bool true]) rfl (rf_lookup2 (a := x) klI3 Tryz.underlying59 ti100 rfl rfl rfl rfl hvm_w1) (by rw [hgv]; rfl) ?_
  refine wl_valE (v := .tuple #[.pointer (some ⟨vb, 0, none⟩), .bool true]) rfl (rf_move rfl) rfl ?_
  refine wl_valE (v := .pointer (some ⟨vb, 0, none⟩)) rfl (rf_extract rfl rfl rfl) rfl ?_
  refine wl_valE (v := .bool true) rfl (rf_extract rfl rfl rfl) rfl ?_
  refine wl_valE (v := .pointer (some ⟨vb, 0, none⟩)) rfl (rf_assign rfl) rfl ?_
  refine wl_valE (v := .bool true) rfl (rf_assign rfl) rfl ?_
  refine wl_nil ?_
  refine thn ?_
  refine seq_ ?_
  refine seq_ ?_
  refine region_ ?_
  refine wl_valE (v := .bool true) rfl (rf_move rfl) rfl ?_
  refine wl_valE (v := .bool false) rfl (rf_not rfl rfl) rfl ?_
  refine wl_nil ?_
  refine thn ?_
  refine condF rfl rfl ?_
  refine skip_ ?_
  refine thn ?_
  refine seq_ ?_
  refine seq_ ?_
  refine region_ ?_
  refine wl_valE (v := .pointer (some ⟨vb, 0, none⟩)) rfl (rf_move rfl) rfl ?_
  refine wl_valE (v := .pointer (some ⟨vb, 0, none⟩)) rfl (rf_nilCheckP rfl rfl) rfl ?_
  refine wl_valE (v := .pointer (some ⟨vb, 4, none⟩)) rfl (rf_fieldAddr Tryz.underlying104 rfl ti4 rfl rfl) rfl ?_
  refine wl_valE (v := .bool r.filled) rfl (rf_load Tryz.underlying4 rfl rfl rfl (hvb_w1.cell rfl)) rfl ?_
  refine wl_nil ?_
  refine thn ?_
  refine condF' rfl rfl (t := r.filled) (hf) ?_
  refine skip_ ?_
  refine thn ?_
  refine seq_ ?_
  refine region_ ?_
  refine wl_valE (v := .pointer (some ⟨vb, 0, none⟩)) rfl (rf_move rfl) rfl ?_
  refine wl_valE (v := .pointer (some ⟨vb, 0, none⟩)) rfl (rf_nilCheckP rfl rfl) rfl ?_
  refine wl_valE (v := .pointer (some ⟨vb, 4, none⟩)) rfl (rf_fieldAddr Tryz.underlying104 rfl ti4 rfl rfl) rfl ?_
  refine wl_store (b := vb) (o := 4) (v := .bool true) ti4 rfl rfl rfl rfl rfl hvb_w1 (by first | decide | exact Nat.le_of_ble_eq_true rfl | simp) ?_
  intro w2 hk2 hb2
  have hkv_w2 := hkv_w1.comp hk2 (fun x _ e => e)
  have hb1_w2 := hb1.kp hk2 (Ne.symm ne1_vb)
  have hs2 := hk2.size
  replace hb2 : Blk w2 vb (.cells #[.int .i64 r.batch, .int .i64 r.index, .int .i64 r.key.table, .int .i64 r.key.row, .bool true, .bool r.cell.is_, .int .i64 r.cell.value] _ (0, 0)) := hb2
  refine wl_nil ?_
  refine thn ?_
  refine seq_ ?_
  refine seq_ ?_
  refine region_ ?_
  refine wl_valE (v := .pointer (some ⟨b1, 0, none⟩)) rfl (rf_fieldAddr Tryz.underlying43 rfl ti4 rfl rfl) rfl ?_
  refine wl_valE (v := .bool c.is_) rfl (rf_load Tryz.underlying4 rfl rfl rfl (hb1_w2.cell rfl)) rfl ?_
  refine wl_nil ?_
  refine thn ?_
  refine cond_ (t := c.is_) rfl rfl (fun c28 => ?_) (fun c28 => ?_)
  · refine region_ ?_
    refine wl_valE (v := .pointer (some ⟨vb, 0, none⟩)) rfl (rf_move rfl) rfl ?_
    refine wl_valE (v := .agg #[.bool c.is_, .int .i64 c.value]) rfl (rf_loadBlk Tryz.underlying43 rfl ti43 rfl rfl hb1_w2 (Nat.le_of_ble_eq_true rfl)) rfl ?_
    refine wl_valE (v := .pointer (some ⟨vb, 0, none⟩)) rfl (rf_nilCheckP rfl rfl) rfl ?_
    refine wl_valE (v := .pointer (some ⟨vb, 5, none⟩)) rfl (rf_fieldAddr Tryz.underlying104 rfl ti43 rfl rfl) rfl ?_
    refine wl_storeAgg (b := vb) (o := 5) (cs := [.bool c.is_, .int .i64 c.value]) ti43 rfl rfl rfl rfl rfl (by simp [Value.oneCell']) hb2 (Nat.le_of_ble_eq_true rfl) ?_
    intro w3 hk3 hb3
    have hkv_w3 := hkv_w2.comp hk3 (fun x _ e => e)
    have hb1_w3 := hb1_w2.kp hk3 (Ne.symm ne1_vb)
    have hs3 := hk3.size
    replace hb3 : Blk w3 vb (.cells #[.int .i64 r.batch, .int .i64 r.index, .int .i64 r.key.table, .int .i64 r.key.row, .bool true, .bool c.is_, .int .i64 c.value] _ (0, 0)) := hb3
    refine wl_nil ?_
    refine thn ?_
    refine seq_ ?_
    refine region_ ?_
    refine wl_valE (v := .int .i64 ((0 : Nat) : Int)) rfl (rf_assign rfl) rfl ?_
    refine wl_nil ?_
    refine thn ?_
    refine ret_ ?_
    refine fin1 (v := .int .i64 ((0 : Nat) : Int)) Tryz.results14 rfl rfl ?_
    exact ⟨rfl, fill_done hs hv hgv (by have e := hb3; unfold fillR; rw [if_pos c28]; exact e) hkv_w3⟩
  · refine skip_ ?_
    refine thn ?_
    refine seq_ ?_
    refine region_ ?_
    refine wl_valE (v := .int .i64 ((0 : Nat) : Int)) rfl (rf_assign rfl) rfl ?_
    refine wl_nil ?_
    refine thn ?_
    refine ret_ ?_
    refine fin1 (v := .int .i64 ((0 : Nat) : Int)) Tryz.results14 rfl rfl ?_
    exact ⟨rfl, fill_done hs hv hgv (by have e := hb2; unfold fillR; rw [if_neg (by simp [c28])]; exact e) hkv_w2⟩
end Go.Proofs.YtojcddlpkfhodaaGreat.W
