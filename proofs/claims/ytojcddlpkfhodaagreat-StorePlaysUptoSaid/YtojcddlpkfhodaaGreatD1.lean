import Derived.Test.YtojcddlpkfhodaaGreatK1
import Derived.KernelRfl
namespace Go.Proofs.YtojcddlpkfhodaaGreat.W
open Go Go.Wk
set_option linter.unusedVariables false
set_option linter.unusedSimpArgs false

structure SlotC where
  key : Key
  val : Sv
  came : Int
def encSlotC (s : SlotC) : List Value := [.int .i64 s.key.table, .int .i64 s.key.row, .slice s.val.a s.val.n s.val.c, .int .i64 s.came]
def slotC (s : SlotC) : Value := .agg (encSlotC s).toArray
def zslotC : SlotC := ⟨⟨0, 0⟩, ⟨none, 0, 0⟩, 0⟩
abbrev kv : Key → Value := fun x => Value.agg (encKey x).toArray
structure DictC (w : World) (b bp : Nat) (rs : List Nat) (ls : List (List (Key × SlotC))) (came n : Int) : Prop where
  blk : Blk w b (.cells #[.func (.func 11) #[] #[], .slice (some ⟨bp, 0, none⟩) rs.length rs.length, .int .i64 came, .int .i64 n] 94 (0, 0))
  arr : Blk w bp (.cells (rs.map fun r => Value.map (some r)).toArray 95 (0, 0))
  len : ls.length = rs.length
  pos : 1 ≤ rs.length ∧ rs.length ≤ 256
  nodup : rs.Nodup
  maps : ∀ (i : Nat) (r : Nat) (l : List (Key × SlotC)), rs[i]? = some r → ls[i]? = some l → Mp kv slotC w r l
  keys : ∀ l ∈ ls, (l.map (·.1)).Nodup ∧ ∀ p ∈ l, p.2.key = p.1
def fpD (b bp : Nat) (rs : List Nat) (x : Nat) : Prop := x = b ∨ x = bp ∨ x ∈ rs
theorem DictC.kp {w w' : World} {S : Nat → Prop} {b bp : Nat} {rs : List Nat} {ls : List (List (Key × SlotC))} {came n : Int} (h : DictC w b bp rs ls came n) (hk : Kp S w w') (hs : ∀ x, fpD b bp rs x → ¬ S x) : DictC w' b bp rs ls came n where
  blk := h.blk.kp hk (hs b (.inl rfl))
  arr := h.arr.kp hk (hs bp (.inr (.inl rfl)))
  len := h.len
  pos := h.pos
  nodup := h.nodup
  maps i r l hr hl := (h.maps i r l hr hl).kp hk (hs r (.inr (.inr (List.mem_of_getElem? hr))))
  keys := h.keys
theorem DictC.keep {w w' : World} {b bp : Nat} {rs : List Nat} {ls : List (List (Key × SlotC))} {came n : Int} (h : DictC w b bp rs ls came n) (hk : Kp none_ w w') : DictC w' b bp rs ls came n := h.kp hk (fun _ _ h => h)
theorem DictC.lt {w : World} {b bp : Nat} {rs : List Nat} {ls : List (List (Key × SlotC))} {came n : Int} (h : DictC w b bp rs ls came n) : ∀ x, fpD b bp rs x → x < w.heap.size := by
  rintro x (rfl | rfl | hx)
  · exact h.blk.lt
  · exact h.arr.lt
  · obtain ⟨i, hi⟩ := List.getElem?_of_mem hx
    obtain ⟨l, hl⟩ : ∃ l, ls[i]? = some l := ⟨_, List.getElem?_eq_getElem (by have := (List.getElem?_eq_some_iff.1 hi).1; have := h.len; omega)⟩
    exact (h.maps i x l hi hl).lt
def dgetC (ls : List (List (Key × SlotC))) (k : Key) : Option SlotC := (ls[hashF k % ls.length]?).bind fun l => getL l k
def dputC (ls : List (List (Key × SlotC))) (k : Key) (s : SlotC) : List (List (Key × SlotC)) := ls.set (hashF k % ls.length) (putL (ls.getD (hashF k % ls.length) []) k s)
def ddelC (ls : List (List (Key × SlotC))) (k : Key) : List (List (Key × SlotC)) := ls.set (hashF k % ls.length) (delL (ls.getD (hashF k % ls.length) []) k)
theorem dgetC_eq {ls : List (List (Key × SlotC))} {k : Key} {l : List (Key × SlotC)} (h : ls[hashF k % ls.length]? = some l) : dgetC ls k = getL l k := by unfold dgetC; rw [h]; rfl
theorem dgetC_put {ls : List (List (Key × SlotC))} (h0 : 0 < ls.length) (k k' : Key) (s : SlotC) : dgetC (dputC ls k s) k' = if k' = k then some s else dgetC ls k' := by
  have hi := Nat.mod_lt (hashF k) h0
  have hi' := Nat.mod_lt (hashF k') h0
  unfold dgetC dputC
  rw [List.length_set, List.getElem?_set]
  by_cases e : hashF k % ls.length = hashF k' % ls.length
  · rw [if_pos e, ← e, if_pos hi, Option.bind_some, getL_putL, List.getD_eq_getElem?_getD, List.getElem?_eq_getElem hi]
    rfl
  · rw [if_neg e, if_neg (fun h => e (by rw [h]))]
theorem dgetC_del {ls : List (List (Key × SlotC))} (h0 : 0 < ls.length) (hn : ∀ l ∈ ls, (l.map (·.1)).Nodup) (k k' : Key) : dgetC (ddelC ls k) k' = if k' = k then none else dgetC ls k' := by
  have hi := Nat.mod_lt (hashF k) h0
  have hi' := Nat.mod_lt (hashF k') h0
  unfold dgetC ddelC
  rw [List.length_set, List.getElem?_set]
  by_cases e : hashF k % ls.length = hashF k' % ls.length
  · rw [if_pos e, ← e, if_pos hi, Option.bind_some, List.getD_eq_getElem?_getD, List.getElem?_eq_getElem hi, Option.getD_some, getL_delL (hn _ (List.getElem_mem hi))]
    rfl
  · rw [if_neg e, if_neg (fun h => e (by rw [h]))]
theorem dgetC_new (n : Nat) (k : Key) : dgetC (List.replicate n []) k = none := by
  unfold dgetC
  rw [List.getElem?_replicate]
  split <;> rfl
theorem DictC.part {w : World} {b bp : Nat} {rs : List Nat} {ls : List (List (Key × SlotC))} {came n : Int} (h : DictC w b bp rs ls came n) (k : Key) :
    ∃ r l, rs[hashF k % rs.length]? = some r ∧ ls[hashF k % rs.length]? = some l ∧ Mp kv slotC w r l ∧ dgetC ls k = getL l k ∧ r ∈ rs ∧ l ∈ ls ∧ hashF k % rs.length < rs.length ∧ (∀ s, dputC ls k s = ls.set (hashF k % rs.length) (putL l k s)) ∧ ddelC ls k = ls.set (hashF k % rs.length) (delL l k) := by
  have hi := Nat.mod_lt (hashF k) (show 0 < rs.length from h.pos.1)
  obtain ⟨r, h1⟩ : ∃ r, rs[hashF k % rs.length]? = some r := ⟨_, List.getElem?_eq_getElem hi⟩
  obtain ⟨l, h2⟩ : ∃ l, ls[hashF k % rs.length]? = some l := ⟨_, List.getElem?_eq_getElem (by rw [h.len]; exact hi)⟩
  exact ⟨_, _, h1, h2, h.maps _ _ _ h1 h2, dgetC_eq (by rw [h.len]; exact h2), List.mem_of_getElem? h1, List.mem_of_getElem? h2, hi, fun s => by unfold dputC; rw [h.len, List.getD_eq_getElem?_getD, h2]; rfl, by unfold ddelC; rw [h.len, List.getD_eq_getElem?_getD, h2]; rfl⟩
/-- A partition's map has turned, and the two counters may have. -/
theorem DictC.turn {w w' : World} {b bp : Nat} {rs : List Nat} {ls : List (List (Key × SlotC))} {came n came' n' : Int} {i r : Nat} {l : List (Key × SlotC)} (h : DictC w b bp rs ls came n) (hi : rs[i]? = some r)
    (hb : Blk w' b (.cells #[.func (.func 11) #[] #[], .slice (some ⟨bp, 0, none⟩) rs.length rs.length, .int .i64 came', .int .i64 n'] 94 (0, 0))) (hm : Mp kv slotC w' r l) (hk : Kp (fun x => x = b ∨ x = r) w w') (hl : (l.map (·.1)).Nodup ∧ ∀ p ∈ l, p.2.key = p.1) :
    DictC w' b bp rs (ls.set i l) came' n' where
  blk := hb
  arr := h.arr.kp hk (by
    rintro (e | e)
    · have := (h.blk.eq (e ▸ h.arr)); simp at this
    · obtain ⟨l0, hl0⟩ : ∃ l, ls[i]? = some l := ⟨_, List.getElem?_eq_getElem (by have := (List.getElem?_eq_some_iff.1 hi).1; have := h.len; omega)⟩
      exact (h.maps i r l0 hi hl0).ne_cells h.arr e)
  len := by rw [List.length_set]; exact h.len
  pos := h.pos
  nodup := h.nodup
  maps j q m hq hm' := by
    rw [List.getElem?_set] at hm'
    by_cases e : i = j
    · subst e
      rw [hi] at hq
      cases hq
      rw [if_pos rfl] at hm'
      split at hm'
      · cases hm'; exact hm
      · cases hm'
    · rw [if_neg e] at hm'
      refine (h.maps j q m hq hm').kp hk ?_
      rintro (e2 | e2)
      · exact (h.maps j q m hq hm').ne_cells h.blk e2.symm
      · subst e2
        exact e (nodup_inj h.nodup hi hq)
  keys l' hl' := by
    rcases List.mem_or_eq_of_mem_set hl' with h1 | h1
    · exact h.keys l' h1
    · subst h1; exact hl
def NewMapsC (s0 : Nat) (w : World) (ms : List Nat) : Prop := ∀ r ∈ ms, s0 ≤ r ∧ r < w.heap.size ∧ Mp kv slotC w r ([] : List (Key × SlotC))
theorem NewMapsC.kp {s0 : Nat} {w w' : World} {S : Nat → Prop} {ms : List Nat} (h : NewMapsC s0 w ms) (hk : Kp S w w') (hs : ∀ r ∈ ms, ¬ S r) : NewMapsC s0 w' ms := fun r hr => ⟨(h r hr).1, Nat.lt_of_lt_of_le (h r hr).2.1 hk.size, (h r hr).2.2.kp hk (hs r hr)⟩
theorem NewMapsC.keep {s0 : Nat} {w w' : World} {ms : List Nat} (h : NewMapsC s0 w ms) (hk : Kp none_ w w') : NewMapsC s0 w' ms := h.kp hk (fun _ _ h => h)
theorem put_keysC {l : List (Key × SlotC)} (h : (l.map (·.1)).Nodup ∧ ∀ p ∈ l, p.2.key = p.1) (k : Key) (s : SlotC) (hs : s.key = k) : ((putL l k s).map (·.1)).Nodup ∧ ∀ p ∈ putL l k s, p.2.key = p.1 := by
  refine ⟨putL_nodup h.1 k s, fun p hp => ?_⟩
  have hg := mem_getL (putL_nodup h.1 k s) (a := p.1) (v := p.2) hp
  rw [getL_putL] at hg
  split at hg
  · rename_i e; cases hg; rw [hs, e]
  · exact h.2 _ (getL_mem hg)
theorem del_keysC {l : List (Key × SlotC)} (h : (l.map (·.1)).Nodup ∧ ∀ p ∈ l, p.2.key = p.1) (k : Key) : ((delL l k).map (·.1)).Nodup ∧ ∀ p ∈ delL l k, p.2.key = p.1 :=
  ⟨delL_nodup h.1 k, fun p hp => h.2 p ((delL_sub l k).subset hp)⟩
theorem partC_ret (k : Key) (b bp : Nat) (rs : List Nat) (ls : List (List (Key × SlotC))) (came n : Int) (w : World) (hd : DictC w b bp rs ls came n) :
    Ret Tryz.prog 63 [.pointer (some ⟨b, 0, none⟩), .agg #[.int .i64 k.table, .int .i64 k.row]] w fun v w' => v = .int .i64 ((hashF k % rs.length : Nat) : Int) ∧ Kp none_ w w' := by
  have hkw : Kp none_ w w := Kp.refl w
  have hb := hd.blk
  have hpos := hd.pos
  have hi := Nat.mod_lt (hashF k) (show 0 < rs.length from hpos.1)
  refine enterR Tryz.func63 rfl Tryz.ntmps63 rfl ?_
  intro g0
  refine seq_ ?_
  refine region_ ?_
  refine wl_box (v := .agg #[.int .i64 k.table, .int .i64 k.row]) rfl rfl ?_
  intro b1 w1 hg1 hk1 hb1
  have ne1_b : b ≠ b1 := Nat.ne_of_lt (Nat.lt_of_lt_of_le hb.lt hg1)
  have hb_w1 := hb.keep hk1
  have hkw_w1 := hkw.comp hk1 (fun _ _ e => e.elim)
  have hs1 := hk1.size
  refine wl_valE (v := .int .i64 ((0 : Nat) : Int)) rfl (rf_assign rfl) rfl ?_
  refine wl_nil ?_
  refine thn ?_
  refine seq_ ?_
  refine region_q mixedP (by kernel_rfl) ?_
  refine qt_valE (v := .pointer (some ⟨b, 0, none⟩)) rfl (fun wq hq => rf_move rfl) rfl ?_
  refine qt_valE (v := .pointer (some ⟨b, 0, none⟩)) rfl (fun wq hq => rf_nilCheckP rfl rfl) rfl ?_
  refine qt_valE (v := .pointer (some ⟨b, 0, none⟩)) rfl (fun wq hq => rf_fieldAddr Tryz.underlying94 rfl ti58 rfl rfl) rfl ?_
  refine qt_valE (v := .func (.func 11) #[] #[]) rfl (fun wq hq => rf_load Tryz.underlying58 rfl rfl rfl ((hb_w1.keep hq).cell rfl)) rfl ?_
  refine qt_valE (v := .agg #[.int .i64 k.table, .int .i64 k.row]) rfl (fun wq hq => rf_loadBlk Tryz.underlying41 rfl ti41 rfl rfl (hb1.keep hq) (Nat.le_of_ble_eq_true rfl)) rfl ?_
  refine qt_ret (v := .int .u64 ((hashF k : Nat) : Int)) rfl (fun wq hq => (hash_ret k wq).mono (fun _ _ h => ⟨h.1, hq.trans h.2⟩)) (fun wq hq => rf_callv (fs := []) (cs := []) Tryz.call11 rfl rfl rfl rfl) ?_
  refine qt_valE (v := .pointer (some ⟨b, 0, none⟩)) rfl (fun wq hq => rf_move rfl) rfl ?_
  refine qt_valE (v := .pointer (some ⟨b, 0, none⟩)) rfl (fun wq hq => rf_nilCheckP rfl rfl) rfl ?_
  refine qt_valE (v := .pointer (some ⟨b, 1, none⟩)) rfl (fun wq hq => rf_fieldAddr Tryz.underlying94 rfl ti92 rfl rfl) rfl ?_
  refine qt_valE (v := .slice (some ⟨bp, 0, none⟩) rs.length rs.length) rfl (fun wq hq => rf_load Tryz.underlying92 rfl rfl rfl ((hb_w1.keep hq).cell rfl)) rfl ?_
  refine qt_valE (v := .int .i64 ((rs.length : Nat) : Int)) rfl (fun wq hq => rf_len_slice Tryz.underlying92 rfl rfl) rfl ?_
  refine qt_valE (v := .int .u64 ((rs.length : Nat) : Int)) rfl (fun wq hq => rf_conv Tryz.underlying3 Tryz.underlying91 rfl rfl (IntWalk.u64_in _ (by omega))) rfl ?_
  refine qt_valE (v := .int .u64 ((hashF k % rs.length : Nat) : Int)) rfl (fun wq hq => rf_rem rfl rfl rfl rfl (by omega) (tmodN _ _)) rfl ?_
  refine qt_valE (v := .int .i64 ((hashF k % rs.length : Nat) : Int)) rfl (fun wq hq => rf_conv Tryz.underlying91 Tryz.underlying3 rfl rfl (IntWalk.i64_in _ (by omega))) rfl ?_
  refine qt_valE (v := .int .i64 ((hashF k % rs.length : Nat) : Int)) rfl (fun wq hq => rf_assign rfl) rfl ?_
  refine qt_nil ?_
  intro w2 hk2
  have hb_w2 := hb_w1.keep hk2
  have hkw_w2 := hkw_w1.comp hk2 (fun _ _ e => e.elim)
  have hb1_w2 := hb1.keep hk2
  have hs2 := hk2.size
  refine thn ?_
  refine ret_ ?_
  refine fin1 (v := .int .i64 ((hashF k % rs.length : Nat) : Int)) Tryz.results63 rfl rfl ?_
  exact ⟨rfl, hkw_w2⟩
theorem getC_ret (k : Key) (b bp : Nat) (rs : List Nat) (ls : List (List (Key × SlotC))) (came n : Int) (w : World) (hd : DictC w b bp rs ls came n) :
    Ret Tryz.prog 45 [.pointer (some ⟨b, 0, none⟩), .agg #[.int .i64 k.table, .int .i64 k.row]] w fun v w' => v = .tuple #[.slice ((dgetC ls k).getD zslotC).val.a ((dgetC ls k).getD zslotC).val.n ((dgetC ls k).getD zslotC).val.c, .bool (dgetC ls k).isSome] ∧ Kp none_ w w' := by
  have hkw : Kp none_ w w := Kp.refl w
  obtain ⟨r, l, hr, hl, hm, hg, hrm, hlm, hi, hdp, hdl⟩ := hd.part k
  have hb := hd.blk
  have hp := hd.arr
  have hpos := hd.pos
  have hbr := hm.ne_cells hb
  have hpr := hm.ne_cells hp
  have hbp : b ≠ bp := fun e => by have := hb.eq (e ▸ hp); simp at this
  obtain ⟨sx, hsx⟩ : ∃ sx, sx = (getL l k).getD zslotC := ⟨_, rfl⟩
  have hdd := hd
  refine enterR Tryz.func45 rfl Tryz.ntmps45 rfl ?_
  intro g0
  refine seq_ ?_
  refine region_ ?_
  refine wl_box (v := .agg #[.int .i64 k.table, .int .i64 k.row]) rfl rfl ?_
  intro b1 w1 hg1 hk1 hb1
  have ne1_b : b ≠ b1 := Nat.ne_of_lt (Nat.lt_of_lt_of_le hb.lt hg1)
  have ne1_bp : bp ≠ b1 := Nat.ne_of_lt (Nat.lt_of_lt_of_le hp.lt hg1)
  have ne1_r : r ≠ b1 := Nat.ne_of_lt (Nat.lt_of_lt_of_le hm.lt hg1)
  have hb_w1 := hb.keep hk1
  have hp_w1 := hp.keep hk1
  have hm_w1 := hm.keep hk1
  have hkw_w1 := hkw.comp hk1 (fun _ _ e => e.elim)
  have hdd_w1 := hdd.keep hk1
  have hs1 := hk1.size
  refine wl_valE (v := .slice none 0 0) rfl (rf_assign rfl) rfl ?_
  refine wl_valE (v := .bool false) rfl (rf_assign rfl) rfl ?_
  refine wl_nil ?_
  refine thn ?_
  refine seq_ ?_
  refine cut_ (fun lf lw => ∃ (g : Nat → Value) (bs : Nat), lf = upds g [(0, .pointer (some ⟨b, 0, none⟩)), (3, .pointer (some ⟨b1, 0, none⟩)), (4, .slice none 0 0), (5, .bool false), (6, .pointer (some ⟨bs, 0, none⟩)), (7, .bool ((getL l k).isSome))] ∧ Blk lw bs (.cells #[.int .i64 sx.key.table, .int .i64 sx.key.row, .slice sx.val.a sx.val.n sx.val.c, .int .i64 sx.came] 124 (0, 0)) ∧ Kp (none_) w1 lw) ?_ ?_
  · refine region_h (S := fun wq => Kp (none_) w1 wq) mixedP ?_
    intro w2 hk2
    have hb_w2 := hb_w1.keep hk2
    have hp_w2 := hp_w1.keep hk2
    have hm_w2 := hm_w1.keep hk2
    have hkw_w2 := hkw_w1.comp hk2 (fun _ _ e => e.elim)
    have hdd_w2 := hdd_w1.keep hk2
    have hb1_w2 := hb1.keep hk2
    have hs2 := hk2.size
    have hS2 : Kp (none_) w1 w2 := hk2
    refine wh_take (i := 0) (v := .pointer (some ⟨b, 0, none⟩)) rfl (by kernel_rfl) (by kernel_rfl) (by kernel_rfl) hS2 rfl (fun wq hq => rf_move rfl) rfl ?_
    refine wh_take (i := 1) (v := .pointer (some ⟨b, 0, none⟩)) rfl (by kernel_rfl) (by kernel_rfl) (by kernel_rfl) hS2 rfl (fun wq hq => rf_nilCheckP rfl rfl) rfl ?_
    refine wh_take (i := 2) (v := .pointer (some ⟨b, 1, none⟩)) rfl (by kernel_rfl) (by kernel_rfl) (by kernel_rfl) hS2 rfl (fun wq hq => rf_fieldAddr Tryz.underlying94 rfl ti92 rfl rfl) rfl ?_
    refine wh_take (i := 3) (v := .slice (some ⟨bp, 0, none⟩) rs.length rs.length) rfl (by kernel_rfl) (by kernel_rfl) (by kernel_rfl) hS2 rfl (fun wq hq => rf_load Tryz.underlying92 rfl rfl rfl ((hb_w1.keep hq).cell rfl)) rfl ?_
    refine wh_take (i := 4) (v := .pointer (some ⟨b, 0, none⟩)) rfl (by kernel_rfl) (by kernel_rfl) (by kernel_rfl) hS2 rfl (fun wq hq => rf_move rfl) rfl ?_
    refine wh_take (i := 5) (v := .agg #[.int .i64 k.table, .int .i64 k.row]) rfl (by kernel_rfl) (by kernel_rfl) (by kernel_rfl) hS2 rfl (fun wq hq => rf_loadBlk Tryz.underlying41 rfl ti41 rfl rfl (hb1.keep hq) (Nat.le_of_ble_eq_true rfl)) rfl ?_
    refine wh_take (i := 9) (v := .agg #[.int .i64 k.table, .int .i64 k.row]) rfl (by kernel_rfl) (by kernel_rfl) (by kernel_rfl) hS2 rfl (fun wq hq => rf_loadBlk Tryz.underlying41 rfl ti41 rfl rfl (hb1.keep hq) (Nat.le_of_ble_eq_true rfl)) rfl ?_
    refine wh_two (i := 6) (j := 14) (by kernel_rfl) rfl rfl ?_ ?_
    · refine wl_ret rfl (partC_ret k b bp rs ls came n w2 hdd_w2) (rf_call Tryz.call63 rfl rfl) ?_
      rintro _ w3 ⟨rfl, hk3⟩
      have hb_w3 := hb_w2.keep hk3
      have hp_w3 := hp_w2.keep hk3
      have hm_w3 := hm_w2.keep hk3
      have hkw_w3 := hkw_w2.comp hk3 (fun _ _ e => e.elim)
      have hdd_w3 := hdd_w2.keep hk3
      have hb1_w3 := hb1_w2.keep hk3
      have hS_w3 := hS2.comp hk3 (fun _ _ e => e.elim)
      have hs3 := hk3.size
      refine wl_nil ?_
      refine wh_back hS_w3 ?_
      refine wh_take (i := 7) (v := .pointer (some ⟨bp, hashF k % rs.length, none⟩)) rfl (by kernel_rfl) (by kernel_rfl) (by kernel_rfl) hS_w3 rfl (fun wq hq => rf_indexAddr Tryz.underlying92 ti95 rfl rfl rfl rfl (by omega) (by omega)) (by simp) ?_
      refine wh_take (i := 8) (v := .map (some r)) rfl (by kernel_rfl) (by kernel_rfl) (by kernel_rfl) hS_w3 rfl (fun wq hq => rf_load Tryz.underlying95 rfl rfl rfl (hq.cell (hp_w1.cell (i := hashF k % rs.length) (v := .map (some r)) (by simp [hr])) (fun h => h))) rfl ?_
      refine wh_take (i := 10) (v := .tuple #[.agg #[.int .i64 sx.key.table, .int .i64 sx.key.row, .slice sx.val.a sx.val.n sx.val.c, .int .i64 sx.came], .bool ((getL l k).isSome)]) rfl (by kernel_rfl) (by kernel_rfl) (by kernel_rfl) hS_w3 rfl (fun wq hq => rf_lookup2 (a := k) klKey Tryz.underlying95 ti124 rfl rfl rfl rfl (hm_w1.keep hq)) (by rw [hsx]; cases getL l k <;> rfl) ?_
      refine wh_take (i := 11) (v := .tuple #[.agg #[.int .i64 sx.key.table, .int .i64 sx.key.row, .slice sx.val.a sx.val.n sx.val.c, .int .i64 sx.came], .bool ((getL l k).isSome)]) rfl (by kernel_rfl) (by kernel_rfl) (by kernel_rfl) hS_w3 rfl (fun wq hq => rf_move rfl) rfl ?_
      refine wh_take (i := 12) (v := .agg #[.int .i64 sx.key.table, .int .i64 sx.key.row, .slice sx.val.a sx.val.n sx.val.c, .int .i64 sx.came]) rfl (by kernel_rfl) (by kernel_rfl) (by kernel_rfl) hS_w3 rfl (fun wq hq => rf_extract rfl rfl rfl) rfl ?_
      refine wh_take (i := 13) (v := .bool ((getL l k).isSome)) rfl (by kernel_rfl) (by kernel_rfl) (by kernel_rfl) hS_w3 rfl (fun wq hq => rf_extract rfl rfl rfl) rfl ?_
      refine wh_one (i := 14) (by kernel_rfl) rfl ?_
      refine wl_alloc ti124 ?_
      intro b4 w4 hg4 hk4 hb4
      have ne4_b : b ≠ b4 := Nat.ne_of_lt (Nat.lt_of_lt_of_le hb_w3.lt hg4)
      have ne4_bp : bp ≠ b4 := Nat.ne_of_lt (Nat.lt_of_lt_of_le hp_w3.lt hg4)
      have ne4_r : r ≠ b4 := Nat.ne_of_lt (Nat.lt_of_lt_of_le hm_w3.lt hg4)
      have ne4_b1 : b1 ≠ b4 := Nat.ne_of_lt (Nat.lt_of_lt_of_le hb1_w3.lt hg4)
      have hb_w4 := hb_w3.keep hk4
      have hp_w4 := hp_w3.keep hk4
      have hm_w4 := hm_w3.keep hk4
      have hkw_w4 := hkw_w3.comp hk4 (fun _ _ e => e.elim)
      have hdd_w4 := hdd_w3.keep hk4
      have hb1_w4 := hb1_w3.keep hk4
      have hS_w4 := hS_w3.comp hk4 (fun _ _ e => e.elim)
      have hs4 := hk4.size
      refine wl_nil ?_
      refine wh_back hS_w4 ?_
      refine wh_one (i := 15) (by kernel_rfl) rfl ?_
      refine wl_storeAgg (b := b4) (o := 0) (cs := [.int .i64 sx.key.table, .int .i64 sx.key.row, .slice sx.val.a sx.val.n sx.val.c, .int .i64 sx.came]) ti124 rfl rfl rfl rfl rfl (by simp [Value.oneCell']) hb4 (Nat.le_of_ble_eq_true rfl) ?_
      intro w5 hk5 hb5
      have hb_w5 := hb_w4.kp hk5 ne4_b
      have hp_w5 := hp_w4.kp hk5 ne4_bp
      have hm_w5 := hm_w4.kp hk5 ne4_r
      have hkw_w5 := hkw_w4.comp hk5 (fun b h e => by first | exact e | omega)
      have hdd_w5 := hdd_w4.kp hk5 (fun x hx e => by have := hd.lt x hx; omega)
      have hb1_w5 := hb1_w4.kp hk5 ne4_b1
      have hS_w5 := hS_w4.comp hk5 (fun b h e => by first | exact e | omega)
      have hs5 := hk5.size
      replace hb5 : Blk w5 b4 (.cells #[.int .i64 sx.key.table, .int .i64 sx.key.row, .slice sx.val.a sx.val.n sx.val.c, .int .i64 sx.came] _ (0, 0)) := hb5
      refine wl_nil ?_
      refine wh_back hS_w5 ?_
      refine wh_take (i := 16) (v := .bool ((getL l k).isSome)) rfl (by kernel_rfl) (by kernel_rfl) (by kernel_rfl) hS_w5 rfl (fun wq hq => rf_assign rfl) rfl ?_
      refine wh_done (by kernel_rfl) ?_
      refine cxn ⟨_, b4, upds_self ⟨rfl, rfl, rfl, rfl, rfl, rfl, trivial⟩, ?_⟩
      exact ⟨hb5, hS_w5⟩
    · refine wl_alloc ti124 ?_
      intro b6 w6 hg6 hk6 hb6
      have ne6_b : b ≠ b6 := Nat.ne_of_lt (Nat.lt_of_lt_of_le hb_w2.lt hg6)
      have ne6_bp : bp ≠ b6 := Nat.ne_of_lt (Nat.lt_of_lt_of_le hp_w2.lt hg6)
      have ne6_r : r ≠ b6 := Nat.ne_of_lt (Nat.lt_of_lt_of_le hm_w2.lt hg6)
      have ne6_b1 : b1 ≠ b6 := Nat.ne_of_lt (Nat.lt_of_lt_of_le hb1_w2.lt hg6)
      have hb_w6 := hb_w2.keep hk6
      have hp_w6 := hp_w2.keep hk6
      have hm_w6 := hm_w2.keep hk6
      have hkw_w6 := hkw_w2.comp hk6 (fun _ _ e => e.elim)
      have hdd_w6 := hdd_w2.keep hk6
      have hb1_w6 := hb1_w2.keep hk6
      have hS_w6 := hS2.comp hk6 (fun _ _ e => e.elim)
      have hs6 := hk6.size
      refine wl_nil ?_
      refine wh_back hS_w6 ?_
      refine wh_one (i := 6) (by kernel_rfl) rfl ?_
      refine wl_ret rfl (partC_ret k b bp rs ls came n w6 hdd_w6) (rf_call Tryz.call63 rfl rfl) ?_
      rintro _ w7 ⟨rfl, hk7⟩
      have hb_w7 := hb_w6.keep hk7
      have hp_w7 := hp_w6.keep hk7
      have hm_w7 := hm_w6.keep hk7
      have hkw_w7 := hkw_w6.comp hk7 (fun _ _ e => e.elim)
      have hdd_w7 := hdd_w6.keep hk7
      have hb1_w7 := hb1_w6.keep hk7
      have hS_w7 := hS_w6.comp hk7 (fun _ _ e => e.elim)
      have hb6_w7 := hb6.keep hk7
      have hs7 := hk7.size
      refine wl_nil ?_
      refine wh_back hS_w7 ?_
      refine wh_take (i := 7) (v := .pointer (some ⟨bp, hashF k % rs.length, none⟩)) rfl (by kernel_rfl) (by kernel_rfl) (by kernel_rfl) hS_w7 rfl (fun wq hq => rf_indexAddr Tryz.underlying92 ti95 rfl rfl rfl rfl (by omega) (by omega)) (by simp) ?_
      refine wh_take (i := 8) (v := .map (some r)) rfl (by kernel_rfl) (by kernel_rfl) (by kernel_rfl) hS_w7 rfl (fun wq hq => rf_load Tryz.underlying95 rfl rfl rfl (hq.cell (hp_w1.cell (i := hashF k % rs.length) (v := .map (some r)) (by simp [hr])) (fun h => h))) rfl ?_
      refine wh_take (i := 10) (v := .tuple #[.agg #[.int .i64 sx.key.table, .int .i64 sx.key.row, .slice sx.val.a sx.val.n sx.val.c, .int .i64 sx.came], .bool ((getL l k).isSome)]) rfl (by kernel_rfl) (by kernel_rfl) (by kernel_rfl) hS_w7 rfl (fun wq hq => rf_lookup2 (a := k) klKey Tryz.underlying95 ti124 rfl rfl rfl rfl (hm_w1.keep hq)) (by rw [hsx]; cases getL l k <;> rfl) ?_
      refine wh_take (i := 11) (v := .tuple #[.agg #[.int .i64 sx.key.table, .int .i64 sx.key.row, .slice sx.val.a sx.val.n sx.val.c, .int .i64 sx.came], .bool ((getL l k).isSome)]) rfl (by kernel_rfl) (by kernel_rfl) (by kernel_rfl) hS_w7 rfl (fun wq hq => rf_move rfl) rfl ?_
      refine wh_take (i := 12) (v := .agg #[.int .i64 sx.key.table, .int .i64 sx.key.row, .slice sx.val.a sx.val.n sx.val.c, .int .i64 sx.came]) rfl (by kernel_rfl) (by kernel_rfl) (by kernel_rfl) hS_w7 rfl (fun wq hq => rf_extract rfl rfl rfl) rfl ?_
      refine wh_take (i := 13) (v := .bool ((getL l k).isSome)) rfl (by kernel_rfl) (by kernel_rfl) (by kernel_rfl) hS_w7 rfl (fun wq hq => rf_extract rfl rfl rfl) rfl ?_
      refine wh_one (i := 15) (by kernel_rfl) rfl ?_
      refine wl_storeAgg (b := b6) (o := 0) (cs := [.int .i64 sx.key.table, .int .i64 sx.key.row, .slice sx.val.a sx.val.n sx.val.c, .int .i64 sx.came]) ti124 rfl rfl rfl rfl rfl (by simp [Value.oneCell']) hb6_w7 (Nat.le_of_ble_eq_true rfl) ?_
      intro w8 hk8 hb8
      have hb_w8 := hb_w7.kp hk8 ne6_b
      have hp_w8 := hp_w7.kp hk8 ne6_bp
      have hm_w8 := hm_w7.kp hk8 ne6_r
      have hkw_w8 := hkw_w7.comp hk8 (fun b h e => by first | exact e | omega)
      have hdd_w8 := hdd_w7.kp hk8 (fun x hx e => by have := hd.lt x hx; omega)
      have hb1_w8 := hb1_w7.kp hk8 ne6_b1
      have hS_w8 := hS_w7.comp hk8 (fun b h e => by first | exact e | omega)
      have hs8 := hk8.size
      replace hb8 : Blk w8 b6 (.cells #[.int .i64 sx.key.table, .int .i64 sx.key.row, .slice sx.val.a sx.val.n sx.val.c, .int .i64 sx.came] _ (0, 0)) := hb8
      refine wl_nil ?_
      refine wh_back hS_w8 ?_
      refine wh_take (i := 16) (v := .bool ((getL l k).isSome)) rfl (by kernel_rfl) (by kernel_rfl) (by kernel_rfl) hS_w8 rfl (fun wq hq => rf_assign rfl) rfl ?_
      refine wh_done (by kernel_rfl) ?_
      refine cxn ⟨_, b6, upds_self ⟨rfl, rfl, rfl, rfl, rfl, rfl, trivial⟩, ?_⟩
      exact ⟨hb8, hS_w8⟩
  · intro lfcutr1 wc hIcutr1
    obtain ⟨glcutr1, bs, rfl, hbs, hkc⟩ := hIcutr1
    have hb_wc := hb_w1.keep hkc
    have hp_wc := hp_w1.keep hkc
    have hm_wc := hm_w1.keep hkc
    have hkw_wc := hkw_w1.comp hkc (fun _ _ e => e.elim)
    have hdd_wc := hdd_w1.keep hkc
    have hb1_wc := hb1.keep hkc
    have hsc := hkc.size
    refine thn ?_
    refine seq_ ?_
    refine region_ ?_
    refine wl_valE (v := .pointer (some ⟨bs, 2, none⟩)) rfl (rf_fieldAddr Tryz.underlying124 rfl ti57 rfl rfl) rfl ?_
    refine wl_valE (v := .slice sx.val.a sx.val.n sx.val.c) rfl (rf_load Tryz.underlying57 rfl rfl rfl (hbs.cell rfl)) rfl ?_
    refine wl_valE (v := .bool ((getL l k).isSome)) rfl (rf_move rfl) rfl ?_
    refine wl_valE (v := .slice sx.val.a sx.val.n sx.val.c) rfl (rf_assign rfl) rfl ?_
    refine wl_valE (v := .bool ((getL l k).isSome)) rfl (rf_assign rfl) rfl ?_
    refine wl_nil ?_
    refine thn ?_
    refine ret_ ?_
    refine fin2 (v1 := .slice sx.val.a sx.val.n sx.val.c) (v2 := .bool ((getL l k).isSome)) Tryz.results45 rfl rfl rfl rfl ?_
    exact ⟨by rw [hg, hsx], hkw_wc⟩
theorem putC_ret (x : Sv) (k : Key) (b bp : Nat) (rs : List Nat) (ls : List (List (Key × SlotC))) (came n : Int) (w : World) (hd : DictC w b bp rs ls came n) :
    Ret Tryz.prog 46 [.pointer (some ⟨b, 0, none⟩), .agg #[.int .i64 k.table, .int .i64 k.row], .slice x.a x.n x.c] w fun v w' => v = .tuple #[.slice ((dgetC ls k).getD zslotC).val.a ((dgetC ls k).getD zslotC).val.n ((dgetC ls k).getD zslotC).val.c, .bool (dgetC ls k).isSome] ∧ DictC w' b bp rs (dputC ls k ⟨k, x, ((dgetC ls k).map (·.came)).getD (IntKind.i64.wrap (came + 1))⟩) (if (dgetC ls k).isSome then came else IntKind.i64.wrap (came + 1)) (if (dgetC ls k).isSome then n else IntKind.i64.wrap (n + 1)) ∧ Kp (fun y => y = b ∨ y ∈ rs) w w' := by
  have hkw : Kp none_ w w := Kp.refl w
  obtain ⟨r, l, hr, hl, hm, hg, hrm, hlm, hi, hdp, hdl⟩ := hd.part k
  have hb := hd.blk
  have hp := hd.arr
  have hpos := hd.pos
  have hbr := hm.ne_cells hb
  have hpr := hm.ne_cells hp
  have hbp : b ≠ bp := fun e => by have := hb.eq (e ▸ hp); simp at this
  obtain ⟨sx, hsx⟩ : ∃ sx, sx = (getL l k).getD zslotC := ⟨_, rfl⟩
  have hkp : Kp (fun y => y = b ∨ y = r) w w := Kp.refl w
  have hdd := hd
  refine enterR Tryz.func46 rfl Tryz.ntmps46 rfl ?_
  intro g0
  refine seq_ ?_
  refine region_ ?_
  refine wl_box (v := .agg #[.int .i64 k.table, .int .i64 k.row]) rfl rfl ?_
  intro b1 w1 hg1 hk1 hb1
  have ne1_b : b ≠ b1 := Nat.ne_of_lt (Nat.lt_of_lt_of_le hb.lt hg1)
  have ne1_bp : bp ≠ b1 := Nat.ne_of_lt (Nat.lt_of_lt_of_le hp.lt hg1)
  have ne1_r : r ≠ b1 := Nat.ne_of_lt (Nat.lt_of_lt_of_le hm.lt hg1)
  have hb_w1 := hb.keep hk1
  have hp_w1 := hp.keep hk1
  have hm_w1 := hm.keep hk1
  have hdd_w1 := hdd.keep hk1
  have hkp_w1 := hkp.comp hk1 (fun _ _ e => e.elim)
  have hs1 := hk1.size
  refine wl_valE (v := .slice none 0 0) rfl (rf_assign rfl) rfl ?_
  refine wl_valE (v := .bool false) rfl (rf_assign rfl) rfl ?_
  refine wl_nil ?_
  refine thn ?_
  refine seq_ ?_
  refine region_q mixedP (by kernel_rfl) ?_
  refine qt_valE (v := .pointer (some ⟨b, 0, none⟩)) rfl (fun wq hq => rf_move rfl) rfl ?_
  refine qt_valE (v := .pointer (some ⟨b, 0, none⟩)) rfl (fun wq hq => rf_nilCheckP rfl rfl) rfl ?_
  refine qt_valE (v := .pointer (some ⟨b, 1, none⟩)) rfl (fun wq hq => rf_fieldAddr Tryz.underlying94 rfl ti92 rfl rfl) rfl ?_
  refine qt_valE (v := .slice (some ⟨bp, 0, none⟩) rs.length rs.length) rfl (fun wq hq => rf_load Tryz.underlying92 rfl rfl rfl ((hb_w1.keep hq).cell rfl)) rfl ?_
  refine qt_valE (v := .pointer (some ⟨b, 0, none⟩)) rfl (fun wq hq => rf_move rfl) rfl ?_
  refine qt_valE (v := .agg #[.int .i64 k.table, .int .i64 k.row]) rfl (fun wq hq => rf_loadBlk Tryz.underlying41 rfl ti41 rfl rfl (hb1.keep hq) (Nat.le_of_ble_eq_true rfl)) rfl ?_
  refine qt_ret (v := .int .i64 ((hashF k % rs.length : Nat) : Int)) rfl (fun wq hq => (partC_ret k b bp rs ls came n wq (hdd_w1.keep hq)).mono (fun _ _ h => ⟨h.1, hq.trans h.2⟩)) (fun wq hq => rf_call Tryz.call63 rfl rfl) ?_
  refine qt_valE (v := .pointer (some ⟨bp, hashF k % rs.length, none⟩)) rfl (fun wq hq => rf_indexAddr Tryz.underlying92 ti95 rfl rfl rfl rfl (by omega) (by omega)) (by simp) ?_
  refine qt_valE (v := .map (some r)) rfl (fun wq hq => rf_load Tryz.underlying95 rfl rfl rfl (hq.cell (hp_w1.cell (i := hashF k % rs.length) (v := .map (some r)) (by simp [hr])) (fun h => h))) rfl ?_
  refine qt_valE (v := .map (some r)) rfl (fun wq hq => rf_assign rfl) rfl ?_
  refine qt_nil ?_
  intro w2 hk2
  have hb_w2 := hb_w1.keep hk2
  have hp_w2 := hp_w1.keep hk2
  have hm_w2 := hm_w1.keep hk2
  have hkp_w2 := hkp_w1.comp hk2 (fun _ _ e => e.elim)
  have hb1_w2 := hb1.keep hk2
  have hs2 := hk2.size
  refine thn ?_
  refine seq_ ?_
  refine region_ ?_
  refine wl_valE (v := .map (some r)) rfl (rf_move rfl) rfl ?_
  refine wl_valE (v := .agg #[.int .i64 k.table, .int .i64 k.row]) rfl (rf_loadBlk Tryz.underlying41 rfl ti41 rfl rfl hb1_w2 (Nat.le_of_ble_eq_true rfl)) rfl ?_
  refine wl_valE (v := .tuple #[.agg #[.int .i64 sx.key.table, .int .i64 sx.key.row, .slice sx.val.a sx.val.n sx.val.c, .int .i64 sx.came], .bool ((getL l k).isSome)]) rfl (rf_lookup2 (a := k) klKey Tryz.underlying95 ti124 rfl rfl rfl rfl hm_w2) (by rw [hsx]; cases getL l k <;> rfl) ?_
  refine wl_valE (v := .tuple #[.agg #[.int .i64 sx.key.table, .int .i64 sx.key.row, .slice sx.val.a sx.val.n sx.val.c, .int .i64 sx.came], .bool ((getL l k).isSome)]) rfl (rf_move rfl) rfl ?_
  refine wl_valE (v := .agg #[.int .i64 sx.key.table, .int .i64 sx.key.row, .slice sx.val.a sx.val.n sx.val.c, .int .i64 sx.came]) rfl (rf_extract rfl rfl rfl) rfl ?_
  refine wl_valE (v := .bool ((getL l k).isSome)) rfl (rf_extract rfl rfl rfl) rfl ?_
  refine wl_alloc ti124 ?_
  intro b3 w3 hg3 hk3 hb3
  have ne3_b : b ≠ b3 := Nat.ne_of_lt (Nat.lt_of_lt_of_le hb_w2.lt hg3)
  have ne3_bp : bp ≠ b3 := Nat.ne_of_lt (Nat.lt_of_lt_of_le hp_w2.lt hg3)
  have ne3_r : r ≠ b3 := Nat.ne_of_lt (Nat.lt_of_lt_of_le hm_w2.lt hg3)
  have ne3_b1 : b1 ≠ b3 := Nat.ne_of_lt (Nat.lt_of_lt_of_le hb1_w2.lt hg3)
  have hb_w3 := hb_w2.keep hk3
  have hp_w3 := hp_w2.keep hk3
  have hm_w3 := hm_w2.keep hk3
  have hkp_w3 := hkp_w2.comp hk3 (fun _ _ e => e.elim)
  have hb1_w3 := hb1_w2.keep hk3
  have hs3 := hk3.size
  refine wl_storeAgg (b := b3) (o := 0) (cs := [.int .i64 sx.key.table, .int .i64 sx.key.row, .slice sx.val.a sx.val.n sx.val.c, .int .i64 sx.came]) ti124 rfl rfl rfl rfl rfl (by simp [Value.oneCell']) hb3 (Nat.le_of_ble_eq_true rfl) ?_
  intro w4 hk4 hb4
  have hb_w4 := hb_w3.kp hk4 ne3_b
  have hp_w4 := hp_w3.kp hk4 ne3_bp
  have hm_w4 := hm_w3.kp hk4 ne3_r
  have hkp_w4 := hkp_w3.comp hk4 (fun y h e => by omega)
  have hb1_w4 := hb1_w3.kp hk4 ne3_b1
  have hs4 := hk4.size
  replace hb4 : Blk w4 b3 (.cells #[.int .i64 sx.key.table, .int .i64 sx.key.row, .slice sx.val.a sx.val.n sx.val.c, .int .i64 sx.came] _ (0, 0)) := hb4
  refine wl_valE (v := .bool ((getL l k).isSome)) rfl (rf_assign rfl) rfl ?_
  refine wl_nil ?_
  refine thn ?_
  refine seq_ ?_
  refine seq_ ?_
  refine region_ ?_
  refine wl_valE (v := .bool ((getL l k).isSome)) rfl (rf_move rfl) rfl ?_
  refine wl_valE (v := .bool (!((getL l k).isSome))) rfl (rf_not rfl rfl) rfl ?_
  refine wl_nil ?_
  refine thn ?_
  refine cond_ (t := !((getL l k).isSome)) rfl rfl (fun c28 => ?_) (fun c28 => ?_)
  · have hno : getL l k = none := by cases h : getL l k with
      | none => rfl
      | some s => rw [h] at c28; simp at c28
    refine seq_ ?_
    refine region_ ?_
    refine wl_valE (v := .pointer (some ⟨b, 0, none⟩)) rfl (rf_move rfl) rfl ?_
    refine wl_valE (v := .pointer (some ⟨b, 0, none⟩)) rfl (rf_nilCheckP rfl rfl) rfl ?_
    refine wl_valE (v := .pointer (some ⟨b, 2, none⟩)) rfl (rf_fieldAddr Tryz.underlying94 rfl ti3 rfl rfl) rfl ?_
    refine wl_valE (v := .int .i64 came) rfl (rf_load Tryz.underlying3 rfl rfl rfl (hb_w4.cell rfl)) rfl ?_
    refine wl_valE (v := .int .i64 (IntKind.i64.wrap (came + 1))) rfl (rf_add rfl rfl rfl rfl rfl) rfl ?_
    refine wl_valE (v := .pointer (some ⟨b, 0, none⟩)) rfl (rf_nilCheckP rfl rfl) rfl ?_
    refine wl_valE (v := .pointer (some ⟨b, 2, none⟩)) rfl (rf_fieldAddr Tryz.underlying94 rfl ti3 rfl rfl) rfl ?_
    refine wl_store (b := b) (o := 2) (v := .int .i64 (IntKind.i64.wrap (came + 1))) ti3 rfl rfl rfl rfl rfl hb_w4 (by first | decide | exact Nat.le_of_ble_eq_true rfl | simp) ?_
    intro w5 hk5 hb5
    have hp_w5 := hp_w4.kp hk5 (by omega)
    have hm_w5 := hm_w4.kp hk5 (by omega)
    have hkp_w5 := hkp_w4.comp hk5 (fun y _ e => .inl e)
    have hb1_w5 := hb1_w4.kp hk5 (Ne.symm ne1_b)
    have hb3_w5 := hb4.kp hk5 (Ne.symm ne3_b)
    have hs5 := hk5.size
    replace hb5 : Blk w5 b (.cells #[.func (.func 11) #[] #[], .slice (some ⟨bp, 0, none⟩) rs.length rs.length, .int .i64 (IntKind.i64.wrap (came + 1)), .int .i64 n] _ (0, 0)) := hb5
    refine wl_nil ?_
    refine thn ?_
    refine seq_ ?_
    refine region_ ?_
    refine wl_valE (v := .pointer (some ⟨b, 0, none⟩)) rfl (rf_move rfl) rfl ?_
    refine wl_valE (v := .pointer (some ⟨b, 0, none⟩)) rfl (rf_nilCheckP rfl rfl) rfl ?_
    refine wl_valE (v := .pointer (some ⟨b, 3, none⟩)) rfl (rf_fieldAddr Tryz.underlying94 rfl ti3 rfl rfl) rfl ?_
    refine wl_valE (v := .int .i64 n) rfl (rf_load Tryz.underlying3 rfl rfl rfl (hb5.cell rfl)) rfl ?_
    refine wl_valE (v := .int .i64 (IntKind.i64.wrap (n + 1))) rfl (rf_add rfl rfl rfl rfl rfl) rfl ?_
    refine wl_valE (v := .pointer (some ⟨b, 0, none⟩)) rfl (rf_nilCheckP rfl rfl) rfl ?_
    refine wl_valE (v := .pointer (some ⟨b, 3, none⟩)) rfl (rf_fieldAddr Tryz.underlying94 rfl ti3 rfl rfl) rfl ?_
    refine wl_store (b := b) (o := 3) (v := .int .i64 (IntKind.i64.wrap (n + 1))) ti3 rfl rfl rfl rfl rfl hb5 (by first | decide | exact Nat.le_of_ble_eq_true rfl | simp) ?_
    intro w6 hk6 hb6
    have hp_w6 := hp_w5.kp hk6 (by omega)
    have hm_w6 := hm_w5.kp hk6 (by omega)
    have hkp_w6 := hkp_w5.comp hk6 (fun y _ e => .inl e)
    have hb1_w6 := hb1_w5.kp hk6 (Ne.symm ne1_b)
    have hb3_w6 := hb3_w5.kp hk6 (Ne.symm ne3_b)
    have hs6 := hk6.size
    replace hb6 : Blk w6 b (.cells #[.func (.func 11) #[] #[], .slice (some ⟨bp, 0, none⟩) rs.length rs.length, .int .i64 (IntKind.i64.wrap (came + 1)), .int .i64 (IntKind.i64.wrap (n + 1))] _ (0, 0)) := hb6
    refine wl_nil ?_
    refine thn ?_
    refine seq_ ?_
    refine region_h (S := fun wq => Kp (fun y => y = r) w6 wq) mixedP ?_
    intro w7 hk7
    have hp_w7 := hp_w6.keep hk7
    have hm_w7 := hm_w6.keep hk7
    have hkp_w7 := hkp_w6.comp hk7 (fun _ _ e => e.elim)
    have hb1_w7 := hb1_w6.keep hk7
    have hb3_w7 := hb3_w6.keep hk7
    have hb_w7 := hb6.keep hk7
    have hs7 := hk7.size
    have hS7 : Kp (fun y => y = r) w6 w7 := hk7.of_none
    refine wh_take (i := 0) (v := .map (some r)) rfl (by kernel_rfl) (by kernel_rfl) (by kernel_rfl) hS7 rfl (fun wq hq => rf_move rfl) rfl ?_
    refine wh_take (i := 1) (v := .agg #[.int .i64 k.table, .int .i64 k.row]) rfl (by kernel_rfl) (by kernel_rfl) (by kernel_rfl) hS7 rfl (fun wq hq => rf_loadBlk Tryz.underlying41 rfl ti41 rfl rfl (hb1_w6.kp hq (by omega)) (Nat.le_of_ble_eq_true rfl)) rfl ?_
    refine wh_take (i := 2) (v := .agg #[.int .i64 k.table, .int .i64 k.row]) rfl (by kernel_rfl) (by kernel_rfl) (by kernel_rfl) hS7 rfl (fun wq hq => rf_loadBlk Tryz.underlying41 rfl ti41 rfl rfl (hb1_w6.kp hq (by omega)) (Nat.le_of_ble_eq_true rfl)) rfl ?_
    refine wh_take (i := 3) (v := .slice x.a x.n x.c) rfl (by kernel_rfl) (by kernel_rfl) (by kernel_rfl) hS7 rfl (fun wq hq => rf_move rfl) rfl ?_
    refine wh_take (i := 4) (v := .pointer (some ⟨b, 0, none⟩)) rfl (by kernel_rfl) (by kernel_rfl) (by kernel_rfl) hS7 rfl (fun wq hq => rf_move rfl) rfl ?_
    refine wh_take (i := 5) (v := .pointer (some ⟨b, 0, none⟩)) rfl (by kernel_rfl) (by kernel_rfl) (by kernel_rfl) hS7 rfl (fun wq hq => rf_nilCheckP rfl rfl) rfl ?_
    refine wh_take (i := 6) (v := .pointer (some ⟨b, 2, none⟩)) rfl (by kernel_rfl) (by kernel_rfl) (by kernel_rfl) hS7 rfl (fun wq hq => rf_fieldAddr Tryz.underlying94 rfl ti3 rfl rfl) rfl ?_
    refine wh_take (i := 7) (v := .int .i64 (IntKind.i64.wrap (came + 1))) rfl (by kernel_rfl) (by kernel_rfl) (by kernel_rfl) hS7 rfl (fun wq hq => rf_load Tryz.underlying3 rfl rfl rfl ((hb6.kp hq (by omega)).cell rfl)) rfl ?_
    refine wh_take (i := 8) (v := .agg #[.int .i64 k.table, .int .i64 k.row, .slice x.a x.n x.c, .int .i64 (IntKind.i64.wrap (came + 1))]) rfl (by kernel_rfl) (by kernel_rfl) (by kernel_rfl) hS7 rfl (fun wq hq => rf_build (offs := [(0, [.int .i64 k.table, .int .i64 k.row]), (2, [.slice x.a x.n x.c]), (3, [.int .i64 (IntKind.i64.wrap (came + 1))])]) (places := #[(0, 2), (2, 1), (3, 1)]) Tryz.underlying124 ti124 (fun w => by kernel_rfl) (.cons rfl rfl rfl rfl rfl rfl (.cons rfl rfl rfl rfl rfl rfl (.cons rfl rfl rfl rfl rfl rfl .nil)))) rfl ?_
    refine wh_one (i := 9) (by kernel_rfl) rfl ?_
    refine wl_mapUpdate (a := k) (u := (⟨k, x, IntKind.i64.wrap (came + 1)⟩ : SlotC)) klKey Tryz.underlying95 rfl rfl rfl rfl rfl rfl hm_w7 ?_
    intro w8 hk8 hm8
    have hp_w8 := hp_w7.kp hk8 (by omega)
    have hkp_w8 := hkp_w7.comp hk8 (fun y _ e => .inr e)
    have hb1_w8 := hb1_w7.kp hk8 (Ne.symm ne1_r)
    have hb3_w8 := hb3_w7.kp hk8 (Ne.symm ne3_r)
    have hb_w8 := hb_w7.kp hk8 (by omega)
    have hS_w8 := hS7.comp hk8 (fun b h e => by first | exact e | omega)
    have hs8 := hk8.size
    refine wl_nil ?_
    refine wh_back hS_w8 ?_
    refine wh_done (by kernel_rfl) ?_
    refine thn ?_
    refine seq_ ?_
    refine region_ ?_
    refine wl_valE (v := .slice none 0 0) rfl (rf_assign rfl) rfl ?_
    refine wl_nil ?_
    refine thn ?_
    refine seq_ ?_
    refine region_ ?_
    refine wl_valE (v := .slice none 0 0) rfl (rf_move rfl) rfl ?_
    refine wl_valE (v := .slice none 0 0) rfl (rf_assign rfl) rfl ?_
    refine wl_valE (v := .bool false) rfl (rf_assign rfl) rfl ?_
    refine wl_nil ?_
    refine thn ?_
    refine ret_ ?_
    refine thr ?_
    refine fin2 (v1 := .slice none 0 0) (v2 := .bool false) Tryz.results46 rfl rfl rfl rfl ?_
    refine ⟨by rw [hg, hno]; rfl, ?_, hkp_w8.mono (fun y _ h => Or.imp_right (fun e : y = r => e ▸ hrm) h)⟩
    rw [hg, hno, hdp]
    exact hd.turn hr hb_w8 hm8 hkp_w8 (put_keysC (hd.keys l hlm) k _ rfl)
  · obtain ⟨s0, hs0⟩ : ∃ s, getL l k = some s := by cases h : getL l k with
      | none => rw [h] at c28; simp at c28
      | some s => exact ⟨s, rfl⟩
    obtain rfl : sx = s0 := by rw [hsx, hs0]; rfl
    have hkey : sx.key = k := (hd.keys l hlm).2 (k, sx) (getL_mem hs0)
    refine skip_ ?_
    refine thn ?_
    refine seq_ ?_
    refine region_ ?_
    refine wl_valE (v := .map (some r)) rfl (rf_move rfl) rfl ?_
    refine wl_valE (v := .agg #[.int .i64 k.table, .int .i64 k.row]) rfl (rf_loadBlk Tryz.underlying41 rfl ti41 rfl rfl hb1_w4 (Nat.le_of_ble_eq_true rfl)) rfl ?_
    refine wl_valE (v := .pointer (some ⟨b3, 0, none⟩)) rfl (rf_fieldAddr Tryz.underlying124 rfl ti41 rfl rfl) rfl ?_
    refine wl_valE (v := .agg #[.int .i64 sx.key.table, .int .i64 sx.key.row]) rfl (rf_loadBlk Tryz.underlying41 rfl ti41 rfl rfl hb4 (Nat.le_of_ble_eq_true rfl)) rfl ?_
    refine wl_valE (v := .slice x.a x.n x.c) rfl (rf_move rfl) rfl ?_
    refine wl_valE (v := .pointer (some ⟨b3, 3, none⟩)) rfl (rf_fieldAddr Tryz.underlying124 rfl ti3 rfl rfl) rfl ?_
    refine wl_valE (v := .int .i64 sx.came) rfl (rf_load Tryz.underlying3 rfl rfl rfl (hb4.cell rfl)) rfl ?_
    refine wl_valE (v := .agg #[.int .i64 sx.key.table, .int .i64 sx.key.row, .slice x.a x.n x.c, .int .i64 sx.came]) rfl (rf_build (offs := [(0, [.int .i64 sx.key.table, .int .i64 sx.key.row]), (2, [.slice x.a x.n x.c]), (3, [.int .i64 sx.came])]) (places := #[(0, 2), (2, 1), (3, 1)]) Tryz.underlying124 ti124 (fun w => by kernel_rfl) (.cons rfl rfl rfl rfl rfl rfl (.cons rfl rfl rfl rfl rfl rfl (.cons rfl rfl rfl rfl rfl rfl .nil)))) rfl ?_
    refine wl_mapUpdate (a := k) (u := (⟨sx.key, x, sx.came⟩ : SlotC)) klKey Tryz.underlying95 rfl rfl rfl rfl rfl rfl hm_w4 ?_
    intro w9 hk9 hm9
    have hb_w9 := hb_w4.kp hk9 (by omega)
    have hp_w9 := hp_w4.kp hk9 (by omega)
    have hkp_w9 := hkp_w4.comp hk9 (fun y _ e => .inr e)
    have hb1_w9 := hb1_w4.kp hk9 (Ne.symm ne1_r)
    have hb3_w9 := hb4.kp hk9 (Ne.symm ne3_r)
    have hs9 := hk9.size
    refine wl_nil ?_
    refine thn ?_
    refine seq_ ?_
    refine region_ ?_
    refine wl_valE (v := .pointer (some ⟨b3, 2, none⟩)) rfl (rf_fieldAddr Tryz.underlying124 rfl ti57 rfl rfl) rfl ?_
    refine wl_valE (v := .slice sx.val.a sx.val.n sx.val.c) rfl (rf_load Tryz.underlying57 rfl rfl rfl (hb3_w9.cell rfl)) rfl ?_
    refine wl_valE (v := .slice sx.val.a sx.val.n sx.val.c) rfl (rf_assign rfl) rfl ?_
    refine wl_valE (v := .bool true) rfl (rf_assign rfl) rfl ?_
    refine wl_nil ?_
    refine thn ?_
    refine ret_ ?_
    refine fin2 (v1 := .slice sx.val.a sx.val.n sx.val.c) (v2 := .bool true) Tryz.results46 rfl rfl rfl rfl ?_
    refine ⟨by rw [hg, hs0]; rfl, ?_, hkp_w9.mono (fun y _ h => Or.imp_right (fun e : y = r => e ▸ hrm) h)⟩
    rw [hg, hs0, hdp]
    have hm2 := hm9
    rw [hkey] at hm2
    exact hd.turn hr hb_w9 hm2 hkp_w9 (put_keysC (hd.keys l hlm) k _ rfl)
theorem takeC_ret (k : Key) (b bp : Nat) (rs : List Nat) (ls : List (List (Key × SlotC))) (came n : Int) (w : World) (hd : DictC w b bp rs ls came n) :
    Ret Tryz.prog 54 [.pointer (some ⟨b, 0, none⟩), .agg #[.int .i64 k.table, .int .i64 k.row]] w fun v w' => v = .tuple #[.slice ((dgetC ls k).getD zslotC).val.a ((dgetC ls k).getD zslotC).val.n ((dgetC ls k).getD zslotC).val.c, .bool (dgetC ls k).isSome] ∧ DictC w' b bp rs (ddelC ls k) came (if (dgetC ls k).isSome then IntKind.i64.wrap (n - 1) else n) ∧ Kp (fun y => y = b ∨ y ∈ rs) w w' := by
  have hkw : Kp none_ w w := Kp.refl w
  obtain ⟨r, l, hr, hl, hm, hg, hrm, hlm, hi, hdp, hdl⟩ := hd.part k
  have hb := hd.blk
  have hp := hd.arr
  have hpos := hd.pos
  have hbr := hm.ne_cells hb
  have hpr := hm.ne_cells hp
  have hbp : b ≠ bp := fun e => by have := hb.eq (e ▸ hp); simp at this
  obtain ⟨sx, hsx⟩ : ∃ sx, sx = (getL l k).getD zslotC := ⟨_, rfl⟩
  have hkp : Kp (fun y => y = b ∨ y = r) w w := Kp.refl w
  have hdd := hd
  refine enterR Tryz.func54 rfl Tryz.ntmps54 rfl ?_
  intro g0
  refine seq_ ?_
  refine region_ ?_
  refine wl_box (v := .agg #[.int .i64 k.table, .int .i64 k.row]) rfl rfl ?_
  intro b1 w1 hg1 hk1 hb1
  have ne1_b : b ≠ b1 := Nat.ne_of_lt (Nat.lt_of_lt_of_le hb.lt hg1)
  have ne1_bp : bp ≠ b1 := Nat.ne_of_lt (Nat.lt_of_lt_of_le hp.lt hg1)
  have ne1_r : r ≠ b1 := Nat.ne_of_lt (Nat.lt_of_lt_of_le hm.lt hg1)
  have hb_w1 := hb.keep hk1
  have hp_w1 := hp.keep hk1
  have hm_w1 := hm.keep hk1
  have hdd_w1 := hdd.keep hk1
  have hkp_w1 := hkp.comp hk1 (fun _ _ e => e.elim)
  have hs1 := hk1.size
  refine wl_valE (v := .slice none 0 0) rfl (rf_assign rfl) rfl ?_
  refine wl_valE (v := .bool false) rfl (rf_assign rfl) rfl ?_
  refine wl_nil ?_
  refine thn ?_
  refine seq_ ?_
  refine region_q mixedP (by kernel_rfl) ?_
  refine qt_valE (v := .pointer (some ⟨b, 0, none⟩)) rfl (fun wq hq => rf_move rfl) rfl ?_
  refine qt_valE (v := .pointer (some ⟨b, 0, none⟩)) rfl (fun wq hq => rf_nilCheckP rfl rfl) rfl ?_
  refine qt_valE (v := .pointer (some ⟨b, 1, none⟩)) rfl (fun wq hq => rf_fieldAddr Tryz.underlying94 rfl ti92 rfl rfl) rfl ?_
  refine qt_valE (v := .slice (some ⟨bp, 0, none⟩) rs.length rs.length) rfl (fun wq hq => rf_load Tryz.underlying92 rfl rfl rfl ((hb_w1.keep hq).cell rfl)) rfl ?_
  refine qt_valE (v := .pointer (some ⟨b, 0, none⟩)) rfl (fun wq hq => rf_move rfl) rfl ?_
  refine qt_valE (v := .agg #[.int .i64 k.table, .int .i64 k.row]) rfl (fun wq hq => rf_loadBlk Tryz.underlying41 rfl ti41 rfl rfl (hb1.keep hq) (Nat.le_of_ble_eq_true rfl)) rfl ?_
  refine qt_ret (v := .int .i64 ((hashF k % rs.length : Nat) : Int)) rfl (fun wq hq => (partC_ret k b bp rs ls came n wq (hdd_w1.keep hq)).mono (fun _ _ h => ⟨h.1, hq.trans h.2⟩)) (fun wq hq => rf_call Tryz.call63 rfl rfl) ?_
  refine qt_valE (v := .pointer (some ⟨bp, hashF k % rs.length, none⟩)) rfl (fun wq hq => rf_indexAddr Tryz.underlying92 ti95 rfl rfl rfl rfl (by omega) (by omega)) (by simp) ?_
  refine qt_valE (v := .map (some r)) rfl (fun wq hq => rf_load Tryz.underlying95 rfl rfl rfl (hq.cell (hp_w1.cell (i := hashF k % rs.length) (v := .map (some r)) (by simp [hr])) (fun h => h))) rfl ?_
  refine qt_valE (v := .map (some r)) rfl (fun wq hq => rf_assign rfl) rfl ?_
  refine qt_nil ?_
  intro w2 hk2
  have hb_w2 := hb_w1.keep hk2
  have hp_w2 := hp_w1.keep hk2
  have hm_w2 := hm_w1.keep hk2
  have hkp_w2 := hkp_w1.comp hk2 (fun _ _ e => e.elim)
  have hb1_w2 := hb1.keep hk2
  have hs2 := hk2.size
  refine thn ?_
  refine seq_ ?_
  refine region_ ?_
  refine wl_valE (v := .map (some r)) rfl (rf_move rfl) rfl ?_
  refine wl_valE (v := .agg #[.int .i64 k.table, .int .i64 k.row]) rfl (rf_loadBlk Tryz.underlying41 rfl ti41 rfl rfl hb1_w2 (Nat.le_of_ble_eq_true rfl)) rfl ?_
  refine wl_valE (v := .tuple #[.agg #[.int .i64 sx.key.table, .int .i64 sx.key.row, .slice sx.val.a sx.val.n sx.val.c, .int .i64 sx.came], .bool ((getL l k).isSome)]) rfl (rf_lookup2 (a := k) klKey Tryz.underlying95 ti124 rfl rfl rfl rfl hm_w2) (by rw [hsx]; cases getL l k <;> rfl) ?_
  refine wl_valE (v := .tuple #[.agg #[.int .i64 sx.key.table, .int .i64 sx.key.row, .slice sx.val.a sx.val.n sx.val.c, .int .i64 sx.came], .bool ((getL l k).isSome)]) rfl (rf_move rfl) rfl ?_
  refine wl_valE (v := .agg #[.int .i64 sx.key.table, .int .i64 sx.key.row, .slice sx.val.a sx.val.n sx.val.c, .int .i64 sx.came]) rfl (rf_extract rfl rfl rfl) rfl ?_
  refine wl_valE (v := .bool ((getL l k).isSome)) rfl (rf_extract rfl rfl rfl) rfl ?_
  refine wl_alloc ti124 ?_
  intro b3 w3 hg3 hk3 hb3
  have ne3_b : b ≠ b3 := Nat.ne_of_lt (Nat.lt_of_lt_of_le hb_w2.lt hg3)
  have ne3_bp : bp ≠ b3 := Nat.ne_of_lt (Nat.lt_of_lt_of_le hp_w2.lt hg3)
  have ne3_r : r ≠ b3 := Nat.ne_of_lt (Nat.lt_of_lt_of_le hm_w2.lt hg3)
  have ne3_b1 : b1 ≠ b3 := Nat.ne_of_lt (Nat.lt_of_lt_of_le hb1_w2.lt hg3)
  have hb_w3 := hb_w2.keep hk3
  have hp_w3 := hp_w2.keep hk3
  have hm_w3 := hm_w2.keep hk3
  have hkp_w3 := hkp_w2.comp hk3 (fun _ _ e => e.elim)
  have hb1_w3 := hb1_w2.keep hk3
  have hs3 := hk3.size
  refine wl_storeAgg (b := b3) (o := 0) (cs := [.int .i64 sx.key.table, .int .i64 sx.key.row, .slice sx.val.a sx.val.n sx.val.c, .int .i64 sx.came]) ti124 rfl rfl rfl rfl rfl (by simp [Value.oneCell']) hb3 (Nat.le_of_ble_eq_true rfl) ?_
  intro w4 hk4 hb4
  have hb_w4 := hb_w3.kp hk4 ne3_b
  have hp_w4 := hp_w3.kp hk4 ne3_bp
  have hm_w4 := hm_w3.kp hk4 ne3_r
  have hkp_w4 := hkp_w3.comp hk4 (fun y h e => by omega)
  have hb1_w4 := hb1_w3.kp hk4 ne3_b1
  have hs4 := hk4.size
  replace hb4 : Blk w4 b3 (.cells #[.int .i64 sx.key.table, .int .i64 sx.key.row, .slice sx.val.a sx.val.n sx.val.c, .int .i64 sx.came] _ (0, 0)) := hb4
  refine wl_valE (v := .bool ((getL l k).isSome)) rfl (rf_assign rfl) rfl ?_
  refine wl_nil ?_
  refine thn ?_
  refine seq_ ?_
  refine seq_ ?_
  refine region_ ?_
  refine wl_valE (v := .bool ((getL l k).isSome)) rfl (rf_move rfl) rfl ?_
  refine wl_nil ?_
  refine thn ?_
  refine cond_ (t := (getL l k).isSome) rfl rfl (fun c24 => ?_) (fun c24 => ?_)
  · obtain ⟨s0, hs0⟩ : ∃ s, getL l k = some s := by cases h : getL l k with
      | none => rw [h] at c24; simp at c24
      | some s => exact ⟨s, rfl⟩
    obtain rfl : sx = s0 := by rw [hsx, hs0]; rfl
    have hkey : sx.key = k := (hd.keys l hlm).2 (k, sx) (getL_mem hs0)
    refine seq_ ?_
    refine region_ ?_
    refine wl_valE (v := .map (some r)) rfl (rf_move rfl) rfl ?_
    refine wl_valE (v := .agg #[.int .i64 k.table, .int .i64 k.row]) rfl (rf_loadBlk Tryz.underlying41 rfl ti41 rfl rfl hb1_w4 (Nat.le_of_ble_eq_true rfl)) rfl ?_
    refine wl_delete (a := k) klKey Tryz.underlying95 rfl rfl rfl rfl hm_w4 ?_
    intro w5 hk5 hm5
    have hb_w5 := hb_w4.kp hk5 (by omega)
    have hp_w5 := hp_w4.kp hk5 (by omega)
    have hkp_w5 := hkp_w4.comp hk5 (fun y _ e => .inr e)
    have hb1_w5 := hb1_w4.kp hk5 (Ne.symm ne1_r)
    have hb3_w5 := hb4.kp hk5 (Ne.symm ne3_r)
    have hs5 := hk5.size
    refine wl_nil ?_
    refine thn ?_
    refine region_ ?_
    refine wl_valE (v := .pointer (some ⟨b, 0, none⟩)) rfl (rf_move rfl) rfl ?_
    refine wl_valE (v := .pointer (some ⟨b, 0, none⟩)) rfl (rf_nilCheckP rfl rfl) rfl ?_
    refine wl_valE (v := .pointer (some ⟨b, 3, none⟩)) rfl (rf_fieldAddr Tryz.underlying94 rfl ti3 rfl rfl) rfl ?_
    refine wl_valE (v := .int .i64 n) rfl (rf_load Tryz.underlying3 rfl rfl rfl (hb_w5.cell rfl)) rfl ?_
    refine wl_valE (v := .int .i64 (IntKind.i64.wrap (n - 1))) rfl (rf_sub rfl rfl rfl rfl rfl) rfl ?_
    refine wl_valE (v := .pointer (some ⟨b, 0, none⟩)) rfl (rf_nilCheckP rfl rfl) rfl ?_
    refine wl_valE (v := .pointer (some ⟨b, 3, none⟩)) rfl (rf_fieldAddr Tryz.underlying94 rfl ti3 rfl rfl) rfl ?_
    refine wl_store (b := b) (o := 3) (v := .int .i64 (IntKind.i64.wrap (n - 1))) ti3 rfl rfl rfl rfl rfl hb_w5 (by first | decide | exact Nat.le_of_ble_eq_true rfl | simp) ?_
    intro w6 hk6 hb6
    have hp_w6 := hp_w5.kp hk6 (by omega)
    have hkp_w6 := hkp_w5.comp hk6 (fun y _ e => .inl e)
    have hb1_w6 := hb1_w5.kp hk6 (Ne.symm ne1_b)
    have hb3_w6 := hb3_w5.kp hk6 (Ne.symm ne3_b)
    have hm_w6 := hm5.kp hk6 (by omega)
    have hs6 := hk6.size
    replace hb6 : Blk w6 b (.cells #[.func (.func 11) #[] #[], .slice (some ⟨bp, 0, none⟩) rs.length rs.length, .int .i64 came, .int .i64 (IntKind.i64.wrap (n - 1))] _ (0, 0)) := hb6
    refine wl_nil ?_
    refine thn ?_
    refine seq_ ?_
    refine region_ ?_
    refine wl_valE (v := .pointer (some ⟨b3, 2, none⟩)) rfl (rf_fieldAddr Tryz.underlying124 rfl ti57 rfl rfl) rfl ?_
    refine wl_valE (v := .slice sx.val.a sx.val.n sx.val.c) rfl (rf_load Tryz.underlying57 rfl rfl rfl (hb3_w6.cell rfl)) rfl ?_
    refine wl_valE (v := .bool ((getL l k).isSome)) rfl (rf_move rfl) rfl ?_
    refine wl_valE (v := .slice sx.val.a sx.val.n sx.val.c) rfl (rf_assign rfl) rfl ?_
    refine wl_valE (v := .bool ((getL l k).isSome)) rfl (rf_assign rfl) rfl ?_
    refine wl_nil ?_
    refine thn ?_
    refine ret_ ?_
    refine fin2 (v1 := .slice sx.val.a sx.val.n sx.val.c) (v2 := .bool ((getL l k).isSome)) Tryz.results54 rfl rfl rfl rfl ?_
    refine ⟨by rw [hg, hs0]; rfl, ?_, hkp_w6.mono (fun y _ h => Or.imp_right (fun e : y = r => e ▸ hrm) h)⟩
    rw [hg, hs0, hdl]
    exact hd.turn hr hb6 hm_w6 hkp_w6 (del_keysC (hd.keys l hlm) k)
  · have hno : getL l k = none := by cases h : getL l k with
      | none => rfl
      | some s => rw [h] at c24; simp at c24
    refine skip_ ?_
    refine thn ?_
    refine seq_ ?_
    refine region_ ?_
    refine wl_valE (v := .pointer (some ⟨b3, 2, none⟩)) rfl (rf_fieldAddr Tryz.underlying124 rfl ti57 rfl rfl) rfl ?_
    refine wl_valE (v := .slice sx.val.a sx.val.n sx.val.c) rfl (rf_load Tryz.underlying57 rfl rfl rfl (hb4.cell rfl)) rfl ?_
    refine wl_valE (v := .bool ((getL l k).isSome)) rfl (rf_move rfl) rfl ?_
    refine wl_valE (v := .slice sx.val.a sx.val.n sx.val.c) rfl (rf_assign rfl) rfl ?_
    refine wl_valE (v := .bool ((getL l k).isSome)) rfl (rf_assign rfl) rfl ?_
    refine wl_nil ?_
    refine thn ?_
    refine ret_ ?_
    refine fin2 (v1 := .slice sx.val.a sx.val.n sx.val.c) (v2 := .bool ((getL l k).isSome)) Tryz.results54 rfl rfl rfl rfl ?_
    refine ⟨by rw [hg, hno, hsx, hno], ?_, hkp_w4.mono (fun y _ h => Or.imp_right (fun e : y = r => e ▸ hrm) h)⟩
    rw [hg, hno, hdl]
    rw [delL_none hno]
    exact hd.turn hr hb_w4 hm_w4 hkp_w4 (hd.keys l hlm)
theorem newDC_ret (m : Int) (w : World) : Ret Tryz.prog 10 [.int .i64 m, .func (.func 11) #[] #[]] w fun v w' => (¬ (1 ≤ m ∧ m ≤ 256) → v = .tuple #[.pointer none, .int .i64 21] ∧ Kp none_ w w') ∧ (1 ≤ m ∧ m ≤ 256 → ∃ b bp rs, v = .tuple #[.pointer (some ⟨b, 0, none⟩), .int .i64 0] ∧ DictC w' b bp rs (List.replicate m.toNat []) 0 0 ∧ Kp none_ w w' ∧ ∀ x, fpD b bp rs x → w.heap.size ≤ x) := by
  have hkw : Kp none_ w w := Kp.refl w
  refine enterR Tryz.func10 rfl Tryz.ntmps10 rfl ?_
  intro g0
  refine seq_ ?_
  refine region_ ?_
  refine wl_valE (v := .pointer none) rfl (rf_assign rfl) rfl ?_
  refine wl_valE (v := .int .i64 ((0 : Nat) : Int)) rfl (rf_assign rfl) rfl ?_
  refine wl_nil ?_
  refine thn ?_
  refine seq_ ?_
  refine seq_ ?_
  refine region_ ?_
  refine wl_valE (v := .int .i64 m) rfl (rf_move rfl) rfl ?_
  refine wl_valE (v := .bool (decide (m < ((1 : Nat) : Int)))) rfl (rf_lss rfl rfl rfl rfl) rfl ?_
  refine wl_valE (v := .bool (decide (m < ((1 : Nat) : Int)))) rfl (rf_move rfl) rfl ?_
  refine wl_split (decide (m < ((1 : Nat) : Int))) (fun u1_2 => ?_) (fun u1_2 => ?_)
  · have u1_2p := of_decide_eq_true u1_2
    refine wl_guardF rfl rfl rfl u1_2 ?_
    refine wl_guardF rfl rfl rfl u1_2 ?_
    refine wl_valE (v := .bool true) rfl (rf_pickT rfl rfl rfl u1_2) rfl ?_
    refine wl_nil ?_
    refine thn ?_
    refine condT rfl rfl ?_
    refine seq_ ?_
    refine region_ ?_
    refine wl_valE (v := .pointer none) rfl (rf_assign rfl) rfl ?_
    refine wl_valE (v := .int .i64 ((21 : Nat) : Int)) rfl (rf_assign rfl) rfl ?_
    refine wl_nil ?_
    refine thn ?_
    refine ret_ ?_
    refine thr ?_
    refine fin2 (v1 := .pointer none) (v2 := .int .i64 ((21 : Nat) : Int)) Tryz.results10 rfl rfl rfl rfl ?_
    exact ⟨fun _ => ⟨rfl, hkw⟩, fun h => by omega⟩
  · have u1_2p := of_decide_eq_false u1_2
    refine wl_guardT rfl rfl rfl u1_2 ?_
    refine wl_valE (v := .int .i64 m) rfl (rf_move rfl) rfl ?_
    refine wl_guardT rfl rfl rfl u1_2 ?_
    refine wl_valE (v := .bool (decide (((256 : Nat) : Int) < m))) rfl (rf_gtr rfl rfl rfl rfl) rfl ?_
    refine wl_valE (v := .bool (decide (((256 : Nat) : Int) < m))) rfl (rf_pickF rfl rfl rfl u1_2) rfl ?_
    refine wl_nil ?_
    refine thn ?_
    refine cond_ (t := decide (((256 : Nat) : Int) < m)) rfl rfl (fun c13 => ?_) (fun c13 => ?_)
    · have c13p := of_decide_eq_true c13
      refine seq_ ?_
      refine region_ ?_
      refine wl_valE (v := .pointer none) rfl (rf_assign rfl) rfl ?_
      refine wl_valE (v := .int .i64 ((21 : Nat) : Int)) rfl (rf_assign rfl) rfl ?_
      refine wl_nil ?_
      refine thn ?_
      refine ret_ ?_
      refine thr ?_
      refine fin2 (v1 := .pointer none) (v2 := .int .i64 ((21 : Nat) : Int)) Tryz.results10 rfl rfl rfl rfl ?_
      exact ⟨fun _ => ⟨rfl, hkw⟩, fun h => by omega⟩
    · have c13p := of_decide_eq_false c13
      obtain ⟨n, rfl⟩ : ∃ n : Nat, m = (n : Int) := ⟨m.toNat, by omega⟩
      have hn : n ≤ 256 ∧ 1 ≤ n := by omega
      refine skip_ ?_
      refine thn ?_
      refine seq_ ?_
      refine seq_ ?_
      refine region_ ?_
      refine wl_valE (v := .func (.func 11) #[] #[]) rfl (rf_move rfl) rfl ?_
      refine wl_valE (v := .bool false) rfl (rf_eqlFN Tryz.underlying58 ⟨_, _, _, rfl⟩ rfl rfl rfl rfl) rfl ?_
      refine wl_nil ?_
      refine thn ?_
      refine condF rfl rfl ?_
      refine skip_ ?_
      refine thn ?_
      refine seq_ ?_
      refine region_ ?_
      refine wl_valE (v := .func (.func 11) #[] #[]) rfl (rf_move rfl) rfl ?_
      refine wl_valE (v := .int .i64 ((n : Nat) : Int)) rfl (rf_move rfl) rfl ?_
      refine wl_makeSlice (l := n) (c := n) Tryz.underlying92 ti95 rfl rfl rfl rfl rfl (by omega) (by omega) (by omega) ?_
      intro b1 w1 hg1 hk1 hb1
      have hkw_w1 := hkw.comp hk1 (fun _ _ e => e.elim)
      have hs1 := hk1.size
      replace hb1 : Blk w1 b1 (.cells (([] : List Nat).map (fun r => Value.map (some r)) ++ List.replicate (n - 0) (Value.map none)).toArray 95 (0, 0)) := by
        simpa [Value.cells] using hb1
      refine wl_valE (v := .agg #[.func (.func 11) #[] #[], .slice (some ⟨b1, 0, none⟩) n n, .int .i64 ((0 : Nat) : Int), .int .i64 ((0 : Nat) : Int)]) rfl (rf_build (offs := [(0, [.func (.func 11) #[] #[]]), (1, [.slice (some ⟨b1, 0, none⟩) n n])]) (places := #[(0, 1), (1, 1), (2, 1), (3, 1)]) Tryz.underlying94 ti94 (fun w => by kernel_rfl) (.cons rfl rfl rfl rfl rfl rfl (.cons rfl rfl rfl rfl rfl rfl .nil))) rfl ?_
      refine wl_box (v := .agg #[.func (.func 11) #[] #[], .slice (some ⟨b1, 0, none⟩) n n, .int .i64 ((0 : Nat) : Int), .int .i64 ((0 : Nat) : Int)]) rfl rfl ?_
      intro b2 w2 hg2 hk2 hb2
      have ne2_b1 : b1 ≠ b2 := Nat.ne_of_lt (Nat.lt_of_lt_of_le hb1.lt hg2)
      have hkw_w2 := hkw_w1.comp hk2 (fun _ _ e => e.elim)
      have hb1_w2 := hb1.keep hk2
      have hs2 := hk2.size
      refine wl_valE (v := .pointer (some ⟨b2, 0, none⟩)) rfl (rf_assign rfl) rfl ?_
      refine wl_nil ?_
      refine thn ?_
      refine seq_ ?_
      refine seq_ ?_
      refine region_ ?_
      refine wl_valE (v := .pointer (some ⟨b2, 0, none⟩)) rfl (rf_move rfl) rfl ?_
      refine wl_valE (v := .pointer (some ⟨b2, 0, none⟩)) rfl (rf_nilCheckP rfl rfl) rfl ?_
      refine wl_valE (v := .pointer (some ⟨b2, 1, none⟩)) rfl (rf_fieldAddr Tryz.underlying94 rfl ti92 rfl rfl) rfl ?_
      refine wl_valE (v := .slice (some ⟨b1, 0, none⟩) n n) rfl (rf_load Tryz.underlying92 rfl rfl rfl (hb2.cell rfl)) rfl ?_
      refine wl_valE (v := .int .i64 ((n : Nat) : Int)) rfl (rf_len_slice Tryz.underlying92 rfl rfl) rfl ?_
      refine wl_valE (v := .int .i64 ((0 : Nat) : Int)) rfl (rf_move rfl) rfl ?_
      refine wl_nil ?_
      refine thn ?_
      refine block_ ?_
      refine loop_ (fun lk lf lw => ∃ (g : Nat → Value) (i : Nat) (ms : List Nat), lf = upds g [(4, .pointer none), (5, .int .i64 ((0 : Nat) : Int)), (6, .pointer (some ⟨b2, 0, none⟩)), (25, .int .i64 ((n : Nat) : Int)), (26, .int .i64 ((i : Nat) : Int))] ∧ i + lk = n ∧ ms.length = i ∧ ms.Nodup ∧ NewMapsC w.heap.size lw ms ∧ Blk lw b1 (.cells (ms.map (fun r => Value.map (some r)) ++ List.replicate (n - i) (Value.map none)).toArray 95 (0, 0)) ∧ Kp (fun y => y = b1) w2 lw) (n) ?_ ?_
      · refine ⟨_, 0, [], upds_self ⟨rfl, rfl, rfl, rfl, rfl, trivial⟩, ?_⟩
        exact ⟨by omega, rfl, by simp, fun r h => by simp at h, hb1_w2, Kp.refl _⟩
      · intro lk0 lf0 wl hI0
        obtain ⟨gl0, i, ms, rfl, hik, hml, hmn, hms, hbb, hkl0⟩ := hI0
        have hkw_wl := hkw_w2.comp hkl0 (fun b h e => by first | exact e | omega)
        have hb2_wl := hb2.kp hkl0 (by omega)
        have hsl := hkl0.size
        refine seq_ ?_
        refine region_ ?_
        refine wl_valE (v := .bool (decide (((i : Nat) : Int) < ((n : Nat) : Int)))) rfl (rf_lss rfl rfl rfl rfl) rfl ?_
        refine wl_nil ?_
        refine thn ?_
        refine seq_ ?_
        refine cond_ (t := decide (((i : Nat) : Int) < ((n : Nat) : Int))) rfl rfl (fun c27 => ?_) (fun c27 => ?_)
        · have c27p := of_decide_eq_true c27
          refine skip_ ?_
          refine thn ?_
          refine seq_ ?_
          refine block_ ?_
          refine seq_ ?_
          refine region_ ?_
          refine wl_valE (v := .int .i64 ((i : Nat) : Int)) rfl (rf_move rfl) rfl ?_
          refine wl_valE (v := .int .i64 ((i : Nat) : Int)) rfl (rf_assign rfl) rfl ?_
          refine wl_nil ?_
          refine thn ?_
          refine region_ ?_
          refine wl_valE (v := .pointer (some ⟨b2, 0, none⟩)) rfl (rf_move rfl) rfl ?_
          refine wl_valE (v := .pointer (some ⟨b2, 0, none⟩)) rfl (rf_nilCheckP rfl rfl) rfl ?_
          refine wl_valE (v := .pointer (some ⟨b2, 1, none⟩)) rfl (rf_fieldAddr Tryz.underlying94 rfl ti92 rfl rfl) rfl ?_
          refine wl_valE (v := .slice (some ⟨b1, 0, none⟩) n n) rfl (rf_load Tryz.underlying92 rfl rfl rfl (hb2_wl.cell rfl)) rfl ?_
          refine wl_valE (v := .int .i64 ((i : Nat) : Int)) rfl (rf_move rfl) rfl ?_
          refine wl_makeMap ?_
          intro b3 w3 hg3 hk3 hb3
          have ne3_b2 : b2 ≠ b3 := Nat.ne_of_lt (Nat.lt_of_lt_of_le hb2_wl.lt hg3)
          have ne3_b1 : b1 ≠ b3 := Nat.ne_of_lt (Nat.lt_of_lt_of_le hbb.lt hg3)
          have hkw_w3 := hkw_wl.comp hk3 (fun _ _ e => e.elim)
          have hb2_w3 := hb2_wl.keep hk3
          have hbb_w3 := hbb.keep hk3
          have hms_w3 := hms.keep hk3
          have hs3 := hk3.size
          refine wl_valE (v := .pointer (some ⟨b1, i, none⟩)) rfl (rf_indexAddr Tryz.underlying92 ti95 rfl rfl rfl rfl (by omega) (by omega)) (by simp) ?_
          refine wl_store (b := b1) (o := i) (v := .map (some b3)) ti95 rfl rfl rfl rfl rfl hbb_w3 (by simp; omega) ?_
          intro w4 hk4 hb4
          have hkw_w4 := hkw_w3.comp hk4 (fun y _ e => by omega)
          have hb2_w4 := hb2_w3.kp hk4 (Ne.symm ne2_b1)
          have hms_w4 := hms_w3.kp hk4 (fun r h e => (hms_w3 r h).2.2.ne_cells hbb_w3 e.symm)
          have hb3_w4 := hb3.kp hk4 (Ne.symm ne3_b1)
          have hs4 := hk4.size
          refine wl_nil ?_
          refine bln ?_
          refine thn ?_
          refine region_ ?_
          refine wl_valE (v := .int .i64 ((i + 1 : Nat) : Int)) rfl (rf_add rfl rfl rfl rfl (IntWalk.i64_in _ (by omega))) rfl ?_
          refine wl_valE (v := .int .i64 ((i + 1 : Nat) : Int)) rfl (rf_move rfl) rfl ?_
          refine wl_nil ?_
          refine thn ?_
          refine ⟨lk0 - 1, _, rfl, (by omega), _, i + 1, ms ++ [b3], upds_self ⟨rfl, rfl, rfl, rfl, rfl, trivial⟩, ?_⟩
          refine ⟨by omega, by simp [hml], ?_, ?_, ?_, ?_⟩
          · rw [List.nodup_append]
            refine ⟨hmn, by simp, fun x hx y hy e => ?_⟩
            rw [List.mem_singleton] at hy
            have := (hms_w4 x hx).2.1
            have := (hms x hx).2.1
            omega
          · intro r hr
            rcases List.mem_append.1 hr with h | h
            · exact hms_w4 r h
            · rw [List.mem_singleton] at h
              subst h
              exact ⟨by omega, hb3_w4.lt, Mp.new kv slotC hb3_w4⟩
          · rw [← newmaps_set hml (by omega)]
            simpa using hb4
          · exact hkl0.trans (hk3.of_none.trans hk4)
        · have c27p := of_decide_eq_false c27
          obtain rfl : n = i := by omega
          refine exit_ ?_
          refine thx (thx (blx ?_))
          refine thn ?_
          refine seq_ ?_
          refine region_ ?_
          refine wl_valE (v := .pointer (some ⟨b2, 0, none⟩)) rfl (rf_move rfl) rfl ?_
          refine wl_valE (v := .pointer (some ⟨b2, 0, none⟩)) rfl (rf_assign rfl) rfl ?_
          refine wl_valE (v := .int .i64 ((0 : Nat) : Int)) rfl (rf_assign rfl) rfl ?_
          refine wl_nil ?_
          refine thn ?_
          refine ret_ ?_
          refine fin2 (v1 := .pointer (some ⟨b2, 0, none⟩)) (v2 := .int .i64 ((0 : Nat) : Int)) Tryz.results10 rfl rfl rfl rfl ?_
          refine ⟨fun h => absurd ⟨by omega, by omega⟩ h, fun _ => ⟨b2, b1, ms, rfl, ⟨by rw [hml]; exact hb2_wl, by simpa using hbb, by simp [hml], by omega, hmn, fun i r l hr hl => ?_, fun l hl => ?_⟩, hkw_wl, ?_⟩⟩
          · rw [List.getElem?_replicate] at hl
            split at hl
            · cases hl; exact (hms r (List.mem_of_getElem? hr)).2.2
            · cases hl
          · rw [List.mem_replicate] at hl
            rw [hl.2]; simp
          · rintro x (rfl | rfl | hx)
            · omega
            · omega
            · exact (hms x hx).1
end Go.Proofs.YtojcddlpkfhodaaGreat.W
