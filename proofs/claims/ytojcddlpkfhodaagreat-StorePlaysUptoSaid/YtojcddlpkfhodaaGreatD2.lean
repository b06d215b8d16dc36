import Derived.Test.YtojcddlpkfhodaaGreatD1
import Derived.KernelRfl
namespace Go.Proofs.YtojcddlpkfhodaaGreat.W
open Go Go.Wk
set_option linter.unusedVariables false
set_option linter.unusedSimpArgs false

def okCC (s : SlotC) : Prop := 0 ≤ s.came ∧ s.came ≤ 4611686018427387903
instance : Inhabited {s : SlotC // okCC s} := ⟨⟨zslotC, by unfold okCC zslotC; simp⟩⟩
abbrev encCC (s : {s : SlotC // okCC s}) : List Value := encSlotC s.1
def cmpCC (a b : {s : SlotC // okCC s}) : Int := a.1.came - b.1.came
theorem swoC : Go.Sort.SWO (Go.Proofs.ltOf cmpCC) where
  irrefl x := by unfold Go.Proofs.ltOf cmpCC; simp
  trans x y z h1 h2 := by unfold Go.Proofs.ltOf cmpCC at *; simp at *; omega
  ntrans x y z h1 h2 := by unfold Go.Proofs.ltOf cmpCC at *; simp at *; omega
theorem encSlotC_len (s : SlotC) : (encSlotC s).length = 4 := rfl
theorem encSlotC_one (s : SlotC) : ∀ u ∈ encSlotC s, u.oneCell' = true := by simp [encSlotC, Value.oneCell']
theorem sl_subC {e : TypeId} {w : World} {F : Nat → Prop} {v : Value} {l : List SlotC} (h : Sl encSlotC 4 e w F v l) (hp : ∀ x ∈ l, okCC x) : Sl encCC 4 e w F v (l.attachWith okCC hp) := by
  rcases h with ⟨rfl, rfl⟩ | ⟨b, o, cap, A, rfl, h1, h2, h3, h4, h5, h6⟩
  · exact .inl ⟨rfl, rfl⟩
  · refine .inr ⟨b, o, cap, A, by rw [List.length_attachWith], h1, h2, by rw [List.length_attachWith]; exact h3, h4, h5, fun i x hx j u hj => h6 i x.1 ?_ j u hj⟩
    have hx2 := congrArg (Option.map Subtype.val) hx
    have e9 : (l.attachWith okCC hp).map Subtype.val = l := by simp
    rw [← List.getElem?_map, e9] at hx2
    exact hx2
/-- What a partition gives: its slots by the order in which they came. -/
def RowOfC (l : List (Key × SlotC)) (R : List SlotC) : Prop := R.Perm (l.map (·.2)) ∧ R.Pairwise (fun a b => a.came < b.came)
def CameOkC (l : List (Key × SlotC)) : Prop := (∀ p ∈ l, okCC p.2) ∧ (l.map (fun p => p.2.came)).Nodup
theorem nodup_pair {α : Type} {l : List α} (f : α → Int) (hn : (l.map f).Nodup) (hp : l.Pairwise (fun a b => f a ≤ f b)) : l.Pairwise (fun a b => f a < f b) := by
  rw [List.pairwise_iff_getElem] at *
  intro i j hi hj hij
  have h1 := hp i j hi hj hij
  have h2 : f l[i] ≠ f l[j] := fun e => by
    have := nodup_inj hn (i := i) (j := j) (x := f l[i]) (by rw [List.getElem?_map, List.getElem?_eq_getElem hi]; rfl) (by rw [List.getElem?_map, List.getElem?_eq_getElem hj, Option.map_some, e])
    omega
  omega
section
open Go.Proofs Go.Shelf
def sortC_ren : Go.Shelf.Ren := ⟨fun | 6 => 76 | 15 => 81 | 14 => 86 | 28 => 96 | 29 => 97 | 20 => 100 | 21 => 101 | 22 => 102 | 23 => 103 | 24 => 104 | 25 => 105 | 26 => 106 | 27 => 107 | 46 => 113 | 47 => 109 | 48 => 110 | 49 => 114 | 50 => 115 | 57 => 117 | n => n, fun | 22 => 127 | 24 => 124 | 25 => 136 | 3 => 3 | 39 => 122 | 0 => 0 | 53 => 155 | 55 => 91 | 4 => 4 | 46 => 148 | 45 => 147 | 50 => 152 | 5 => 5 | 9 => 9 | 66 => 163 | 70 => 167 | 76 => 171 | 77 => 64 | n => n, fun | n => n⟩
set_option maxRecDepth 100000 in
theorem layC : Go.Proofs.SlLaysF0.n6 Tryz.prog sortC_ren := {
  mixed := by kernel_rfl
  f6 := ⟨Tryz.f76.name, by decide, Tryz.func76.trans (congrArg some (by kernel_rfl))⟩
  f14 := ⟨Tryz.f86.name, by decide, Tryz.func86.trans (congrArg some (by kernel_rfl))⟩
  f15 := Tryz.func81.trans (congrArg some (by kernel_rfl))
  f20 := ⟨Tryz.f100.name, by decide, Tryz.func100.trans (congrArg some (by kernel_rfl))⟩
  f21 := ⟨Tryz.f101.name, by decide, Tryz.func101.trans (congrArg some (by kernel_rfl))⟩
  f22 := ⟨Tryz.f102.name, by decide, Tryz.func102.trans (congrArg some (by kernel_rfl))⟩
  f23 := ⟨Tryz.f103.name, by decide, Tryz.func103.trans (congrArg some (by kernel_rfl))⟩
  f24 := ⟨Tryz.f104.name, by decide, Tryz.func104.trans (congrArg some (by kernel_rfl))⟩
  f25 := ⟨Tryz.f105.name, by decide, Tryz.func105.trans (congrArg some (by kernel_rfl))⟩
  f26 := ⟨Tryz.f106.name, by decide, Tryz.func106.trans (congrArg some (by kernel_rfl))⟩
  f27 := ⟨Tryz.f107.name, by decide, Tryz.func107.trans (congrArg some (by kernel_rfl))⟩
  f28 := Tryz.func96.trans (congrArg some (by kernel_rfl))
  f29 := Tryz.func97.trans (congrArg some (by kernel_rfl))
  f46 := ⟨Tryz.f113.name, by decide, Tryz.func113.trans (congrArg some (by kernel_rfl))⟩
  f47 := Tryz.func109.trans (congrArg some (by kernel_rfl))
  f48 := Tryz.func110.trans (congrArg some (by kernel_rfl))
  f49 := ⟨Tryz.f114.name, by decide, Tryz.func114.trans (congrArg some (by kernel_rfl))⟩
  f50 := ⟨Tryz.f115.name, by decide, Tryz.func115.trans (congrArg some (by kernel_rfl))⟩
  f57 := ⟨Tryz.f117.name, by decide, Tryz.func117.trans (congrArg some (by kernel_rfl))⟩
  t0 := Tryz.underlying0
  a0 := Tryz.isAgg0
  z0 := Tryz.sizeOf0
  v0 := Tryz.zeroValue0
  t3 := Tryz.underlying3
  a3 := Tryz.isAgg3
  z3 := Tryz.sizeOf3
  v3 := Tryz.zeroValue3
  t4 := Tryz.underlying4
  a4 := Tryz.isAgg4
  z4 := Tryz.sizeOf4
  v4 := Tryz.zeroValue4
  t5 := Tryz.underlying5
  a5 := Tryz.isAgg5
  z5 := Tryz.sizeOf5
  v5 := Tryz.zeroValue5
  t9 := Tryz.underlying9
  a9 := Tryz.isAgg9
  z9 := Tryz.sizeOf9
  v9 := Tryz.zeroValue9
  t22 := Tryz.underlying127
  a22 := Tryz.isAgg127
  z22 := Tryz.sizeOf127
  v22 := Tryz.zeroValue127
  t25 := Tryz.underlying136
  a25 := Tryz.isAgg136
  z25 := Tryz.sizeOf136
  v25 := Tryz.zeroValue136
  t39 := Tryz.underlying122
  a39 := Tryz.isAgg122
  z39 := Tryz.sizeOf122
  v39 := Tryz.zeroValue122
  t45 := Tryz.underlying147
  a45 := Tryz.isAgg147
  z45 := Tryz.sizeOf147
  v45 := Tryz.zeroValue147
  t46 := Tryz.underlying148
  a46 := Tryz.isAgg148
  z46 := Tryz.sizeOf148
  v46 := Tryz.zeroValue148
  t50 := Tryz.underlying152
  a50 := Tryz.isAgg152
  z50 := Tryz.sizeOf152
  v50 := Tryz.zeroValue152
  t53 := Tryz.underlying155
  a53 := Tryz.isAgg155
  z53 := Tryz.sizeOf155
  v53 := Tryz.zeroValue155
  t55 := Tryz.underlying91
  a55 := Tryz.isAgg91
  z55 := Tryz.sizeOf91
  v55 := Tryz.zeroValue91
  t66 := Tryz.underlying163
  a66 := Tryz.isAgg163
  z66 := Tryz.sizeOf163
  v66 := Tryz.zeroValue163
  t70 := Tryz.underlying167
  a70 := Tryz.isAgg167
  z70 := Tryz.sizeOf167
  v70 := Tryz.zeroValue167
  t76 := Tryz.underlying171
  a76 := Tryz.isAgg171
  z76 := Tryz.sizeOf171
  v76 := Tryz.zeroValue171
  t77 := Tryz.underlying64
  a77 := Tryz.isAgg64
  z77 := Tryz.sizeOf64
  v77 := Tryz.zeroValue64 }
end
theorem cmpC_ret (x y : {s : SlotC // okCC s}) (w : World) : Ret Tryz.prog 77 [.agg #[.int .i64 x.1.key.table, .int .i64 x.1.key.row, .slice x.1.val.a x.1.val.n x.1.val.c, .int .i64 x.1.came], .agg #[.int .i64 y.1.key.table, .int .i64 y.1.key.row, .slice y.1.val.a y.1.val.n y.1.val.c, .int .i64 y.1.came]] w fun v w' => v = .int .i64 (cmpCC x y) ∧ Kp none_ w w' := by
  have hkw : Kp none_ w w := Kp.refl w
  have hx := x.2
  have hy := y.2
  unfold okCC at hx hy
  refine enterR Tryz.func77 rfl Tryz.ntmps77 rfl ?_
  intro g0
  refine seq_ ?_
  refine region_ ?_
  refine wl_box (v := .agg #[.int .i64 x.1.key.table, .int .i64 x.1.key.row, .slice x.1.val.a x.1.val.n x.1.val.c, .int .i64 x.1.came]) rfl rfl ?_
  intro b1 w1 hg1 hk1 hb1
  have hkw_w1 := hkw.comp hk1 (fun _ _ e => e.elim)
  have hs1 := hk1.size
  refine wl_box (v := .agg #[.int .i64 y.1.key.table, .int .i64 y.1.key.row, .slice y.1.val.a y.1.val.n y.1.val.c, .int .i64 y.1.came]) rfl rfl ?_
  intro b2 w2 hg2 hk2 hb2
  have ne2_b1 : b1 ≠ b2 := Nat.ne_of_lt (Nat.lt_of_lt_of_le hb1.lt hg2)
  have hkw_w2 := hkw_w1.comp hk2 (fun _ _ e => e.elim)
  have hb1_w2 := hb1.keep hk2
  have hs2 := hk2.size
  refine wl_valE (v := .int .i64 ((0 : Nat) : Int)) rfl (rf_assign rfl) rfl ?_
  refine wl_nil ?_
  refine thn ?_
  refine seq_ ?_
  refine region_ ?_
  refine wl_valE (v := .pointer (some ⟨b1, 3, none⟩)) rfl (rf_fieldAddr Tryz.underlying124 rfl ti3 rfl rfl) rfl ?_
  refine wl_valE (v := .int .i64 x.1.came) rfl (rf_load Tryz.underlying3 rfl rfl rfl (hb1_w2.cell rfl)) rfl ?_
  refine wl_valE (v := .pointer (some ⟨b2, 3, none⟩)) rfl (rf_fieldAddr Tryz.underlying124 rfl ti3 rfl rfl) rfl ?_
  refine wl_valE (v := .int .i64 y.1.came) rfl (rf_load Tryz.underlying3 rfl rfl rfl (hb2.cell rfl)) rfl ?_
  refine wl_valE (v := .int .i64 (x.1.came - y.1.came)) rfl (rf_sub rfl rfl rfl rfl (IntWalk.i64_in _ (by omega))) rfl ?_
  refine wl_valE (v := .int .i64 (x.1.came - y.1.came)) rfl (rf_assign rfl) rfl ?_
  refine wl_nil ?_
  refine thn ?_
  refine ret_ ?_
  refine fin1 (v := .int .i64 (x.1.came - y.1.came)) Tryz.results77 rfl rfl ?_
  exact ⟨rfl, hkw_w2⟩
theorem sortC_ret {w : World} {F : Nat → Prop} {v : Value} {l : List SlotC} (hs : Sl encSlotC 4 124 w F v l) (hp : ∀ x ∈ l, okCC x) (hsz : l.length < 4611686018427387904) :
    Ret Tryz.prog 76 [v, .func (.func 77) #[] #[]] w fun u w' => u = .tuple #[] ∧ ∃ l', l'.Perm l ∧ l'.Pairwise (fun a b => a.came ≤ b.came) ∧ Sl encSlotC 4 124 w' F v l' ∧ Kp F w w' := by
  have eg : ∀ args w, (callFunc 77 args).run Tryz.prog w = .ok (.enter 77 args) w := Go.Proofs.enters_of Tryz.func77 (by kernel_rfl) rfl
  have h := sort_ret (enc := encCC) (k := 4) layC Tryz.isAgg124 Tryz.sizeOf124 (fun s => encSlotC_len s.1) (fun s => encSlotC_one s.1) cmpCC swoC 77 eg (fun x y W => cmpC_ret x y W) (sl_subC hs hp) (by rw [List.length_attachWith]; exact hsz)
  refine Ret.mono h ?_
  rintro _ w' ⟨rfl, l', hp1, hp2, hp3, hp4⟩
  refine ⟨rfl, l'.map Subtype.val, ?_, ?_, ?_, hp4⟩
  · have := hp1.map Subtype.val
    simpa using this
  · rw [List.pairwise_map]
    exact hp2.imp (fun {a b} hab => by unfold Go.Proofs.ltOf cmpCC at hab; simp at hab; omega)
  · exact hp3.map rfl (fun _ => rfl)
theorem rowC_ret (b bp : Nat) (rs : List Nat) (ls : List (List (Key × SlotC))) (came n : Int) (w : World) (hd : DictC w b bp rs ls came n) (i r : Nat) (l : List (Key × SlotC)) (hr : rs[i]? = some r) (hl : ls[i]? = some l) (hc : CameOkC l) (hlen : l.length ≤ 2932031007401) : Ret Tryz.prog 65 [.pointer (some ⟨b, 0, none⟩), .int .i64 ((i : Nat) : Int)] w fun v w' => ∃ R, RowOfC l R ∧ Sl encSlotC 4 124 w' (fun y => w.heap.size ≤ y ∧ y < w'.heap.size) v R ∧ Kp none_ w w' := by
  have hkw : Kp none_ w w := Kp.refl w
  have hb := hd.blk
  have hp := hd.arr
  have hpos := hd.pos
  have hi := (List.getElem?_eq_some_iff.1 hr).1
  have hm := hd.maps i r l hr hl
  have hwb := hb.lt
  have hwp := hp.lt
  have hwm := hm.lt
  refine enterR Tryz.func65 rfl Tryz.ntmps65 rfl ?_
  intro g0
  refine seq_ ?_
  refine region_ ?_
  refine wl_valE (v := .slice none 0 0) rfl (rf_assign rfl) rfl ?_
  refine wl_nil ?_
  refine thn ?_
  refine seq_ ?_
  refine region_ ?_
  refine wl_valE (v := .slice none 0 0) rfl (rf_assign rfl) rfl ?_
  refine wl_nil ?_
  refine thn ?_
  refine seq_ ?_
  refine seq_ ?_
  refine region_ ?_
  refine wl_valE (v := .int .i64 ((i : Nat) : Int)) rfl (rf_move rfl) rfl ?_
  refine wl_valE (v := .bool true) rfl (rf_geq rfl rfl rfl rfl) (congrArg Value.bool (decide_eq_true (by omega))) ?_
  refine wl_valE (v := .bool true) rfl (rf_move rfl) rfl ?_
  refine wl_guardT rfl rfl rfl rfl ?_
  refine wl_valE (v := .int .i64 ((i : Nat) : Int)) rfl (rf_move rfl) rfl ?_
  refine wl_guardT rfl rfl rfl rfl ?_
  refine wl_valE (v := .pointer (some ⟨b, 0, none⟩)) rfl (rf_move rfl) rfl ?_
  refine wl_guardT rfl rfl rfl rfl ?_
  refine wl_valE (v := .pointer (some ⟨b, 0, none⟩)) rfl (rf_nilCheckP rfl rfl) rfl ?_
  refine wl_guardT rfl rfl rfl rfl ?_
  refine wl_valE (v := .pointer (some ⟨b, 1, none⟩)) rfl (rf_fieldAddr Tryz.underlying94 rfl ti92 rfl rfl) rfl ?_
  refine wl_guardT rfl rfl rfl rfl ?_
  refine wl_valE (v := .slice (some ⟨bp, 0, none⟩) rs.length rs.length) rfl (rf_load Tryz.underlying92 rfl rfl rfl (hb.cell rfl)) rfl ?_
  refine wl_guardT rfl rfl rfl rfl ?_
  refine wl_valE (v := .int .i64 ((rs.length : Nat) : Int)) rfl (rf_len_slice Tryz.underlying92 rfl rfl) rfl ?_
  refine wl_guardT rfl rfl rfl rfl ?_
  refine wl_valE (v := .bool true) rfl (rf_lss rfl rfl rfl rfl) (congrArg Value.bool (decide_eq_true (by omega))) ?_
  refine wl_valE (v := .bool true) rfl (rf_pickT rfl rfl rfl rfl) rfl ?_
  refine wl_nil ?_
  refine thn ?_
  refine condT rfl rfl ?_
  refine seq_ ?_
  refine region_ ?_
  refine wl_valE (v := .pointer (some ⟨b, 0, none⟩)) rfl (rf_move rfl) rfl ?_
  refine wl_valE (v := .pointer (some ⟨b, 0, none⟩)) rfl (rf_nilCheckP rfl rfl) rfl ?_
  refine wl_valE (v := .pointer (some ⟨b, 1, none⟩)) rfl (rf_fieldAddr Tryz.underlying94 rfl ti92 rfl rfl) rfl ?_
  refine wl_valE (v := .slice (some ⟨bp, 0, none⟩) rs.length rs.length) rfl (rf_load Tryz.underlying92 rfl rfl rfl (hb.cell rfl)) rfl ?_
  refine wl_valE (v := .int .i64 ((i : Nat) : Int)) rfl (rf_move rfl) rfl ?_
  refine wl_valE (v := .pointer (some ⟨bp, i, none⟩)) rfl (rf_indexAddr Tryz.underlying92 ti95 rfl rfl rfl rfl (by omega) (by omega)) (by simp) ?_
  refine wl_valE (v := .map (some r)) rfl (rf_load Tryz.underlying95 rfl rfl rfl (hp.cell (i := i) (v := .map (some r)) (by simp [hr]))) rfl ?_
  refine wl_range Tryz.underlying95 rfl rfl hm ?_
  intro ri1 w1 hg1 hk1 hi1
  have hb_w1 := hb.keep hk1
  have hp_w1 := hp.keep hk1
  have hm_w1 := hm.keep hk1
  have hkw_w1 := hkw.comp hk1 (fun _ _ e => e.elim)
  have hs1 := hk1.size
  refine wl_nil ?_
  refine thn ?_
  refine block_ ?_
  refine loop_ (fun lk lf lw => ∃ (g : Nat → Value) (done : List (Key × SlotC)) (sv : Value) (G : Nat → Prop), lf = upds g [(4, .slice none 0 0), (5, sv), (26, .pointer (some ⟨ri1, 0, none⟩))] ∧ done.length + lk = l.length ∧ It kv slotC lw ri1 r l done ∧ Sl encSlotC 4 124 lw G sv (done.map (·.2)) ∧ (∀ y, G y → w.heap.size ≤ y ∧ y ≠ ri1 ∧ y < lw.heap.size) ∧ Kp (fun y => w.heap.size ≤ y) w1 lw) (l.length) ?_ ?_
  · refine ⟨_, [], (.slice none 0 0), (fun _ => False), upds_self ⟨rfl, rfl, rfl, trivial⟩, ?_⟩
    exact ⟨by simp, hi1, Sl.nil _ _, fun y hy => hy.elim, Kp.refl _⟩
  · intro lk0 lf0 wl hI0
    obtain ⟨gl0, done, sv, G, rfl, hdl, hit, hsv, hG, hkl0⟩ := hI0
    have hb_wl := hb_w1.kp hkl0 (by omega)
    have hp_wl := hp_w1.kp hkl0 (by omega)
    have hm_wl := hm_w1.kp hkl0 (by omega)
    have hkw_wl := hkw_w1.comp hkl0 (fun y hy e => by omega)
    have hsl := hkl0.size
    have hri := hit.lt.1
    refine seq_ ?_
    refine region_ ?_
    refine wl_next rfl rfl hit (fun hdone => ?_) ?_
    · refine wl_valE (v := .bool false) rfl (rf_extract rfl rfl rfl) rfl ?_
      refine wl_nil ?_
      refine thn ?_
      refine seq_ ?_
      refine condF rfl rfl ?_
      refine exit_ ?_
      refine thx (thx (blx ?_))
      refine thn ?_
      refine seq_ ?_
      refine region_ ?_
      refine wl_valE (v := sv) rfl (rf_move rfl) rfl ?_
      refine wl_ret rfl (sortC_ret hsv (fun x hx => by obtain ⟨p, hp, rfl⟩ := List.mem_map.1 hx; exact hc.1 p (hdone.mem_iff.1 hp)) (by rw [List.length_map, hdone.length_eq]; omega)) (rf_call Tryz.call76 rfl rfl) ?_
      rintro vq w3 ⟨rfl, R, hR1, hR2, hsR, hk3⟩
      have hb_w3 := hb_wl.kp hk3 (fun e => by have := hG _ e; omega)
      have hp_w3 := hp_wl.kp hk3 (fun e => by have := hG _ e; omega)
      have hm_w3 := hm_wl.kp hk3 (fun e => by have := hG _ e; omega)
      have hkw_w3 := hkw_wl.comp hk3 (fun y hy e => by have := hG y e; omega)
      have hkl0_w3 := hkl0.comp hk3 (fun y hy e => (hG y e).1)
      have hs3 := hk3.size
      refine wl_nil ?_
      refine thn ?_
      refine seq_ ?_
      refine region_ ?_
      refine wl_valE (v := sv) rfl (rf_move rfl) rfl ?_
      refine wl_valE (v := sv) rfl (rf_assign rfl) rfl ?_
      refine wl_nil ?_
      refine thn ?_
      refine ret_ ?_
      refine fin1 (v := sv) Tryz.results65 rfl rfl ?_
      refine ⟨R, ⟨hR1.trans (hdone.map _), nodup_pair _ (((hR1.trans (hdone.map _)).map _).nodup_iff.2 (by rw [List.map_map]; exact hc.2)) hR2⟩, hsR.mono (fun y hy => ⟨(hG y hy).1, by have := (hG y hy).2.2; omega⟩), hkw_w3⟩
    · intro pn w2 hpm hk2 hi2
      have hb_w2 := hb_wl.kp hk2 (fun e => by omega)
      have hp_w2 := hp_wl.kp hk2 (fun e => by omega)
      have hm_w2 := hm_wl.kp hk2 (fun e => by omega)
      have hkw_w2 := hkw_wl.comp hk2 (fun y hy e => by omega)
      have hkl0_w2 := hkl0.comp hk2 (fun y hy e => by omega)
      have hsv_w2 := hsv.kp hk2 (fun y hy e => (hG y hy).2.1 e)
      have hs2 := hk2.size
      refine wl_valE (v := .bool true) rfl (rf_extract rfl rfl rfl) rfl ?_
      refine wl_nil ?_
      refine thn ?_
      refine seq_ ?_
      refine condT rfl rfl ?_
      refine skip_ ?_
      refine thn ?_
      refine block_ ?_
      refine seq_ ?_
      refine region_ ?_
      refine wl_valE (v := .tuple #[.agg #[.int .i64 pn.1.table, .int .i64 pn.1.row], .agg #[.int .i64 pn.2.key.table, .int .i64 pn.2.key.row, .slice pn.2.val.a pn.2.val.n pn.2.val.c, .int .i64 pn.2.came]]) rfl (rf_entry rfl rfl hi2) rfl ?_
      refine wl_valE (v := .agg #[.int .i64 pn.2.key.table, .int .i64 pn.2.key.row, .slice pn.2.val.a pn.2.val.n pn.2.val.c, .int .i64 pn.2.came]) rfl (rf_extract rfl rfl rfl) rfl ?_
      refine wl_alloc ti124 ?_
      intro b4 w4 hg4 hk4 hb4
      have ne4_b : b ≠ b4 := Nat.ne_of_lt (Nat.lt_of_lt_of_le hb_w2.lt hg4)
      have ne4_bp : bp ≠ b4 := Nat.ne_of_lt (Nat.lt_of_lt_of_le hp_w2.lt hg4)
      have ne4_r : r ≠ b4 := Nat.ne_of_lt (Nat.lt_of_lt_of_le hm_w2.lt hg4)
      have hb_w4 := hb_w2.keep hk4
      have hp_w4 := hp_w2.keep hk4
      have hm_w4 := hm_w2.keep hk4
      have hkw_w4 := hkw_w2.comp hk4 (fun _ _ e => e.elim)
      have hkl0_w4 := hkl0_w2.comp hk4 (fun _ _ e => e.elim)
      have hsv_w4 := hsv_w2.keep hk4
      have hit_w4 := hi2.keep hk4
      have hs4 := hk4.size
      refine wl_storeAgg (b := b4) (o := 0) (cs := [.int .i64 pn.2.key.table, .int .i64 pn.2.key.row, .slice pn.2.val.a pn.2.val.n pn.2.val.c, .int .i64 pn.2.came]) ti124 rfl rfl rfl rfl rfl (by simp [Value.oneCell']) hb4 (Nat.le_of_ble_eq_true rfl) ?_
      intro w5 hk5 hb5
      have hb_w5 := hb_w4.kp hk5 ne4_b
      have hp_w5 := hp_w4.kp hk5 ne4_bp
      have hm_w5 := hm_w4.kp hk5 ne4_r
      have hkw_w5 := hkw_w4.comp hk5 (fun y hy e => by omega)
      have hkl0_w5 := hkl0_w4.comp hk5 (fun y hy e => by omega)
      have hsv_w5 := hsv_w4.kp hk5 (fun y hy e => by have := hG y hy; omega)
      have hit_w5 := hit_w4.kp hk5 (fun y hy e => by have := hit_w4.lt; omega)
      have hs5 := hk5.size
      replace hb5 : Blk w5 b4 (.cells #[.int .i64 pn.2.key.table, .int .i64 pn.2.key.row, .slice pn.2.val.a pn.2.val.n pn.2.val.c, .int .i64 pn.2.came] _ (0, 0)) := hb5
      refine wl_nil ?_
      refine thn ?_
      refine region_ ?_
      refine wl_valE (v := sv) rfl (rf_move rfl) rfl ?_
      refine wl_valE (v := .agg #[.int .i64 pn.2.key.table, .int .i64 pn.2.key.row, .slice pn.2.val.a pn.2.val.n pn.2.val.c, .int .i64 pn.2.came]) rfl (rf_loadBlk Tryz.underlying124 rfl ti124 rfl rfl hb5 (Nat.le_of_ble_eq_true rfl)) rfl ?_
      refine wl_buildSlice (css := [[.int .i64 pn.2.key.table, .int .i64 pn.2.key.row, .slice pn.2.val.a pn.2.val.n pn.2.val.c, .int .i64 pn.2.came]]) Tryz.underlying127 ti124 rfl rfl rfl (.cons rfl rfl rfl rfl rfl rfl .nil) (by simp) ?_
      intro b6 w6 hg6 hk6 hb6
      have ne6_b : b ≠ b6 := Nat.ne_of_lt (Nat.lt_of_lt_of_le hb_w5.lt hg6)
      have ne6_bp : bp ≠ b6 := Nat.ne_of_lt (Nat.lt_of_lt_of_le hp_w5.lt hg6)
      have ne6_r : r ≠ b6 := Nat.ne_of_lt (Nat.lt_of_lt_of_le hm_w5.lt hg6)
      have ne6_b4 : b4 ≠ b6 := Nat.ne_of_lt (Nat.lt_of_lt_of_le hb5.lt hg6)
      have hb_w6 := hb_w5.keep hk6
      have hp_w6 := hp_w5.keep hk6
      have hm_w6 := hm_w5.keep hk6
      have hkw_w6 := hkw_w5.comp hk6 (fun _ _ e => e.elim)
      have hkl0_w6 := hkl0_w5.comp hk6 (fun _ _ e => e.elim)
      have hsv_w6 := hsv_w5.keep hk6
      have hit_w6 := hit_w5.keep hk6
      have hb4_w6 := hb5.keep hk6
      have hs6 := hk6.size
      obtain ⟨W6, hW6⟩ : ∃ n, n = w6.heap.size := ⟨_, rfl⟩
      refine wl_append encSlotC_len encSlotC_one Tryz.underlying127 ti124 rfl rfl rfl rfl rfl (hsv_w6) ((SlAt.of_blk (l := [pn.2]) encSlotC_len (by simp) hb6).rd (F := fun b => b = b6) rfl) (by have := hit_w6.le; simp at this; simp; omega) (by have := hit_w6.le; simp at this; simp; omega) ?_
      intro v7 w7 hk7 ha7
      have hb_w7 := hb_w6.kp hk7 (fun e => by have := hG _ e; omega)
      have hp_w7 := hp_w6.kp hk7 (fun e => by have := hG _ e; omega)
      have hm_w7 := hm_w6.kp hk7 (fun e => by have := hG _ e; omega)
      have hkw_w7 := hkw_w6.comp hk7 (fun y hy e => by have := hG y e; omega)
      have hkl0_w7 := hkl0_w6.comp hk7 (fun y hy e => (hG y e).1)
      have hit_w7 := hit_w6.kp hk7 (fun y hy e => by have := hG y e; rcases hy with h | h; exact this.2.1 h; omega)
      have hb4_w7 := hb4_w6.kp hk7 (fun e => by have := hG _ e; omega)
      have hs7 := hk7.size
      refine wl_valE (v := v7) rfl (rf_assign rfl) rfl ?_
      refine wl_nil ?_
      refine bln ?_
      refine thn ?_
      refine ⟨lk0 - 1, _, rfl, (by have := hit_w7.le; simp at this; omega), _, done ++ [pn], (v7), (fun y => (G y ∨ W6 ≤ y) ∧ y < w7.heap.size), upds_self ⟨rfl, rfl, rfl, trivial⟩, ?_⟩
      have hsv2 := ha7.tight
      have hri2 := hit_w7.lt.1
      refine ⟨by have hq := hit_w7.le; simp at hq; simp; omega, hit_w7, by rw [List.map_append]; exact hsv2.mono (fun y hy => ⟨hy.1.elim .inl (fun e => .inr (by omega)), hy.2⟩), fun y hy => ⟨hy.1.elim (fun e => (hG y e).1) (fun e => by omega), hy.1.elim (fun e => (hG y e).2.1) (fun e => by omega), hy.2⟩, hkl0_w7⟩

theorem DictC.cnt {w w' : World} {b bp : Nat} {rs : List Nat} {ls : List (List (Key × SlotC))} {came n came' n' : Int} (h : DictC w b bp rs ls came n) (hb : Blk w' b (.cells #[.func (.func 11) #[] #[], .slice (some ⟨bp, 0, none⟩) rs.length rs.length, .int .i64 came', .int .i64 n'] 94 (0, 0))) (hk : Kp (fun y => y = b) w w') : DictC w' b bp rs ls came' n' := by
  have hp := h.pos.1
  obtain ⟨r, hr⟩ : ∃ r, rs[0]? = some r := ⟨_, List.getElem?_eq_getElem hp⟩
  obtain ⟨l, hl⟩ : ∃ l, ls[0]? = some l := ⟨_, List.getElem?_eq_getElem (by rw [h.len]; exact hp)⟩
  have hm := h.maps 0 r l hr hl
  have e : ls.set 0 l = ls := by
    obtain ⟨h1, h2⟩ := List.getElem?_eq_some_iff.1 hl
    rw [← h2, List.set_getElem_self]
  have := h.turn hr hb (hm.kp hk (fun e => hm.ne_cells h.blk e.symm)) (hk.mono (fun y _ e => .inl e)) (h.keys l (List.mem_of_getElem? hl))
  rwa [e] at this
def partLC (ls : List (List (Key × SlotC))) (p : Int) : List (Key × SlotC) := if 0 ≤ p then ls.getD p.toNat [] else []
theorem clr_setC {ls : List (List (Key × SlotC))} {j : Nat} (hj : j < ls.length) : (List.replicate j ([] : List (Key × SlotC)) ++ ls.drop j).set j [] = List.replicate (j + 1) [] ++ ls.drop (j + 1) := by
  have e : ls.drop j = ls[j] :: ls.drop (j + 1) := List.drop_eq_getElem_cons hj
  have e2 : j - (List.replicate j ([] : List (Key × SlotC))).length = 0 := by simp
  rw [List.set_append_right _ _ (by simp), e2, e, List.set_cons_zero, List.replicate_succ', List.append_assoc]
  rfl
theorem rowNC_ret (b bp : Nat) (rs : List Nat) (ls : List (List (Key × SlotC))) (came n : Int) (w : World) (hd : DictC w b bp rs ls came n) (p : Int) (hpn : ¬ (0 ≤ p ∧ p < rs.length)) : Ret Tryz.prog 65 [.pointer (some ⟨b, 0, none⟩), .int .i64 p] w fun v w' => v = .slice none 0 0 ∧ Kp none_ w w' := by
  have hkw : Kp none_ w w := Kp.refl w
  have hb := hd.blk
  have hp := hd.arr
  have hpos := hd.pos
  have hwb := hb.lt
  have hwp := hp.lt
  have hdd := hd
  refine enterR Tryz.func65 rfl Tryz.ntmps65 rfl ?_
  intro g0
  refine seq_ ?_
  refine region_ ?_
  refine wl_valE (v := .slice none 0 0) rfl (rf_assign rfl) rfl ?_
  refine wl_nil ?_
  refine thn ?_
  refine seq_ ?_
  refine region_ ?_
  refine wl_valE (v := .slice none 0 0) rfl (rf_assign rfl) rfl ?_
  refine wl_nil ?_
  refine thn ?_
  refine seq_ ?_
  refine seq_ ?_
  refine region_ ?_
  refine wl_valE (v := .int .i64 p) rfl (rf_move rfl) rfl ?_
  refine wl_valE (v := .bool (decide (((0 : Nat) : Int) ≤ p))) rfl (rf_geq rfl rfl rfl rfl) rfl ?_
  refine wl_valE (v := .bool (decide (((0 : Nat) : Int) ≤ p))) rfl (rf_move rfl) rfl ?_
  refine wl_split (decide (((0 : Nat) : Int) ≤ p)) (fun u2_2 => ?_) (fun u2_2 => ?_)
  · have u2_2p := of_decide_eq_true u2_2
    refine wl_guardT rfl rfl rfl u2_2 ?_
    refine wl_valE (v := .int .i64 p) rfl (rf_move rfl) rfl ?_
    refine wl_guardT rfl rfl rfl u2_2 ?_
    refine wl_valE (v := .pointer (some ⟨b, 0, none⟩)) rfl (rf_move rfl) rfl ?_
    refine wl_guardT rfl rfl rfl u2_2 ?_
    refine wl_valE (v := .pointer (some ⟨b, 0, none⟩)) rfl (rf_nilCheckP rfl rfl) rfl ?_
    refine wl_guardT rfl rfl rfl u2_2 ?_
    refine wl_valE (v := .pointer (some ⟨b, 1, none⟩)) rfl (rf_fieldAddr Tryz.underlying94 rfl ti92 rfl rfl) rfl ?_
    refine wl_guardT rfl rfl rfl u2_2 ?_
    refine wl_valE (v := .slice (some ⟨bp, 0, none⟩) rs.length rs.length) rfl (rf_load Tryz.underlying92 rfl rfl rfl (hb.cell rfl)) rfl ?_
    refine wl_guardT rfl rfl rfl u2_2 ?_
    refine wl_valE (v := .int .i64 ((rs.length : Nat) : Int)) rfl (rf_len_slice Tryz.underlying92 rfl rfl) rfl ?_
    refine wl_guardT rfl rfl rfl u2_2 ?_
    refine wl_valE (v := .bool false) rfl (rf_lss rfl rfl rfl rfl) (congrArg Value.bool (decide_eq_false (by omega))) ?_
    refine wl_valE (v := .bool false) rfl (rf_pickT rfl rfl rfl u2_2) rfl ?_
    refine wl_nil ?_
    refine thn ?_
    refine condF rfl rfl ?_
    refine skip_ ?_
    refine thn ?_
    refine seq_ ?_
    refine region_ ?_
    refine wl_valE (v := .slice none 0 0) rfl (rf_move rfl) rfl ?_
    refine wl_ret rfl (sortC_ret (Sl.nil w (fun _ => False)) (fun x hx => by cases hx) (by simp)) (rf_call Tryz.call76 rfl rfl) ?_
    rintro vq w1 ⟨rfl, R, hR1, hR2, hsR, hk1⟩
    have hb_w1 := hb.kp hk1 (fun e => e.elim)
    have hkw_w1 := hkw.comp hk1 (fun y hy e => e.elim)
    have hs1 := hk1.size
    refine wl_nil ?_
    refine thn ?_
    refine seq_ ?_
    refine region_ ?_
    refine wl_valE (v := .slice none 0 0) rfl (rf_move rfl) rfl ?_
    refine wl_valE (v := .slice none 0 0) rfl (rf_assign rfl) rfl ?_
    refine wl_nil ?_
    refine thn ?_
    refine ret_ ?_
    refine fin1 (v := .slice none 0 0) Tryz.results65 rfl rfl ?_
    exact ⟨rfl, hkw_w1⟩
  · have u2_2p := of_decide_eq_false u2_2
    refine wl_guardF rfl rfl rfl u2_2 ?_
    refine wl_guardF rfl rfl rfl u2_2 ?_
    refine wl_guardF rfl rfl rfl u2_2 ?_
    refine wl_guardF rfl rfl rfl u2_2 ?_
    refine wl_guardF rfl rfl rfl u2_2 ?_
    refine wl_guardF rfl rfl rfl u2_2 ?_
    refine wl_guardF rfl rfl rfl u2_2 ?_
    refine wl_valE (v := .bool false) rfl (rf_pickF rfl rfl rfl u2_2) rfl ?_
    refine wl_nil ?_
    refine thn ?_
    refine condF rfl rfl ?_
    refine skip_ ?_
    refine thn ?_
    refine seq_ ?_
    refine region_ ?_
    refine wl_valE (v := .slice none 0 0) rfl (rf_move rfl) rfl ?_
    refine wl_ret rfl (sortC_ret (Sl.nil w (fun _ => False)) (fun x hx => by cases hx) (by simp)) (rf_call Tryz.call76 rfl rfl) ?_
    rintro vq w2 ⟨rfl, R, hR1, hR2, hsR, hk2⟩
    have hb_w2 := hb.kp hk2 (fun e => e.elim)
    have hkw_w2 := hkw.comp hk2 (fun y hy e => e.elim)
    have hs2 := hk2.size
    refine wl_nil ?_
    refine thn ?_
    refine seq_ ?_
    refine region_ ?_
    refine wl_valE (v := .slice none 0 0) rfl (rf_move rfl) rfl ?_
    refine wl_valE (v := .slice none 0 0) rfl (rf_assign rfl) rfl ?_
    refine wl_nil ?_
    refine thn ?_
    refine ret_ ?_
    refine fin1 (v := .slice none 0 0) Tryz.results65 rfl rfl ?_
    exact ⟨rfl, hkw_w2⟩
theorem rowAC_ret (b bp : Nat) (rs : List Nat) (ls : List (List (Key × SlotC))) (came n : Int) (w : World) (hd : DictC w b bp rs ls came n) (p : Int) (hc : ∀ l ∈ ls, CameOkC l) (hlen : ∀ l ∈ ls, l.length ≤ 2932031007401) : Ret Tryz.prog 65 [.pointer (some ⟨b, 0, none⟩), .int .i64 p] w fun v w' => ∃ R, RowOfC (partLC ls p) R ∧ Sl encSlotC 4 124 w' (fun y => w.heap.size ≤ y ∧ y < w'.heap.size) v R ∧ Kp none_ w w' := by
  by_cases hp : 0 ≤ p ∧ p < rs.length
  · obtain ⟨q, rfl⟩ : ∃ q : Nat, p = (q : Int) := ⟨p.toNat, by omega⟩
    have hq : q < rs.length := by omega
    obtain ⟨r, hr⟩ : ∃ r, rs[q]? = some r := ⟨_, List.getElem?_eq_getElem hq⟩
    obtain ⟨l, hl⟩ : ∃ l, ls[q]? = some l := ⟨_, List.getElem?_eq_getElem (by rw [hd.len]; exact hq)⟩
    have e : partLC ls (q : Int) = l := by unfold partLC; rw [if_pos (by omega), List.getD_eq_getElem?_getD, Int.toNat_natCast, hl]; rfl
    rw [e]
    exact rowC_ret b bp rs ls came n w hd q r l hr hl (hc l (List.mem_of_getElem? hl)) (hlen l (List.mem_of_getElem? hl))
  · have e : partLC ls p = [] := by
      unfold partLC
      split
      · rw [List.getD_eq_getElem?_getD, List.getElem?_eq_none (by have := hd.len; omega)]; rfl
      · rfl
    rw [e]
    refine Ret.mono (rowNC_ret b bp rs ls came n w hd p hp) ?_
    rintro _ w' ⟨rfl, hk⟩
    exact ⟨[], ⟨.refl _, .nil⟩, Sl.nil _ _, hk⟩
end Go.Proofs.YtojcddlpkfhodaaGreat.W
