import Derived.Test.YtlpigppmbnaabaaD1I
import Derived.KernelRfl
namespace Go.Proofs.Ytlpigppmbnaabaa.W
open Go Go.Wk
set_option linter.unusedVariables false
set_option linter.unusedSimpArgs false

def okCI (s : SlotI) : Prop := 0 ≤ s.came ∧ s.came ≤ 4611686018427387903
instance : Inhabited {s : SlotI // okCI s} := ⟨⟨zslotI, by unfold okCI zslotI; simp⟩⟩
abbrev encCI (s : {s : SlotI // okCI s}) : List Value := encSlotI s.1
def cmpCI (a b : {s : SlotI // okCI s}) : Int := a.1.came - b.1.came
theorem swoI : Go.Sort.SWO (Go.Proofs.ltOf cmpCI) where
  irrefl x := by unfold Go.Proofs.ltOf cmpCI; simp
  trans x y z h1 h2 := by unfold Go.Proofs.ltOf cmpCI at *; simp at *; omega
  ntrans x y z h1 h2 := by unfold Go.Proofs.ltOf cmpCI at *; simp at *; omega
theorem encSlotI_len (s : SlotI) : (encSlotI s).length = 4 := rfl
theorem encSlotI_one (s : SlotI) : ∀ u ∈ encSlotI s, u.oneCell' = true := by simp [encSlotI, Value.oneCell']
theorem sl_subI {e : TypeId} {w : World} {F : Nat → Prop} {v : Value} {l : List SlotI} (h : Sl encSlotI 4 e w F v l) (hp : ∀ x ∈ l, okCI x) : Sl encCI 4 e w F v (l.attachWith okCI hp) := by
  rcases h with ⟨rfl, rfl⟩ | ⟨b, o, cap, A, rfl, h1, h2, h3, h4, h5, h6⟩
  · exact .inl ⟨rfl, rfl⟩
  · refine .inr ⟨b, o, cap, A, by rw [List.length_attachWith], h1, h2, by rw [List.length_attachWith]; exact h3, h4, h5, fun i x hx j u hj => h6 i x.1 ?_ j u hj⟩
    have hx2 := congrArg (Option.map Subtype.val) hx
    have e9 : (l.attachWith okCI hp).map Subtype.val = l := by simp
    rw [← List.getElem?_map, e9] at hx2
    exact hx2
/-- What a partition gives: its slots by the order in which they came. -/
def RowOfI (l : List (Key × SlotI)) (R : List SlotI) : Prop := R.Perm (l.map (·.2)) ∧ R.Pairwise (fun a b => a.came < b.came)
def CameOkI (l : List (Key × SlotI)) : Prop := (∀ p ∈ l, okCI p.2) ∧ (l.map (fun p => p.2.came)).Nodup
section
open Go.Proofs Go.Shelf
def sortI_ren : Go.Shelf.Ren := ⟨fun | 6 => 17 | 15 => 20 | 14 => 19 | 28 => 29 | 29 => 30 | 20 => 21 | 21 => 22 | 22 => 23 | 23 => 24 | 24 => 25 | 25 => 26 | 26 => 27 | 27 => 28 | 46 => 31 | 47 => 32 | 48 => 33 | 49 => 34 | 50 => 35 | 57 => 36 | n => n, fun | 22 => 52 | 24 => 50 | 25 => 56 | 3 => 3 | 39 => 59 | 0 => 0 | 53 => 69 | 55 => 32 | 4 => 4 | 46 => 62 | 45 => 61 | 50 => 66 | 5 => 5 | 9 => 9 | 66 => 71 | 70 => 75 | 76 => 77 | 77 => 78 | n => n, fun | n => n⟩
set_option maxRecDepth 100000 in
theorem layI : Go.Proofs.SlLaysF0.n6 Try.prog sortI_ren := {
  mixed := by kernel_rfl
  f6 := ⟨Try.f17.name, by decide, Try.func17.trans (congrArg some (by kernel_rfl))⟩
  f14 := ⟨Try.f19.name, by decide, Try.func19.trans (congrArg some (by kernel_rfl))⟩
  f15 := Try.func20.trans (congrArg some (by kernel_rfl))
  f20 := ⟨Try.f21.name, by decide, Try.func21.trans (congrArg some (by kernel_rfl))⟩
  f21 := ⟨Try.f22.name, by decide, Try.func22.trans (congrArg some (by kernel_rfl))⟩
  f22 := ⟨Try.f23.name, by decide, Try.func23.trans (congrArg some (by kernel_rfl))⟩
  f23 := ⟨Try.f24.name, by decide, Try.func24.trans (congrArg some (by kernel_rfl))⟩
  f24 := ⟨Try.f25.name, by decide, Try.func25.trans (congrArg some (by kernel_rfl))⟩
  f25 := ⟨Try.f26.name, by decide, Try.func26.trans (congrArg some (by kernel_rfl))⟩
  f26 := ⟨Try.f27.name, by decide, Try.func27.trans (congrArg some (by kernel_rfl))⟩
  f27 := ⟨Try.f28.name, by decide, Try.func28.trans (congrArg some (by kernel_rfl))⟩
  f28 := Try.func29.trans (congrArg some (by kernel_rfl))
  f29 := Try.func30.trans (congrArg some (by kernel_rfl))
  f46 := ⟨Try.f31.name, by decide, Try.func31.trans (congrArg some (by kernel_rfl))⟩
  f47 := Try.func32.trans (congrArg some (by kernel_rfl))
  f48 := Try.func33.trans (congrArg some (by kernel_rfl))
  f49 := ⟨Try.f34.name, by decide, Try.func34.trans (congrArg some (by kernel_rfl))⟩
  f50 := ⟨Try.f35.name, by decide, Try.func35.trans (congrArg some (by kernel_rfl))⟩
  f57 := ⟨Try.f36.name, by decide, Try.func36.trans (congrArg some (by kernel_rfl))⟩
  t0 := Try.underlying0
  a0 := Try.isAgg0
  z0 := Try.sizeOf0
  v0 := Try.zeroValue0
  t3 := Try.underlying3
  a3 := Try.isAgg3
  z3 := Try.sizeOf3
  v3 := Try.zeroValue3
  t4 := Try.underlying4
  a4 := Try.isAgg4
  z4 := Try.sizeOf4
  v4 := Try.zeroValue4
  t5 := Try.underlying5
  a5 := Try.isAgg5
  z5 := Try.sizeOf5
  v5 := Try.zeroValue5
  t9 := Try.underlying9
  a9 := Try.isAgg9
  z9 := Try.sizeOf9
  v9 := Try.zeroValue9
  t22 := Try.underlying52
  a22 := Try.isAgg52
  z22 := Try.sizeOf52
  v22 := Try.zeroValue52
  t25 := Try.underlying56
  a25 := Try.isAgg56
  z25 := Try.sizeOf56
  v25 := Try.zeroValue56
  t39 := Try.underlying59
  a39 := Try.isAgg59
  z39 := Try.sizeOf59
  v39 := Try.zeroValue59
  t45 := Try.underlying61
  a45 := Try.isAgg61
  z45 := Try.sizeOf61
  v45 := Try.zeroValue61
  t46 := Try.underlying62
  a46 := Try.isAgg62
  z46 := Try.sizeOf62
  v46 := Try.zeroValue62
  t50 := Try.underlying66
  a50 := Try.isAgg66
  z50 := Try.sizeOf66
  v50 := Try.zeroValue66
  t53 := Try.underlying69
  a53 := Try.isAgg69
  z53 := Try.sizeOf69
  v53 := Try.zeroValue69
  t55 := Try.underlying32
  a55 := Try.isAgg32
  z55 := Try.sizeOf32
  v55 := Try.zeroValue32
  t66 := Try.underlying71
  a66 := Try.isAgg71
  z66 := Try.sizeOf71
  v66 := Try.zeroValue71
  t70 := Try.underlying75
  a70 := Try.isAgg75
  z70 := Try.sizeOf75
  v70 := Try.zeroValue75
  t76 := Try.underlying77
  a76 := Try.isAgg77
  z76 := Try.sizeOf77
  v76 := Try.zeroValue77
  t77 := Try.underlying78
  a77 := Try.isAgg78
  z77 := Try.sizeOf78
  v77 := Try.zeroValue78 }
end
theorem cmpI_ret (x y : {s : SlotI // okCI s}) (w : World) : Ret Try.prog 18 [.agg #[.int .i64 x.1.key.table, .int .i64 x.1.key.row, .int .i64 x.1.val, .int .i64 x.1.came], .agg #[.int .i64 y.1.key.table, .int .i64 y.1.key.row, .int .i64 y.1.val, .int .i64 y.1.came]] w fun v w' => v = .int .i64 (cmpCI x y) ∧ Kp none_ w w' := by
  have hkw : Kp none_ w w := Kp.refl w
  have hx := x.2
  have hy := y.2
  unfold okCI at hx hy
  refine enterR Try.func18 rfl Try.ntmps18 rfl ?_
  intro g0
  refine seq_ ?_
  refine region_ ?_
  refine wl_box (v := .agg #[.int .i64 x.1.key.table, .int .i64 x.1.key.row, .int .i64 x.1.val, .int .i64 x.1.came]) rfl rfl ?_
  intro b1 w1 hg1 hk1 hb1
  have hkw_w1 := hkw.comp hk1 (fun _ _ e => e.elim)
  have hs1 := hk1.size
  refine wl_box (v := .agg #[.int .i64 y.1.key.table, .int .i64 y.1.key.row, .int .i64 y.1.val, .int .i64 y.1.came]) rfl rfl ?_
  intro b2 w2 hg2 hk2 hb2
  have ne2_b1 : b1 ≠ b2 := Nat.ne_of_lt (Nat.lt_of_lt_of_le hb1.lt hg2)
  have hkw_w2 := hkw_w1.comp hk2 (fun _ _ e => e.elim)
  have hb1_w2 := hb1.keep hk2
  have hs2 := hk2.size
  refine wl_valE (v := .int .i64 ((0 : Nat) : Int)) rfl (rf_assign rfl) rfl ?_
  refine wl_nil ?_
  refine thn ?_
  refine seq_ ?_
  refine region_ ?_
  refine wl_valE (v := .pointer (some ⟨b1, 3, none⟩)) rfl (rf_fieldAddr Try.underlying50 rfl ti3 rfl rfl) rfl ?_
  refine wl_valE (v := .int .i64 x.1.came) rfl (rf_load Try.underlying3 rfl rfl rfl (hb1_w2.cell rfl)) rfl ?_
  refine wl_valE (v := .pointer (some ⟨b2, 3, none⟩)) rfl (rf_fieldAddr Try.underlying50 rfl ti3 rfl rfl) rfl ?_
  refine wl_valE (v := .int .i64 y.1.came) rfl (rf_load Try.underlying3 rfl rfl rfl (hb2.cell rfl)) rfl ?_
  refine wl_valE (v := .int .i64 (x.1.came - y.1.came)) rfl (rf_sub rfl rfl rfl rfl (IntWalk.i64_in _ (by omega))) rfl ?_
  refine wl_valE (v := .int .i64 (x.1.came - y.1.came)) rfl (rf_assign rfl) rfl ?_
  refine wl_nil ?_
  refine thn ?_
  refine ret_ ?_
  refine fin1 (v := .int .i64 (x.1.came - y.1.came)) Try.results18 rfl rfl ?_
  exact ⟨rfl, hkw_w2⟩
theorem sortI_ret {w : World} {F : Nat → Prop} {v : Value} {l : List SlotI} (hs : Sl encSlotI 4 50 w F v l) (hp : ∀ x ∈ l, okCI x) (hsz : l.length < 4611686018427387904) :
    Ret Try.prog 17 [v, .func (.func 18) #[] #[]] w fun u w' => u = .tuple #[] ∧ ∃ l', l'.Perm l ∧ l'.Pairwise (fun a b => a.came ≤ b.came) ∧ Sl encSlotI 4 50 w' F v l' ∧ Kp F w w' := by
  have eg : ∀ args w, (callFunc 18 args).run Try.prog w = .ok (.enter 18 args) w := Go.Proofs.enters_of Try.func18 (by kernel_rfl) rfl
  have h := sort_ret (enc := encCI) (k := 4) layI Try.isAgg50 Try.sizeOf50 (fun s => encSlotI_len s.1) (fun s => encSlotI_one s.1) cmpCI swoI 18 eg (fun x y W => cmpI_ret x y W) (sl_subI hs hp) (by rw [List.length_attachWith]; exact hsz)
  refine Ret.mono h ?_
  rintro _ w' ⟨rfl, l', hp1, hp2, hp3, hp4⟩
  refine ⟨rfl, l'.map Subtype.val, ?_, ?_, ?_, hp4⟩
  · have := hp1.map Subtype.val
    simpa using this
  · rw [List.pairwise_map]
    exact hp2.imp (fun {a b} hab => by unfold Go.Proofs.ltOf cmpCI at hab; simp at hab; omega)
  · exact hp3.map rfl (fun _ => rfl)
theorem rowI_ret (b bp : Nat) (rs : List Nat) (ls : List (List (Key × SlotI))) (came n : Int) (w : World) (hd : DictI w b bp rs ls came n) (i r : Nat) (l : List (Key × SlotI)) (hr : rs[i]? = some r) (hl : ls[i]? = some l) (hc : CameOkI l) (hlen : l.length ≤ 2932031007401) : Ret Try.prog 15 [.pointer (some ⟨b, 0, none⟩), .int .i64 ((i : Nat) : Int)] w fun v w' => ∃ R, RowOfI l R ∧ Sl encSlotI 4 50 w' (fun y => w.heap.size ≤ y ∧ y < w'.heap.size) v R ∧ Kp none_ w w' := by
  have hkw : Kp none_ w w := Kp.refl w
  have hb := hd.blk
  have hp := hd.arr
  have hpos := hd.pos
  have hi := (List.getElem?_eq_some_iff.1 hr).1
  have hm := hd.maps i r l hr hl
  have hwb := hb.lt
  have hwp := hp.lt
  have hwm := hm.lt
  refine enterR Try.func15 rfl Try.ntmps15 rfl ?_
  intro g0
  refine seq_ ?_
  refine region_ ?_
  refine wl_valE (v := .slice none 0 0) rfl (rf_assign rfl) rfl ?_
  refine wl_nil ?_
  refine thn ?_
  refine seq_ ?_
  refine region_ ?_
  refine wl_valE (v := .slice none 0 0) rfl (rf_assign rfl) rfl ?_
  refine wl_nil ?_
  refine thn ?_
  refine seq_ ?_
  refine seq_ ?_
  refine region_ ?_
  refine wl_valE (v := .int .i64 ((i : Nat) : Int)) rfl (rf_move rfl) rfl ?_
  refine wl_valE (v := .bool true) rfl (rf_geq rfl rfl rfl rfl) (congrArg Value.bool (decide_eq_true (by omega))) ?_
  refine wl_valE (v := .bool true) rfl (rf_move rfl) rfl ?_
  refine wl_guardT rfl rfl rfl rfl ?_
  refine wl_valE (v := .int .i64 ((i : Nat) : Int)) rfl (rf_move rfl) rfl ?_
  refine wl_guardT rfl rfl rfl rfl ?_
  refine wl_valE (v := .pointer (some ⟨b, 0, none⟩)) rfl (rf_move rfl) rfl ?_
  refine wl_guardT rfl rfl rfl rfl ?_
  refine wl_valE (v := .pointer (some ⟨b, 0, none⟩)) rfl (rf_nilCheckP rfl rfl) rfl ?_
  refine wl_guardT rfl rfl rfl rfl ?_
  refine wl_valE (v := .pointer (some ⟨b, 1, none⟩)) rfl (rf_fieldAddr Try.underlying46 rfl ti44 rfl rfl) rfl ?_
  refine wl_guardT rfl rfl rfl rfl ?_
  refine wl_valE (v := .slice (some ⟨bp, 0, none⟩) rs.length rs.length) rfl (rf_load Try.underlying44 rfl rfl rfl (hb.cell rfl)) rfl ?_
  refine wl_guardT rfl rfl rfl rfl ?_
  refine wl_valE (v := .int .i64 ((rs.length : Nat) : Int)) rfl (rf_len_slice Try.underlying44 rfl rfl) rfl ?_
  refine wl_guardT rfl rfl rfl rfl ?_
  refine wl_valE (v := .bool true) rfl (rf_lss rfl rfl rfl rfl) (congrArg Value.bool (decide_eq_true (by omega))) ?_
  refine wl_valE (v := .bool true) rfl (rf_pickT rfl rfl rfl rfl) rfl ?_
  refine wl_nil ?_
  refine thn ?_
  refine condT rfl rfl ?_
  refine seq_ ?_
  refine region_ ?_
  refine wl_valE (v := .pointer (some ⟨b, 0, none⟩)) rfl (rf_move rfl) rfl ?_
  refine wl_valE (v := .pointer (some ⟨b, 0, none⟩)) rfl (rf_nilCheckP rfl rfl) rfl ?_
  refine wl_valE (v := .pointer (some ⟨b, 1, none⟩)) rfl (rf_fieldAddr Try.underlying46 rfl ti44 rfl rfl) rfl ?_
  refine wl_valE (v := .slice (some ⟨bp, 0, none⟩) rs.length rs.length) rfl (rf_load Try.underlying44 rfl rfl rfl (hb.cell rfl)) rfl ?_
  refine wl_valE (v := .int .i64 ((i : Nat) : Int)) rfl (rf_move rfl) rfl ?_
  refine wl_valE (v := .pointer (some ⟨bp, i, none⟩)) rfl (rf_indexAddr Try.underlying44 ti47 rfl rfl rfl rfl (by omega) (by omega)) (by simp) ?_
  refine wl_valE (v := .map (some r)) rfl (rf_load Try.underlying47 rfl rfl rfl (hp.cell (i := i) (v := .map (some r)) (by simp [hr]))) rfl ?_
  refine wl_range Try.underlying47 rfl rfl hm ?_
  intro ri1 w1 hg1 hk1 hi1
  have hb_w1 := hb.keep hk1
  have hp_w1 := hp.keep hk1
  have hm_w1 := hm.keep hk1
  have hkw_w1 := hkw.comp hk1 (fun _ _ e => e.elim)
  have hs1 := hk1.size
  refine wl_nil ?_
  refine thn ?_
  refine block_ ?_
  refine loop_ (fun lk lf lw => ∃ (g : Nat → Value) (done : List (Key × SlotI)) (sv : Value) (G : Nat → Prop), lf = upds g [(4, .slice none 0 0), (5, sv), (26, .pointer (some ⟨ri1, 0, none⟩))] ∧ done.length + lk = l.length ∧ It kv slotI lw ri1 r l done ∧ Sl encSlotI 4 50 lw G sv (done.map (·.2)) ∧ (∀ y, G y → w.heap.size ≤ y ∧ y ≠ ri1 ∧ y < lw.heap.size) ∧ Kp (fun y => w.heap.size ≤ y) w1 lw) (l.length) ?_ ?_
  · refine ⟨_, [], (.slice none 0 0), (fun _ => False), upds_self ⟨rfl, rfl, rfl, trivial⟩, ?_⟩
    exact ⟨by simp, hi1, Sl.nil _ _, fun y hy => hy.elim, Kp.refl _⟩
  · intro lk0 lf0 wl hI0
    obtain ⟨gl0, done, sv, G, rfl, hdl, hit, hsv, hG, hkl0⟩ := hI0
    have hb_wl := hb_w1.kp hkl0 (by omega)
    have hp_wl := hp_w1.kp hkl0 (by omega)
    have hm_wl := hm_w1.kp hkl0 (by omega)
    have hkw_wl := hkw_w1.comp hkl0 (fun y hy e => by omega)
    have hsl := hkl0.size
    have hri := hit.lt.1
    refine seq_ ?_
    refine region_ ?_
    refine wl_next rfl rfl hit (fun hdone => ?_) ?_
    · refine wl_valE (v := .bool false) rfl (rf_extract rfl rfl rfl) rfl ?_
      refine wl_nil ?_
      refine thn ?_
      refine seq_ ?_
      refine condF rfl rfl ?_
      refine exit_ ?_
      refine thx (thx (blx ?_))
      refine thn ?_
      refine seq_ ?_
      refine region_ ?_
      refine wl_valE (v := sv) rfl (rf_move rfl) rfl ?_
      refine wl_ret rfl (sortI_ret hsv (fun x hx => by obtain ⟨p, hp, rfl⟩ := List.mem_map.1 hx; exact hc.1 p (hdone.mem_iff.1 hp)) (by rw [List.length_map, hdone.length_eq]; omega)) (rf_call Try.call17 rfl rfl) ?_
      rintro vq w3 ⟨rfl, R, hR1, hR2, hsR, hk3⟩
      have hb_w3 := hb_wl.kp hk3 (fun e => by have := hG _ e; omega)
      have hp_w3 := hp_wl.kp hk3 (fun e => by have := hG _ e; omega)
      have hm_w3 := hm_wl.kp hk3 (fun e => by have := hG _ e; omega)
      have hkw_w3 := hkw_wl.comp hk3 (fun y hy e => by have := hG y e; omega)
      have hkl0_w3 := hkl0.comp hk3 (fun y hy e => (hG y e).1)
      have hs3 := hk3.size
      refine wl_nil ?_
      refine thn ?_
      refine seq_ ?_
      refine region_ ?_
      refine wl_valE (v := sv) rfl (rf_move rfl) rfl ?_
      refine wl_valE (v := sv) rfl (rf_assign rfl) rfl ?_
      refine wl_nil ?_
      refine thn ?_
      refine ret_ ?_
      refine fin1 (v := sv) Try.results15 rfl rfl ?_
      refine ⟨R, ⟨hR1.trans (hdone.map _), nodup_pair _ (((hR1.trans (hdone.map _)).map _).nodup_iff.2 (by rw [List.map_map]; exact hc.2)) hR2⟩, hsR.mono (fun y hy => ⟨(hG y hy).1, by have := (hG y hy).2.2; omega⟩), hkw_w3⟩
    · intro pn w2 hpm hk2 hi2
      have hb_w2 := hb_wl.kp hk2 (fun e => by omega)
      have hp_w2 := hp_wl.kp hk2 (fun e => by omega)
      have hm_w2 := hm_wl.kp hk2 (fun e => by omega)
      have hkw_w2 := hkw_wl.comp hk2 (fun y hy e => by omega)
      have hkl0_w2 := hkl0.comp hk2 (fun y hy e => by omega)
      have hsv_w2 := hsv.kp hk2 (fun y hy e => (hG y hy).2.1 e)
      have hs2 := hk2.size
      refine wl_valE (v := .bool true) rfl (rf_extract rfl rfl rfl) rfl ?_
      refine wl_nil ?_
      refine thn ?_
      refine seq_ ?_
      refine condT rfl rfl ?_
      refine skip_ ?_
      refine thn ?_
      refine block_ ?_
      refine seq_ ?_
      refine region_ ?_
      refine wl_valE (v := .tuple #[.agg #[.int .i64 pn.1.table, .int .i64 pn.1.row], .agg #[.int .i64 pn.2.key.table, .int .i64 pn.2.key.row, .int .i64 pn.2.val, .int .i64 pn.2.came]]) rfl (rf_entry rfl rfl hi2) rfl ?_
      refine wl_valE (v := .agg #[.int .i64 pn.2.key.table, .int .i64 pn.2.key.row, .int .i64 pn.2.val, .int .i64 pn.2.came]) rfl (rf_extract rfl rfl rfl) rfl ?_
      refine wl_alloc ti50 ?_
      intro b4 w4 hg4 hk4 hb4
      have ne4_b : b ≠ b4 := Nat.ne_of_lt (Nat.lt_of_lt_of_le hb_w2.lt hg4)
      have ne4_bp : bp ≠ b4 := Nat.ne_of_lt (Nat.lt_of_lt_of_le hp_w2.lt hg4)
      have ne4_r : r ≠ b4 := Nat.ne_of_lt (Nat.lt_of_lt_of_le hm_w2.lt hg4)
      have hb_w4 := hb_w2.keep hk4
      have hp_w4 := hp_w2.keep hk4
      have hm_w4 := hm_w2.keep hk4
      have hkw_w4 := hkw_w2.comp hk4 (fun _ _ e => e.elim)
      have hkl0_w4 := hkl0_w2.comp hk4 (fun _ _ e => e.elim)
      have hsv_w4 := hsv_w2.keep hk4
      have hit_w4 := hi2.keep hk4
      have hs4 := hk4.size
      refine wl_storeAgg (b := b4) (o := 0) (cs := [.int .i64 pn.2.key.table, .int .i64 pn.2.key.row, .int .i64 pn.2.val, .int .i64 pn.2.came]) ti50 rfl rfl rfl rfl rfl (by simp [Value.oneCell']) hb4 (Nat.le_of_ble_eq_true rfl) ?_
      intro w5 hk5 hb5
      have hb_w5 := hb_w4.kp hk5 ne4_b
      have hp_w5 := hp_w4.kp hk5 ne4_bp
      have hm_w5 := hm_w4.kp hk5 ne4_r
      have hkw_w5 := hkw_w4.comp hk5 (fun y hy e => by omega)
      have hkl0_w5 := hkl0_w4.comp hk5 (fun y hy e => by omega)
      have hsv_w5 := hsv_w4.kp hk5 (fun y hy e => by have := hG y hy; omega)
      have hit_w5 := hit_w4.kp hk5 (fun y hy e => by have := hit_w4.lt; omega)
      have hs5 := hk5.size
      replace hb5 : Blk w5 b4 (.cells #[.int .i64 pn.2.key.table, .int .i64 pn.2.key.row, .int .i64 pn.2.val, .int .i64 pn.2.came] _ (0, 0)) := hb5
      refine wl_nil ?_
      refine thn ?_
      refine region_ ?_
      refine wl_valE (v := sv) rfl (rf_move rfl) rfl ?_
      refine wl_valE (v := .agg #[.int .i64 pn.2.key.table, .int .i64 pn.2.key.row, .int .i64 pn.2.val, .int .i64 pn.2.came]) rfl (rf_loadBlk Try.underlying50 rfl ti50 rfl rfl hb5 (Nat.le_of_ble_eq_true rfl)) rfl ?_
      refine wl_buildSlice (css := [[.int .i64 pn.2.key.table, .int .i64 pn.2.key.row, .int .i64 pn.2.val, .int .i64 pn.2.came]]) Try.underlying52 ti50 rfl rfl rfl (.cons rfl rfl rfl rfl rfl rfl .nil) (by simp) ?_
      intro b6 w6 hg6 hk6 hb6
      have ne6_b : b ≠ b6 := Nat.ne_of_lt (Nat.lt_of_lt_of_le hb_w5.lt hg6)
      have ne6_bp : bp ≠ b6 := Nat.ne_of_lt (Nat.lt_of_lt_of_le hp_w5.lt hg6)
      have ne6_r : r ≠ b6 := Nat.ne_of_lt (Nat.lt_of_lt_of_le hm_w5.lt hg6)
      have ne6_b4 : b4 ≠ b6 := Nat.ne_of_lt (Nat.lt_of_lt_of_le hb5.lt hg6)
      have hb_w6 := hb_w5.keep hk6
      have hp_w6 := hp_w5.keep hk6
      have hm_w6 := hm_w5.keep hk6
      have hkw_w6 := hkw_w5.comp hk6 (fun _ _ e => e.elim)
      have hkl0_w6 := hkl0_w5.comp hk6 (fun _ _ e => e.elim)
      have hsv_w6 := hsv_w5.keep hk6
      have hit_w6 := hit_w5.keep hk6
      have hb4_w6 := hb5.keep hk6
      have hs6 := hk6.size
      obtain ⟨W6, hW6⟩ : ∃ n, n = w6.heap.size := ⟨_, rfl⟩
      refine wl_append encSlotI_len encSlotI_one Try.underlying52 ti50 rfl rfl rfl rfl rfl (hsv_w6) ((SlAt.of_blk (l := [pn.2]) encSlotI_len (by simp) hb6).rd (F := fun b => b = b6) rfl) (by have := hit_w6.le; simp at this; simp; omega) (by have := hit_w6.le; simp at this; simp; omega) ?_
      intro v7 w7 hk7 ha7
      have hb_w7 := hb_w6.kp hk7 (fun e => by have := hG _ e; omega)
      have hp_w7 := hp_w6.kp hk7 (fun e => by have := hG _ e; omega)
      have hm_w7 := hm_w6.kp hk7 (fun e => by have := hG _ e; omega)
      have hkw_w7 := hkw_w6.comp hk7 (fun y hy e => by have := hG y e; omega)
      have hkl0_w7 := hkl0_w6.comp hk7 (fun y hy e => (hG y e).1)
      have hit_w7 := hit_w6.kp hk7 (fun y hy e => by have := hG y e; rcases hy with h | h; exact this.2.1 h; omega)
      have hb4_w7 := hb4_w6.kp hk7 (fun e => by have := hG _ e; omega)
      have hs7 := hk7.size
      refine wl_valE (v := v7) rfl (rf_assign rfl) rfl ?_
      refine wl_nil ?_
      refine bln ?_
      refine thn ?_
      refine ⟨lk0 - 1, _, rfl, (by have := hit_w7.le; simp at this; omega), _, done ++ [pn], (v7), (fun y => (G y ∨ W6 ≤ y) ∧ y < w7.heap.size), upds_self ⟨rfl, rfl, rfl, trivial⟩, ?_⟩
      have hsv2 := ha7.tight
      have hri2 := hit_w7.lt.1
      refine ⟨by have hq := hit_w7.le; simp at hq; simp; omega, hit_w7, by rw [List.map_append]; exact hsv2.mono (fun y hy => ⟨hy.1.elim .inl (fun e => .inr (by omega)), hy.2⟩), fun y hy => ⟨hy.1.elim (fun e => (hG y e).1) (fun e => by omega), hy.1.elim (fun e => (hG y e).2.1) (fun e => by omega), hy.2⟩, hkl0_w7⟩

theorem DictI.cnt {w w' : World} {b bp : Nat} {rs : List Nat} {ls : List (List (Key × SlotI))} {came n came' n' : Int} (h : DictI w b bp rs ls came n) (hb : Blk w' b (.cells #[.func (.func 13) #[] #[], .slice (some ⟨bp, 0, none⟩) rs.length rs.length, .int .i64 came', .int .i64 n'] 46 (0, 0))) (hk : Kp (fun y => y = b) w w') : DictI w' b bp rs ls came' n' := by
  have hp := h.pos.1
  obtain ⟨r, hr⟩ : ∃ r, rs[0]? = some r := ⟨_, List.getElem?_eq_getElem hp⟩
  obtain ⟨l, hl⟩ : ∃ l, ls[0]? = some l := ⟨_, List.getElem?_eq_getElem (by rw [h.len]; exact hp)⟩
  have hm := h.maps 0 r l hr hl
  have e : ls.set 0 l = ls := by
    obtain ⟨h1, h2⟩ := List.getElem?_eq_some_iff.1 hl
    rw [← h2, List.set_getElem_self]
  have := h.turn hr hb (hm.kp hk (fun e => hm.ne_cells h.blk e.symm)) (hk.mono (fun y _ e => .inl e)) (h.keys l (List.mem_of_getElem? hl))
  rwa [e] at this
def partLI (ls : List (List (Key × SlotI))) (p : Int) : List (Key × SlotI) := if 0 ≤ p then ls.getD p.toNat [] else []
theorem clr_setI {ls : List (List (Key × SlotI))} {j : Nat} (hj : j < ls.length) : (List.replicate j ([] : List (Key × SlotI)) ++ ls.drop j).set j [] = List.replicate (j + 1) [] ++ ls.drop (j + 1) := by
  have e : ls.drop j = ls[j] :: ls.drop (j + 1) := List.drop_eq_getElem_cons hj
  have e2 : j - (List.replicate j ([] : List (Key × SlotI))).length = 0 := by simp
  rw [List.set_append_right _ _ (by simp), e2, e, List.set_cons_zero, List.replicate_succ', List.append_assoc]
  rfl
theorem rowNI_ret (b bp : Nat) (rs : List Nat) (ls : List (List (Key × SlotI))) (came n : Int) (w : World) (hd : DictI w b bp rs ls came n) (p : Int) (hpn : ¬ (0 ≤ p ∧ p < rs.length)) : Ret Try.prog 15 [.pointer (some ⟨b, 0, none⟩), .int .i64 p] w fun v w' => v = .slice none 0 0 ∧ Kp none_ w w' := by
  have hkw : Kp none_ w w := Kp.refl w
  have hb := hd.blk
  have hp := hd.arr
  have hpos := hd.pos
  have hwb := hb.lt
  have hwp := hp.lt
  have hdd := hd
  refine enterR Try.func15 rfl Try.ntmps15 rfl ?_
  intro g0
  refine seq_ ?_
  refine region_ ?_
  refine wl_valE (v := .slice none 0 0) rfl (rf_assign rfl) rfl ?_
  refine wl_nil ?_
  refine thn ?_
  refine seq_ ?_
  refine region_ ?_
  refine wl_valE (v := .slice none 0 0) rfl (rf_assign rfl) rfl ?_
  refine wl_nil ?_
  refine thn ?_
  refine seq_ ?_
  refine seq_ ?_
  refine region_ ?_
  refine wl_valE (v := .int .i64 p) rfl (rf_move rfl) rfl ?_
  refine wl_valE (v := .bool (decide (((0 : Nat) : Int) ≤ p))) rfl (rf_geq rfl rfl rfl rfl) rfl ?_
  refine wl_valE (v := .bool (decide (((0 : Nat) : Int) ≤ p))) rfl (rf_move rfl) rfl ?_
  refine wl_split (decide (((0 : Nat) : Int) ≤ p)) (fun u2_2 => ?_) (fun u2_2 => ?_)
  · have u2_2p := of_decide_eq_true u2_2
    refine wl_guardT rfl rfl rfl u2_2 ?_
    refine wl_valE (v := .int .i64 p) rfl (rf_move rfl) rfl ?_
    refine wl_guardT rfl rfl rfl u2_2 ?_
    refine wl_valE (v := .pointer (some ⟨b, 0, none⟩)) rfl (rf_move rfl) rfl ?_
    refine wl_guardT rfl rfl rfl u2_2 ?_
    refine wl_valE (v := .pointer (some ⟨b, 0, none⟩)) rfl (rf_nilCheckP rfl rfl) rfl ?_
    refine wl_guardT rfl rfl rfl u2_2 ?_
    refine wl_valE (v := .pointer (some ⟨b, 1, none⟩)) rfl (rf_fieldAddr Try.underlying46 rfl ti44 rfl rfl) rfl ?_
    refine wl_guardT rfl rfl rfl u2_2 ?_
    refine wl_valE (v := .slice (some ⟨bp, 0, none⟩) rs.length rs.length) rfl (rf_load Try.underlying44 rfl rfl rfl (hb.cell rfl)) rfl ?_
    refine wl_guardT rfl rfl rfl u2_2 ?_
    refine wl_valE (v := .int .i64 ((rs.length : Nat) : Int)) rfl (rf_len_slice Try.underlying44 rfl rfl) rfl ?_
    refine wl_guardT rfl rfl rfl u2_2 ?_
    refine wl_valE (v := .bool false) rfl (rf_lss rfl rfl rfl rfl) (congrArg Value.bool (decide_eq_false (by omega))) ?_
    refine wl_valE (v := .bool false) rfl (rf_pickT rfl rfl rfl u2_2) rfl ?_
    refine wl_nil ?_
    refine thn ?_
    refine condF rfl rfl ?_
    refine skip_ ?_
    refine thn ?_
    refine seq_ ?_
    refine region_ ?_
    refine wl_valE (v := .slice none 0 0) rfl (rf_move rfl) rfl ?_
    refine wl_ret rfl (sortI_ret (Sl.nil w (fun _ => False)) (fun x hx => by cases hx) (by simp)) (rf_call Try.call17 rfl rfl) ?_
    rintro vq w1 ⟨rfl, R, hR1, hR2, hsR, hk1⟩
    have hb_w1 := hb.kp hk1 (fun e => e.elim)
    have hkw_w1 := hkw.comp hk1 (fun y hy e => e.elim)
    have hs1 := hk1.size
    refine wl_nil ?_
    refine thn ?_
    refine seq_ ?_
    refine region_ ?_
    refine wl_valE (v := .slice none 0 0) rfl (rf_move rfl) rfl ?_
    refine wl_valE (v := .slice none 0 0) rfl (rf_assign rfl) rfl ?_
    refine wl_nil ?_
    refine thn ?_
    refine ret_ ?_
    refine fin1 (v := .slice none 0 0) Try.results15 rfl rfl ?_
    exact ⟨rfl, hkw_w1⟩
  · have u2_2p := of_decide_eq_false u2_2
    refine wl_guardF rfl rfl rfl u2_2 ?_
    refine wl_guardF rfl rfl rfl u2_2 ?_
    refine wl_guardF rfl rfl rfl u2_2 ?_
    refine wl_guardF rfl rfl rfl u2_2 ?_
    refine wl_guardF rfl rfl rfl u2_2 ?_
    refine wl_guardF rfl rfl rfl u2_2 ?_
    refine wl_guardF rfl rfl rfl u2_2 ?_
    refine wl_valE (v := .bool false) rfl (rf_pickF rfl rfl rfl u2_2) rfl ?_
    refine wl_nil ?_
    refine thn ?_
    refine condF rfl rfl ?_
    refine skip_ ?_
    refine thn ?_
    refine seq_ ?_
    refine region_ ?_
    refine wl_valE (v := .slice none 0 0) rfl (rf_move rfl) rfl ?_
    refine wl_ret rfl (sortI_ret (Sl.nil w (fun _ => False)) (fun x hx => by cases hx) (by simp)) (rf_call Try.call17 rfl rfl) ?_
    rintro vq w2 ⟨rfl, R, hR1, hR2, hsR, hk2⟩
    have hb_w2 := hb.kp hk2 (fun e => e.elim)
    have hkw_w2 := hkw.comp hk2 (fun y hy e => e.elim)
    have hs2 := hk2.size
    refine wl_nil ?_
    refine thn ?_
    refine seq_ ?_
    refine region_ ?_
    refine wl_valE (v := .slice none 0 0) rfl (rf_move rfl) rfl ?_
    refine wl_valE (v := .slice none 0 0) rfl (rf_assign rfl) rfl ?_
    refine wl_nil ?_
    refine thn ?_
    refine ret_ ?_
    refine fin1 (v := .slice none 0 0) Try.results15 rfl rfl ?_
    exact ⟨rfl, hkw_w2⟩
theorem rowAI_ret (b bp : Nat) (rs : List Nat) (ls : List (List (Key × SlotI))) (came n : Int) (w : World) (hd : DictI w b bp rs ls came n) (p : Int) (hc : ∀ l ∈ ls, CameOkI l) (hlen : ∀ l ∈ ls, l.length ≤ 2932031007401) : Ret Try.prog 15 [.pointer (some ⟨b, 0, none⟩), .int .i64 p] w fun v w' => ∃ R, RowOfI (partLI ls p) R ∧ Sl encSlotI 4 50 w' (fun y => w.heap.size ≤ y ∧ y < w'.heap.size) v R ∧ Kp none_ w w' := by
  by_cases hp : 0 ≤ p ∧ p < rs.length
  · obtain ⟨q, rfl⟩ : ∃ q : Nat, p = (q : Int) := ⟨p.toNat, by omega⟩
    have hq : q < rs.length := by omega
    obtain ⟨r, hr⟩ : ∃ r, rs[q]? = some r := ⟨_, List.getElem?_eq_getElem hq⟩
    obtain ⟨l, hl⟩ : ∃ l, ls[q]? = some l := ⟨_, List.getElem?_eq_getElem (by rw [hd.len]; exact hq)⟩
    have e : partLI ls (q : Int) = l := by unfold partLI; rw [if_pos (by omega), List.getD_eq_getElem?_getD, Int.toNat_natCast, hl]; rfl
    rw [e]
    exact rowI_ret b bp rs ls came n w hd q r l hr hl (hc l (List.mem_of_getElem? hl)) (hlen l (List.mem_of_getElem? hl))
  · have e : partLI ls p = [] := by
      unfold partLI
      split
      · rw [List.getD_eq_getElem?_getD, List.getElem?_eq_none (by have := hd.len; omega)]; rfl
      · rfl
    rw [e]
    refine Ret.mono (rowNI_ret b bp rs ls came n w hd p hp) ?_
    rintro _ w' ⟨rfl, hk⟩
    exact ⟨[], ⟨.refl _, .nil⟩, Sl.nil _ _, hk⟩
theorem keysI_ret (b bp : Nat) (rs : List Nat) (ls : List (List (Key × SlotI))) (came n : Int) (w : World) (hd : DictI w b bp rs ls came n) (p : Int) (hc : ∀ l ∈ ls, CameOkI l) (hlen : ∀ l ∈ ls, l.length ≤ 2932031007401) : Ret Try.prog 7 [.pointer (some ⟨b, 0, none⟩), .int .i64 p] w fun v w' => ∃ R, RowOfI (partLI ls p) R ∧ Sl encKey 2 28 w' (fun y => w.heap.size ≤ y ∧ y < w'.heap.size) v (R.map (·.key)) ∧ Kp none_ w w' := by
  have hkw : Kp none_ w w := Kp.refl w
  have hb := hd.blk
  have hp := hd.arr
  have hpos := hd.pos
  have hwb := hb.lt
  have hwp := hp.lt
  have hdd := hd
  refine enterR Try.func7 rfl Try.ntmps7 rfl ?_
  intro g0
  refine seq_ ?_
  refine region_ ?_
  refine wl_valE (v := .slice none 0 0) rfl (rf_assign rfl) rfl ?_
  refine wl_nil ?_
  refine thn ?_
  refine seq_ ?_
  refine region_ ?_
  refine wl_valE (v := .slice none 0 0) rfl (rf_assign rfl) rfl ?_
  refine wl_nil ?_
  refine thn ?_
  refine seq_ ?_
  refine seq_ ?_
  refine region_ ?_
  refine wl_valE (v := .pointer (some ⟨b, 0, none⟩)) rfl (rf_move rfl) rfl ?_
  refine wl_valE (v := .int .i64 p) rfl (rf_move rfl) rfl ?_
  refine wl_ret rfl (rowAI_ret b bp rs ls came n w hdd p hc hlen) (rf_call Try.call15 rfl rfl) ?_
  rintro vq w1 ⟨R, hR, hsR, hk1⟩
  obtain ⟨Ra, Rc, hRv, hRc⟩ := hsR.form
  subst hRv
  have hRl : R.length ≤ 2932031007401 := by
    rw [hR.1.length_eq, List.length_map]
    unfold partLI
    split
    · rw [List.getD_eq_getElem?_getD]
      cases hq : ls[p.toNat]? with
      | none => simp
      | some l => exact hlen l (List.mem_of_getElem? hq)
    · simp
  obtain ⟨W0, hW0⟩ : ∃ n, n = w1.heap.size := ⟨_, rfl⟩
  rw [← hW0] at hsR
  have hdd_w1 := hdd.keep hk1
  have hkw_w1 := hkw.comp hk1 (fun _ _ e => e.elim)
  have hs1 := hk1.size
  refine wl_valE (v := .int .i64 ((R.length : Nat) : Int)) rfl (rf_len_slice Try.underlying52 rfl rfl) rfl ?_
  refine wl_valE (v := .int .i64 ((0 : Nat) : Int)) rfl (rf_move rfl) rfl ?_
  refine wl_nil ?_
  refine thn ?_
  refine block_ ?_
  refine loop_ (fun lk lf lw => ∃ (g : Nat → Value) (j : Nat) (kv_ : Value) (G : Nat → Prop), lf = upds g [(4, .slice none 0 0), (5, kv_), (10, .slice Ra R.length Rc), (11, .int .i64 ((R.length : Nat) : Int)), (12, .int .i64 ((j : Nat) : Int))] ∧ j + lk = R.length ∧ Sl encKey 2 28 lw G kv_ ((R.take j).map (·.key)) ∧ (∀ y, G y → W0 ≤ y ∧ y < lw.heap.size) ∧ Kp (fun y => W0 ≤ y) w1 lw) (R.length) ?_ ?_
  · refine ⟨_, 0, (.slice none 0 0), (fun _ => False), upds_self ⟨rfl, rfl, rfl, rfl, rfl, trivial⟩, ?_⟩
    exact ⟨by omega, Sl.nil _ _, fun y hy => hy.elim, Kp.refl _⟩
  · intro lk0 lf0 wl hI0
    obtain ⟨gl0, j, kv_, G, rfl, hjk, hks, hG, hkl0⟩ := hI0
    have hdd_wl := hdd_w1.kp hkl0 (fun y hy e => by have := hd.lt y hy; omega)
    have hkw_wl := hkw_w1.comp hkl0 (fun y hy e => by first | omega | exact e.elim)
    have hsR_wl := hsR.kp hkl0 (fun y hy e => by have := hy.2; omega)
    have hsl := hkl0.size
    refine seq_ ?_
    refine region_ ?_
    refine wl_valE (v := .bool (decide (((j : Nat) : Int) < ((R.length : Nat) : Int)))) rfl (rf_lss rfl rfl rfl rfl) rfl ?_
    refine wl_nil ?_
    refine thn ?_
    refine seq_ ?_
    refine cond_ (t := decide (((j : Nat) : Int) < ((R.length : Nat) : Int))) rfl rfl (fun c13 => ?_) (fun c13 => ?_)
    · have c13p := of_decide_eq_true c13
      obtain ⟨s, hse⟩ : ∃ s, R[j]? = some s := ⟨_, List.getElem?_eq_getElem (by omega)⟩
      obtain ⟨Rb, Ro, Rc2, et, hRF, hRt⟩ := hsR_wl.at (by omega)
      simp only [Value.slice.injEq] at et
      obtain ⟨rfl, _, rfl⟩ := et
      have hRF2 := hRF.2
      refine skip_ ?_
      refine thn ?_
      refine seq_ ?_
      refine block_ ?_
      refine seq_ ?_
      refine region_ ?_
      refine wl_valE (v := .pointer (some ⟨Rb, Ro + j * 4, none⟩)) rfl (rf_indexAddr Try.underlying52 ti50 rfl rfl rfl rfl (by omega) (by omega)) rfl ?_
      refine wl_valE (v := .agg #[.int .i64 s.key.table, .int .i64 s.key.row, .int .i64 s.val, .int .i64 s.came]) rfl (rf_loadAgg Try.underlying50 rfl ti50 rfl rfl (el_cells (hRt.cell hse)) rfl) rfl ?_
      refine wl_alloc ti50 ?_
      intro b2 w2 hg2 hk2 hb2
      have ne2_Rb : Rb ≠ b2 := Nat.ne_of_lt (Nat.lt_of_lt_of_le hRt.lt hg2)
      have hdd_w2 := hdd_wl.keep hk2
      have hkw_w2 := hkw_wl.comp hk2 (fun _ _ e => e.elim)
      have hsR_w2 := hsR_wl.keep hk2
      have hkl0_w2 := hkl0.comp hk2 (fun _ _ e => e.elim)
      have hks_w2 := hks.keep hk2
      have hRt_w2 := hRt.keep hk2
      have hs2 := hk2.size
      refine wl_storeAgg (b := b2) (o := 0) (cs := [.int .i64 s.key.table, .int .i64 s.key.row, .int .i64 s.val, .int .i64 s.came]) ti50 rfl rfl rfl rfl rfl (by simp [Value.oneCell']) hb2 (Nat.le_of_ble_eq_true rfl) ?_
      intro w3 hk3 hb3
      have hdd_w3 := hdd_w2.kp hk3 (fun y hy e => by have := hd.lt y hy; omega)
      have hkw_w3 := hkw_w2.comp hk3 (fun y hy e => by first | omega | exact e.elim)
      have hsR_w3 := hsR_w2.kp hk3 (fun y hy e => by have := hy.2; omega)
      have hkl0_w3 := hkl0_w2.comp hk3 (fun y hy e => by omega)
      have hks_w3 := hks_w2.kp hk3 (fun y hy e => by have := hG y hy; omega)
      have hRt_w3 := hRt_w2.kp hk3 ne2_Rb
      have hs3 := hk3.size
      replace hb3 : Blk w3 b2 (.cells #[.int .i64 s.key.table, .int .i64 s.key.row, .int .i64 s.val, .int .i64 s.came] _ (0, 0)) := hb3
      refine wl_nil ?_
      refine thn ?_
      refine region_ ?_
      refine wl_valE (v := kv_) rfl (rf_move rfl) rfl ?_
      refine wl_valE (v := .pointer (some ⟨b2, 0, none⟩)) rfl (rf_fieldAddr Try.underlying50 rfl ti28 rfl rfl) rfl ?_
      refine wl_valE (v := .agg #[.int .i64 s.key.table, .int .i64 s.key.row]) rfl (rf_loadBlk Try.underlying28 rfl ti28 rfl rfl hb3 (Nat.le_of_ble_eq_true rfl)) rfl ?_
      refine wl_buildSlice (css := [[.int .i64 s.key.table, .int .i64 s.key.row]]) Try.underlying22 ti28 rfl rfl rfl (.cons rfl rfl rfl rfl rfl rfl .nil) (by simp) ?_
      intro b4 w4 hg4 hk4 hb4
      have ne4_Rb : Rb ≠ b4 := Nat.ne_of_lt (Nat.lt_of_lt_of_le hRt_w3.lt hg4)
      have ne4_b2 : b2 ≠ b4 := Nat.ne_of_lt (Nat.lt_of_lt_of_le hb3.lt hg4)
      have hdd_w4 := hdd_w3.keep hk4
      have hkw_w4 := hkw_w3.comp hk4 (fun _ _ e => e.elim)
      have hsR_w4 := hsR_w3.keep hk4
      have hkl0_w4 := hkl0_w3.comp hk4 (fun _ _ e => e.elim)
      have hks_w4 := hks_w3.keep hk4
      have hRt_w4 := hRt_w3.keep hk4
      have hb2_w4 := hb3.keep hk4
      have hs4 := hk4.size
      refine wl_append encKey_len encKey_one Try.underlying22 ti28 rfl rfl rfl rfl rfl (hks_w4) ((SlAt.of_blk (l := [s.key]) encKey_len (by simp) hb4).rd (F := fun b => b = b4) rfl) (by simp; omega) (by simp; omega) ?_
      intro v5 w5 hk5 ha5
      have hdd_w5 := hdd_w4.kp hk5 (fun y hy e => by have := hd.lt y hy; have := hG y e; omega)
      have hkw_w5 := hkw_w4.comp hk5 (fun y hy e => by have := hG y e; omega)
      have hsR_w5 := hsR_w4.kp hk5 (fun y hy e => by have := hG y e; have := hy.2; omega)
      have hkl0_w5 := hkl0_w4.comp hk5 (fun y hy e => (hG y e).1)
      have hRt_w5 := hRt_w4.kp hk5 (fun e => by have := hG _ e; omega)
      have hb2_w5 := hb2_w4.kp hk5 (fun e => by have := hG _ e; omega)
      have hs5 := hk5.size
      refine wl_valE (v := v5) rfl (rf_assign rfl) rfl ?_
      refine wl_nil ?_
      refine bln ?_
      refine thn ?_
      refine region_ ?_
      refine wl_valE (v := .int .i64 ((j + 1 : Nat) : Int)) rfl (rf_add rfl rfl rfl rfl (IntWalk.i64_in _ (by omega))) rfl ?_
      refine wl_valE (v := .int .i64 ((j + 1 : Nat) : Int)) rfl (rf_move rfl) rfl ?_
      refine wl_nil ?_
      refine thn ?_
      refine ⟨lk0 - 1, _, rfl, (by omega), _, j + 1, (v5), (fun y => (G y ∨ W0 ≤ y) ∧ y < w5.heap.size), upds_self ⟨rfl, rfl, rfl, rfl, rfl, trivial⟩, ?_⟩
      have hk2 := ha5.tight
      refine ⟨by omega, by rw [List.take_add_one, hse, Option.toList_some, List.map_append]; exact hk2.mono (fun y hy => ⟨hy.1.elim .inl (fun e => .inr (by omega)), hy.2⟩), fun y hy => ⟨hy.1.elim (fun e => (hG y e).1) id, hy.2⟩, hkl0_w5⟩
    · have c13p := of_decide_eq_false c13
      refine exit_ ?_
      refine thx (thx (blx ?_))
      refine thn ?_
      refine seq_ ?_
      refine region_ ?_
      refine wl_valE (v := kv_) rfl (rf_move rfl) rfl ?_
      refine wl_valE (v := kv_) rfl (rf_assign rfl) rfl ?_
      refine wl_nil ?_
      refine thn ?_
      refine ret_ ?_
      refine fin1 (v := kv_) Try.results7 rfl rfl ?_
      have hj : j = R.length := by omega
      refine ⟨R, hR, ?_, hkw_wl⟩
      have h9 := hks
      rw [List.take_of_length_le (by omega)] at h9
      exact h9.mono (fun y hy => ⟨by have := (hG y hy).1; omega, by have := (hG y hy).2; omega⟩)
theorem lenI_ret (b bp : Nat) (rs : List Nat) (ls : List (List (Key × SlotI))) (came n : Int) (w : World) (hd : DictI w b bp rs ls came n) : Ret Try.prog 10 [.pointer (some ⟨b, 0, none⟩)] w fun v w' => v = .int .i64 n ∧ Kp none_ w w' := by
  have hkw : Kp none_ w w := Kp.refl w
  have hb := hd.blk
  have hp := hd.arr
  have hpos := hd.pos
  have hwb := hb.lt
  have hwp := hp.lt
  have hdd := hd
  refine enterR Try.func10 rfl Try.ntmps10 rfl ?_
  intro g0
  refine seq_ ?_
  refine region_ ?_
  refine wl_valE (v := .int .i64 ((0 : Nat) : Int)) rfl (rf_assign rfl) rfl ?_
  refine wl_nil ?_
  refine thn ?_
  refine seq_ ?_
  refine region_ ?_
  refine wl_valE (v := .pointer (some ⟨b, 0, none⟩)) rfl (rf_move rfl) rfl ?_
  refine wl_valE (v := .pointer (some ⟨b, 0, none⟩)) rfl (rf_nilCheckP rfl rfl) rfl ?_
  refine wl_valE (v := .pointer (some ⟨b, 3, none⟩)) rfl (rf_fieldAddr Try.underlying46 rfl ti3 rfl rfl) rfl ?_
  refine wl_valE (v := .int .i64 n) rfl (rf_load Try.underlying3 rfl rfl rfl (hb.cell rfl)) rfl ?_
  refine wl_valE (v := .int .i64 n) rfl (rf_assign rfl) rfl ?_
  refine wl_nil ?_
  refine thn ?_
  refine ret_ ?_
  refine fin1 (v := .int .i64 n) Try.results10 rfl rfl ?_
  exact ⟨rfl, hkw⟩
theorem clearI_ret (b bp : Nat) (rs : List Nat) (ls : List (List (Key × SlotI))) (came n : Int) (w : World) (hd : DictI w b bp rs ls came n) : Ret Try.prog 12 [.pointer (some ⟨b, 0, none⟩)] w fun v w' => v = .tuple #[] ∧ DictI w' b bp rs (List.replicate ls.length []) came 0 ∧ Kp (fun y => y = b ∨ y ∈ rs) w w' := by
  have hkw : Kp (fun y => y = b ∨ y ∈ rs) w w := Kp.refl w
  have hb := hd.blk
  have hp := hd.arr
  have hpos := hd.pos
  have hwb := hb.lt
  have hwp := hp.lt
  have hdd := hd
  have hbp : b ≠ bp := fun e => by have := hb.eq (e ▸ hp); simp at this
  have hll := hd.len
  refine enterR Try.func12 rfl Try.ntmps12 rfl ?_
  intro g0
  refine seq_ ?_
  refine seq_ ?_
  refine region_ ?_
  refine wl_valE (v := .pointer (some ⟨b, 0, none⟩)) rfl (rf_move rfl) rfl ?_
  refine wl_valE (v := .pointer (some ⟨b, 0, none⟩)) rfl (rf_nilCheckP rfl rfl) rfl ?_
  refine wl_valE (v := .pointer (some ⟨b, 1, none⟩)) rfl (rf_fieldAddr Try.underlying46 rfl ti44 rfl rfl) rfl ?_
  refine wl_valE (v := .slice (some ⟨bp, 0, none⟩) rs.length rs.length) rfl (rf_load Try.underlying44 rfl rfl rfl (hb.cell rfl)) rfl ?_
  refine wl_valE (v := .int .i64 ((rs.length : Nat) : Int)) rfl (rf_len_slice Try.underlying44 rfl rfl) rfl ?_
  refine wl_valE (v := .int .i64 ((0 : Nat) : Int)) rfl (rf_move rfl) rfl ?_
  refine wl_nil ?_
  refine thn ?_
  refine block_ ?_
  refine loop_ (fun lk lf lw => ∃ (g : Nat → Value) (j : Nat), lf = upds g [(0, .pointer (some ⟨b, 0, none⟩)), (7, .slice (some ⟨bp, 0, none⟩) rs.length rs.length), (8, .int .i64 ((rs.length : Nat) : Int)), (9, .int .i64 ((j : Nat) : Int))] ∧ j + lk = rs.length ∧ DictI lw b bp rs (List.replicate j [] ++ ls.drop j) came n ∧ Kp (fun y => y = b ∨ y ∈ rs) w lw) (rs.length) ?_ ?_
  · refine ⟨_, 0, upds_self ⟨rfl, rfl, rfl, rfl, trivial⟩, ?_⟩
    exact ⟨by omega, by simpa using hdd, Kp.refl _⟩
  · intro lk0 lf0 wl hI0
    obtain ⟨gl0, j, rfl, hjk, hdj, hkl0⟩ := hI0
    have hsl := hkl0.size
    have hb2 := hdj.blk
    have hp2 := hdj.arr
    refine seq_ ?_
    refine region_ ?_
    refine wl_valE (v := .bool (decide (((j : Nat) : Int) < ((rs.length : Nat) : Int)))) rfl (rf_lss rfl rfl rfl rfl) rfl ?_
    refine wl_nil ?_
    refine thn ?_
    refine seq_ ?_
    refine cond_ (t := decide (((j : Nat) : Int) < ((rs.length : Nat) : Int))) rfl rfl (fun c10 => ?_) (fun c10 => ?_)
    · have c10p := of_decide_eq_true c10
      obtain ⟨r, hr⟩ : ∃ r, rs[j]? = some r := ⟨_, List.getElem?_eq_getElem (by omega)⟩
      have hrm := List.mem_of_getElem? hr
      obtain ⟨lj, hlj⟩ : ∃ l, (List.replicate j [] ++ ls.drop j)[j]? = some l := ⟨_, List.getElem?_eq_getElem (by simp; omega)⟩
      have hm := hdj.maps j r lj hr hlj
      have hbr : ¬ b = r := hm.ne_cells hb2
      have hpr : ¬ bp = r := hm.ne_cells hp2
      refine skip_ ?_
      refine thn ?_
      refine seq_ ?_
      refine block_ ?_
      refine seq_ ?_
      refine region_ ?_
      refine wl_valE (v := .pointer (some ⟨bp, j, none⟩)) rfl (rf_indexAddr Try.underlying44 ti47 rfl rfl rfl rfl (by omega) (by omega)) (by simp) ?_
      refine wl_valE (v := .map (some r)) rfl (rf_load Try.underlying47 rfl rfl rfl (hp2.cell (i := j) (v := .map (some r)) (by simp [hr]))) rfl ?_
      refine wl_valE (v := .map (some r)) rfl (rf_assign rfl) rfl ?_
      refine wl_nil ?_
      refine thn ?_
      refine region_ ?_
      refine wl_valE (v := .map (some r)) rfl (rf_move rfl) rfl ?_
      refine wl_clearM Try.underlying47 rfl rfl hm ?_
      intro w1 hk1 hm1
      have hkl0_w1 := hkl0.comp hk1 (fun y hy e => .inr (e ▸ hrm))
      have hb2_w1 := hb2.kp hk1 hbr
      have hp2_w1 := hp2.kp hk1 hpr
      have hs1 := hk1.size
      refine wl_nil ?_
      refine bln ?_
      refine thn ?_
      refine region_ ?_
      refine wl_valE (v := .int .i64 ((j + 1 : Nat) : Int)) rfl (rf_add rfl rfl rfl rfl (IntWalk.i64_in _ (by omega))) rfl ?_
      refine wl_valE (v := .int .i64 ((j + 1 : Nat) : Int)) rfl (rf_move rfl) rfl ?_
      refine wl_nil ?_
      refine thn ?_
      refine ⟨lk0 - 1, _, rfl, (by omega), _, j + 1, upds_self ⟨rfl, rfl, rfl, rfl, trivial⟩, ?_⟩
      refine ⟨by omega, ?_, hkl0_w1⟩
      rw [← clr_setI (by omega)]
      exact hdj.turn hr hb2_w1 hm1 (hk1.mono (fun y _ e => .inr e)) ⟨by simp, fun p hp => by simp at hp⟩
    · have c10p := of_decide_eq_false c10
      refine exit_ ?_
      refine thx (thx (blx ?_))
      refine thn ?_
      refine region_ ?_
      refine wl_valE (v := .pointer (some ⟨b, 0, none⟩)) rfl (rf_move rfl) rfl ?_
      refine wl_valE (v := .pointer (some ⟨b, 0, none⟩)) rfl (rf_nilCheckP rfl rfl) rfl ?_
      refine wl_valE (v := .pointer (some ⟨b, 3, none⟩)) rfl (rf_fieldAddr Try.underlying46 rfl ti3 rfl rfl) rfl ?_
      refine wl_store (b := b) (o := 3) (v := .int .i64 ((0 : Nat) : Int)) ti3 rfl rfl rfl rfl rfl hb2 (by first | decide | exact Nat.le_of_ble_eq_true rfl | simp) ?_
      intro w2 hk2 hb2
      have hkl0_w2 := hkl0.comp hk2 (fun y hy e => by first | exact e | exact .inl e)
      have hp2_w2 := hp2.kp hk2 (by omega)
      have hs2 := hk2.size
      replace hb2 : Blk w2 b (.cells #[.func (.func 13) #[] #[], .slice (some ⟨bp, 0, none⟩) rs.length rs.length, .int .i64 came, .int .i64 ((0 : Nat) : Int)] _ (0, 0)) := hb2
      refine wl_nil ?_
      refine fin_ ?_
      refine fin0 Try.results12 ?_
      have hj : j = rs.length := by omega
      refine ⟨rfl, ?_, hkw.comp hkl0_w2 (fun _ _ e => e)⟩
      have e9 : List.replicate j ([] : List (Key × SlotI)) ++ ls.drop j = List.replicate ls.length [] := by rw [List.drop_of_length_le (by omega), List.append_nil, hj, hll]
      rw [e9] at hdj
      exact hdj.cnt hb2 hk2
end Go.Proofs.Ytlpigppmbnaabaa.W
