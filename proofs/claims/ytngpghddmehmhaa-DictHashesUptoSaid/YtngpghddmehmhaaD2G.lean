import Derived.Test.YtngpghddmehmhaaD1G
import Derived.KernelRfl
namespace Go.Proofs.Ytngpghddmehmhaa.W
open Go Go.Wk
set_option linter.unusedVariables false

def okCG (s : SlotG) : Prop := 0 ≤ s.came ∧ s.came ≤ 4611686018427387903
instance : Inhabited {s : SlotG // okCG s} := ⟨⟨zslotG, by unfold okCG zslotG; simp⟩⟩
abbrev encCG (s : {s : SlotG // okCG s}) : List Value := encSlotG s.1
def cmpCG (a b : {s : SlotG // okCG s}) : Int := a.1.came - b.1.came
theorem swoG : Go.Sort.SWO (Go.Proofs.ltOf cmpCG) where
  irrefl x := by unfold Go.Proofs.ltOf cmpCG; simp
  trans x y z h1 h2 := by unfold Go.Proofs.ltOf cmpCG at *; simp at *; omega
  ntrans x y z h1 h2 := by unfold Go.Proofs.ltOf cmpCG at *; simp at *; omega
theorem encSlotG_len (s : SlotG) : (encSlotG s).length = 4 := rfl
theorem encSlotG_one (s : SlotG) : ∀ u ∈ encSlotG s, u.oneCell' = true := by simp [encSlotG, Value.oneCell']
theorem sl_subG {e : TypeId} {w : World} {F : Nat → Prop} {v : Value} {l : List SlotG} (h : Sl encSlotG 4 e w F v l) (hp : ∀ x ∈ l, okCG x) : Sl encCG 4 e w F v (l.attachWith okCG hp) := by
  rcases h with ⟨rfl, rfl⟩ | ⟨b, o, cap, A, rfl, h1, h2, h3, h4, h5, h6⟩
  · exact .inl ⟨rfl, rfl⟩
  · refine .inr ⟨b, o, cap, A, by rw [List.length_attachWith], h1, h2, by rw [List.length_attachWith]; exact h3, h4, h5, fun i x hx j u hj => h6 i x.1 ?_ j u hj⟩
    have hx2 := congrArg (Option.map Subtype.val) hx
    have e9 : (l.attachWith okCG hp).map Subtype.val = l := by simp
    rw [← List.getElem?_map, e9] at hx2
    exact hx2
/-- What a partition gives: its slots by the order in which they came. -/
def RowOfG (l : List (ByteArray × SlotG)) (R : List SlotG) : Prop := R.Perm (l.map (·.2)) ∧ R.Pairwise (fun a b => a.came < b.came)
def CameOkG (l : List (ByteArray × SlotG)) : Prop := (∀ p ∈ l, okCG p.2) ∧ (l.map (fun p => p.2.came)).Nodup
section
open Go.Proofs Go.Shelf
def sortG_ren : Go.Shelf.Ren := ⟨fun | 6 => 18 | 15 => 21 | 14 => 20 | 28 => 30 | 29 => 31 | 20 => 22 | 21 => 23 | 22 => 24 | 23 => 25 | 24 => 26 | 25 => 27 | 26 => 28 | 27 => 29 | 46 => 32 | 47 => 33 | 48 => 34 | 49 => 35 | 50 => 36 | 57 => 37 | n => n, fun | 22 => 51 | 24 => 46 | 25 => 54 | 3 => 3 | 39 => 57 | 0 => 0 | 53 => 67 | 55 => 29 | 4 => 4 | 46 => 60 | 45 => 59 | 50 => 64 | 5 => 5 | 9 => 9 | 66 => 69 | 70 => 73 | 76 => 75 | 77 => 76 | n => n, fun | n => n⟩
set_option maxRecDepth 100000 in
theorem layG : Go.Proofs.SlLaysF0.n6 Try.prog sortG_ren := {
  mixed := by kernel_rfl
  f6 := ⟨Try.f18.name, by decide, Try.func18.trans (congrArg some (by kernel_rfl))⟩
  f14 := ⟨Try.f20.name, by decide, Try.func20.trans (congrArg some (by kernel_rfl))⟩
  f15 := Try.func21.trans (congrArg some (by kernel_rfl))
  f20 := ⟨Try.f22.name, by decide, Try.func22.trans (congrArg some (by kernel_rfl))⟩
  f21 := ⟨Try.f23.name, by decide, Try.func23.trans (congrArg some (by kernel_rfl))⟩
  f22 := ⟨Try.f24.name, by decide, Try.func24.trans (congrArg some (by kernel_rfl))⟩
  f23 := ⟨Try.f25.name, by decide, Try.func25.trans (congrArg some (by kernel_rfl))⟩
  f24 := ⟨Try.f26.name, by decide, Try.func26.trans (congrArg some (by kernel_rfl))⟩
  f25 := ⟨Try.f27.name, by decide, Try.func27.trans (congrArg some (by kernel_rfl))⟩
  f26 := ⟨Try.f28.name, by decide, Try.func28.trans (congrArg some (by kernel_rfl))⟩
  f27 := ⟨Try.f29.name, by decide, Try.func29.trans (congrArg some (by kernel_rfl))⟩
  f28 := Try.func30.trans (congrArg some (by kernel_rfl))
  f29 := Try.func31.trans (congrArg some (by kernel_rfl))
  f46 := ⟨Try.f32.name, by decide, Try.func32.trans (congrArg some (by kernel_rfl))⟩
  f47 := Try.func33.trans (congrArg some (by kernel_rfl))
  f48 := Try.func34.trans (congrArg some (by kernel_rfl))
  f49 := ⟨Try.f35.name, by decide, Try.func35.trans (congrArg some (by kernel_rfl))⟩
  f50 := ⟨Try.f36.name, by decide, Try.func36.trans (congrArg some (by kernel_rfl))⟩
  f57 := ⟨Try.f37.name, by decide, Try.func37.trans (congrArg some (by kernel_rfl))⟩
  t0 := Try.underlying0
  a0 := Try.isAgg0
  z0 := Try.sizeOf0
  v0 := Try.zeroValue0
  t3 := Try.underlying3
  a3 := Try.isAgg3
  z3 := Try.sizeOf3
  v3 := Try.zeroValue3
  t4 := Try.underlying4
  a4 := Try.isAgg4
  z4 := Try.sizeOf4
  v4 := Try.zeroValue4
  t5 := Try.underlying5
  a5 := Try.isAgg5
  z5 := Try.sizeOf5
  v5 := Try.zeroValue5
  t9 := Try.underlying9
  a9 := Try.isAgg9
  z9 := Try.sizeOf9
  v9 := Try.zeroValue9
  t22 := Try.underlying51
  a22 := Try.isAgg51
  z22 := Try.sizeOf51
  v22 := Try.zeroValue51
  t25 := Try.underlying54
  a25 := Try.isAgg54
  z25 := Try.sizeOf54
  v25 := Try.zeroValue54
  t39 := Try.underlying57
  a39 := Try.isAgg57
  z39 := Try.sizeOf57
  v39 := Try.zeroValue57
  t45 := Try.underlying59
  a45 := Try.isAgg59
  z45 := Try.sizeOf59
  v45 := Try.zeroValue59
  t46 := Try.underlying60
  a46 := Try.isAgg60
  z46 := Try.sizeOf60
  v46 := Try.zeroValue60
  t50 := Try.underlying64
  a50 := Try.isAgg64
  z50 := Try.sizeOf64
  v50 := Try.zeroValue64
  t53 := Try.underlying67
  a53 := Try.isAgg67
  z53 := Try.sizeOf67
  v53 := Try.zeroValue67
  t55 := Try.underlying29
  a55 := Try.isAgg29
  z55 := Try.sizeOf29
  v55 := Try.zeroValue29
  t66 := Try.underlying69
  a66 := Try.isAgg69
  z66 := Try.sizeOf69
  v66 := Try.zeroValue69
  t70 := Try.underlying73
  a70 := Try.isAgg73
  z70 := Try.sizeOf73
  v70 := Try.zeroValue73
  t76 := Try.underlying75
  a76 := Try.isAgg75
  z76 := Try.sizeOf75
  v76 := Try.zeroValue75
  t77 := Try.underlying76
  a77 := Try.isAgg76
  z77 := Try.sizeOf76
  v77 := Try.zeroValue76 }
end
theorem cmpG_ret (x y : {s : SlotG // okCG s}) (w : World) : Ret Try.prog 19 [.agg #[.string x.1.key, .int .i64 x.1.val.a, .int .i64 x.1.val.b, .int .i64 x.1.came], .agg #[.string y.1.key, .int .i64 y.1.val.a, .int .i64 y.1.val.b, .int .i64 y.1.came]] w fun v w' => v = .int .i64 (cmpCG x y) ∧ Kp none_ w w' := by
  have hkw : Kp none_ w w := Kp.refl w
  have hx := x.2
  have hy := y.2
  unfold okCG at hx hy
  refine enterR Try.func19 rfl Try.ntmps19 rfl ?_
  intro g0
  refine seq_ ?_
  refine region_ ?_
  refine wl_box (v := .agg #[.string x.1.key, .int .i64 x.1.val.a, .int .i64 x.1.val.b, .int .i64 x.1.came]) rfl rfl ?_
  intro b1 w1 hg1 hk1 hb1
  have hkw_w1 := hkw.comp hk1 (fun _ _ e => e.elim)
  have hs1 := hk1.size
  refine wl_box (v := .agg #[.string y.1.key, .int .i64 y.1.val.a, .int .i64 y.1.val.b, .int .i64 y.1.came]) rfl rfl ?_
  intro b2 w2 hg2 hk2 hb2
  have ne2_b1 : b1 ≠ b2 := Nat.ne_of_lt (Nat.lt_of_lt_of_le hb1.lt hg2)
  have hkw_w2 := hkw_w1.comp hk2 (fun _ _ e => e.elim)
  have hb1_w2 := hb1.keep hk2
  have hs2 := hk2.size
  refine wl_valE (v := .int .i64 ((0 : Nat) : Int)) rfl (rf_assign rfl) rfl ?_
  refine wl_nil ?_
  refine thn ?_
  refine seq_ ?_
  refine region_ ?_
  refine wl_valE (v := .pointer (some ⟨b1, 3, none⟩)) rfl (rf_fieldAddr Try.underlying46 rfl ti3 rfl rfl) rfl ?_
  refine wl_valE (v := .int .i64 x.1.came) rfl (rf_load Try.underlying3 rfl rfl rfl (hb1_w2.cell rfl)) rfl ?_
  refine wl_valE (v := .pointer (some ⟨b2, 3, none⟩)) rfl (rf_fieldAddr Try.underlying46 rfl ti3 rfl rfl) rfl ?_
  refine wl_valE (v := .int .i64 y.1.came) rfl (rf_load Try.underlying3 rfl rfl rfl (hb2.cell rfl)) rfl ?_
  refine wl_valE (v := .int .i64 (x.1.came - y.1.came)) rfl (rf_sub rfl rfl rfl rfl (IntWalk.i64_in _ (by omega))) rfl ?_
  refine wl_valE (v := .int .i64 (x.1.came - y.1.came)) rfl (rf_assign rfl) rfl ?_
  refine wl_nil ?_
  refine thn ?_
  refine ret_ ?_
  refine fin1 (v := .int .i64 (x.1.came - y.1.came)) Try.results19 rfl rfl ?_
  exact ⟨rfl, hkw_w2⟩
theorem sortG_ret {w : World} {F : Nat → Prop} {v : Value} {l : List SlotG} (hs : Sl encSlotG 4 46 w F v l) (hp : ∀ x ∈ l, okCG x) (hsz : l.length < 4611686018427387904) :
    Ret Try.prog 18 [v, .func (.func 19) #[] #[]] w fun u w' => u = .tuple #[] ∧ ∃ l', l'.Perm l ∧ l'.Pairwise (fun a b => a.came ≤ b.came) ∧ Sl encSlotG 4 46 w' F v l' ∧ Kp F w w' := by
  have eg : ∀ args w, (callFunc 19 args).run Try.prog w = .ok (.enter 19 args) w := Go.Proofs.enters_of Try.func19 (by kernel_rfl) rfl
  have h := sort_ret (enc := encCG) (k := 4) layG Try.isAgg46 Try.sizeOf46 (fun s => encSlotG_len s.1) (fun s => encSlotG_one s.1) cmpCG swoG 19 eg (fun x y W => cmpG_ret x y W) (sl_subG hs hp) (by rw [List.length_attachWith]; exact hsz)
  refine Ret.mono h ?_
  rintro _ w' ⟨rfl, l', hp1, hp2, hp3, hp4⟩
  refine ⟨rfl, l'.map Subtype.val, ?_, ?_, ?_, hp4⟩
  · have := hp1.map Subtype.val
    simpa using this
  · rw [List.pairwise_map]
    exact hp2.imp (fun {a b} hab => by unfold Go.Proofs.ltOf cmpCG at hab; simp at hab; omega)
  · exact hp3.map rfl (fun _ => rfl)
theorem rowG_ret (b bp : Nat) (rs : List Nat) (ls : List (List (ByteArray × SlotG))) (came n : Int) (w : World) (hd : DictG w b bp rs ls came n) (i r : Nat) (l : List (ByteArray × SlotG)) (hr : rs[i]? = some r) (hl : ls[i]? = some l) (hc : CameOkG l) (hlen : l.length ≤ 2932031007401) : Ret Try.prog 17 [.pointer (some ⟨b, 0, none⟩), .int .i64 ((i : Nat) : Int)] w fun v w' => ∃ R, RowOfG l R ∧ Sl encSlotG 4 46 w' (fun y => w.heap.size ≤ y ∧ y < w'.heap.size) v R ∧ Kp none_ w w' := by
  have hkw : Kp none_ w w := Kp.refl w
  have hb := hd.blk
  have hp := hd.arr
  have hpos := hd.pos
  have hi := (List.getElem?_eq_some_iff.1 hr).1
  have hm := hd.maps i r l hr hl
  have hwb := hb.lt
  have hwp := hp.lt
  have hwm := hm.lt
  refine enterR Try.func17 rfl Try.ntmps17 rfl ?_
  intro g0
  refine seq_ ?_
  refine region_ ?_
  refine wl_valE (v := .slice none 0 0) rfl (rf_assign rfl) rfl ?_
  refine wl_nil ?_
  refine thn ?_
  refine seq_ ?_
  refine region_ ?_
  refine wl_valE (v := .slice none 0 0) rfl (rf_assign rfl) rfl ?_
  refine wl_nil ?_
  refine thn ?_
  refine seq_ ?_
  refine seq_ ?_
  refine region_ ?_
  refine wl_valE (v := .int .i64 ((i : Nat) : Int)) rfl (rf_move rfl) rfl ?_
  refine wl_valE (v := .bool true) rfl (rf_geq rfl rfl rfl rfl) (congrArg Value.bool (decide_eq_true (by omega))) ?_
  refine wl_valE (v := .bool true) rfl (rf_move rfl) rfl ?_
  refine wl_guardT rfl rfl rfl rfl ?_
  refine wl_valE (v := .int .i64 ((i : Nat) : Int)) rfl (rf_move rfl) rfl ?_
  refine wl_guardT rfl rfl rfl rfl ?_
  refine wl_valE (v := .pointer (some ⟨b, 0, none⟩)) rfl (rf_move rfl) rfl ?_
  refine wl_guardT rfl rfl rfl rfl ?_
  refine wl_valE (v := .pointer (some ⟨b, 0, none⟩)) rfl (rf_nilCheckP rfl rfl) rfl ?_
  refine wl_guardT rfl rfl rfl rfl ?_
  refine wl_valE (v := .pointer (some ⟨b, 1, none⟩)) rfl (rf_fieldAddr Try.underlying42 rfl ti40 rfl rfl) rfl ?_
  refine wl_guardT rfl rfl rfl rfl ?_
  refine wl_valE (v := .slice (some ⟨bp, 0, none⟩) rs.length rs.length) rfl (rf_load Try.underlying40 rfl rfl rfl (hb.cell rfl)) rfl ?_
  refine wl_guardT rfl rfl rfl rfl ?_
  refine wl_valE (v := .int .i64 ((rs.length : Nat) : Int)) rfl (rf_len_slice Try.underlying40 rfl rfl) rfl ?_
  refine wl_guardT rfl rfl rfl rfl ?_
  refine wl_valE (v := .bool true) rfl (rf_lss rfl rfl rfl rfl) (congrArg Value.bool (decide_eq_true (by omega))) ?_
  refine wl_valE (v := .bool true) rfl (rf_pickT rfl rfl rfl rfl) rfl ?_
  refine wl_nil ?_
  refine thn ?_
  refine condT rfl rfl ?_
  refine seq_ ?_
  refine region_ ?_
  refine wl_valE (v := .pointer (some ⟨b, 0, none⟩)) rfl (rf_move rfl) rfl ?_
  refine wl_valE (v := .pointer (some ⟨b, 0, none⟩)) rfl (rf_nilCheckP rfl rfl) rfl ?_
  refine wl_valE (v := .pointer (some ⟨b, 1, none⟩)) rfl (rf_fieldAddr Try.underlying42 rfl ti40 rfl rfl) rfl ?_
  refine wl_valE (v := .slice (some ⟨bp, 0, none⟩) rs.length rs.length) rfl (rf_load Try.underlying40 rfl rfl rfl (hb.cell rfl)) rfl ?_
  refine wl_valE (v := .int .i64 ((i : Nat) : Int)) rfl (rf_move rfl) rfl ?_
  refine wl_valE (v := .pointer (some ⟨bp, i, none⟩)) rfl (rf_indexAddr Try.underlying40 ti43 rfl rfl rfl rfl (by omega) (by omega)) (by simp) ?_
  refine wl_valE (v := .map (some r)) rfl (rf_load Try.underlying43 rfl rfl rfl (hp.cell (i := i) (v := .map (some r)) (by simp [hr]))) rfl ?_
  refine wl_range Try.underlying43 rfl rfl hm ?_
  intro ri1 w1 hg1 hk1 hi1
  have hb_w1 := hb.keep hk1
  have hp_w1 := hp.keep hk1
  have hm_w1 := hm.keep hk1
  have hkw_w1 := hkw.comp hk1 (fun _ _ e => e.elim)
  have hs1 := hk1.size
  refine wl_nil ?_
  refine thn ?_
  refine block_ ?_
  refine loop_ (fun lk lf lw => ∃ (g : Nat → Value) (done : List (ByteArray × SlotG)) (sv : Value) (G : Nat → Prop), lf = upds g [(4, .slice none 0 0), (5, sv), (26, .pointer (some ⟨ri1, 0, none⟩))] ∧ done.length + lk = l.length ∧ It kv slotG lw ri1 r l done ∧ Sl encSlotG 4 46 lw G sv (done.map (·.2)) ∧ (∀ y, G y → w.heap.size ≤ y ∧ y ≠ ri1 ∧ y < lw.heap.size) ∧ Kp (fun y => w.heap.size ≤ y) w1 lw) (l.length) ?_ ?_
  · refine ⟨_, [], (.slice none 0 0), (fun _ => False), upds_self ⟨rfl, rfl, rfl, trivial⟩, ?_⟩
    exact ⟨by simp, hi1, Sl.nil _ _, fun y hy => hy.elim, Kp.refl _⟩
  · intro lk0 lf0 wl hI0
    obtain ⟨gl0, done, sv, G, rfl, hdl, hit, hsv, hG, hkl0⟩ := hI0
    have hb_wl := hb_w1.kp hkl0 (by omega)
    have hp_wl := hp_w1.kp hkl0 (by omega)
    have hm_wl := hm_w1.kp hkl0 (by omega)
    have hkw_wl := hkw_w1.comp hkl0 (fun y hy e => by omega)
    have hsl := hkl0.size
    have hri := hit.lt.1
    refine seq_ ?_
    refine region_ ?_
    refine wl_next rfl rfl hit (fun hdone => ?_) ?_
    · refine wl_valE (v := .bool false) rfl (rf_extract rfl rfl rfl) rfl ?_
      refine wl_nil ?_
      refine thn ?_
      refine seq_ ?_
      refine condF rfl rfl ?_
      refine exit_ ?_
      refine thx (thx (blx ?_))
      refine thn ?_
      refine seq_ ?_
      refine region_ ?_
      refine wl_valE (v := sv) rfl (rf_move rfl) rfl ?_
      refine wl_ret rfl (sortG_ret hsv (fun x hx => by obtain ⟨p, hp, rfl⟩ := List.mem_map.1 hx; exact hc.1 p (hdone.mem_iff.1 hp)) (by rw [List.length_map, hdone.length_eq]; omega)) (rf_call Try.call18 rfl rfl) ?_
      rintro vq w3 ⟨rfl, R, hR1, hR2, hsR, hk3⟩
      have hb_w3 := hb_wl.kp hk3 (fun e => by have := hG _ e; omega)
      have hp_w3 := hp_wl.kp hk3 (fun e => by have := hG _ e; omega)
      have hm_w3 := hm_wl.kp hk3 (fun e => by have := hG _ e; omega)
      have hkw_w3 := hkw_wl.comp hk3 (fun y hy e => by have := hG y e; omega)
      have hkl0_w3 := hkl0.comp hk3 (fun y hy e => (hG y e).1)
      have hs3 := hk3.size
      refine wl_nil ?_
      refine thn ?_
      refine seq_ ?_
      refine region_ ?_
      refine wl_valE (v := sv) rfl (rf_move rfl) rfl ?_
      refine wl_valE (v := sv) rfl (rf_assign rfl) rfl ?_
      refine wl_nil ?_
      refine thn ?_
      refine ret_ ?_
      refine fin1 (v := sv) Try.results17 rfl rfl ?_
      refine ⟨R, ⟨hR1.trans (hdone.map _), nodup_pair _ (((hR1.trans (hdone.map _)).map _).nodup_iff.2 (by rw [List.map_map]; exact hc.2)) hR2⟩, hsR.mono (fun y hy => ⟨(hG y hy).1, by have := (hG y hy).2.2; omega⟩), hkw_w3⟩
    · intro pn w2 hpm hk2 hi2
      have hb_w2 := hb_wl.kp hk2 (fun e => by omega)
      have hp_w2 := hp_wl.kp hk2 (fun e => by omega)
      have hm_w2 := hm_wl.kp hk2 (fun e => by omega)
      have hkw_w2 := hkw_wl.comp hk2 (fun y hy e => by omega)
      have hkl0_w2 := hkl0.comp hk2 (fun y hy e => by omega)
      have hsv_w2 := hsv.kp hk2 (fun y hy e => (hG y hy).2.1 e)
      have hs2 := hk2.size
      refine wl_valE (v := .bool true) rfl (rf_extract rfl rfl rfl) rfl ?_
      refine wl_nil ?_
      refine thn ?_
      refine seq_ ?_
      refine condT rfl rfl ?_
      refine skip_ ?_
      refine thn ?_
      refine block_ ?_
      refine seq_ ?_
      refine region_ ?_
      refine wl_valE (v := .tuple #[.string pn.1, .agg #[.string pn.2.key, .int .i64 pn.2.val.a, .int .i64 pn.2.val.b, .int .i64 pn.2.came]]) rfl (rf_entry rfl rfl hi2) rfl ?_
      refine wl_valE (v := .agg #[.string pn.2.key, .int .i64 pn.2.val.a, .int .i64 pn.2.val.b, .int .i64 pn.2.came]) rfl (rf_extract rfl rfl rfl) rfl ?_
      refine wl_alloc ti46 ?_
      intro b4 w4 hg4 hk4 hb4
      have ne4_b : b ≠ b4 := Nat.ne_of_lt (Nat.lt_of_lt_of_le hb_w2.lt hg4)
      have ne4_bp : bp ≠ b4 := Nat.ne_of_lt (Nat.lt_of_lt_of_le hp_w2.lt hg4)
      have ne4_r : r ≠ b4 := Nat.ne_of_lt (Nat.lt_of_lt_of_le hm_w2.lt hg4)
      have hb_w4 := hb_w2.keep hk4
      have hp_w4 := hp_w2.keep hk4
      have hm_w4 := hm_w2.keep hk4
      have hkw_w4 := hkw_w2.comp hk4 (fun _ _ e => e.elim)
      have hkl0_w4 := hkl0_w2.comp hk4 (fun _ _ e => e.elim)
      have hsv_w4 := hsv_w2.keep hk4
      have hit_w4 := hi2.keep hk4
      have hs4 := hk4.size
      refine wl_storeAgg (b := b4) (o := 0) (cs := [.string pn.2.key, .int .i64 pn.2.val.a, .int .i64 pn.2.val.b, .int .i64 pn.2.came]) ti46 rfl rfl rfl rfl rfl (by simp [Value.oneCell']) hb4 (Nat.le_of_ble_eq_true rfl) ?_
      intro w5 hk5 hb5
      have hb_w5 := hb_w4.kp hk5 ne4_b
      have hp_w5 := hp_w4.kp hk5 ne4_bp
      have hm_w5 := hm_w4.kp hk5 ne4_r
      have hkw_w5 := hkw_w4.comp hk5 (fun y hy e => by omega)
      have hkl0_w5 := hkl0_w4.comp hk5 (fun y hy e => by omega)
      have hsv_w5 := hsv_w4.kp hk5 (fun y hy e => by have := hG y hy; omega)
      have hit_w5 := hit_w4.kp hk5 (fun y hy e => by have := hit_w4.lt; omega)
      have hs5 := hk5.size
      replace hb5 : Blk w5 b4 (.cells #[.string pn.2.key, .int .i64 pn.2.val.a, .int .i64 pn.2.val.b, .int .i64 pn.2.came] _ (0, 0)) := hb5
      refine wl_nil ?_
      refine thn ?_
      refine region_ ?_
      refine wl_valE (v := sv) rfl (rf_move rfl) rfl ?_
      refine wl_valE (v := .agg #[.string pn.2.key, .int .i64 pn.2.val.a, .int .i64 pn.2.val.b, .int .i64 pn.2.came]) rfl (rf_loadBlk Try.underlying46 rfl ti46 rfl rfl hb5 (Nat.le_of_ble_eq_true rfl)) rfl ?_
      refine wl_buildSlice (css := [[.string pn.2.key, .int .i64 pn.2.val.a, .int .i64 pn.2.val.b, .int .i64 pn.2.came]]) Try.underlying51 ti46 rfl rfl rfl (.cons rfl rfl rfl rfl rfl rfl .nil) (by simp) ?_
      intro b6 w6 hg6 hk6 hb6
      have ne6_b : b ≠ b6 := Nat.ne_of_lt (Nat.lt_of_lt_of_le hb_w5.lt hg6)
      have ne6_bp : bp ≠ b6 := Nat.ne_of_lt (Nat.lt_of_lt_of_le hp_w5.lt hg6)
      have ne6_r : r ≠ b6 := Nat.ne_of_lt (Nat.lt_of_lt_of_le hm_w5.lt hg6)
      have ne6_b4 : b4 ≠ b6 := Nat.ne_of_lt (Nat.lt_of_lt_of_le hb5.lt hg6)
      have hb_w6 := hb_w5.keep hk6
      have hp_w6 := hp_w5.keep hk6
      have hm_w6 := hm_w5.keep hk6
      have hkw_w6 := hkw_w5.comp hk6 (fun _ _ e => e.elim)
      have hkl0_w6 := hkl0_w5.comp hk6 (fun _ _ e => e.elim)
      have hsv_w6 := hsv_w5.keep hk6
      have hit_w6 := hit_w5.keep hk6
      have hb4_w6 := hb5.keep hk6
      have hs6 := hk6.size
      obtain ⟨W6, hW6⟩ : ∃ n, n = w6.heap.size := ⟨_, rfl⟩
      refine wl_append encSlotG_len encSlotG_one Try.underlying51 ti46 rfl rfl rfl rfl rfl (hsv_w6) ((SlAt.of_blk (l := [pn.2]) encSlotG_len (by simp) hb6).rd (F := fun b => b = b6) rfl) (by have := hit_w6.le; simp at this; simp; omega) (by have := hit_w6.le; simp at this; simp; omega) ?_
      intro v7 w7 hk7 ha7
      have hb_w7 := hb_w6.kp hk7 (fun e => by have := hG _ e; omega)
      have hp_w7 := hp_w6.kp hk7 (fun e => by have := hG _ e; omega)
      have hm_w7 := hm_w6.kp hk7 (fun e => by have := hG _ e; omega)
      have hkw_w7 := hkw_w6.comp hk7 (fun y hy e => by have := hG y e; omega)
      have hkl0_w7 := hkl0_w6.comp hk7 (fun y hy e => (hG y e).1)
      have hit_w7 := hit_w6.kp hk7 (fun y hy e => by have := hG y e; rcases hy with h | h; exact this.2.1 h; omega)
      have hb4_w7 := hb4_w6.kp hk7 (fun e => by have := hG _ e; omega)
      have hs7 := hk7.size
      refine wl_valE (v := v7) rfl (rf_assign rfl) rfl ?_
      refine wl_nil ?_
      refine bln ?_
      refine thn ?_
      refine ⟨lk0 - 1, _, rfl, (by have := hit_w7.le; simp at this; omega), _, done ++ [pn], (v7), (fun y => (G y ∨ W6 ≤ y) ∧ y < w7.heap.size), upds_self ⟨rfl, rfl, rfl, trivial⟩, ?_⟩
      have hsv2 := ha7.tight
      have hri2 := hit_w7.lt.1
      refine ⟨by have hq := hit_w7.le; simp at hq; simp; omega, hit_w7, by rw [List.map_append]; exact hsv2.mono (fun y hy => ⟨hy.1.elim .inl (fun e => .inr (by omega)), hy.2⟩), fun y hy => ⟨hy.1.elim (fun e => (hG y e).1) (fun e => by omega), hy.1.elim (fun e => (hG y e).2.1) (fun e => by omega), hy.2⟩, hkl0_w7⟩

theorem DictG.cnt {w w' : World} {b bp : Nat} {rs : List Nat} {ls : List (List (ByteArray × SlotG))} {came n came' n' : Int} (h : DictG w b bp rs ls came n) (hb : Blk w' b (.cells #[.func (.func 6) #[] #[], .slice (some ⟨bp, 0, none⟩) rs.length rs.length, .int .i64 came', .int .i64 n'] 42 (0, 0))) (hk : Kp (fun y => y = b) w w') : DictG w' b bp rs ls came' n' := by
  have hp := h.pos.1
  obtain ⟨r, hr⟩ : ∃ r, rs[0]? = some r := ⟨_, List.getElem?_eq_getElem hp⟩
  obtain ⟨l, hl⟩ : ∃ l, ls[0]? = some l := ⟨_, List.getElem?_eq_getElem (by rw [h.len]; exact hp)⟩
  have hm := h.maps 0 r l hr hl
  have e : ls.set 0 l = ls := by
    obtain ⟨h1, h2⟩ := List.getElem?_eq_some_iff.1 hl
    rw [← h2, List.set_getElem_self]
  have := h.turn hr hb (hm.kp hk (fun e => hm.ne_cells h.blk e.symm)) (hk.mono (fun y _ e => .inl e)) (h.keys l (List.mem_of_getElem? hl))
  rwa [e] at this
def partLG (ls : List (List (ByteArray × SlotG))) (p : Int) : List (ByteArray × SlotG) := if 0 ≤ p then ls.getD p.toNat [] else []
theorem clr_setG {ls : List (List (ByteArray × SlotG))} {j : Nat} (hj : j < ls.length) : (List.replicate j ([] : List (ByteArray × SlotG)) ++ ls.drop j).set j [] = List.replicate (j + 1) [] ++ ls.drop (j + 1) := by
  have e : ls.drop j = ls[j] :: ls.drop (j + 1) := List.drop_eq_getElem_cons hj
  have e2 : j - (List.replicate j ([] : List (ByteArray × SlotG))).length = 0 := by simp
  rw [List.set_append_right _ _ (by simp), e2, e, List.set_cons_zero, List.replicate_succ', List.append_assoc]
  rfl
theorem rowNG_ret (b bp : Nat) (rs : List Nat) (ls : List (List (ByteArray × SlotG))) (came n : Int) (w : World) (hd : DictG w b bp rs ls came n) (p : Int) (hpn : ¬ (0 ≤ p ∧ p < rs.length)) : Ret Try.prog 17 [.pointer (some ⟨b, 0, none⟩), .int .i64 p] w fun v w' => v = .slice none 0 0 ∧ Kp none_ w w' := by
  have hkw : Kp none_ w w := Kp.refl w
  have hb := hd.blk
  have hp := hd.arr
  have hpos := hd.pos
  have hwb := hb.lt
  have hwp := hp.lt
  have hdd := hd
  refine enterR Try.func17 rfl Try.ntmps17 rfl ?_
  intro g0
  refine seq_ ?_
  refine region_ ?_
  refine wl_valE (v := .slice none 0 0) rfl (rf_assign rfl) rfl ?_
  refine wl_nil ?_
  refine thn ?_
  refine seq_ ?_
  refine region_ ?_
  refine wl_valE (v := .slice none 0 0) rfl (rf_assign rfl) rfl ?_
  refine wl_nil ?_
  refine thn ?_
  refine seq_ ?_
  refine seq_ ?_
  refine region_ ?_
  refine wl_valE (v := .int .i64 p) rfl (rf_move rfl) rfl ?_
  refine wl_valE (v := .bool (decide (((0 : Nat) : Int) ≤ p))) rfl (rf_geq rfl rfl rfl rfl) rfl ?_
  refine wl_valE (v := .bool (decide (((0 : Nat) : Int) ≤ p))) rfl (rf_move rfl) rfl ?_
  refine wl_split (decide (((0 : Nat) : Int) ≤ p)) (fun u2_2 => ?_) (fun u2_2 => ?_)
  · have u2_2p := of_decide_eq_true u2_2
    refine wl_guardT rfl rfl rfl u2_2 ?_
    refine wl_valE (v := .int .i64 p) rfl (rf_move rfl) rfl ?_
    refine wl_guardT rfl rfl rfl u2_2 ?_
    refine wl_valE (v := .pointer (some ⟨b, 0, none⟩)) rfl (rf_move rfl) rfl ?_
    refine wl_guardT rfl rfl rfl u2_2 ?_
    refine wl_valE (v := .pointer (some ⟨b, 0, none⟩)) rfl (rf_nilCheckP rfl rfl) rfl ?_
    refine wl_guardT rfl rfl rfl u2_2 ?_
    refine wl_valE (v := .pointer (some ⟨b, 1, none⟩)) rfl (rf_fieldAddr Try.underlying42 rfl ti40 rfl rfl) rfl ?_
    refine wl_guardT rfl rfl rfl u2_2 ?_
    refine wl_valE (v := .slice (some ⟨bp, 0, none⟩) rs.length rs.length) rfl (rf_load Try.underlying40 rfl rfl rfl (hb.cell rfl)) rfl ?_
    refine wl_guardT rfl rfl rfl u2_2 ?_
    refine wl_valE (v := .int .i64 ((rs.length : Nat) : Int)) rfl (rf_len_slice Try.underlying40 rfl rfl) rfl ?_
    refine wl_guardT rfl rfl rfl u2_2 ?_
    refine wl_valE (v := .bool false) rfl (rf_lss rfl rfl rfl rfl) (congrArg Value.bool (decide_eq_false (by omega))) ?_
    refine wl_valE (v := .bool false) rfl (rf_pickT rfl rfl rfl u2_2) rfl ?_
    refine wl_nil ?_
    refine thn ?_
    refine condF rfl rfl ?_
    refine skip_ ?_
    refine thn ?_
    refine seq_ ?_
    refine region_ ?_
    refine wl_valE (v := .slice none 0 0) rfl (rf_move rfl) rfl ?_
    refine wl_ret rfl (sortG_ret (Sl.nil w (fun _ => False)) (fun x hx => by cases hx) (by simp)) (rf_call Try.call18 rfl rfl) ?_
    rintro vq w1 ⟨rfl, R, hR1, hR2, hsR, hk1⟩
    have hb_w1 := hb.kp hk1 (fun e => e.elim)
    have hkw_w1 := hkw.comp hk1 (fun y hy e => e.elim)
    have hs1 := hk1.size
    refine wl_nil ?_
    refine thn ?_
    refine seq_ ?_
    refine region_ ?_
    refine wl_valE (v := .slice none 0 0) rfl (rf_move rfl) rfl ?_
    refine wl_valE (v := .slice none 0 0) rfl (rf_assign rfl) rfl ?_
    refine wl_nil ?_
    refine thn ?_
    refine ret_ ?_
    refine fin1 (v := .slice none 0 0) Try.results17 rfl rfl ?_
    exact ⟨rfl, hkw_w1⟩
  · have u2_2p := of_decide_eq_false u2_2
    refine wl_guardF rfl rfl rfl u2_2 ?_
    refine wl_guardF rfl rfl rfl u2_2 ?_
    refine wl_guardF rfl rfl rfl u2_2 ?_
    refine wl_guardF rfl rfl rfl u2_2 ?_
    refine wl_guardF rfl rfl rfl u2_2 ?_
    refine wl_guardF rfl rfl rfl u2_2 ?_
    refine wl_guardF rfl rfl rfl u2_2 ?_
    refine wl_valE (v := .bool false) rfl (rf_pickF rfl rfl rfl u2_2) rfl ?_
    refine wl_nil ?_
    refine thn ?_
    refine condF rfl rfl ?_
    refine skip_ ?_
    refine thn ?_
    refine seq_ ?_
    refine region_ ?_
    refine wl_valE (v := .slice none 0 0) rfl (rf_move rfl) rfl ?_
    refine wl_ret rfl (sortG_ret (Sl.nil w (fun _ => False)) (fun x hx => by cases hx) (by simp)) (rf_call Try.call18 rfl rfl) ?_
    rintro vq w2 ⟨rfl, R, hR1, hR2, hsR, hk2⟩
    have hb_w2 := hb.kp hk2 (fun e => e.elim)
    have hkw_w2 := hkw.comp hk2 (fun y hy e => e.elim)
    have hs2 := hk2.size
    refine wl_nil ?_
    refine thn ?_
    refine seq_ ?_
    refine region_ ?_
    refine wl_valE (v := .slice none 0 0) rfl (rf_move rfl) rfl ?_
    refine wl_valE (v := .slice none 0 0) rfl (rf_assign rfl) rfl ?_
    refine wl_nil ?_
    refine thn ?_
    refine ret_ ?_
    refine fin1 (v := .slice none 0 0) Try.results17 rfl rfl ?_
    exact ⟨rfl, hkw_w2⟩
theorem rowAG_ret (b bp : Nat) (rs : List Nat) (ls : List (List (ByteArray × SlotG))) (came n : Int) (w : World) (hd : DictG w b bp rs ls came n) (p : Int) (hc : ∀ l ∈ ls, CameOkG l) (hlen : ∀ l ∈ ls, l.length ≤ 2932031007401) : Ret Try.prog 17 [.pointer (some ⟨b, 0, none⟩), .int .i64 p] w fun v w' => ∃ R, RowOfG (partLG ls p) R ∧ Sl encSlotG 4 46 w' (fun y => w.heap.size ≤ y ∧ y < w'.heap.size) v R ∧ Kp none_ w w' := by
  by_cases hp : 0 ≤ p ∧ p < rs.length
  · obtain ⟨q, rfl⟩ : ∃ q : Nat, p = (q : Int) := ⟨p.toNat, by omega⟩
    have hq : q < rs.length := by omega
    obtain ⟨r, hr⟩ : ∃ r, rs[q]? = some r := ⟨_, List.getElem?_eq_getElem hq⟩
    obtain ⟨l, hl⟩ : ∃ l, ls[q]? = some l := ⟨_, List.getElem?_eq_getElem (by rw [hd.len]; exact hq)⟩
    have e : partLG ls (q : Int) = l := by unfold partLG; rw [if_pos (by omega), List.getD_eq_getElem?_getD, Int.toNat_natCast, hl]; rfl
    rw [e]
    exact rowG_ret b bp rs ls came n w hd q r l hr hl (hc l (List.mem_of_getElem? hl)) (hlen l (List.mem_of_getElem? hl))
  · have e : partLG ls p = [] := by
      unfold partLG
      split
      · rw [List.getD_eq_getElem?_getD, List.getElem?_eq_none (by have := hd.len; omega)]; rfl
      · rfl
    rw [e]
    refine Ret.mono (rowNG_ret b bp rs ls came n w hd p hp) ?_
    rintro _ w' ⟨rfl, hk⟩
    exact ⟨[], ⟨.refl _, .nil⟩, Sl.nil _ _, hk⟩
theorem keysG_ret (b bp : Nat) (rs : List Nat) (ls : List (List (ByteArray × SlotG))) (came n : Int) (w : World) (hd : DictG w b bp rs ls came n) (p : Int) (hc : ∀ l ∈ ls, CameOkG l) (hlen : ∀ l ∈ ls, l.length ≤ 2932031007401) : Ret Try.prog 14 [.pointer (some ⟨b, 0, none⟩), .int .i64 p] w fun v w' => ∃ R, RowOfG (partLG ls p) R ∧ Sl encStr 1 9 w' (fun y => w.heap.size ≤ y ∧ y < w'.heap.size) v (R.map (·.key)) ∧ Kp none_ w w' := by
  have hkw : Kp none_ w w := Kp.refl w
  have hb := hd.blk
  have hp := hd.arr
  have hpos := hd.pos
  have hwb := hb.lt
  have hwp := hp.lt
  have hdd := hd
  refine enterR Try.func14 rfl Try.ntmps14 rfl ?_
  intro g0
  refine seq_ ?_
  refine region_ ?_
  refine wl_valE (v := .slice none 0 0) rfl (rf_assign rfl) rfl ?_
  refine wl_nil ?_
  refine thn ?_
  refine seq_ ?_
  refine region_ ?_
  refine wl_valE (v := .slice none 0 0) rfl (rf_assign rfl) rfl ?_
  refine wl_nil ?_
  refine thn ?_
  refine seq_ ?_
  refine seq_ ?_
  refine region_ ?_
  refine wl_valE (v := .pointer (some ⟨b, 0, none⟩)) rfl (rf_move rfl) rfl ?_
  refine wl_valE (v := .int .i64 p) rfl (rf_move rfl) rfl ?_
  refine wl_ret rfl (rowAG_ret b bp rs ls came n w hdd p hc hlen) (rf_call Try.call17 rfl rfl) ?_
  rintro vq w1 ⟨R, hR, hsR, hk1⟩
  obtain ⟨Ra, Rc, hRv, hRc⟩ := hsR.form
  subst hRv
  have hRl : R.length ≤ 2932031007401 := by
    rw [hR.1.length_eq, List.length_map]
    unfold partLG
    split
    · rw [List.getD_eq_getElem?_getD]
      cases hq : ls[p.toNat]? with
      | none => simp
      | some l => exact hlen l (List.mem_of_getElem? hq)
    · simp
  obtain ⟨W0, hW0⟩ : ∃ n, n = w1.heap.size := ⟨_, rfl⟩
  rw [← hW0] at hsR
  have hdd_w1 := hdd.keep hk1
  have hkw_w1 := hkw.comp hk1 (fun _ _ e => e.elim)
  have hs1 := hk1.size
  refine wl_valE (v := .int .i64 ((R.length : Nat) : Int)) rfl (rf_len_slice Try.underlying51 rfl rfl) rfl ?_
  refine wl_valE (v := .int .i64 ((0 : Nat) : Int)) rfl (rf_move rfl) rfl ?_
  refine wl_nil ?_
  refine thn ?_
  refine block_ ?_
  refine loop_ (fun lk lf lw => ∃ (g : Nat → Value) (j : Nat) (kv_ : Value) (G : Nat → Prop), lf = upds g [(4, .slice none 0 0), (5, kv_), (10, .slice Ra R.length Rc), (11, .int .i64 ((R.length : Nat) : Int)), (12, .int .i64 ((j : Nat) : Int))] ∧ j + lk = R.length ∧ Sl encStr 1 9 lw G kv_ ((R.take j).map (·.key)) ∧ (∀ y, G y → W0 ≤ y ∧ y < lw.heap.size) ∧ Kp (fun y => W0 ≤ y) w1 lw) (R.length) ?_ ?_
  · refine ⟨_, 0, (.slice none 0 0), (fun _ => False), upds_self ⟨rfl, rfl, rfl, rfl, rfl, trivial⟩, ?_⟩
    exact ⟨by omega, Sl.nil _ _, fun y hy => hy.elim, Kp.refl _⟩
  · intro lk0 lf0 wl hI0
    obtain ⟨gl0, j, kv_, G, rfl, hjk, hks, hG, hkl0⟩ := hI0
    have hdd_wl := hdd_w1.kp hkl0 (fun y hy e => by have := hd.lt y hy; omega)
    have hkw_wl := hkw_w1.comp hkl0 (fun y hy e => by first | omega | exact e.elim)
    have hsR_wl := hsR.kp hkl0 (fun y hy e => by have := hy.2; omega)
    have hsl := hkl0.size
    refine seq_ ?_
    refine region_ ?_
    refine wl_valE (v := .bool (decide (((j : Nat) : Int) < ((R.length : Nat) : Int)))) rfl (rf_lss rfl rfl rfl rfl) rfl ?_
    refine wl_nil ?_
    refine thn ?_
    refine seq_ ?_
    refine cond_ (t := decide (((j : Nat) : Int) < ((R.length : Nat) : Int))) rfl rfl (fun c13 => ?_) (fun c13 => ?_)
    · have c13p := of_decide_eq_true c13
      obtain ⟨s, hse⟩ : ∃ s, R[j]? = some s := ⟨_, List.getElem?_eq_getElem (by omega)⟩
      obtain ⟨Rb, Ro, Rc2, et, hRF, hRt⟩ := hsR_wl.at (by omega)
      simp only [Value.slice.injEq] at et
      obtain ⟨rfl, _, rfl⟩ := et
      have hRF2 := hRF.2
      refine skip_ ?_
      refine thn ?_
      refine seq_ ?_
      refine block_ ?_
      refine seq_ ?_
      refine region_ ?_
      refine wl_valE (v := .pointer (some ⟨Rb, Ro + j * 4, none⟩)) rfl (rf_indexAddr Try.underlying51 ti46 rfl rfl rfl rfl (by omega) (by omega)) rfl ?_
      refine wl_valE (v := .agg #[.string s.key, .int .i64 s.val.a, .int .i64 s.val.b, .int .i64 s.came]) rfl (rf_loadAgg Try.underlying46 rfl ti46 rfl rfl (el_cells (hRt.cell hse)) rfl) rfl ?_
      refine wl_alloc ti46 ?_
      intro b2 w2 hg2 hk2 hb2
      have ne2_Rb : Rb ≠ b2 := Nat.ne_of_lt (Nat.lt_of_lt_of_le hRt.lt hg2)
      have hdd_w2 := hdd_wl.keep hk2
      have hkw_w2 := hkw_wl.comp hk2 (fun _ _ e => e.elim)
      have hsR_w2 := hsR_wl.keep hk2
      have hkl0_w2 := hkl0.comp hk2 (fun _ _ e => e.elim)
      have hks_w2 := hks.keep hk2
      have hRt_w2 := hRt.keep hk2
      have hs2 := hk2.size
      refine wl_storeAgg (b := b2) (o := 0) (cs := [.string s.key, .int .i64 s.val.a, .int .i64 s.val.b, .int .i64 s.came]) ti46 rfl rfl rfl rfl rfl (by simp [Value.oneCell']) hb2 (Nat.le_of_ble_eq_true rfl) ?_
      intro w3 hk3 hb3
      have hdd_w3 := hdd_w2.kp hk3 (fun y hy e => by have := hd.lt y hy; omega)
      have hkw_w3 := hkw_w2.comp hk3 (fun y hy e => by first | omega | exact e.elim)
      have hsR_w3 := hsR_w2.kp hk3 (fun y hy e => by have := hy.2; omega)
      have hkl0_w3 := hkl0_w2.comp hk3 (fun y hy e => by omega)
      have hks_w3 := hks_w2.kp hk3 (fun y hy e => by have := hG y hy; omega)
      have hRt_w3 := hRt_w2.kp hk3 ne2_Rb
      have hs3 := hk3.size
      replace hb3 : Blk w3 b2 (.cells #[.string s.key, .int .i64 s.val.a, .int .i64 s.val.b, .int .i64 s.came] _ (0, 0)) := hb3
      refine wl_nil ?_
      refine thn ?_
      refine region_ ?_
      refine wl_valE (v := kv_) rfl (rf_move rfl) rfl ?_
      refine wl_valE (v := .pointer (some ⟨b2, 0, none⟩)) rfl (rf_fieldAddr Try.underlying46 rfl ti9 rfl rfl) rfl ?_
      refine wl_valE (v := .string s.key) rfl (rf_load Try.underlying9 rfl rfl rfl (hb3.cell rfl)) rfl ?_
      refine wl_buildSlice (css := [[.string s.key]]) Try.underlying31 ti9 rfl rfl rfl (.cons rfl rfl rfl rfl rfl rfl .nil) (by simp) ?_
      intro b4 w4 hg4 hk4 hb4
      have ne4_Rb : Rb ≠ b4 := Nat.ne_of_lt (Nat.lt_of_lt_of_le hRt_w3.lt hg4)
      have ne4_b2 : b2 ≠ b4 := Nat.ne_of_lt (Nat.lt_of_lt_of_le hb3.lt hg4)
      have hdd_w4 := hdd_w3.keep hk4
      have hkw_w4 := hkw_w3.comp hk4 (fun _ _ e => e.elim)
      have hsR_w4 := hsR_w3.keep hk4
      have hkl0_w4 := hkl0_w3.comp hk4 (fun _ _ e => e.elim)
      have hks_w4 := hks_w3.keep hk4
      have hRt_w4 := hRt_w3.keep hk4
      have hb2_w4 := hb3.keep hk4
      have hs4 := hk4.size
      refine wl_append encStr_len encStr_one Try.underlying31 ti9 rfl rfl rfl rfl rfl (hks_w4) ((SlAt.of_blk (l := [s.key]) encStr_len (by simp) hb4).rd (F := fun b => b = b4) rfl) (by simp; omega) (by simp; omega) ?_
      intro v5 w5 hk5 ha5
      have hdd_w5 := hdd_w4.kp hk5 (fun y hy e => by have := hd.lt y hy; have := hG y e; omega)
      have hkw_w5 := hkw_w4.comp hk5 (fun y hy e => by have := hG y e; omega)
      have hsR_w5 := hsR_w4.kp hk5 (fun y hy e => by have := hG y e; have := hy.2; omega)
      have hkl0_w5 := hkl0_w4.comp hk5 (fun y hy e => (hG y e).1)
      have hRt_w5 := hRt_w4.kp hk5 (fun e => by have := hG _ e; omega)
      have hb2_w5 := hb2_w4.kp hk5 (fun e => by have := hG _ e; omega)
      have hs5 := hk5.size
      refine wl_valE (v := v5) rfl (rf_assign rfl) rfl ?_
      refine wl_nil ?_
      refine bln ?_
      refine thn ?_
      refine region_ ?_
      refine wl_valE (v := .int .i64 ((j + 1 : Nat) : Int)) rfl (rf_add rfl rfl rfl rfl (IntWalk.i64_in _ (by omega))) rfl ?_
      refine wl_valE (v := .int .i64 ((j + 1 : Nat) : Int)) rfl (rf_move rfl) rfl ?_
      refine wl_nil ?_
      refine thn ?_
      refine ⟨lk0 - 1, _, rfl, (by omega), _, j + 1, (v5), (fun y => (G y ∨ W0 ≤ y) ∧ y < w5.heap.size), upds_self ⟨rfl, rfl, rfl, rfl, rfl, trivial⟩, ?_⟩
      have hk2 := ha5.tight
      refine ⟨by omega, by rw [List.take_add_one, hse, Option.toList_some, List.map_append]; exact hk2.mono (fun y hy => ⟨hy.1.elim .inl (fun e => .inr (by omega)), hy.2⟩), fun y hy => ⟨hy.1.elim (fun e => (hG y e).1) id, hy.2⟩, hkl0_w5⟩
    · have c13p := of_decide_eq_false c13
      refine exit_ ?_
      refine thx (thx (blx ?_))
      refine thn ?_
      refine seq_ ?_
      refine region_ ?_
      refine wl_valE (v := kv_) rfl (rf_move rfl) rfl ?_
      refine wl_valE (v := kv_) rfl (rf_assign rfl) rfl ?_
      refine wl_nil ?_
      refine thn ?_
      refine ret_ ?_
      refine fin1 (v := kv_) Try.results14 rfl rfl ?_
      have hj : j = R.length := by omega
      refine ⟨R, hR, ?_, hkw_wl⟩
      have h9 := hks
      rw [List.take_of_length_le (by omega)] at h9
      exact h9.mono (fun y hy => ⟨by have := (hG y hy).1; omega, by have := (hG y hy).2; omega⟩)
theorem lenG_ret (b bp : Nat) (rs : List Nat) (ls : List (List (ByteArray × SlotG))) (came n : Int) (w : World) (hd : DictG w b bp rs ls came n) : Ret Try.prog 13 [.pointer (some ⟨b, 0, none⟩)] w fun v w' => v = .int .i64 n ∧ Kp none_ w w' := by
  have hkw : Kp none_ w w := Kp.refl w
  have hb := hd.blk
  have hp := hd.arr
  have hpos := hd.pos
  have hwb := hb.lt
  have hwp := hp.lt
  have hdd := hd
  refine enterR Try.func13 rfl Try.ntmps13 rfl ?_
  intro g0
  refine seq_ ?_
  refine region_ ?_
  refine wl_valE (v := .int .i64 ((0 : Nat) : Int)) rfl (rf_assign rfl) rfl ?_
  refine wl_nil ?_
  refine thn ?_
  refine seq_ ?_
  refine region_ ?_
  refine wl_valE (v := .pointer (some ⟨b, 0, none⟩)) rfl (rf_move rfl) rfl ?_
  refine wl_valE (v := .pointer (some ⟨b, 0, none⟩)) rfl (rf_nilCheckP rfl rfl) rfl ?_
  refine wl_valE (v := .pointer (some ⟨b, 3, none⟩)) rfl (rf_fieldAddr Try.underlying42 rfl ti3 rfl rfl) rfl ?_
  refine wl_valE (v := .int .i64 n) rfl (rf_load Try.underlying3 rfl rfl rfl (hb.cell rfl)) rfl ?_
  refine wl_valE (v := .int .i64 n) rfl (rf_assign rfl) rfl ?_
  refine wl_nil ?_
  refine thn ?_
  refine ret_ ?_
  refine fin1 (v := .int .i64 n) Try.results13 rfl rfl ?_
  exact ⟨rfl, hkw⟩
theorem sizeNG_ret (b bp : Nat) (rs : List Nat) (ls : List (List (ByteArray × SlotG))) (came n : Int) (w : World) (hd : DictG w b bp rs ls came n) (p : Int) (hpn : ¬ (0 ≤ p ∧ p < rs.length)) : Ret Try.prog 16 [.pointer (some ⟨b, 0, none⟩), .int .i64 p] w fun v w' => v = .int .i64 0 ∧ Kp none_ w w' := by
  have hkw : Kp none_ w w := Kp.refl w
  have hb := hd.blk
  have hp := hd.arr
  have hpos := hd.pos
  have hwb := hb.lt
  have hwp := hp.lt
  have hdd := hd
  refine enterR Try.func16 rfl Try.ntmps16 rfl ?_
  intro g0
  refine seq_ ?_
  refine region_ ?_
  refine wl_valE (v := .int .i64 ((0 : Nat) : Int)) rfl (rf_assign rfl) rfl ?_
  refine wl_nil ?_
  refine thn ?_
  refine seq_ ?_
  refine seq_ ?_
  refine region_ ?_
  refine wl_valE (v := .int .i64 p) rfl (rf_move rfl) rfl ?_
  refine wl_valE (v := .bool (decide (p < ((0 : Nat) : Int)))) rfl (rf_lss rfl rfl rfl rfl) rfl ?_
  refine wl_valE (v := .bool (decide (p < ((0 : Nat) : Int)))) rfl (rf_move rfl) rfl ?_
  refine wl_split (decide (p < ((0 : Nat) : Int))) (fun u1_2 => ?_) (fun u1_2 => ?_)
  · have u1_2p := of_decide_eq_true u1_2
    refine wl_guardF rfl rfl rfl u1_2 ?_
    refine wl_guardF rfl rfl rfl u1_2 ?_
    refine wl_guardF rfl rfl rfl u1_2 ?_
    refine wl_guardF rfl rfl rfl u1_2 ?_
    refine wl_guardF rfl rfl rfl u1_2 ?_
    refine wl_guardF rfl rfl rfl u1_2 ?_
    refine wl_guardF rfl rfl rfl u1_2 ?_
    refine wl_valE (v := .bool true) rfl (rf_pickT rfl rfl rfl u1_2) rfl ?_
    refine wl_nil ?_
    refine thn ?_
    refine condT rfl rfl ?_
    refine seq_ ?_
    refine region_ ?_
    refine wl_valE (v := .int .i64 ((0 : Nat) : Int)) rfl (rf_assign rfl) rfl ?_
    refine wl_nil ?_
    refine thn ?_
    refine ret_ ?_
    refine thr ?_
    refine fin1 (v := .int .i64 ((0 : Nat) : Int)) Try.results16 rfl rfl ?_
    exact ⟨rfl, hkw⟩
  · have u1_2p := of_decide_eq_false u1_2
    refine wl_guardT rfl rfl rfl u1_2 ?_
    refine wl_valE (v := .int .i64 p) rfl (rf_move rfl) rfl ?_
    refine wl_guardT rfl rfl rfl u1_2 ?_
    refine wl_valE (v := .pointer (some ⟨b, 0, none⟩)) rfl (rf_move rfl) rfl ?_
    refine wl_guardT rfl rfl rfl u1_2 ?_
    refine wl_valE (v := .pointer (some ⟨b, 0, none⟩)) rfl (rf_nilCheckP rfl rfl) rfl ?_
    refine wl_guardT rfl rfl rfl u1_2 ?_
    refine wl_valE (v := .pointer (some ⟨b, 1, none⟩)) rfl (rf_fieldAddr Try.underlying42 rfl ti40 rfl rfl) rfl ?_
    refine wl_guardT rfl rfl rfl u1_2 ?_
    refine wl_valE (v := .slice (some ⟨bp, 0, none⟩) rs.length rs.length) rfl (rf_load Try.underlying40 rfl rfl rfl (hb.cell rfl)) rfl ?_
    refine wl_guardT rfl rfl rfl u1_2 ?_
    refine wl_valE (v := .int .i64 ((rs.length : Nat) : Int)) rfl (rf_len_slice Try.underlying40 rfl rfl) rfl ?_
    refine wl_guardT rfl rfl rfl u1_2 ?_
    refine wl_valE (v := .bool (decide (((rs.length : Nat) : Int) ≤ p))) rfl (rf_geq rfl rfl rfl rfl) rfl ?_
    refine wl_valE (v := .bool (decide (((rs.length : Nat) : Int) ≤ p))) rfl (rf_pickF rfl rfl rfl u1_2) rfl ?_
    refine wl_nil ?_
    refine thn ?_
    refine cond_ (t := decide (((rs.length : Nat) : Int) ≤ p)) rfl rfl (fun c15 => ?_) (fun c15 => ?_)
    · have c15p := of_decide_eq_true c15
      refine seq_ ?_
      refine region_ ?_
      refine wl_valE (v := .int .i64 ((0 : Nat) : Int)) rfl (rf_assign rfl) rfl ?_
      refine wl_nil ?_
      refine thn ?_
      refine ret_ ?_
      refine thr ?_
      refine fin1 (v := .int .i64 ((0 : Nat) : Int)) Try.results16 rfl rfl ?_
      exact ⟨rfl, hkw⟩
    · have c15p := of_decide_eq_false c15
      omega
theorem sizeIG_ret (b bp : Nat) (rs : List Nat) (ls : List (List (ByteArray × SlotG))) (came n : Int) (w : World) (hd : DictG w b bp rs ls came n) (q r : Nat) (l : List (ByteArray × SlotG)) (hr : rs[q]? = some r) (hl : ls[q]? = some l) : Ret Try.prog 16 [.pointer (some ⟨b, 0, none⟩), .int .i64 ((q : Nat) : Int)] w fun v w' => v = .int .i64 (l.length : Nat) ∧ Kp none_ w w' := by
  have hkw : Kp none_ w w := Kp.refl w
  have hb := hd.blk
  have hp := hd.arr
  have hpos := hd.pos
  have hwb := hb.lt
  have hwp := hp.lt
  have hdd := hd
  have hi := (List.getElem?_eq_some_iff.1 hr).1
  have hm := hd.maps q r l hr hl
  refine enterR Try.func16 rfl Try.ntmps16 rfl ?_
  intro g0
  refine seq_ ?_
  refine region_ ?_
  refine wl_valE (v := .int .i64 ((0 : Nat) : Int)) rfl (rf_assign rfl) rfl ?_
  refine wl_nil ?_
  refine thn ?_
  refine seq_ ?_
  refine seq_ ?_
  refine region_ ?_
  refine wl_valE (v := .int .i64 ((q : Nat) : Int)) rfl (rf_move rfl) rfl ?_
  refine wl_valE (v := .bool false) rfl (rf_lss rfl rfl rfl rfl) (congrArg Value.bool (decide_eq_false (by omega))) ?_
  refine wl_valE (v := .bool false) rfl (rf_move rfl) rfl ?_
  refine wl_guardT rfl rfl rfl rfl ?_
  refine wl_valE (v := .int .i64 ((q : Nat) : Int)) rfl (rf_move rfl) rfl ?_
  refine wl_guardT rfl rfl rfl rfl ?_
  refine wl_valE (v := .pointer (some ⟨b, 0, none⟩)) rfl (rf_move rfl) rfl ?_
  refine wl_guardT rfl rfl rfl rfl ?_
  refine wl_valE (v := .pointer (some ⟨b, 0, none⟩)) rfl (rf_nilCheckP rfl rfl) rfl ?_
  refine wl_guardT rfl rfl rfl rfl ?_
  refine wl_valE (v := .pointer (some ⟨b, 1, none⟩)) rfl (rf_fieldAddr Try.underlying42 rfl ti40 rfl rfl) rfl ?_
  refine wl_guardT rfl rfl rfl rfl ?_
  refine wl_valE (v := .slice (some ⟨bp, 0, none⟩) rs.length rs.length) rfl (rf_load Try.underlying40 rfl rfl rfl (hb.cell rfl)) rfl ?_
  refine wl_guardT rfl rfl rfl rfl ?_
  refine wl_valE (v := .int .i64 ((rs.length : Nat) : Int)) rfl (rf_len_slice Try.underlying40 rfl rfl) rfl ?_
  refine wl_guardT rfl rfl rfl rfl ?_
  refine wl_valE (v := .bool false) rfl (rf_geq rfl rfl rfl rfl) (congrArg Value.bool (decide_eq_false (by omega))) ?_
  refine wl_valE (v := .bool false) rfl (rf_pickF rfl rfl rfl rfl) rfl ?_
  refine wl_nil ?_
  refine thn ?_
  refine condF rfl rfl ?_
  refine skip_ ?_
  refine thn ?_
  refine seq_ ?_
  refine region_ ?_
  refine wl_valE (v := .pointer (some ⟨b, 0, none⟩)) rfl (rf_move rfl) rfl ?_
  refine wl_valE (v := .pointer (some ⟨b, 0, none⟩)) rfl (rf_nilCheckP rfl rfl) rfl ?_
  refine wl_valE (v := .pointer (some ⟨b, 1, none⟩)) rfl (rf_fieldAddr Try.underlying42 rfl ti40 rfl rfl) rfl ?_
  refine wl_valE (v := .slice (some ⟨bp, 0, none⟩) rs.length rs.length) rfl (rf_load Try.underlying40 rfl rfl rfl (hb.cell rfl)) rfl ?_
  refine wl_valE (v := .int .i64 ((q : Nat) : Int)) rfl (rf_move rfl) rfl ?_
  refine wl_valE (v := .pointer (some ⟨bp, q, none⟩)) rfl (rf_indexAddr Try.underlying40 ti43 rfl rfl rfl rfl (by omega) (by omega)) (by simp) ?_
  refine wl_valE (v := .map (some r)) rfl (rf_load Try.underlying43 rfl rfl rfl (hp.cell (i := q) (v := .map (some r)) (by simp [hr]))) rfl ?_
  refine wl_valE (v := .int .i64 ((l.length : Nat) : Int)) rfl (rf_lenM Try.underlying43 rfl rfl hm) rfl ?_
  refine wl_valE (v := .int .i64 ((l.length : Nat) : Int)) rfl (rf_assign rfl) rfl ?_
  refine wl_nil ?_
  refine thn ?_
  refine ret_ ?_
  refine fin1 (v := .int .i64 ((l.length : Nat) : Int)) Try.results16 rfl rfl ?_
  exact ⟨rfl, hkw⟩
theorem sizeG_ret (b bp : Nat) (rs : List Nat) (ls : List (List (ByteArray × SlotG))) (came n : Int) (w : World) (hd : DictG w b bp rs ls came n) (p : Int) : Ret Try.prog 16 [.pointer (some ⟨b, 0, none⟩), .int .i64 p] w fun v w' => v = .int .i64 ((partLG ls p).length : Nat) ∧ Kp none_ w w' := by
  by_cases hp : 0 ≤ p ∧ p < rs.length
  · obtain ⟨q, rfl⟩ : ∃ q : Nat, p = (q : Int) := ⟨p.toNat, by omega⟩
    have hq : q < rs.length := by omega
    obtain ⟨r, hr⟩ : ∃ r, rs[q]? = some r := ⟨_, List.getElem?_eq_getElem hq⟩
    obtain ⟨l, hl⟩ : ∃ l, ls[q]? = some l := ⟨_, List.getElem?_eq_getElem (by rw [hd.len]; exact hq)⟩
    have e : partLG ls (q : Int) = l := by unfold partLG; rw [if_pos (by omega), List.getD_eq_getElem?_getD, Int.toNat_natCast, hl]; rfl
    rw [e]
    exact sizeIG_ret b bp rs ls came n w hd q r l hr hl
  · have e : partLG ls p = [] := by
      unfold partLG
      split
      · rw [List.getD_eq_getElem?_getD, List.getElem?_eq_none (by have := hd.len; omega)]; rfl
      · rfl
    rw [e]
    exact sizeNG_ret b bp rs ls came n w hd p hp
end Go.Proofs.Ytngpghddmehmhaa.W
