import Derived.Test.YtojcddlpkfhodaaGreatQ4
import Derived.KernelRfl
namespace Go.Proofs.YtojcddlpkfhodaaGreat.W
open Go Go.Wk
set_option linter.unusedVariables false
set_option linter.unusedSimpArgs false

theorem Rel.bad {st : StS} {x : RS} (h : Rel st x) {k : Key} {b i e : Int} (he : insErr st k b i = e) (h0 : e ≠ 0) : Rel (insS st k b i) x ∧ (Value.tuple #[.int .i64 0, .int .i64 e] = .tuple #[.int .i64 (if insErr st k b i = 0 then st.last + 1 else 0), .int .i64 (insErr st k b i)]) := by
  unfold insS; rw [he, if_neg h0, if_neg h0]; exact ⟨h, rfl⟩
theorem Rel.filN {st : StS} {x : RS} (h : Rel st x) {v : Int} {c : Cell} (hn : st.ver v = none) : Rel (filS st v c) x ∧ filE st v = 93 := by unfold filS filE; rw [hn]; exact ⟨h, rfl⟩
theorem Rel.filD {st : StS} {x : RS} (h : Rel st x) {v : Int} {c : Cell} {r : VerR} (hn : st.ver v = some r) (hf : r.filled = true) : Rel (filS st v c) x ∧ filE st v = 95 := by unfold filS filE; rw [hn]; simp [hf]; exact h
theorem Rel.remN {st : StS} {x : RS} (h : Rel st x) {v : Int} (hn : st.ver v = none) : Rel (remS st v) x ∧ refE st v = 93 := by unfold remS refE; rw [hn]; exact ⟨h, rfl⟩
def ksE (st : StS) (p : Int) (l : List EntR) : List Key := (l.filter (fun e => decide (partF st e.key = p))).map (·.key)
theorem ksE_succ {st : StS} {p : Int} {l : List EntR} {i : Nat} {e : EntR} (he : l[i]? = some e) : ksE st p (l.take (i + 1)) = ksE st p (l.take i) ++ (if partF st e.key = p then [e.key] else []) := by
  unfold ksE
  rw [List.take_add_one, he, Option.toList_some, List.filter_append, List.map_append]
  by_cases h : partF st e.key = p <;> simp [h]
theorem ksE_len (st : StS) (p : Int) (l : List EntR) (i : Nat) : (ksE st p (l.take i)).length ≤ i := by
  unfold ksE
  rw [List.length_map]
  exact Nat.le_trans (List.length_filter_le _ _) (by simp; omega)
theorem Rel.chne {st : StS} {x : RS} (h : Rel st x) (k : Key) : st.ch k ≠ [] ↔ ∃ e ∈ x.all, e.key = k := by
  rw [h.ch k]
  constructor
  · intro hn
    cases hf : x.all.filter (keyE k) with
    | nil => rw [hf] at hn; exact absurd rfl hn
    | cons e l =>
      have : e ∈ x.all.filter (keyE k) := by rw [hf]; simp
      have := List.mem_filter.1 this
      exact ⟨e, this.1, of_decide_eq_true this.2⟩
  · rintro ⟨e, he, hk⟩ hn
    have : e.v ∈ (x.all.filter (keyE k)).map (·.v) := List.mem_map.2 ⟨e, List.mem_filter.2 ⟨he, decide_eq_true hk⟩, rfl⟩
    rw [hn] at this; cases this
theorem Rel.keysOk {st : StS} {x : RS} (h : Rel st x) {p : Int} : ∀ k ∈ ksE st p x.all, okK k = true := fun k hk => by
  obtain ⟨e, he, rfl⟩ := List.mem_map.1 hk
  exact (h.inv.verb _ _ (h.here e (List.mem_filter.1 he).1)).2.2.2
theorem Rel.keys {st : StS} {x : RS} (h : Rel st x) {p : Int} {l : List Key} (hp : l.Pairwise ltK) (hm : ∀ k, k ∈ l ↔ k ∈ ksE st p x.all) : IsKeys st p l := by
  refine ⟨⟨fun k hk => h.keysOk k ((hm k).1 hk), hp⟩, fun k => ?_⟩
  rw [hm, h.chne]
  unfold ksE
  simp only [List.mem_map, List.mem_filter, decide_eq_true_eq]
  constructor
  · rintro ⟨e, ⟨h1, h2⟩, rfl⟩
    exact ⟨⟨e, h1, rfl⟩, h2⟩
  · rintro ⟨⟨e, h1, rfl⟩, h2⟩
    exact ⟨e, ⟨h1, h2⟩, rfl⟩
theorem keys_uniq {st : StS} {p : Int} {l m : List Key} (h : IsKeys st p l) (k : IsKeys st p m) : l = m := sorted_eqK (fun x => (h.2 x).trans (k.2 x).symm) h.1.2 k.1.2
set_option maxRecDepth 100000 in
theorem insert9_tr (rb : Nat) (x : RS) (st : StS) (hr : Rel st x) (hal : x.all.length ≤ 65536) (k : Key) (bt ix : Int) (hll : st.last ≤ 17592186044000) : Tr Tryz.prog 13 [.pointer (some ⟨rb, 0, none⟩), .agg #[.int .i64 k.table, .int .i64 k.row], .int .i64 bt, .int .i64 ix] [] [rfH rb x] (fun vv m => ∃ x2, Rel (insS st k bt ix) x2 ∧ vv = .tuple #[.int .i64 (if insErr st k bt ix = 0 then st.last + 1 else 0), .int .i64 (insErr st k bt ix)] ∧ m = [rfH rb x2]) := by
  intro w0 S0 H0
  have hlast := hr.last
  have hlast0 := hr.inv.last0
  have hlive := hr.live
  have hroom := hr.room
  refine enterR Tryz.func13 rfl Tryz.ntmps13 rfl ?_
  intro g0
  refine seq_ ?_
  refine region_ ?_
  refine wl_boxH H0 (v := .agg #[.int .i64 k.table, .int .i64 k.row]) rfl rfl ?_
  intro b1 w2 H2
  refine wl_valE (v := .int .i64 (0 : Int)) rfl (rf_assign rfl) rfl ?_
  refine wl_valE (v := .int .i64 (0 : Int)) rfl (rf_assign rfl) rfl ?_
  refine wl_nil ?_
  refine thn ?_
  refine seq_ ?_
  refine seq_ ?_
  refine region_ ?_
  refine wl_valE (v := .agg #[.int .i64 k.table, .int .i64 k.row]) rfl (rf_loadBlk Tryz.underlying41 rfl ti41 rfl rfl (H2.blk 1 rfl) (leb rfl)) rfl ?_
  refine wl_tr H2 rfl [] (check2_tr k) rfl .nil (rf_call Tryz.call40 rfl rfl) rfl ?_
  rintro _ w3 _ ⟨rfl, rfl⟩ H3
  refine wl_valE (v := .bool (decide (checkF k ≠ (0 : Int)))) rfl (rf_neq rfl rfl rfl rfl) rfl ?_
  refine wl_nil ?_
  refine thn ?_
  refine cond_ (t := decide (checkF k ≠ (0 : Int))) rfl rfl (fun c14 => ?_) (fun c14 => ?_)
  · have c14p := of_decide_eq_true c14
    have hbad : okK k = false := by unfold checkF at c14p; split at c14p <;> simp_all
    refine seq_ ?_
    refine region_ ?_
    refine wl_valE (v := .int .i64 (0 : Int)) rfl (rf_assign rfl) rfl ?_
    refine wl_valE (v := .int .i64 (20 : Int)) rfl (rf_assign rfl) rfl ?_
    refine wl_nil ?_
    refine thn ?_
    refine ret_ ?_
    refine thr ?_
    refine fin2 (v1 := .int .i64 (0 : Int)) (v2 := .int .i64 (20 : Int)) Tryz.results13 rfl rfl rfl rfl ?_
    exact ⟨_, ⟨x, (hr.bad (by unfold insErr; rw [if_pos hbad]) (by decide)).1, (hr.bad (by unfold insErr; rw [if_pos hbad]) (by decide)).2, rfl⟩, H3.pick' [0] rfl rfl⟩
  · have c14p := of_decide_eq_false c14
    have hgood : okK k = true := by unfold checkF at c14p; split at c14p <;> simp_all
    refine skip_ ?_
    refine thn ?_
    refine seq_ ?_
    refine seq_ ?_
    refine region_ ?_
    refine wl_valE (v := .int .i64 bt) rfl (rf_move rfl) rfl ?_
    refine wl_valE (v := .bool (decide (bt < (1 : Int)))) rfl (rf_lss rfl rfl rfl rfl) rfl ?_
    refine wl_valE (v := .bool (decide (bt < (1 : Int)))) rfl (rf_move rfl) rfl ?_
    refine wl_split (decide (bt < (1 : Int))) (fun u3_2 => ?_) (fun u3_2 => ?_)
    · have u3_2p := of_decide_eq_true u3_2
      refine wl_guardF rfl rfl rfl u3_2 ?_
      refine wl_guardF rfl rfl rfl u3_2 ?_
      refine wl_valE (v := .bool true) rfl (rf_pickT rfl rfl rfl u3_2) rfl ?_
      refine wl_nil ?_
      refine thn ?_
      refine condT rfl rfl ?_
      refine seq_ ?_
      refine region_ ?_
      refine wl_valE (v := .int .i64 (0 : Int)) rfl (rf_assign rfl) rfl ?_
      refine wl_valE (v := .int .i64 (80 : Int)) rfl (rf_assign rfl) rfl ?_
      refine wl_nil ?_
      refine thn ?_
      refine ret_ ?_
      refine thr ?_
      refine fin2 (v1 := .int .i64 (0 : Int)) (v2 := .int .i64 (80 : Int)) Tryz.results13 rfl rfl rfl rfl ?_
      exact ⟨_, ⟨x, (hr.bad (by unfold insErr; rw [if_neg (by simp [hgood]), if_pos (by omega)]) (by decide)).1, (hr.bad (by unfold insErr; rw [if_neg (by simp [hgood]), if_pos (by omega)]) (by decide)).2, rfl⟩, H3.pick' [0] rfl rfl⟩
    · have u3_2p := of_decide_eq_false u3_2
      refine wl_guardT rfl rfl rfl u3_2 ?_
      refine wl_valE (v := .int .i64 bt) rfl (rf_move rfl) rfl ?_
      refine wl_guardT rfl rfl rfl u3_2 ?_
      refine wl_valE (v := .bool (decide ((1099511627776 : Int) < bt))) rfl (rf_gtr rfl rfl rfl rfl) rfl ?_
      refine wl_valE (v := .bool (decide ((1099511627776 : Int) < bt))) rfl (rf_pickF rfl rfl rfl u3_2) rfl ?_
      refine wl_nil ?_
      refine thn ?_
      refine cond_ (t := decide ((1099511627776 : Int) < bt)) rfl rfl (fun c20 => ?_) (fun c20 => ?_)
      · have c20p := of_decide_eq_true c20
        refine seq_ ?_
        refine region_ ?_
        refine wl_valE (v := .int .i64 (0 : Int)) rfl (rf_assign rfl) rfl ?_
        refine wl_valE (v := .int .i64 (80 : Int)) rfl (rf_assign rfl) rfl ?_
        refine wl_nil ?_
        refine thn ?_
        refine ret_ ?_
        refine thr ?_
        refine fin2 (v1 := .int .i64 (0 : Int)) (v2 := .int .i64 (80 : Int)) Tryz.results13 rfl rfl rfl rfl ?_
        exact ⟨_, ⟨x, (hr.bad (by unfold insErr; rw [if_neg (by simp [hgood]), if_pos (by omega)]) (by decide)).1, (hr.bad (by unfold insErr; rw [if_neg (by simp [hgood]), if_pos (by omega)]) (by decide)).2, rfl⟩, H3.pick' [0] rfl rfl⟩
      · have c20p := of_decide_eq_false c20
        refine skip_ ?_
        refine thn ?_
        refine seq_ ?_
        refine seq_ ?_
        refine region_ ?_
        refine wl_valE (v := .int .i64 ix) rfl (rf_move rfl) rfl ?_
        refine wl_valE (v := .bool (decide (ix < (0 : Int)))) rfl (rf_lss rfl rfl rfl rfl) rfl ?_
        refine wl_valE (v := .bool (decide (ix < (0 : Int)))) rfl (rf_move rfl) rfl ?_
        refine wl_split (decide (ix < (0 : Int))) (fun u5_2 => ?_) (fun u5_2 => ?_)
        · have u5_2p := of_decide_eq_true u5_2
          refine wl_guardF rfl rfl rfl u5_2 ?_
          refine wl_guardF rfl rfl rfl u5_2 ?_
          refine wl_valE (v := .bool true) rfl (rf_pickT rfl rfl rfl u5_2) rfl ?_
          refine wl_nil ?_
          refine thn ?_
          refine condT rfl rfl ?_
          refine seq_ ?_
          refine region_ ?_
          refine wl_valE (v := .int .i64 (0 : Int)) rfl (rf_assign rfl) rfl ?_
          refine wl_valE (v := .int .i64 (81 : Int)) rfl (rf_assign rfl) rfl ?_
          refine wl_nil ?_
          refine thn ?_
          refine ret_ ?_
          refine thr ?_
          refine fin2 (v1 := .int .i64 (0 : Int)) (v2 := .int .i64 (81 : Int)) Tryz.results13 rfl rfl rfl rfl ?_
          exact ⟨_, ⟨x, (hr.bad (by unfold insErr; rw [if_neg (by simp [hgood]), if_neg (by omega), if_pos (by omega)]) (by decide)).1, (hr.bad (by unfold insErr; rw [if_neg (by simp [hgood]), if_neg (by omega), if_pos (by omega)]) (by decide)).2, rfl⟩, H3.pick' [0] rfl rfl⟩
        · have u5_2p := of_decide_eq_false u5_2
          refine wl_guardT rfl rfl rfl u5_2 ?_
          refine wl_valE (v := .int .i64 ix) rfl (rf_move rfl) rfl ?_
          refine wl_guardT rfl rfl rfl u5_2 ?_
          refine wl_valE (v := .bool (decide ((64 : Int) ≤ ix))) rfl (rf_geq rfl rfl rfl rfl) rfl ?_
          refine wl_valE (v := .bool (decide ((64 : Int) ≤ ix))) rfl (rf_pickF rfl rfl rfl u5_2) rfl ?_
          refine wl_nil ?_
          refine thn ?_
          refine cond_ (t := decide ((64 : Int) ≤ ix)) rfl rfl (fun c26 => ?_) (fun c26 => ?_)
          · have c26p := of_decide_eq_true c26
            refine seq_ ?_
            refine region_ ?_
            refine wl_valE (v := .int .i64 (0 : Int)) rfl (rf_assign rfl) rfl ?_
            refine wl_valE (v := .int .i64 (81 : Int)) rfl (rf_assign rfl) rfl ?_
            refine wl_nil ?_
            refine thn ?_
            refine ret_ ?_
            refine thr ?_
            refine fin2 (v1 := .int .i64 (0 : Int)) (v2 := .int .i64 (81 : Int)) Tryz.results13 rfl rfl rfl rfl ?_
            exact ⟨_, ⟨x, (hr.bad (by unfold insErr; rw [if_neg (by simp [hgood]), if_neg (by omega), if_pos (by omega)]) (by decide)).1, (hr.bad (by unfold insErr; rw [if_neg (by simp [hgood]), if_neg (by omega), if_pos (by omega)]) (by decide)).2, rfl⟩, H3.pick' [0] rfl rfl⟩
          · have c26p := of_decide_eq_false c26
            refine skip_ ?_
            refine thn ?_
            refine seq_ ?_
            refine seq_ ?_
            obtain ⟨⟨ya, yc⟩, -, H4⟩ := rfH.open_ H3 0 rfl rfl
            try dsimp only [putsH, setH, List.cons_append, List.nil_append] at H4
            refine region_q mixedP (by kernel_rfl) ?_
            refine qt_valE (v := .pointer (some ⟨rb, 0, none⟩)) rfl (fun wq hq => rf_move rfl) rfl ?_
            refine qt_valE (v := .pointer (some ⟨rb, 0, none⟩)) rfl (fun wq hq => rf_nilCheckP rfl rfl) rfl ?_
            refine qt_valE (v := .pointer (some ⟨rb, 2, none⟩)) rfl (fun wq hq => rf_fieldAddr Tryz.underlying50 rfl ti48 rfl rfl) rfl ?_
            refine qt_valE (v := .slice ya x.all.length yc) rfl (fun wq hq => rf_load Tryz.underlying48 rfl rfl rfl (((H4.keep hq).blk 0 rfl).cell rfl)) rfl ?_
            refine qt_valE (v := .int .i64 ((x.all.length : Nat) : Int)) rfl (fun wq hq => rf_len_slice Tryz.underlying48 rfl rfl) rfl ?_
            refine qt_valE (v := .pointer (some ⟨rb, 0, none⟩)) rfl (fun wq hq => rf_move rfl) rfl ?_
            refine qt_valE (v := .pointer (some ⟨rb, 0, none⟩)) rfl (fun wq hq => rf_nilCheckP rfl rfl) rfl ?_
            refine qt_valE (v := .pointer (some ⟨rb, 1, none⟩)) rfl (fun wq hq => rf_fieldAddr Tryz.underlying50 rfl ti3 rfl rfl) rfl ?_
            refine qt_valE (v := .int .i64 x.cap) rfl (fun wq hq => rf_load Tryz.underlying3 rfl rfl rfl (((H4.keep hq).blk 0 rfl).cell rfl)) rfl ?_
            refine qt_valE (v := .bool (decide (x.cap ≤ ((x.all.length : Nat) : Int)))) rfl (fun wq hq => rf_geq rfl rfl rfl rfl) rfl ?_
            refine qt_nil ?_
            intro w5 hk5
            have H5 := H4.keep hk5
            refine thn ?_
            refine cond_ (t := decide (x.cap ≤ ((x.all.length : Nat) : Int))) rfl rfl (fun c36 => ?_) (fun c36 => ?_)
            · have c36p := of_decide_eq_true c36
              refine seq_ ?_
              refine region_ ?_
              refine wl_valE (v := .int .i64 (0 : Int)) rfl (rf_assign rfl) rfl ?_
              refine wl_valE (v := .int .i64 (92 : Int)) rfl (rf_assign rfl) rfl ?_
              refine wl_nil ?_
              refine thn ?_
              refine ret_ ?_
              refine thr ?_
              refine fin2 (v1 := .int .i64 (0 : Int)) (v2 := .int .i64 (92 : Int)) Tryz.results13 rfl rfl rfl rfl ?_
              have H6 := rfH.close_ (rb := rb) (x := x) H5 [0, 2] (ya, yc) trivial rfl rfl
              try dsimp only [putsH, setH, List.cons_append, List.nil_append] at H6
              try dsimp only [putsH, setH, List.cons_append, List.nil_append] at H6
              exact ⟨_, ⟨x, (hr.bad (by unfold insErr; rw [if_neg (by simp [hgood]), if_neg (by omega), if_neg (by omega), if_pos (by omega)]) (by decide)).1, (hr.bad (by unfold insErr; rw [if_neg (by simp [hgood]), if_neg (by omega), if_neg (by omega), if_pos (by omega)]) (by decide)).2, rfl⟩, H6.pick' [0] rfl rfl⟩
            · have c36p := of_decide_eq_false c36
              refine skip_ ?_
              refine thn ?_
              refine seq_ ?_
              refine region_ ?_
              refine wl_valE (v := .int .i64 bt) rfl (rf_move rfl) rfl ?_
              refine wl_valE (v := .int .i64 ix) rfl (rf_move rfl) rfl ?_
              refine wl_valE (v := .agg #[.int .i64 bt, .int .i64 ix, .bool false, .bool false, .int .i64 (0 : Int)]) rfl (rf_build (offs := [(0, [.int .i64 bt]), (1, [.int .i64 ix])]) (places := #[(0, 1), (1, 1), (2, 1), (3, 2)]) Tryz.underlying71 ti71 (fun w => by kernel_rfl) (.cons rfl rfl rfl rfl rfl rfl (.cons rfl rfl rfl rfl rfl rfl .nil))) rfl ?_
              refine wl_allocH H5 ti71 ?_
              intro bp w8 H8
              try dsimp only [putsH, setH, List.cons_append, List.nil_append] at H8
              refine wl_storeAggH H8 3 (o := 0) (cs := [.int .i64 bt, .int .i64 ix, .bool false, .bool false, .int .i64 (0 : Int)]) (A' := #[.int .i64 bt, .int .i64 ix, .bool false, .bool false, .int .i64 (0 : Int)]) rfl rfl ti71 rfl rfl rfl rfl rfl oneAll (leb rfl) rfl ?_
              intro w9 H9
              refine wl_nil ?_
              refine thn ?_
              refine seq_ ?_
              have H10 := rfH.close_ (rb := rb) (x := x) H9 [0, 2] (ya, yc) trivial rfl rfl
              try dsimp only [putsH, setH, List.cons_append, List.nil_append] at H10
              refine region_q mixedP (by kernel_rfl) ?_
              refine qt_valE (v := .pointer (some ⟨rb, 0, none⟩)) rfl (fun wq hq => rf_move rfl) rfl ?_
              refine qt_valE (v := .agg #[.int .i64 k.table, .int .i64 k.row]) rfl (fun wq hq => rf_loadBlk Tryz.underlying41 rfl ti41 rfl rfl ((H10.keep hq).blk 1 rfl) (leb rfl)) rfl ?_
              refine qt_ret (v := .agg #[.int .i64 9223372036854775807, .int .i64 9223372036854775807, .bool false, .bool false, .int .i64 0]) rfl (fun wq hq => ((top_tr).quiet (H10.keep hq) .nil (by rintro _ _ ⟨rfl, rfl⟩; exact rfl)).mono (fun _ _ h => ⟨h.1, hq.trans h.2⟩)) (fun wq hq => rf_call Tryz.call48 rfl rfl) ?_
              refine qt_ret (v := .int .i64 (topI (blwE k topV) x.all)) rfl (fun wq hq => ((below_tr rb x k topV (fun h1 h2 h3 h4 => hr.srt h1 h2 h3 h4) hal).quiet (H10.keep hq) (.own 0 rfl Le.rfl .nil) (by rintro _ _ ⟨rfl, rfl⟩; exact rfl)).mono (fun _ _ h => ⟨h.1, hq.trans h.2⟩)) (fun wq hq => rf_call Tryz.call47 rfl rfl) ?_
              refine qt_valE (v := .int .i64 (topI (blwE k topV) x.all)) rfl (fun wq hq => rf_assign rfl) rfl ?_
              refine qt_nil ?_
              intro w11 hk11
              have H11 := H10.keep hk11
              refine thn ?_
              refine seq_ ?_
              refine seq_ ?_
              obtain ⟨⟨ya, yc⟩, -, H12⟩ := rfH.open_ H11 0 rfl rfl
              try dsimp only [putsH, setH, List.cons_append, List.nil_append] at H12
              try dsimp only [putsH, setH, List.cons_append, List.nil_append] at H12
              refine region_q mixedP (by kernel_rfl) ?_
              refine qt_valE (v := .int .i64 (topI (blwE k topV) x.all)) rfl (fun wq hq => rf_move rfl) rfl ?_
              refine qt_valE (v := .bool (decide ((0 : Int) ≤ topI (blwE k topV) x.all))) rfl (fun wq hq => rf_geq rfl rfl rfl rfl) rfl ?_
              refine qt_valE (v := .bool (decide ((0 : Int) ≤ topI (blwE k topV) x.all))) rfl (fun wq hq => rf_move rfl) rfl ?_
              refine qt_split (decide ((0 : Int) ≤ topI (blwE k topV) x.all)) (fun u11_2 => ?_) (fun u11_2 => ?_)
              · have u11_2p := of_decide_eq_true u11_2
                obtain ⟨q, y, hqe, hq, hy, hpy, _⟩ := (topI_is (blwE k topV) x.all).some (by omega)
                refine qt_guardT rfl rfl rfl u11_2 ?_
                refine qt_valE (v := .agg #[.int .i64 bt, .int .i64 ix, .bool false, .bool false, .int .i64 (0 : Int)]) rfl (fun wq hq => rf_loadBlk Tryz.underlying71 rfl ti71 rfl rfl ((H12.keep hq).blk 3 rfl) (leb rfl)) rfl ?_
                refine qt_guardT rfl rfl rfl u11_2 ?_
                refine qt_valE (v := .pointer (some ⟨rb, 0, none⟩)) rfl (fun wq hq => rf_move rfl) rfl ?_
                refine qt_guardT rfl rfl rfl u11_2 ?_
                refine qt_valE (v := .pointer (some ⟨rb, 0, none⟩)) rfl (fun wq hq => rf_nilCheckP rfl rfl) rfl ?_
                refine qt_guardT rfl rfl rfl u11_2 ?_
                refine qt_valE (v := .pointer (some ⟨rb, 2, none⟩)) rfl (fun wq hq => rf_fieldAddr Tryz.underlying50 rfl ti48 rfl rfl) rfl ?_
                refine qt_guardT rfl rfl rfl u11_2 ?_
                refine qt_valE (v := .slice ya x.all.length yc) rfl (fun wq hq => rf_load Tryz.underlying48 rfl rfl rfl (((H12.keep hq).blk 0 rfl).cell rfl)) rfl ?_
                refine qt_guardT rfl rfl rfl u11_2 ?_
                refine qt_valE (v := .int .i64 (topI (blwE k topV) x.all)) rfl (fun wq hq => rf_move rfl) rfl ?_
                refine qt_guardT rfl rfl rfl u11_2 ?_
                refine qt_valE (v := .pointer (some ⟨ab ya, ao ya + q * 8, none⟩)) rfl (fun wq hq => rf_indexAddrH Tryz.underlying48 ti110 rfl rfl rfl rfl (by omega) (by omega) ((H12.keep hq).rdO 4 slH_rd)) (by rw [hqe]; rfl) ?_
                refine qt_guardT rfl rfl rfl u11_2 ?_
                refine qt_valE (v := .pointer (some ⟨ab ya, ao ya + q * 8 + 3, none⟩)) rfl (fun wq hq => rf_fieldAddr Tryz.underlying110 rfl ti71 rfl rfl) rfl ?_
                refine qt_guardT rfl rfl rfl u11_2 ?_
                refine qt_valE (v := .agg #[.int .i64 y.batch, .int .i64 y.index, .bool y.fill, .bool y.cell.is_, .int .i64 y.cell.value]) rfl (fun wq hq => rf_loadAgg (cs := [.int .i64 y.batch, .int .i64 y.index, .bool y.fill, .bool y.cell.is_, .int .i64 y.cell.value]) Tryz.underlying71 rfl ti71 rfl rfl (el_sub' (rd_el ((H12.keep hq).rdO 4 slH_rd) hy) 3 5 rfl) rfl) rfl ?_
                refine qt_guardT rfl rfl rfl u11_2 ?_
                refine qt_ret (v := .bool (laterV (⟨bt, ix, false, ⟨false, (0 : Int)⟩⟩ : Ver) (⟨y.batch, y.index, y.fill, ⟨y.cell.is_, y.cell.value⟩⟩ : Ver))) rfl (fun wq hq => ((later_tr (⟨bt, ix, false, ⟨false, (0 : Int)⟩⟩ : Ver) (⟨y.batch, y.index, y.fill, ⟨y.cell.is_, y.cell.value⟩⟩ : Ver)).quiet (H12.keep hq) .nil (by rintro _ _ ⟨rfl, rfl⟩; exact rfl)).mono (fun _ _ h => ⟨h.1, hq.trans h.2⟩)) (fun wq hq => rf_call Tryz.call49 rfl rfl) ?_
                refine qt_guardT rfl rfl rfl u11_2 ?_
                refine qt_valE (v := .bool (!(laterV (⟨bt, ix, false, ⟨false, (0 : Int)⟩⟩ : Ver) (⟨y.batch, y.index, y.fill, ⟨y.cell.is_, y.cell.value⟩⟩ : Ver)))) rfl (fun wq hq => rf_not rfl rfl) rfl ?_
                refine qt_valE (v := .bool (!(laterV (⟨bt, ix, false, ⟨false, (0 : Int)⟩⟩ : Ver) (⟨y.batch, y.index, y.fill, ⟨y.cell.is_, y.cell.value⟩⟩ : Ver)))) rfl (fun wq hq => rf_pickT rfl rfl rfl u11_2) rfl ?_
                refine qt_nil ?_
                intro w13 hk13
                have H13 := H12.keep hk13
                refine thn ?_
                refine cond_ (t := !(laterV (⟨bt, ix, false, ⟨false, (0 : Int)⟩⟩ : Ver) (⟨y.batch, y.index, y.fill, ⟨y.cell.is_, y.cell.value⟩⟩ : Ver))) rfl rfl (fun c58 => ?_) (fun c58 => ?_)
                · refine seq_ ?_
                  refine region_ ?_
                  refine wl_valE (v := .int .i64 (0 : Int)) rfl (rf_assign rfl) rfl ?_
                  refine wl_valE (v := .int .i64 (94 : Int)) rfl (rf_assign rfl) rfl ?_
                  refine wl_nil ?_
                  refine thn ?_
                  refine ret_ ?_
                  refine thr ?_
                  refine fin2 (v1 := .int .i64 (0 : Int)) (v2 := .int .i64 (94 : Int)) Tryz.results13 rfl rfl rfl rfl ?_
                  have H14 := rfH.close_ (rb := rb) (x := x) H13 [0, 4] (ya, yc) trivial rfl rfl
                  try dsimp only [putsH, setH, List.cons_append, List.nil_append] at H14
                  exact ⟨_, ⟨x, (hr.bad (by unfold insErr; rw [if_neg (by simp [hgood]), if_neg (by omega), if_neg (by omega), if_neg (by omega), if_pos (by rw [hr.stale, if_neg (by omega), hqe, Int.toNat_natCast, List.getD_eq_getElem?_getD, hy]; exact c58)]) (by decide)).1, (hr.bad (by unfold insErr; rw [if_neg (by simp [hgood]), if_neg (by omega), if_neg (by omega), if_neg (by omega), if_pos (by rw [hr.stale, if_neg (by omega), hqe, Int.toNat_natCast, List.getD_eq_getElem?_getD, hy]; exact c58)]) (by decide)).2, rfl⟩, H14.pick' [0] rfl rfl⟩
                · refine skip_ ?_
                  refine thn ?_
                  refine seq_ ?_
                  refine region_ ?_
                  refine wl_valE (v := .pointer (some ⟨rb, 0, none⟩)) rfl (rf_move rfl) rfl ?_
                  refine wl_valE (v := .pointer (some ⟨rb, 0, none⟩)) rfl (rf_nilCheckP rfl rfl) rfl ?_
                  refine wl_valE (v := .pointer (some ⟨rb, 3, none⟩)) rfl (rf_fieldAddr Tryz.underlying50 rfl ti3 rfl rfl) rfl ?_
                  refine wl_valE (v := .int .i64 x.last) rfl (rf_load Tryz.underlying3 rfl rfl rfl ((H13.blk 0 rfl).cell rfl)) rfl ?_
                  refine wl_valE (v := .int .i64 (x.last + (1 : Int))) rfl (rf_add rfl rfl rfl rfl (IntWalk.i64_in _ (by omega))) rfl ?_
                  refine wl_valE (v := .pointer (some ⟨rb, 0, none⟩)) rfl (rf_nilCheckP rfl rfl) rfl ?_
                  refine wl_valE (v := .pointer (some ⟨rb, 3, none⟩)) rfl (rf_fieldAddr Tryz.underlying50 rfl ti3 rfl rfl) rfl ?_
                  refine wl_storeH H13 0 (v := .int .i64 (x.last + (1 : Int))) (A' := #[.int .i64 x.parts, .int .i64 x.cap, .slice ya x.all.length yc, .int .i64 (x.last + (1 : Int))]) rfl rfl ti3 rfl rfl rfl rfl rfl (ltb rfl) rfl ?_
                  intro w15 H15
                  refine wl_nil ?_
                  refine thn ?_
                  refine seq_ ?_
                  refine region_v 16 (fun wq => St w0 S0 [] wq [blkH rb #[.int .i64 x.parts, .int .i64 x.cap, .slice ya x.all.length yc, .int .i64 (x.last + (1 : Int))] 50, blkH b1 #[.int .i64 k.table, .int .i64 k.row] 41, blkH bp #[.int .i64 bt, .int .i64 ix, .bool false, .bool false, .int .i64 (0 : Int)] 71]) mixedP (by kernel_rfl) ?_
                  intro w16 hk16
                  have H16 := H15.keep hk16
                  have hS16 : St w0 S0 [] w16 [blkH rb #[.int .i64 x.parts, .int .i64 x.cap, .slice ya x.all.length yc, .int .i64 (x.last + (1 : Int))] 50, blkH b1 #[.int .i64 k.table, .int .i64 k.row] 41, blkH bp #[.int .i64 bt, .int .i64 ix, .bool false, .bool false, .int .i64 (0 : Int)] 71] := H16.pick' [0, 1, 3] rfl rfl
                  refine vh_take (i := 0) (v := .pointer (some ⟨rb, 0, none⟩)) rfl rfl (by kernel_rfl) (by kernel_rfl) (by kernel_rfl) hS16 rfl (fun wq hq => rf_move rfl) rfl ?_
                  refine vh_take (i := 1) (v := .pointer (some ⟨rb, 0, none⟩)) rfl rfl (by kernel_rfl) (by kernel_rfl) (by kernel_rfl) hS16 rfl (fun wq hq => rf_move rfl) rfl ?_
                  refine vh_take (i := 2) (v := .pointer (some ⟨rb, 0, none⟩)) rfl rfl (by kernel_rfl) (by kernel_rfl) (by kernel_rfl) hS16 rfl (fun wq hq => rf_nilCheckP rfl rfl) rfl ?_
                  refine vh_take (i := 3) (v := .pointer (some ⟨rb, 2, none⟩)) rfl rfl (by kernel_rfl) (by kernel_rfl) (by kernel_rfl) hS16 rfl (fun wq hq => rf_fieldAddr Tryz.underlying50 rfl ti48 rfl rfl) rfl ?_
                  refine vh_take (i := 4) (v := .slice ya x.all.length yc) rfl rfl (by kernel_rfl) (by kernel_rfl) (by kernel_rfl) hS16 rfl (fun wq hq => rf_load Tryz.underlying48 rfl rfl rfl ((hq.blk 0 rfl).cell rfl)) rfl ?_
                  refine vh_take (i := 5) (v := .pointer (some ⟨rb, 0, none⟩)) rfl rfl (by kernel_rfl) (by kernel_rfl) (by kernel_rfl) hS16 rfl (fun wq hq => rf_move rfl) rfl ?_
                  refine vh_take (i := 6) (v := .pointer (some ⟨rb, 0, none⟩)) rfl rfl (by kernel_rfl) (by kernel_rfl) (by kernel_rfl) hS16 rfl (fun wq hq => rf_nilCheckP rfl rfl) rfl ?_
                  refine vh_take (i := 7) (v := .pointer (some ⟨rb, 3, none⟩)) rfl rfl (by kernel_rfl) (by kernel_rfl) (by kernel_rfl) hS16 rfl (fun wq hq => rf_fieldAddr Tryz.underlying50 rfl ti3 rfl rfl) rfl ?_
                  refine vh_take (i := 8) (v := .int .i64 (x.last + (1 : Int))) rfl rfl (by kernel_rfl) (by kernel_rfl) (by kernel_rfl) hS16 rfl (fun wq hq => rf_load Tryz.underlying3 rfl rfl rfl ((hq.blk 0 rfl).cell rfl)) rfl ?_
                  refine vh_take (i := 9) (v := .agg #[.int .i64 k.table, .int .i64 k.row]) rfl rfl (by kernel_rfl) (by kernel_rfl) (by kernel_rfl) hS16 rfl (fun wq hq => rf_loadBlk Tryz.underlying41 rfl ti41 rfl rfl (hq.blk 1 rfl) (leb rfl)) rfl ?_
                  refine vh_take (i := 10) (v := .agg #[.int .i64 bt, .int .i64 ix, .bool false, .bool false, .int .i64 (0 : Int)]) rfl rfl (by kernel_rfl) (by kernel_rfl) (by kernel_rfl) hS16 rfl (fun wq hq => rf_loadBlk Tryz.underlying71 rfl ti71 rfl rfl (hq.blk 2 rfl) (leb rfl)) rfl ?_
                  refine vh_take (i := 11) (v := .agg #[.int .i64 (x.last + (1 : Int)), .int .i64 k.table, .int .i64 k.row, .int .i64 bt, .int .i64 ix, .bool false, .bool false, .int .i64 (0 : Int)]) rfl rfl (by kernel_rfl) (by kernel_rfl) (by kernel_rfl) hS16 rfl (fun wq hq => rf_build (offs := [(0, [.int .i64 (x.last + (1 : Int))]), (1, [.int .i64 k.table, .int .i64 k.row]), (3, [.int .i64 bt, .int .i64 ix, .bool false, .bool false, .int .i64 (0 : Int)])]) (places := #[(0, 1), (1, 2), (3, 5)]) Tryz.underlying110 ti110 (fun w => by kernel_rfl) (.cons rfl rfl rfl rfl rfl rfl (.cons rfl rfl rfl rfl rfl rfl (.cons rfl rfl rfl rfl rfl rfl .nil)))) rfl ?_
                  refine vh_one (i := 12) (by kernel_rfl) rfl rfl ?_
                  refine wl_buildSliceH (enc := encEnt) H16 [newE x k bt ix] encEnt_len Tryz.underlying48 ti110 rfl rfl rfl (.cons rfl rfl rfl rfl rfl rfl .nil) ?_
                  intro a17 w18 H18
                  refine wl_nil ?_
                  have hS19 : St w0 S0 [] w18 [blkH rb #[.int .i64 x.parts, .int .i64 x.cap, .slice ya x.all.length yc, .int .i64 (x.last + (1 : Int))] 50, blkH b1 #[.int .i64 k.table, .int .i64 k.row] 41, blkH bp #[.int .i64 bt, .int .i64 ix, .bool false, .bool false, .int .i64 (0 : Int)] 71] := H18.pick' [0, 1, 3] rfl rfl
                  refine vh_back hS19 ?_
                  refine vh_one (i := 13) (by kernel_rfl) rfl rfl ?_
                  refine wl_appendH (enc := encEnt) (N := (insX x k bt ix).all.length) H18 4 rfl rfl encEnt_len encEnt_one Tryz.underlying48 ti110 rfl rfl rfl rfl rfl (H18.rdO 5 slH_rd) (by simp [insX]) (by simp [insX]; omega) (by simp [insX]; omega) ?_
                  intro a20 c20 w20 hc20 hd20 H20
                  refine wl_nil ?_
                  have hS21 : St w0 S0 [] w20 [blkH rb #[.int .i64 x.parts, .int .i64 x.cap, .slice ya x.all.length yc, .int .i64 (x.last + (1 : Int))] 50, blkH b1 #[.int .i64 k.table, .int .i64 k.row] 41, blkH bp #[.int .i64 bt, .int .i64 ix, .bool false, .bool false, .int .i64 (0 : Int)] 71] := H20.pick' [0, 1, 3] rfl rfl
                  refine vh_back hS21 ?_
                  refine vh_take (i := 14) (v := .pointer (some ⟨rb, 0, none⟩)) rfl rfl (by kernel_rfl) (by kernel_rfl) (by kernel_rfl) hS21 rfl (fun wq hq => rf_nilCheckP rfl rfl) rfl ?_
                  refine vh_take (i := 15) (v := .pointer (some ⟨rb, 2, none⟩)) rfl rfl (by kernel_rfl) (by kernel_rfl) (by kernel_rfl) hS21 rfl (fun wq hq => rf_fieldAddr Tryz.underlying50 rfl ti48 rfl rfl) rfl ?_
                  refine vh_last (by kernel_rfl) (by kernel_rfl) rfl ?_
                  refine wl_storeH H20 0 (v := .slice a20 ((insX x k bt ix).all.length) c20) (A' := #[.int .i64 x.parts, .int .i64 x.cap, .slice a20 ((insX x k bt ix).all.length) c20, .int .i64 (x.last + (1 : Int))]) rfl rfl ti48 rfl rfl rfl rfl rfl (ltb rfl) rfl ?_
                  intro w22 H22
                  try dsimp only [putsH, setH, List.cons_append, List.nil_append] at H22
                  refine wl_nil ?_
                  refine vh_end ?_
                  refine thn ?_
                  refine seq_ ?_
                  refine region_ ?_
                  refine wl_valE (v := .pointer (some ⟨rb, 0, none⟩)) rfl (rf_move rfl) rfl ?_
                  refine wl_valE (v := .pointer (some ⟨rb, 0, none⟩)) rfl (rf_nilCheckP rfl rfl) rfl ?_
                  refine wl_valE (v := .pointer (some ⟨rb, 3, none⟩)) rfl (rf_fieldAddr Tryz.underlying50 rfl ti3 rfl rfl) rfl ?_
                  refine wl_valE (v := .int .i64 (x.last + (1 : Int))) rfl (rf_load Tryz.underlying3 rfl rfl rfl ((H22.blk 0 rfl).cell rfl)) rfl ?_
                  refine wl_valE (v := .int .i64 (x.last + (1 : Int))) rfl (rf_assign rfl) rfl ?_
                  refine wl_valE (v := .int .i64 (0 : Int)) rfl (rf_assign rfl) rfl ?_
                  refine wl_nil ?_
                  refine thn ?_
                  refine ret_ ?_
                  refine fin2 (v1 := .int .i64 (x.last + (1 : Int))) (v2 := .int .i64 (0 : Int)) Tryz.results13 rfl rfl rfl rfl ?_
                  have hst0 : staleB st k bt ix = false := (by rw [hr.stale, if_neg (by omega), hqe, Int.toNat_natCast, List.getD_eq_getElem?_getD, hy]; exact c58)
                  have hie : insErr st k bt ix = 0 := by unfold insErr; rw [if_neg (by simp [hgood]), if_neg (by omega), if_neg (by omega), if_neg (by omega), if_neg (by rw [hst0]; simp)]
                  have H23 := rfH.close_ (rb := rb) (x := insX x k bt ix) H22 [0, 4] (a20, c20) trivial rfl rfl
                  try dsimp only [putsH, setH, List.cons_append, List.nil_append] at H23
                  exact ⟨_, ⟨insX x k bt ix, hr.ins hie, by rw [hie, if_pos rfl, hr.last], rfl⟩, H23.pick' [0] rfl rfl⟩
              · have u11_2p := of_decide_eq_false u11_2
                refine qt_guardF rfl rfl rfl u11_2 ?_
                refine qt_guardF rfl rfl rfl u11_2 ?_
                refine qt_guardF rfl rfl rfl u11_2 ?_
                refine qt_guardF rfl rfl rfl u11_2 ?_
                refine qt_guardF rfl rfl rfl u11_2 ?_
                refine qt_guardF rfl rfl rfl u11_2 ?_
                refine qt_guardF rfl rfl rfl u11_2 ?_
                refine qt_guardF rfl rfl rfl u11_2 ?_
                refine qt_guardF rfl rfl rfl u11_2 ?_
                refine qt_guardF rfl rfl rfl u11_2 ?_
                refine qt_guardF rfl rfl rfl u11_2 ?_
                refine qt_valE (v := .bool false) rfl (fun wq hq => rf_pickF rfl rfl rfl u11_2) rfl ?_
                refine qt_nil ?_
                intro w24 hk24
                have H24 := H12.keep hk24
                refine thn ?_
                refine condF rfl rfl ?_
                refine skip_ ?_
                refine thn ?_
                refine seq_ ?_
                refine region_ ?_
                refine wl_valE (v := .pointer (some ⟨rb, 0, none⟩)) rfl (rf_move rfl) rfl ?_
                refine wl_valE (v := .pointer (some ⟨rb, 0, none⟩)) rfl (rf_nilCheckP rfl rfl) rfl ?_
                refine wl_valE (v := .pointer (some ⟨rb, 3, none⟩)) rfl (rf_fieldAddr Tryz.underlying50 rfl ti3 rfl rfl) rfl ?_
                refine wl_valE (v := .int .i64 x.last) rfl (rf_load Tryz.underlying3 rfl rfl rfl ((H24.blk 0 rfl).cell rfl)) rfl ?_
                refine wl_valE (v := .int .i64 (x.last + (1 : Int))) rfl (rf_add rfl rfl rfl rfl (IntWalk.i64_in _ (by omega))) rfl ?_
                refine wl_valE (v := .pointer (some ⟨rb, 0, none⟩)) rfl (rf_nilCheckP rfl rfl) rfl ?_
                refine wl_valE (v := .pointer (some ⟨rb, 3, none⟩)) rfl (rf_fieldAddr Tryz.underlying50 rfl ti3 rfl rfl) rfl ?_
                refine wl_storeH H24 0 (v := .int .i64 (x.last + (1 : Int))) (A' := #[.int .i64 x.parts, .int .i64 x.cap, .slice ya x.all.length yc, .int .i64 (x.last + (1 : Int))]) rfl rfl ti3 rfl rfl rfl rfl rfl (ltb rfl) rfl ?_
                intro w25 H25
                refine wl_nil ?_
                refine thn ?_
                refine seq_ ?_
                refine region_v 16 (fun wq => St w0 S0 [] wq [blkH rb #[.int .i64 x.parts, .int .i64 x.cap, .slice ya x.all.length yc, .int .i64 (x.last + (1 : Int))] 50, blkH b1 #[.int .i64 k.table, .int .i64 k.row] 41, blkH bp #[.int .i64 bt, .int .i64 ix, .bool false, .bool false, .int .i64 (0 : Int)] 71]) mixedP (by kernel_rfl) ?_
                intro w26 hk26
                have H26 := H25.keep hk26
                have hS26 : St w0 S0 [] w26 [blkH rb #[.int .i64 x.parts, .int .i64 x.cap, .slice ya x.all.length yc, .int .i64 (x.last + (1 : Int))] 50, blkH b1 #[.int .i64 k.table, .int .i64 k.row] 41, blkH bp #[.int .i64 bt, .int .i64 ix, .bool false, .bool false, .int .i64 (0 : Int)] 71] := H26.pick' [0, 1, 3] rfl rfl
                refine vh_take (i := 0) (v := .pointer (some ⟨rb, 0, none⟩)) rfl rfl (by kernel_rfl) (by kernel_rfl) (by kernel_rfl) hS26 rfl (fun wq hq => rf_move rfl) rfl ?_
                refine vh_take (i := 1) (v := .pointer (some ⟨rb, 0, none⟩)) rfl rfl (by kernel_rfl) (by kernel_rfl) (by kernel_rfl) hS26 rfl (fun wq hq => rf_move rfl) rfl ?_
                refine vh_take (i := 2) (v := .pointer (some ⟨rb, 0, none⟩)) rfl rfl (by kernel_rfl) (by kernel_rfl) (by kernel_rfl) hS26 rfl (fun wq hq => rf_nilCheckP rfl rfl) rfl ?_
                refine vh_take (i := 3) (v := .pointer (some ⟨rb, 2, none⟩)) rfl rfl (by kernel_rfl) (by kernel_rfl) (by kernel_rfl) hS26 rfl (fun wq hq => rf_fieldAddr Tryz.underlying50 rfl ti48 rfl rfl) rfl ?_
                refine vh_take (i := 4) (v := .slice ya x.all.length yc) rfl rfl (by kernel_rfl) (by kernel_rfl) (by kernel_rfl) hS26 rfl (fun wq hq => rf_load Tryz.underlying48 rfl rfl rfl ((hq.blk 0 rfl).cell rfl)) rfl ?_
                refine vh_take (i := 5) (v := .pointer (some ⟨rb, 0, none⟩)) rfl rfl (by kernel_rfl) (by kernel_rfl) (by kernel_rfl) hS26 rfl (fun wq hq => rf_move rfl) rfl ?_
                refine vh_take (i := 6) (v := .pointer (some ⟨rb, 0, none⟩)) rfl rfl (by kernel_rfl) (by kernel_rfl) (by kernel_rfl) hS26 rfl (fun wq hq => rf_nilCheckP rfl rfl) rfl ?_
                refine vh_take (i := 7) (v := .pointer (some ⟨rb, 3, none⟩)) rfl rfl (by kernel_rfl) (by kernel_rfl) (by kernel_rfl) hS26 rfl (fun wq hq => rf_fieldAddr Tryz.underlying50 rfl ti3 rfl rfl) rfl ?_
                refine vh_take (i := 8) (v := .int .i64 (x.last + (1 : Int))) rfl rfl (by kernel_rfl) (by kernel_rfl) (by kernel_rfl) hS26 rfl (fun wq hq => rf_load Tryz.underlying3 rfl rfl rfl ((hq.blk 0 rfl).cell rfl)) rfl ?_
                refine vh_take (i := 9) (v := .agg #[.int .i64 k.table, .int .i64 k.row]) rfl rfl (by kernel_rfl) (by kernel_rfl) (by kernel_rfl) hS26 rfl (fun wq hq => rf_loadBlk Tryz.underlying41 rfl ti41 rfl rfl (hq.blk 1 rfl) (leb rfl)) rfl ?_
                refine vh_take (i := 10) (v := .agg #[.int .i64 bt, .int .i64 ix, .bool false, .bool false, .int .i64 (0 : Int)]) rfl rfl (by kernel_rfl) (by kernel_rfl) (by kernel_rfl) hS26 rfl (fun wq hq => rf_loadBlk Tryz.underlying71 rfl ti71 rfl rfl (hq.blk 2 rfl) (leb rfl)) rfl ?_
                refine vh_take (i := 11) (v := .agg #[.int .i64 (x.last + (1 : Int)), .int .i64 k.table, .int .i64 k.row, .int .i64 bt, .int .i64 ix, .bool false, .bool false, .int .i64 (0 : Int)]) rfl rfl (by kernel_rfl) (by kernel_rfl) (by kernel_rfl) hS26 rfl (fun wq hq => rf_build (offs := [(0, [.int .i64 (x.last + (1 : Int))]), (1, [.int .i64 k.table, .int .i64 k.row]), (3, [.int .i64 bt, .int .i64 ix, .bool false, .bool false, .int .i64 (0 : Int)])]) (places := #[(0, 1), (1, 2), (3, 5)]) Tryz.underlying110 ti110 (fun w => by kernel_rfl) (.cons rfl rfl rfl rfl rfl rfl (.cons rfl rfl rfl rfl rfl rfl (.cons rfl rfl rfl rfl rfl rfl .nil)))) rfl ?_
                refine vh_one (i := 12) (by kernel_rfl) rfl rfl ?_
                refine wl_buildSliceH (enc := encEnt) H26 [newE x k bt ix] encEnt_len Tryz.underlying48 ti110 rfl rfl rfl (.cons rfl rfl rfl rfl rfl rfl .nil) ?_
                intro a27 w28 H28
                refine wl_nil ?_
                have hS29 : St w0 S0 [] w28 [blkH rb #[.int .i64 x.parts, .int .i64 x.cap, .slice ya x.all.length yc, .int .i64 (x.last + (1 : Int))] 50, blkH b1 #[.int .i64 k.table, .int .i64 k.row] 41, blkH bp #[.int .i64 bt, .int .i64 ix, .bool false, .bool false, .int .i64 (0 : Int)] 71] := H28.pick' [0, 1, 3] rfl rfl
                refine vh_back hS29 ?_
                refine vh_one (i := 13) (by kernel_rfl) rfl rfl ?_
                refine wl_appendH (enc := encEnt) (N := (insX x k bt ix).all.length) H28 4 rfl rfl encEnt_len encEnt_one Tryz.underlying48 ti110 rfl rfl rfl rfl rfl (H28.rdO 5 slH_rd) (by simp [insX]) (by simp [insX]; omega) (by simp [insX]; omega) ?_
                intro a30 c30 w30 hc30 hd30 H30
                refine wl_nil ?_
                have hS31 : St w0 S0 [] w30 [blkH rb #[.int .i64 x.parts, .int .i64 x.cap, .slice ya x.all.length yc, .int .i64 (x.last + (1 : Int))] 50, blkH b1 #[.int .i64 k.table, .int .i64 k.row] 41, blkH bp #[.int .i64 bt, .int .i64 ix, .bool false, .bool false, .int .i64 (0 : Int)] 71] := H30.pick' [0, 1, 3] rfl rfl
                refine vh_back hS31 ?_
                refine vh_take (i := 14) (v := .pointer (some ⟨rb, 0, none⟩)) rfl rfl (by kernel_rfl) (by kernel_rfl) (by kernel_rfl) hS31 rfl (fun wq hq => rf_nilCheckP rfl rfl) rfl ?_
                refine vh_take (i := 15) (v := .pointer (some ⟨rb, 2, none⟩)) rfl rfl (by kernel_rfl) (by kernel_rfl) (by kernel_rfl) hS31 rfl (fun wq hq => rf_fieldAddr Tryz.underlying50 rfl ti48 rfl rfl) rfl ?_
                refine vh_last (by kernel_rfl) (by kernel_rfl) rfl ?_
                refine wl_storeH H30 0 (v := .slice a30 ((insX x k bt ix).all.length) c30) (A' := #[.int .i64 x.parts, .int .i64 x.cap, .slice a30 ((insX x k bt ix).all.length) c30, .int .i64 (x.last + (1 : Int))]) rfl rfl ti48 rfl rfl rfl rfl rfl (ltb rfl) rfl ?_
                intro w32 H32
                try dsimp only [putsH, setH, List.cons_append, List.nil_append] at H32
                refine wl_nil ?_
                refine vh_end ?_
                refine thn ?_
                refine seq_ ?_
                refine region_ ?_
                refine wl_valE (v := .pointer (some ⟨rb, 0, none⟩)) rfl (rf_move rfl) rfl ?_
                refine wl_valE (v := .pointer (some ⟨rb, 0, none⟩)) rfl (rf_nilCheckP rfl rfl) rfl ?_
                refine wl_valE (v := .pointer (some ⟨rb, 3, none⟩)) rfl (rf_fieldAddr Tryz.underlying50 rfl ti3 rfl rfl) rfl ?_
                refine wl_valE (v := .int .i64 (x.last + (1 : Int))) rfl (rf_load Tryz.underlying3 rfl rfl rfl ((H32.blk 0 rfl).cell rfl)) rfl ?_
                refine wl_valE (v := .int .i64 (x.last + (1 : Int))) rfl (rf_assign rfl) rfl ?_
                refine wl_valE (v := .int .i64 (0 : Int)) rfl (rf_assign rfl) rfl ?_
                refine wl_nil ?_
                refine thn ?_
                refine ret_ ?_
                refine fin2 (v1 := .int .i64 (x.last + (1 : Int))) (v2 := .int .i64 (0 : Int)) Tryz.results13 rfl rfl rfl rfl ?_
                have hst0 : staleB st k bt ix = false := (by rw [hr.stale, if_pos (by omega)])
                have hie : insErr st k bt ix = 0 := by unfold insErr; rw [if_neg (by simp [hgood]), if_neg (by omega), if_neg (by omega), if_neg (by omega), if_neg (by rw [hst0]; simp)]
                have H33 := rfH.close_ (rb := rb) (x := insX x k bt ix) H32 [0, 4] (a30, c30) trivial rfl rfl
                try dsimp only [putsH, setH, List.cons_append, List.nil_append] at H33
                exact ⟨_, ⟨insX x k bt ix, hr.ins hie, by rw [hie, if_pos rfl, hr.last], rfl⟩, H33.pick' [0] rfl rfl⟩
theorem fill9_tr (rb : Nat) (x : RS) (st : StS) (hr : Rel st x) (hal : x.all.length ≤ 65536) (v : Int) (c : Cell) : Tr Tryz.prog 15 [.pointer (some ⟨rb, 0, none⟩), .int .i64 v, .agg #[.bool c.is_, .int .i64 c.value]] [] [rfH rb x] (fun vv m => ∃ x2, Rel (filS st v c) x2 ∧ vv = .int .i64 (filE st v) ∧ m = [rfH rb x2]) := by
  intro w0 S0 H0
  refine enterR Tryz.func15 rfl Tryz.ntmps15 rfl ?_
  intro g0
  refine seq_ ?_
  refine region_ ?_
  refine wl_boxH H0 (v := .agg #[.bool c.is_, .int .i64 c.value]) rfl rfl ?_
  intro b1 w2 H2
  refine wl_valE (v := .int .i64 (0 : Int)) rfl (rf_assign rfl) rfl ?_
  refine wl_nil ?_
  refine thn ?_
  refine seq_ ?_
  refine region_ ?_
  refine wl_valE (v := .pointer (some ⟨rb, 0, none⟩)) rfl (rf_move rfl) rfl ?_
  refine wl_valE (v := .int .i64 v) rfl (rf_move rfl) rfl ?_
  refine wl_tr H2 rfl [] (at_tr rb x v hr.nod hal) rfl (.own 0 rfl Le.rfl .nil) (rf_call Tryz.call50 rfl rfl) rfl ?_
  rintro _ w3 _ ⟨bv, hbv, rfl, rfl⟩ H3
  refine wl_valE (v := .int .i64 bv) rfl (rf_assign rfl) rfl ?_
  refine wl_nil ?_
  refine thn ?_
  refine seq_ ?_
  refine seq_ ?_
  refine region_ ?_
  refine wl_valE (v := .int .i64 bv) rfl (rf_move rfl) rfl ?_
  refine wl_valE (v := .bool (decide (bv < (0 : Int)))) rfl (rf_lss rfl rfl rfl rfl) rfl ?_
  refine wl_nil ?_
  refine thn ?_
  refine cond_ (t := decide (bv < (0 : Int))) rfl rfl (fun c12 => ?_) (fun c12 => ?_)
  · have c12p := of_decide_eq_true c12
    have hnone := hr.no hbv c12p
    refine seq_ ?_
    refine region_ ?_
    refine wl_valE (v := .int .i64 (93 : Int)) rfl (rf_assign rfl) rfl ?_
    refine wl_nil ?_
    refine thn ?_
    refine ret_ ?_
    refine thr ?_
    refine fin1 (v := .int .i64 (93 : Int)) Tryz.results15 rfl rfl ?_
    exact ⟨_, ⟨x, (hr.filN hnone).1, by rw [(hr.filN (c := c) hnone).2], rfl⟩, H3.pick' [0] rfl rfl⟩
  · have c12p := of_decide_eq_false c12
    obtain ⟨⟨ya, yc⟩, -, H4⟩ := rfH.open_ H3 0 rfl rfl
    try dsimp only [putsH, setH, List.cons_append, List.nil_append] at H4
    obtain ⟨q, y, rfl, hq, hy, hpy, _⟩ := hbv.some c12p
    have hpv : y.v = v := of_decide_eq_true hpy
    subst hpv
    have hat := hr.at hy
    refine skip_ ?_
    refine thn ?_
    refine seq_ ?_
    refine seq_ ?_
    refine region_ ?_
    refine wl_valE (v := .pointer (some ⟨rb, 0, none⟩)) rfl (rf_move rfl) rfl ?_
    refine wl_valE (v := .pointer (some ⟨rb, 0, none⟩)) rfl (rf_nilCheckP rfl rfl) rfl ?_
    refine wl_valE (v := .pointer (some ⟨rb, 2, none⟩)) rfl (rf_fieldAddr Tryz.underlying50 rfl ti48 rfl rfl) rfl ?_
    refine wl_valE (v := .slice ya x.all.length yc) rfl (rf_load Tryz.underlying48 rfl rfl rfl ((H4.blk 0 rfl).cell rfl)) rfl ?_
    refine wl_valE (v := .int .i64 ((q : Nat) : Int)) rfl (rf_move rfl) rfl ?_
    refine wl_valE (v := .pointer (some ⟨ab ya, ao ya + q * 8, none⟩)) rfl (rf_indexAddrH Tryz.underlying48 ti110 rfl rfl rfl rfl (by omega) (by omega) (H4.rdO 2 slH_rd)) rfl ?_
    refine wl_valE (v := .pointer (some ⟨ab ya, ao ya + q * 8 + 3, none⟩)) rfl (rf_fieldAddr Tryz.underlying110 rfl ti71 rfl rfl) rfl ?_
    refine wl_valE (v := .pointer (some ⟨ab ya, ao ya + q * 8 + 5, none⟩)) rfl (rf_fieldAddr Tryz.underlying71 rfl ti4 rfl rfl) rfl ?_
    refine wl_valE (v := .bool y.fill) rfl (rf_load Tryz.underlying4 rfl rfl rfl (rd_el (H4.rdO 2 slH_rd) hy 5 _ rfl)) rfl ?_
    refine wl_nil ?_
    refine thn ?_
    refine cond_ (t := y.fill) rfl rfl (fun c21 => ?_) (fun c21 => ?_)
    · refine seq_ ?_
      refine region_ ?_
      refine wl_valE (v := .int .i64 (95 : Int)) rfl (rf_assign rfl) rfl ?_
      refine wl_nil ?_
      refine thn ?_
      refine ret_ ?_
      refine thr ?_
      refine fin1 (v := .int .i64 (95 : Int)) Tryz.results15 rfl rfl ?_
      have H5 := rfH.close_ (rb := rb) (x := x) H4 [0, 2] (ya, yc) trivial rfl rfl
      try dsimp only [putsH, setH, List.cons_append, List.nil_append] at H5
      try dsimp only [putsH, setH, List.cons_append, List.nil_append] at H5
      exact ⟨_, ⟨x, (hr.filD hat.2.2 c21).1, by rw [(hr.filD (c := c) hat.2.2 c21).2], rfl⟩, H5.pick' [0] rfl rfl⟩
    · refine skip_ ?_
      refine thn ?_
      refine seq_ ?_
      refine region_ ?_
      refine wl_valE (v := .pointer (some ⟨rb, 0, none⟩)) rfl (rf_move rfl) rfl ?_
      refine wl_valE (v := .pointer (some ⟨rb, 0, none⟩)) rfl (rf_nilCheckP rfl rfl) rfl ?_
      refine wl_valE (v := .pointer (some ⟨rb, 2, none⟩)) rfl (rf_fieldAddr Tryz.underlying50 rfl ti48 rfl rfl) rfl ?_
      refine wl_valE (v := .slice ya x.all.length yc) rfl (rf_load Tryz.underlying48 rfl rfl rfl ((H4.blk 0 rfl).cell rfl)) rfl ?_
      refine wl_valE (v := .int .i64 ((q : Nat) : Int)) rfl (rf_move rfl) rfl ?_
      refine wl_valE (v := .pointer (some ⟨ab ya, ao ya + q * 8, none⟩)) rfl (rf_indexAddrH Tryz.underlying48 ti110 rfl rfl rfl rfl (by omega) (by omega) (H4.rdO 2 slH_rd)) rfl ?_
      refine wl_valE (v := .pointer (some ⟨ab ya, ao ya + q * 8 + 3, none⟩)) rfl (rf_fieldAddr Tryz.underlying110 rfl ti71 rfl rfl) rfl ?_
      refine wl_valE (v := .pointer (some ⟨ab ya, ao ya + q * 8 + 5, none⟩)) rfl (rf_fieldAddr Tryz.underlying71 rfl ti4 rfl rfl) rfl ?_
      refine wl_storeElH H4 2 (enc := encEnt) (i := q) (j := 5) (q := { y with fill := true }) (u := .bool true) (cs := [.bool true]) rfl rfl encEnt_len ti4 rfl rfl rfl rfl rfl rfl oneAll hy (leb rfl) rfl ?_
      intro w6 H6
      try dsimp only [putsH, setH, List.cons_append, List.nil_append] at H6
      have hx6 : (x.all.set q ({ y with fill := true }))[q]? = some ({ y with fill := true }) := List.getElem?_set_self (List.getElem?_eq_some_iff.1 hy).1
      refine wl_nil ?_
      refine thn ?_
      refine seq_ ?_
      refine seq_ ?_
      refine region_ ?_
      refine wl_valE (v := .pointer (some ⟨b1, 0, none⟩)) rfl (rf_fieldAddr Tryz.underlying43 rfl ti4 rfl rfl) rfl ?_
      refine wl_valE (v := .bool c.is_) rfl (rf_load Tryz.underlying4 rfl rfl rfl ((H6.blk 1 rfl).cell rfl)) rfl ?_
      refine wl_nil ?_
      refine thn ?_
      refine cond_ (t := c.is_) rfl rfl (fun c31 => ?_) (fun c31 => ?_)
      · refine region_v 9 (fun wq => St w0 S0 [] wq [blkH rb #[.int .i64 x.parts, .int .i64 x.cap, .slice ya x.all.length yc, .int .i64 x.last] 50, blkH b1 #[.bool c.is_, .int .i64 c.value] 43, slH encEnt 8 110 ya x.all.length yc (x.all.set q ({ y with fill := true }))]) mixedP (by kernel_rfl) ?_
        intro w7 hk7
        have H7 := H6.keep hk7
        have hS7 : St w0 S0 [] w7 [blkH rb #[.int .i64 x.parts, .int .i64 x.cap, .slice ya x.all.length yc, .int .i64 x.last] 50, blkH b1 #[.bool c.is_, .int .i64 c.value] 43, slH encEnt 8 110 ya x.all.length yc (x.all.set q ({ y with fill := true }))] := H7.pick' [0, 1, 2] rfl rfl
        refine vh_take (i := 0) (v := .pointer (some ⟨rb, 0, none⟩)) rfl rfl (by kernel_rfl) (by kernel_rfl) (by kernel_rfl) hS7 rfl (fun wq hq => rf_move rfl) rfl ?_
        refine vh_take (i := 1) (v := .pointer (some ⟨rb, 0, none⟩)) rfl rfl (by kernel_rfl) (by kernel_rfl) (by kernel_rfl) hS7 rfl (fun wq hq => rf_nilCheckP rfl rfl) rfl ?_
        refine vh_take (i := 2) (v := .pointer (some ⟨rb, 2, none⟩)) rfl rfl (by kernel_rfl) (by kernel_rfl) (by kernel_rfl) hS7 rfl (fun wq hq => rf_fieldAddr Tryz.underlying50 rfl ti48 rfl rfl) rfl ?_
        refine vh_take (i := 3) (v := .slice ya x.all.length yc) rfl rfl (by kernel_rfl) (by kernel_rfl) (by kernel_rfl) hS7 rfl (fun wq hq => rf_load Tryz.underlying48 rfl rfl rfl ((hq.blk 0 rfl).cell rfl)) rfl ?_
        refine vh_take (i := 4) (v := .int .i64 ((q : Nat) : Int)) rfl rfl (by kernel_rfl) (by kernel_rfl) (by kernel_rfl) hS7 rfl (fun wq hq => rf_move rfl) rfl ?_
        refine vh_take (i := 5) (v := .agg #[.bool c.is_, .int .i64 c.value]) rfl rfl (by kernel_rfl) (by kernel_rfl) (by kernel_rfl) hS7 rfl (fun wq hq => rf_loadBlk Tryz.underlying43 rfl ti43 rfl rfl (hq.blk 1 rfl) (leb rfl)) rfl ?_
        refine vh_take (i := 6) (v := .pointer (some ⟨ab ya, ao ya + q * 8, none⟩)) rfl rfl (by kernel_rfl) (by kernel_rfl) (by kernel_rfl) hS7 rfl (fun wq hq => rf_indexAddrH Tryz.underlying48 ti110 rfl rfl rfl rfl (by omega) (by omega) (hq.rdO 2 slH_rd)) rfl ?_
        refine vh_take (i := 7) (v := .pointer (some ⟨ab ya, ao ya + q * 8 + 3, none⟩)) rfl rfl (by kernel_rfl) (by kernel_rfl) (by kernel_rfl) hS7 rfl (fun wq hq => rf_fieldAddr Tryz.underlying110 rfl ti71 rfl rfl) rfl ?_
        refine vh_take (i := 8) (v := .pointer (some ⟨ab ya, ao ya + q * 8 + 6, none⟩)) rfl rfl (by kernel_rfl) (by kernel_rfl) (by kernel_rfl) hS7 rfl (fun wq hq => rf_fieldAddr Tryz.underlying71 rfl ti43 rfl rfl) rfl ?_
        refine vh_last (by kernel_rfl) (by kernel_rfl) rfl ?_
        refine wl_storeElH H7 2 (enc := encEnt) (i := q) (j := 6) (q := { ({ y with fill := true }) with cell.is_ := c.is_, cell.value := c.value }) (u := .agg #[.bool c.is_, .int .i64 c.value]) (cs := [.bool c.is_, .int .i64 c.value]) rfl rfl encEnt_len ti43 rfl rfl rfl rfl rfl rfl oneAll hx6 (leb rfl) rfl ?_
        intro w8 H8
        have hx8 : ((x.all.set q ({ y with fill := true })).set q ({ ({ y with fill := true }) with cell.is_ := c.is_, cell.value := c.value }))[q]? = some ({ ({ y with fill := true }) with cell.is_ := c.is_, cell.value := c.value }) := List.getElem?_set_self (List.getElem?_eq_some_iff.1 hx6).1
        refine wl_nil ?_
        refine vh_end ?_
        refine thn ?_
        refine seq_ ?_
        refine region_ ?_
        refine wl_valE (v := .int .i64 (0 : Int)) rfl (rf_assign rfl) rfl ?_
        refine wl_nil ?_
        refine thn ?_
        refine ret_ ?_
        refine fin1 (v := .int .i64 (0 : Int)) Tryz.results15 rfl rfl ?_
        have hff : y.fill = false := c21
        have hfe : filE st y.v = 0 := by unfold filE; rw [hat.2.2]; simp [recE, hff]
        have hrw9 : (x.all.set q ({ y with fill := true })).set q ({ ({ y with fill := true }) with cell.is_ := c.is_, cell.value := c.value }) = (filX x q y c).all := by unfold filX filY; simp [c31]
        rw [hrw9] at H8
        have hrw10 : x.all.length = (filX x q y c).all.length := by unfold filX; simp
        rw [hrw10] at H8
        have H11 := rfH.close_ (rb := rb) (x := filX x q y c) H8 [0, 2] (ya, yc) trivial rfl rfl
        try dsimp only [putsH, setH, List.cons_append, List.nil_append] at H11
        exact ⟨_, ⟨filX x q y c, hr.fil hy hff c, by rw [hfe], rfl⟩, H11.pick' [0] rfl rfl⟩
      · refine skip_ ?_
        refine thn ?_
        refine seq_ ?_
        refine region_ ?_
        refine wl_valE (v := .int .i64 (0 : Int)) rfl (rf_assign rfl) rfl ?_
        refine wl_nil ?_
        refine thn ?_
        refine ret_ ?_
        refine fin1 (v := .int .i64 (0 : Int)) Tryz.results15 rfl rfl ?_
        have hff : y.fill = false := c21
        have hfe : filE st y.v = 0 := by unfold filE; rw [hat.2.2]; simp [recE, hff]
        have hrw12 : x.all.set q ({ y with fill := true }) = (filX x q y c).all := by unfold filX filY; simp [c31]
        rw [hrw12] at H6
        have hrw13 : x.all.length = (filX x q y c).all.length := by unfold filX; simp
        rw [hrw13] at H6
        have H14 := rfH.close_ (rb := rb) (x := filX x q y c) H6 [0, 2] (ya, yc) trivial rfl rfl
        try dsimp only [putsH, setH, List.cons_append, List.nil_append] at H14
        exact ⟨_, ⟨filX x q y c, hr.fil hy hff c, by rw [hfe], rfl⟩, H14.pick' [0] rfl rfl⟩
theorem remove9_tr (rb : Nat) (x : RS) (st : StS) (hr : Rel st x) (hal : x.all.length ≤ 65536) (v : Int) : Tr Tryz.prog 17 [.pointer (some ⟨rb, 0, none⟩), .int .i64 v] [] [rfH rb x] (fun vv m => ∃ x2, Rel (remS st v) x2 ∧ vv = .int .i64 (refE st v) ∧ m = [rfH rb x2]) := by
  intro w0 S0 H0
  refine enterR Tryz.func17 rfl Tryz.ntmps17 rfl ?_
  intro g0
  refine seq_ ?_
  refine region_ ?_
  refine wl_valE (v := .int .i64 (0 : Int)) rfl (rf_assign rfl) rfl ?_
  refine wl_nil ?_
  refine thn ?_
  refine seq_ ?_
  refine region_ ?_
  refine wl_valE (v := .pointer (some ⟨rb, 0, none⟩)) rfl (rf_move rfl) rfl ?_
  refine wl_valE (v := .int .i64 v) rfl (rf_move rfl) rfl ?_
  refine wl_tr H0 rfl [] (at_tr rb x v hr.nod hal) rfl (.own 0 rfl Le.rfl .nil) (rf_call Tryz.call50 rfl rfl) rfl ?_
  rintro _ w1 _ ⟨bv, hbv, rfl, rfl⟩ H1
  refine wl_valE (v := .int .i64 bv) rfl (rf_assign rfl) rfl ?_
  refine wl_nil ?_
  refine thn ?_
  refine seq_ ?_
  refine seq_ ?_
  refine region_ ?_
  refine wl_valE (v := .int .i64 bv) rfl (rf_move rfl) rfl ?_
  refine wl_valE (v := .bool (decide (bv < (0 : Int)))) rfl (rf_lss rfl rfl rfl rfl) rfl ?_
  refine wl_nil ?_
  refine thn ?_
  refine cond_ (t := decide (bv < (0 : Int))) rfl rfl (fun c11 => ?_) (fun c11 => ?_)
  · have c11p := of_decide_eq_true c11
    have hnone := hr.no hbv c11p
    refine seq_ ?_
    refine region_ ?_
    refine wl_valE (v := .int .i64 (93 : Int)) rfl (rf_assign rfl) rfl ?_
    refine wl_nil ?_
    refine thn ?_
    refine ret_ ?_
    refine thr ?_
    refine fin1 (v := .int .i64 (93 : Int)) Tryz.results17 rfl rfl ?_
    exact ⟨_, ⟨x, (hr.remN hnone).1, by rw [(hr.remN hnone).2], rfl⟩, H1.pick' [0] rfl rfl⟩
  · have c11p := of_decide_eq_false c11
    obtain ⟨⟨ya, yc⟩, -, H2⟩ := rfH.open_ H1 0 rfl rfl
    try dsimp only [putsH, setH, List.cons_append, List.nil_append] at H2
    obtain ⟨q, y, rfl, hq, hy, hpy, _⟩ := hbv.some c11p
    have hpv : y.v = v := of_decide_eq_true hpy
    subst hpv
    have hat := hr.at hy
    have hyc := (slH_len H2 1 rfl)
    refine skip_ ?_
    refine thn ?_
    refine seq_ ?_
    refine region_ ?_
    refine wl_valE (v := .slice none 0 0) rfl (rf_assign rfl) rfl ?_
    refine wl_nil ?_
    refine thn ?_
    refine seq_ ?_
    refine region_ ?_
    refine wl_valE (v := .slice none 0 0) rfl (rf_move rfl) rfl ?_
    refine wl_valE (v := .pointer (some ⟨rb, 0, none⟩)) rfl (rf_move rfl) rfl ?_
    refine wl_valE (v := .pointer (some ⟨rb, 0, none⟩)) rfl (rf_nilCheckP rfl rfl) rfl ?_
    refine wl_valE (v := .pointer (some ⟨rb, 2, none⟩)) rfl (rf_fieldAddr Tryz.underlying50 rfl ti48 rfl rfl) rfl ?_
    refine wl_valE (v := .slice ya x.all.length yc) rfl (rf_load Tryz.underlying48 rfl rfl rfl ((H2.blk 0 rfl).cell rfl)) rfl ?_
    refine wl_valE (v := .int .i64 ((q : Nat) : Int)) rfl (rf_move rfl) rfl ?_
    refine wl_valE (v := .slice ya _ yc) rfl (rf_sliceTo (h := _) Tryz.underlying48 ti110 rfl rfl rfl rfl (by omega)) rfl ?_
    have Hn3 := H2.addNil encEnt 8 110
    refine wl_appendH (enc := encEnt) (N := q) Hn3 2 rfl rfl encEnt_len encEnt_one Tryz.underlying48 ti110 rfl rfl rfl rfl rfl (Hn3.rdO 1 (slH_rd.trans (rdH_take q (by omega)))) (Nat.zero_add _) (by omega) (by omega) ?_
    intro a4 c4 w4 hc4 hd4 H4
    refine wl_valE (v := .slice a4 q c4) rfl (rf_assign rfl) rfl ?_
    refine wl_nil ?_
    refine thn ?_
    refine seq_ ?_
    refine region_ ?_
    refine wl_valE (v := .pointer (some ⟨rb, 0, none⟩)) rfl (rf_move rfl) rfl ?_
    refine wl_valE (v := .slice a4 q c4) rfl (rf_move rfl) rfl ?_
    refine wl_valE (v := .pointer (some ⟨rb, 0, none⟩)) rfl (rf_move rfl) rfl ?_
    refine wl_valE (v := .pointer (some ⟨rb, 0, none⟩)) rfl (rf_nilCheckP rfl rfl) rfl ?_
    refine wl_valE (v := .pointer (some ⟨rb, 2, none⟩)) rfl (rf_fieldAddr Tryz.underlying50 rfl ti48 rfl rfl) rfl ?_
    refine wl_valE (v := .slice ya x.all.length yc) rfl (rf_load Tryz.underlying48 rfl rfl rfl ((H4.blk 0 rfl).cell rfl)) rfl ?_
    refine wl_valE (v := .int .i64 ((q : Nat) : Int)) rfl (rf_move rfl) rfl ?_
    refine wl_valE (v := .int .i64 ((q + 1 : Nat) : Int)) rfl (rf_add rfl rfl rfl rfl (by rw [IntWalk.i64_in _ (by omega)]; omega)) rfl ?_
    refine wl_valE (v := .slice (dropA ya 8 (q + 1) yc) (x.all.length - (q + 1)) (yc - (q + 1))) rfl (rf_sliceFrom (l := q + 1) Tryz.underlying48 ti110 rfl rfl rfl rfl (by omega)) rfl ?_
    refine wl_appendH (enc := encEnt) (N := (remX x q).all.length) H4 2 rfl rfl encEnt_len encEnt_one Tryz.underlying48 ti110 rfl rfl rfl rfl rfl (H4.rdO 1 (slH_rd.trans (rdH_drop (q + 1) (by omega)))) (by simp [remX]; omega) (by simp [remX]; omega) (by simp [remX]; omega) ?_
    intro a5 c5 w5 hc5 hd5 H5
    try dsimp only [putsH, setH, List.cons_append, List.nil_append] at H5
    refine wl_valE (v := .pointer (some ⟨rb, 0, none⟩)) rfl (rf_nilCheckP rfl rfl) rfl ?_
    refine wl_valE (v := .pointer (some ⟨rb, 2, none⟩)) rfl (rf_fieldAddr Tryz.underlying50 rfl ti48 rfl rfl) rfl ?_
    refine wl_storeH H5 0 (v := .slice a5 ((remX x q).all.length) c5) (A' := #[.int .i64 x.parts, .int .i64 x.cap, .slice a5 ((remX x q).all.length) c5, .int .i64 x.last]) rfl rfl ti48 rfl rfl rfl rfl rfl (ltb rfl) rfl ?_
    intro w6 H6
    refine wl_nil ?_
    refine thn ?_
    refine seq_ ?_
    refine region_ ?_
    refine wl_valE (v := .int .i64 (0 : Int)) rfl (rf_assign rfl) rfl ?_
    refine wl_nil ?_
    refine thn ?_
    refine ret_ ?_
    refine fin1 (v := .int .i64 (0 : Int)) Tryz.results17 rfl rfl ?_
    have H7 := rfH.close_ (rb := rb) (x := remX x q) H6 [0, 2] (a5, c5) trivial rfl rfl
    try dsimp only [putsH, setH, List.cons_append, List.nil_append] at H7
    exact ⟨_, ⟨remX x q, hr.rem hy, by rw [hat.2.1], rfl⟩, H7.pick' [0] rfl rfl⟩
theorem chain9_tr (rb : Nat) (x : RS) (st : StS) (hr : Rel st x) (hal : x.all.length ≤ 65536) (k : Key) : Tr Tryz.prog 29 [.pointer (some ⟨rb, 0, none⟩), .agg #[.int .i64 k.table, .int .i64 k.row]] [rfH rb x] [] (fun vv m => ∃ a c, vv = .slice a (chnF st k).length c ∧ m = [slH encVer 5 71 a (chnF st k).length c (chnF st k)]) := by
  intro w0 S0 H0
  obtain ⟨⟨ya, yc⟩, -, H1⟩ := rfH.openR H0 0 rfl
  try dsimp only [List.cons_append, List.nil_append] at H1
  have hchl : (chnF st k).length ≤ x.all.length := by unfold chnF; rw [List.length_map, List.length_reverse, hr.ch k, List.length_map]; exact List.length_filter_le _ _
  refine enterR Tryz.func29 rfl Tryz.ntmps29 rfl ?_
  intro g0
  refine seq_ ?_
  refine region_ ?_
  refine wl_boxH H1 (v := .agg #[.int .i64 k.table, .int .i64 k.row]) rfl rfl ?_
  intro b2 w3 H3
  refine wl_valE (v := .slice none 0 0) rfl (rf_assign rfl) rfl ?_
  refine wl_nil ?_
  refine thn ?_
  refine seq_ ?_
  refine region_ ?_
  refine wl_valE (v := .slice none 0 0) rfl (rf_assign rfl) rfl ?_
  refine wl_nil ?_
  refine thn ?_
  refine seq_ ?_
  refine seq_ ?_
  refine region_q mixedP (by kernel_rfl) ?_
  refine qt_valE (v := .pointer (some ⟨rb, 0, none⟩)) rfl (fun wq hq => rf_move rfl) rfl ?_
  refine qt_valE (v := .agg #[.int .i64 k.table, .int .i64 k.row]) rfl (fun wq hq => rf_loadBlk Tryz.underlying41 rfl ti41 rfl rfl ((H3.keep hq).blk 0 rfl) (leb rfl)) rfl ?_
  refine qt_ret (v := .agg #[.int .i64 9223372036854775807, .int .i64 9223372036854775807, .bool false, .bool false, .int .i64 0]) rfl (fun wq hq => ((top_tr).quiet (H3.keep hq) .nil (by rintro _ _ ⟨rfl, rfl⟩; exact rfl)).mono (fun _ _ h => ⟨h.1, hq.trans h.2⟩)) (fun wq hq => rf_call Tryz.call48 rfl rfl) ?_
  refine qt_ret (v := .int .i64 (topI (blwE k topV) x.all)) rfl (fun wq hq => ((below_tr rb x k topV (fun h1 h2 h3 h4 => hr.srt h1 h2 h3 h4) hal).quiet (H3.keep hq) (.ro 0 Le.rfl .nil) (by rintro _ _ ⟨rfl, rfl⟩; exact rfl)).mono (fun _ _ h => ⟨h.1, hq.trans h.2⟩)) (fun wq hq => rf_call Tryz.call47 rfl rfl) ?_
  refine qt_valE (v := .int .i64 (topI (blwE k topV) x.all)) rfl (fun wq hq => rf_assign rfl) rfl ?_
  refine qt_nil ?_
  intro w4 hk4
  have H4 := H3.keep hk4
  refine thn ?_
  refine block_ ?_
  have H5 := H4.addNil encVer 5 71 (α := Ver)
  refine loop_ (fun qk_ qf_ qw_ => ∃ (g : Nat → Value) (q m : Nat) (l : List Ver) (wa : Option Addr) (wc : Nat) (b : Int), qf_ = upds g [(0, .pointer (some ⟨rb, 0, none⟩)), (3, .pointer (some ⟨b2, 0, none⟩)), (5, .slice wa m wc), (6, .int .i64 b)] ∧ qk_ = q ∧ (q ≤ x.all.length ∧ m = l.length) ∧ (IsLast (keyE k) x.all q b) ∧ (l ++ restE x k q = chnF st k) ∧ St w0 S0 [rfH rb x, blkH rb #[.int .i64 x.parts, .int .i64 x.cap, .slice ya x.all.length yc, .int .i64 x.last] 50, slH encEnt 8 110 ya x.all.length yc x.all] qw_ [blkH b2 #[.int .i64 k.table, .int .i64 k.row] 41, slH encVer 5 71 wa m wc l]) (x.all.length) ?_ ?_
  · refine ⟨_, x.all.length, 0, [], none, 0, topI (blwE k topV) x.all, upds_self ⟨rfl, rfl, rfl, rfl, trivial⟩, rfl, ⟨Nat.le_refl _, rfl⟩, (topI_is _ _).congr (hr.top k), rest_all hr k, H5.pick' [0, 1] rfl rfl⟩
  · rintro lk0 _ wl0 ⟨gl0, q, m, l, wa, wc, b, rfl, hlk0, ⟨hq, hm⟩, hb, hl, HL0⟩
    refine seq_ ?_
    refine seq_ ?_
    refine region_ ?_
    refine wl_valE (v := .int .i64 b) rfl (rf_move rfl) rfl ?_
    refine wl_valE (v := .bool (decide ((0 : Int) ≤ b))) rfl (rf_geq rfl rfl rfl rfl) rfl ?_
    refine wl_nil ?_
    refine thn ?_
    refine cond_ (t := decide ((0 : Int) ≤ b)) rfl rfl (fun c12 => ?_) (fun c12 => ?_)
    · have c12p := of_decide_eq_true c12
      obtain ⟨p, y, rfl, hp, hy, hpy, hno⟩ := hb.some (by omega)
      have hky : y.key = k := of_decide_eq_true hpy
      have hpl := (List.getElem?_eq_some_iff.1 hy).1
      have hlen := congrArg List.length hl
      rw [List.length_append, rest_some hp hy hpy hno, List.length_cons] at hlen
      refine skip_ ?_
      refine thn ?_
      refine seq_ ?_
      refine block_ ?_
      refine region_ ?_
      refine wl_valE (v := .slice wa m wc) rfl (rf_move rfl) rfl ?_
      refine wl_valE (v := .pointer (some ⟨rb, 0, none⟩)) rfl (rf_move rfl) rfl ?_
      refine wl_valE (v := .pointer (some ⟨rb, 0, none⟩)) rfl (rf_nilCheckP rfl rfl) rfl ?_
      refine wl_valE (v := .pointer (some ⟨rb, 2, none⟩)) rfl (rf_fieldAddr Tryz.underlying50 rfl ti48 rfl rfl) rfl ?_
      refine wl_valE (v := .slice ya x.all.length yc) rfl (rf_load Tryz.underlying48 rfl rfl rfl ((HL0.blkR 1 rfl).cell rfl)) rfl ?_
      refine wl_valE (v := .int .i64 ((p : Nat) : Int)) rfl (rf_move rfl) rfl ?_
      refine wl_valE (v := .pointer (some ⟨ab ya, ao ya + p * 8, none⟩)) rfl (rf_indexAddrH Tryz.underlying48 ti110 rfl rfl rfl rfl (by omega) (by omega) (HL0.rdR 2 slH_rd)) rfl ?_
      refine wl_valE (v := .pointer (some ⟨ab ya, ao ya + p * 8 + 3, none⟩)) rfl (rf_fieldAddr Tryz.underlying110 rfl ti71 rfl rfl) rfl ?_
      refine wl_valE (v := .agg #[.int .i64 y.batch, .int .i64 y.index, .bool y.fill, .bool y.cell.is_, .int .i64 y.cell.value]) rfl (rf_loadAgg (cs := [.int .i64 y.batch, .int .i64 y.index, .bool y.fill, .bool y.cell.is_, .int .i64 y.cell.value]) Tryz.underlying71 rfl ti71 rfl rfl (el_sub' (rd_el (HL0.rdR 2 slH_rd) hy) 3 5 rfl) rfl) rfl ?_
      refine wl_buildSliceH (enc := encVer) HL0 [verE y] encVer_len Tryz.underlying81 ti71 rfl rfl rfl (.cons rfl rfl rfl rfl rfl rfl .nil) ?_
      intro a6 w7 H7
      refine wl_appendH (enc := encVer) (N := m + 1) H7 1 rfl rfl encVer_len encVer_one Tryz.underlying81 ti71 rfl rfl rfl rfl rfl (H7.rdO 2 slH_rd) rfl (by omega) (by omega) ?_
      intro a8 c8 w8 hc8 hd8 H8
      refine wl_valE (v := .slice a8 (m + 1) c8) rfl (rf_assign rfl) rfl ?_
      refine wl_nil ?_
      refine bln ?_
      refine thn ?_
      refine region_q mixedP (by kernel_rfl) ?_
      refine qt_valE (v := .pointer (some ⟨rb, 0, none⟩)) rfl (fun wq hq => rf_move rfl) rfl ?_
      refine qt_valE (v := .agg #[.int .i64 k.table, .int .i64 k.row]) rfl (fun wq hq => rf_loadBlk Tryz.underlying41 rfl ti41 rfl rfl ((H8.keep hq).blk 0 rfl) (leb rfl)) rfl ?_
      refine qt_valE (v := .pointer (some ⟨rb, 0, none⟩)) rfl (fun wq hq => rf_move rfl) rfl ?_
      refine qt_valE (v := .pointer (some ⟨rb, 0, none⟩)) rfl (fun wq hq => rf_nilCheckP rfl rfl) rfl ?_
      refine qt_valE (v := .pointer (some ⟨rb, 2, none⟩)) rfl (fun wq hq => rf_fieldAddr Tryz.underlying50 rfl ti48 rfl rfl) rfl ?_
      refine qt_valE (v := .slice ya x.all.length yc) rfl (fun wq hq => rf_load Tryz.underlying48 rfl rfl rfl (((H8.keep hq).blkR 1 rfl).cell rfl)) rfl ?_
      refine qt_valE (v := .int .i64 ((p : Nat) : Int)) rfl (fun wq hq => rf_move rfl) rfl ?_
      refine qt_valE (v := .pointer (some ⟨ab ya, ao ya + p * 8, none⟩)) rfl (fun wq hq => rf_indexAddrH Tryz.underlying48 ti110 rfl rfl rfl rfl (by omega) (by omega) ((H8.keep hq).rdR 2 slH_rd)) rfl ?_
      refine qt_valE (v := .pointer (some ⟨ab ya, ao ya + p * 8 + 3, none⟩)) rfl (fun wq hq => rf_fieldAddr Tryz.underlying110 rfl ti71 rfl rfl) rfl ?_
      refine qt_valE (v := .agg #[.int .i64 y.batch, .int .i64 y.index, .bool y.fill, .bool y.cell.is_, .int .i64 y.cell.value]) rfl (fun wq hq => rf_loadAgg (cs := [.int .i64 y.batch, .int .i64 y.index, .bool y.fill, .bool y.cell.is_, .int .i64 y.cell.value]) Tryz.underlying71 rfl ti71 rfl rfl (el_sub' (rd_el ((H8.keep hq).rdR 2 slH_rd) hy) 3 5 rfl) rfl) rfl ?_
      refine qt_ret (v := .int .i64 (topI (blwE k (verE y)) x.all)) rfl (fun wq hq => ((below_tr rb x k (verE y) (fun h1 h2 h3 h4 => hr.srt h1 h2 h3 h4) hal).quiet (H8.keep hq) (.ro 0 Le.rfl .nil) (by rintro _ _ ⟨rfl, rfl⟩; exact rfl)).mono (fun _ _ h => ⟨h.1, hq.trans h.2⟩)) (fun wq hq => rf_call Tryz.call47 rfl rfl) ?_
      refine qt_valE (v := .int .i64 (topI (blwE k (verE y)) x.all)) rfl (fun wq hq => rf_assign rfl) rfl ?_
      refine qt_nil ?_
      intro w9 hk9
      have H9 := H8.keep hk9
      refine thn ?_
      refine ⟨p, _, rfl, (by omega), _, p, m + 1, l ++ ([verE y]), a8, c8, topI (blwE k (verE y)) x.all, upds_self ⟨rfl, rfl, rfl, rfl, trivial⟩, rfl, ⟨by omega, by simp [hm]⟩, hky ▸ (topI_is _ _).cut (Nat.le_of_lt hpl) (hr.below hy), by rw [← hl, rest_some hp hy hpy hno]; simp, H9.pick' [0, 1] rfl rfl⟩
    · have c12p := of_decide_eq_false c12
      have hlc : l = chnF st k := by rw [← hl, rest_none hb (by omega), List.append_nil]
      refine exit_ ?_
      refine thx (thx (blx ?_))
      refine thn ?_
      refine seq_ ?_
      refine region_ ?_
      refine wl_valE (v := .slice wa m wc) rfl (rf_move rfl) rfl ?_
      refine wl_valE (v := .slice wa m wc) rfl (rf_assign rfl) rfl ?_
      refine wl_nil ?_
      refine thn ?_
      refine ret_ ?_
      refine fin1 (v := .slice wa m wc) Tryz.results29 rfl rfl ?_
      subst hlc
      exact ⟨_, ⟨wa, wc, by rw [hm], by rw [hm]; rfl⟩, (HL0.weakR 1 rfl).pick' [1] rfl rfl⟩
theorem keys9_tr (rb : Nat) (x : RS) (st : StS) (hr : Rel st x) (hal : x.all.length ≤ 65536) (p : Int) : Tr Tryz.prog 33 [.pointer (some ⟨rb, 0, none⟩), .int .i64 p] [rfH rb x] [] (fun vv m => ∃ a c l, IsKeys st p l ∧ vv = .slice a l.length c ∧ m = [slH encKey 2 41 a l.length c l]) := by
  intro w0 S0 H0
  obtain ⟨⟨ya, yc⟩, -, H1⟩ := rfH.openR H0 0 rfl
  try dsimp only [List.cons_append, List.nil_append] at H1
  refine enterR Tryz.func33 rfl Tryz.ntmps33 rfl ?_
  intro g0
  refine seq_ ?_
  refine region_ ?_
  refine wl_valE (v := .slice none 0 0) rfl (rf_assign rfl) rfl ?_
  refine wl_nil ?_
  refine thn ?_
  refine seq_ ?_
  refine region_ ?_
  refine wl_valE (v := .slice none 0 0) rfl (rf_assign rfl) rfl ?_
  refine wl_nil ?_
  refine thn ?_
  refine seq_ ?_
  refine seq_ ?_
  refine region_ ?_
  refine wl_valE (v := .int .i64 (0 : Int)) rfl (rf_assign rfl) rfl ?_
  refine wl_nil ?_
  refine thn ?_
  refine block_ ?_
  have H2 := H1.addNil encKey 2 41 (α := Key)
  refine loop_ (fun qk_ qf_ qw_ => ∃ (g : Nat → Value) (i m : Nat) (l : List Key) (wa : Option Addr) (wc : Nat), qf_ = upds g [(0, .pointer (some ⟨rb, 0, none⟩)), (1, .int .i64 p), (5, .slice wa m wc), (6, .int .i64 ((i : Nat) : Int))] ∧ qk_ = x.all.length - i ∧ (i ≤ x.all.length ∧ m = l.length ∧ m ≤ i) ∧ (l = ksE st p (x.all.take i)) ∧ St w0 S0 [rfH rb x, blkH rb #[.int .i64 x.parts, .int .i64 x.cap, .slice ya x.all.length yc, .int .i64 x.last] 50, slH encEnt 8 110 ya x.all.length yc x.all] qw_ [slH encKey 2 41 wa m wc l]) (x.all.length - 0) ?_ ?_
  · refine ⟨_, 0, 0, [], none, 0, upds_self ⟨rfl, rfl, rfl, rfl, trivial⟩, rfl, ⟨Nat.zero_le _, rfl, Nat.le_refl _⟩, rfl, H2.pick' [0] rfl rfl⟩
  · rintro lk0 _ wl0 ⟨gl0, i, m, l, wa, wc, rfl, hlk0, ⟨hi, hm, hmi⟩, hl, HL0⟩
    refine seq_ ?_
    refine seq_ ?_
    refine region_ ?_
    refine wl_valE (v := .int .i64 ((i : Nat) : Int)) rfl (rf_move rfl) rfl ?_
    refine wl_valE (v := .pointer (some ⟨rb, 0, none⟩)) rfl (rf_move rfl) rfl ?_
    refine wl_valE (v := .pointer (some ⟨rb, 0, none⟩)) rfl (rf_nilCheckP rfl rfl) rfl ?_
    refine wl_valE (v := .pointer (some ⟨rb, 2, none⟩)) rfl (rf_fieldAddr Tryz.underlying50 rfl ti48 rfl rfl) rfl ?_
    refine wl_valE (v := .slice ya x.all.length yc) rfl (rf_load Tryz.underlying48 rfl rfl rfl ((HL0.blkR 1 rfl).cell rfl)) rfl ?_
    refine wl_valE (v := .int .i64 ((x.all.length : Nat) : Int)) rfl (rf_len_slice Tryz.underlying48 rfl rfl) rfl ?_
    refine wl_valE (v := .bool (decide (((i : Nat) : Int) < ((x.all.length : Nat) : Int)))) rfl (rf_lss rfl rfl rfl rfl) rfl ?_
    refine wl_nil ?_
    refine thn ?_
    refine cond_ (t := decide (((i : Nat) : Int) < ((x.all.length : Nat) : Int))) rfl rfl (fun c13 => ?_) (fun c13 => ?_)
    · have c13p := of_decide_eq_true c13
      refine skip_ ?_
      refine thn ?_
      refine seq_ ?_
      refine block_ ?_
      refine seq_ ?_
      have hn3 := rd_len (HL0.rdR 2 slH_rd)
      obtain ⟨e, he⟩ : ∃ q_, x.all[i]? = some q_ := ⟨_, List.getElem?_eq_getElem (by omega)⟩
      refine region_ ?_
      refine wl_valE (v := .pointer (some ⟨rb, 0, none⟩)) rfl (rf_move rfl) rfl ?_
      refine wl_valE (v := .pointer (some ⟨rb, 0, none⟩)) rfl (rf_move rfl) rfl ?_
      refine wl_valE (v := .pointer (some ⟨rb, 0, none⟩)) rfl (rf_nilCheckP rfl rfl) rfl ?_
      refine wl_valE (v := .pointer (some ⟨rb, 2, none⟩)) rfl (rf_fieldAddr Tryz.underlying50 rfl ti48 rfl rfl) rfl ?_
      refine wl_valE (v := .slice ya x.all.length yc) rfl (rf_load Tryz.underlying48 rfl rfl rfl ((HL0.blkR 1 rfl).cell rfl)) rfl ?_
      refine wl_valE (v := .int .i64 ((i : Nat) : Int)) rfl (rf_move rfl) rfl ?_
      refine wl_valE (v := .pointer (some ⟨ab ya, ao ya + i * 8, none⟩)) rfl (rf_indexAddrH Tryz.underlying48 ti110 rfl rfl rfl rfl (by omega) (by omega) (HL0.rdR 2 slH_rd)) rfl ?_
      refine wl_valE (v := .pointer (some ⟨ab ya, ao ya + i * 8 + 1, none⟩)) rfl (rf_fieldAddr Tryz.underlying110 rfl ti41 rfl rfl) rfl ?_
      refine wl_valE (v := .agg #[.int .i64 e.key.table, .int .i64 e.key.row]) rfl (rf_loadAgg (cs := [.int .i64 e.key.table, .int .i64 e.key.row]) Tryz.underlying41 rfl ti41 rfl rfl (el_sub' (rd_el (HL0.rdR 2 slH_rd) he) 1 2 rfl) rfl) rfl ?_
      refine wl_tr HL0 rfl [] (part9_tr rb x _ hr hal e.key) rfl (.ro 0 Le.rfl .nil) (rf_call Tryz.call8 rfl rfl) rfl ?_
      rintro _ w4 _ ⟨rfl, rfl⟩ H4
      refine wl_valE (v := .int .i64 p) rfl (rf_move rfl) rfl ?_
      refine wl_valE (v := .bool (decide (partF st e.key = p))) rfl (rf_eql rfl rfl rfl rfl) rfl ?_
      refine wl_nil ?_
      refine thn ?_
      refine cond_ (t := decide (partF st e.key = p)) rfl rfl (fun c27 => ?_) (fun c27 => ?_)
      · have c27p := of_decide_eq_true c27
        refine region_ ?_
        refine wl_valE (v := .slice wa m wc) rfl (rf_move rfl) rfl ?_
        refine wl_valE (v := .pointer (some ⟨rb, 0, none⟩)) rfl (rf_move rfl) rfl ?_
        refine wl_valE (v := .pointer (some ⟨rb, 0, none⟩)) rfl (rf_nilCheckP rfl rfl) rfl ?_
        refine wl_valE (v := .pointer (some ⟨rb, 2, none⟩)) rfl (rf_fieldAddr Tryz.underlying50 rfl ti48 rfl rfl) rfl ?_
        refine wl_valE (v := .slice ya x.all.length yc) rfl (rf_load Tryz.underlying48 rfl rfl rfl ((H4.blkR 1 rfl).cell rfl)) rfl ?_
        refine wl_valE (v := .int .i64 ((i : Nat) : Int)) rfl (rf_move rfl) rfl ?_
        refine wl_valE (v := .pointer (some ⟨ab ya, ao ya + i * 8, none⟩)) rfl (rf_indexAddrH Tryz.underlying48 ti110 rfl rfl rfl rfl (by omega) (by omega) (H4.rdR 2 slH_rd)) rfl ?_
        refine wl_valE (v := .pointer (some ⟨ab ya, ao ya + i * 8 + 1, none⟩)) rfl (rf_fieldAddr Tryz.underlying110 rfl ti41 rfl rfl) rfl ?_
        refine wl_valE (v := .agg #[.int .i64 e.key.table, .int .i64 e.key.row]) rfl (rf_loadAgg (cs := [.int .i64 e.key.table, .int .i64 e.key.row]) Tryz.underlying41 rfl ti41 rfl rfl (el_sub' (rd_el (H4.rdR 2 slH_rd) he) 1 2 rfl) rfl) rfl ?_
        refine wl_buildSliceH (enc := encKey) H4 [e.key] encKey_len Tryz.underlying85 ti41 rfl rfl rfl (.cons rfl rfl rfl rfl rfl rfl .nil) ?_
        intro a5 w6 H6
        refine wl_appendH (enc := encKey) (N := m + 1) H6 0 rfl rfl encKey_len encKey_one Tryz.underlying85 ti41 rfl rfl rfl rfl rfl (H6.rdO 1 slH_rd) rfl (by omega) (by omega) ?_
        intro a7 c7 w7 hc7 hd7 H7
        refine wl_valE (v := .slice a7 (m + 1) c7) rfl (rf_assign rfl) rfl ?_
        refine wl_nil ?_
        refine bln ?_
        refine thn ?_
        refine region_ ?_
        refine wl_valE (v := .int .i64 ((i : Nat) : Int)) rfl (rf_move rfl) rfl ?_
        refine wl_valE (v := .int .i64 ((i + 1 : Nat) : Int)) rfl (rf_add rfl rfl rfl rfl (IntWalk.i64_in _ (by omega))) rfl ?_
        refine wl_valE (v := .int .i64 ((i + 1 : Nat) : Int)) rfl (rf_assign rfl) rfl ?_
        refine wl_nil ?_
        refine thn ?_
        refine ⟨x.all.length - (i + 1), _, rfl, (by omega), _, i + 1, m + 1, l ++ ([e.key]), a7, c7, upds_self ⟨rfl, rfl, rfl, rfl, trivial⟩, rfl, ⟨by omega, by simp [hm], by omega⟩, by rw [ksE_succ he, if_pos c27p, hl], H7.pick' [0] rfl rfl⟩
      · have c27p := of_decide_eq_false c27
        refine skip_ ?_
        refine bln ?_
        refine thn ?_
        refine region_ ?_
        refine wl_valE (v := .int .i64 ((i : Nat) : Int)) rfl (rf_move rfl) rfl ?_
        refine wl_valE (v := .int .i64 ((i + 1 : Nat) : Int)) rfl (rf_add rfl rfl rfl rfl (IntWalk.i64_in _ (by omega))) rfl ?_
        refine wl_valE (v := .int .i64 ((i + 1 : Nat) : Int)) rfl (rf_assign rfl) rfl ?_
        refine wl_nil ?_
        refine thn ?_
        refine ⟨x.all.length - (i + 1), _, rfl, (by omega), _, i + 1, m, l, wa, wc, upds_self ⟨rfl, rfl, rfl, rfl, trivial⟩, rfl, ⟨by omega, hm, by omega⟩, by rw [ksE_succ he, if_neg c27p, List.append_nil]; exact hl, H4.pick' [0] rfl rfl⟩
    · have c13p := of_decide_eq_false c13
      refine exit_ ?_
      refine thx (thx (blx ?_))
      refine thn ?_
      refine seq_ ?_
      obtain rfl : i = x.all.length := by omega
      rw [List.take_length] at hl
      refine region_ ?_
      refine wl_valE (v := .slice wa m wc) rfl (rf_move rfl) rfl ?_
      refine wl_tr HL0 rfl [] (sort2_tr wa m wc l (by omega) (by rw [hl]; exact hr.keysOk)) rfl (.own 0 rfl slH_rd .nil) (rf_call Tryz.call60 rfl rfl) rfl ?_
      rintro _ w8 _ ⟨qa, qc, ql, hql, rfl, rfl⟩ H8
      refine wl_valE (v := .tuple #[.slice qa ql.length qc, .int .i64 0]) rfl (rf_move rfl) rfl ?_
      refine wl_valE (v := .slice qa ql.length qc) rfl (rf_extract rfl rfl rfl) rfl ?_
      refine wl_valE (v := .int .i64 0) rfl (rf_extract rfl rfl rfl) rfl ?_
      refine wl_valE (v := .slice qa ql.length qc) rfl (rf_assign rfl) rfl ?_
      refine wl_nil ?_
      refine thn ?_
      refine seq_ ?_
      refine region_ ?_
      refine wl_valE (v := .slice qa ql.length qc) rfl (rf_move rfl) rfl ?_
      refine wl_valE (v := .slice qa ql.length qc) rfl (rf_assign rfl) rfl ?_
      refine wl_nil ?_
      refine thn ?_
      refine ret_ ?_
      refine fin1 (v := .slice qa ql.length qc) Tryz.results33 rfl rfl ?_
      exact ⟨_, ⟨qa, qc, ql, hr.keys hql.1 (fun k => by rw [hql.2, hl]), rfl, rfl⟩, (H8.weakR 1 rfl).pick' [1] rfl rfl⟩
end Go.Proofs.YtojcddlpkfhodaaGreat.W
