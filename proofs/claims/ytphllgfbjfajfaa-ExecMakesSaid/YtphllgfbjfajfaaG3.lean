import Derived.Test.YtphllgfbjfajfaaG2
import Derived.KernelRfl
namespace Go.Proofs.Ytphllgfbjfajfaa.W
open Go Go.Wk
set_option linter.unusedVariables false
set_option linter.unusedSimpArgs false

theorem sizeE_ne {p : ProgR} : sizeE p ≠ 0 ↔ ¬ sizeP p := by unfold sizeE; split <;> simp [*]
theorem firstE_bad {p : ProgR} {l : List InsR} {i : Nat} {x : InsR} {e : Int} (hx : l[i]? = some x) (he : insE p ((i : Nat) : Int) x = e) (h0 : e ≠ 0) : firstE p i (l.drop i) = e := by
  rw [drop_at hx]; unfold firstE; rw [he, if_pos h0]
theorem firstE_ok {p : ProgR} {l : List InsR} {i : Nat} {x : InsR} (hx : l[i]? = some x) (he : insE p ((i : Nat) : Int) x = 0) : firstE p i (l.drop i) = firstE p (i + 1) (l.drop (i + 1)) := by
  rw [drop_at hx]; conv => lhs; unfold firstE
  rw [he]; simp
theorem ver_size {p : ProgR} (hs : ¬ sizeP p) : verE p = 30 := by unfold verE; rw [if_neg hs]
theorem ver_first {p : ProgR} {e : Int} (hs : sizeP p) (hf : firstE p 0 p.cl = e) (h0 : e ≠ 0) : verE p = e := by unfold verE; rw [if_pos hs, hf, if_pos h0]
theorem ver_dep {p : ProgR} {e : Int} (hs : sizeP p) (hf : firstE p 0 p.cl = 0) (hd : depE p.cl 0 (d0 p.code.n) = e) : verE p = e := by unfold verE; rw [if_pos hs, hf, hd]; rfl
theorem rep_set {m j : Nat} (hj : j < m) : (List.replicate j (-1 : Int) ++ List.replicate (m - j) 0).set j (-1) = List.replicate (j + 1) (-1) ++ List.replicate (m - (j + 1)) 0 := by
  rw [List.set_append_right _ _ (by simp), List.length_replicate, Nat.sub_self, show m - j = (m - (j + 1)) + 1 from by omega, List.replicate_succ, List.set_cons_zero, List.replicate_succ']
  simp
theorem rep_end (n : Nat) : (List.replicate (n + 1) (-1 : Int) ++ List.replicate (n + 1 - (n + 1)) 0).set 0 0 = d0 n := by
  rw [Nat.sub_self]; simp [List.replicate_succ, d0]
theorem d0_in (n : Nat) : ∀ z ∈ d0 n, -1 ≤ z ∧ z ≤ 32 := fun z hz => by
  unfold d0 at hz
  rcases List.mem_cons.1 hz with h | h
  · omega
  · have := (List.mem_replicate.1 h).2; omega
theorem tk_in (op : Int) : 0 ≤ tkF op ∧ tkF op ≤ 2 := by unfold tkF; omega
theorem lv_in (op : Int) : 0 ≤ lvF op ∧ lvF op ≤ 2 := by unfold lvF; omega
theorem set_in {d : List Int} {i : Nat} {n : Int} (h : ∀ z ∈ d, -1 ≤ z ∧ z ≤ 32) (hn : -1 ≤ n ∧ n ≤ 32) : ∀ z ∈ d.set i n, -1 ≤ z ∧ z ≤ 32 := fun z hz => by
  rcases List.mem_or_eq_of_mem_set hz with h1 | h1
  · exact h z h1
  · omega
theorem ref_jump {p : ProgR} {x : InsR} {i : Int} (h : 0 ≤ x.op ∧ x.op < 37) (hj : x.op = 30 ∨ x.op = 31) (ha : x.a ≤ i ∨ ((p.code.n : Nat) : Int) < x.a) : insE p i x = 33 := by unfold insE argE; omega
theorem ref_arg {p : ProgR} {x : InsR} {i : Int} (h : 0 ≤ x.op ∧ x.op < 37) (ha : ¬ ((x.op = 30 ∨ x.op = 31) ∧ (x.a ≤ i ∨ ((p.code.n : Nat) : Int) < x.a))) (hb : ¬ argB p x) : insE p i x = 32 := by unfold argB at hb; unfold insE argE; omega
theorem ref_ok {p : ProgR} {x : InsR} {i : Int} (h : 0 ≤ x.op ∧ x.op < 37) (ha : ¬ ((x.op = 30 ∨ x.op = 31) ∧ (x.a ≤ i ∨ ((p.code.n : Nat) : Int) < x.a))) (hb : argB p x) : insE p i x = 0 := by unfold argB at hb; unfold insE argE; omega
theorem step_bad {t n y : Int} {ts d : List Int} (hy : d[t.toNat]? = some y) (h : 0 ≤ y ∧ y ≠ n) : stepW (t :: ts) d n = none := by rw [stepW_cons hy, if_pos h]
theorem step_ok {t n y : Int} {ts d : List Int} (hy : d[t.toNat]? = some y) (h : ¬ (0 ≤ y ∧ y ≠ n)) : stepW (t :: ts) d n = stepW ts (d.set t.toNat n) n := by rw [stepW_cons hy, if_neg h]
theorem dep_low {x : InsR} {l : List InsR} {i : Nat} {d : List Int} {y : Int} (hx : l[i]? = some x) (hy : d[i]? = some y) (h : y < 0) : depE (l.drop i) i d = depE (l.drop (i + 1)) (i + 1) d := by rw [drop_at hx, depE_cons hy, if_pos h]
theorem dep_out {x : InsR} {l : List InsR} {i : Nat} {d : List Int} {y : Int} (hx : l[i]? = some x) (hy : d[i]? = some y) (h : ¬ y < 0) (h2 : y < tkF x.op ∨ 32 < y - tkF x.op + lvF x.op) : depE (l.drop i) i d = 34 := by rw [drop_at hx, depE_cons hy, if_neg h, if_pos h2]
theorem dep_bad {x : InsR} {l : List InsR} {i : Nat} {d : List Int} {y : Int} (hx : l[i]? = some x) (hy : d[i]? = some y) (h : ¬ y < 0) (h2 : ¬ (y < tkF x.op ∨ 32 < y - tkF x.op + lvF x.op)) (h3 : stepW (waysF ((i : Nat) : Int) x) d (y - tkF x.op + lvF x.op) = none) : depE (l.drop i) i d = 34 := by rw [drop_at hx, depE_cons hy, if_neg h, if_neg h2, h3]
theorem dep_ok {x : InsR} {l : List InsR} {i : Nat} {d e : List Int} {y : Int} (hx : l[i]? = some x) (hy : d[i]? = some y) (h : ¬ y < 0) (h2 : ¬ (y < tkF x.op ∨ 32 < y - tkF x.op + lvF x.op)) (h3 : stepW (waysF ((i : Nat) : Int) x) d (y - tkF x.op + lvF x.op) = some e) : depE (l.drop i) i d = depE (l.drop (i + 1)) (i + 1) e := by rw [drop_at hx, depE_cons hy, if_neg h, if_neg h2, h3]
theorem d0_app (j : Nat) : d0 j ++ [-1] = d0 (j + 1) := by unfold d0; rw [List.replicate_succ']; simp
theorem d0_len (j : Nat) : (d0 j).length = j + 1 := by simp [d0]
set_option maxRecDepth 100000 in
set_option maxHeartbeats 1000000 in
theorem look_tr (p : ProgR) : Tr Try.prog 28 [.agg #[.int .i64 p.args, .int .i64 p.reads, .int .i64 p.writes, .int .i64 p.locals, .slice p.code.a p.code.n p.code.c]] [rdH encIns 2 p.code.a p.code.n p.code.c p.cl] [] (fun v m => ∃ s, v = .tuple #[s, .int .i64 (verE p)] ∧ m = []) := by
  intro w0 S0 H0
  have hl := (rd_len (H0.rdR 0 Le.rfl)).1
  refine enterR Try.func28 rfl Try.ntmps28 rfl ?_
  intro g0
  refine seq_ ?_
  refine region_ ?_
  refine wl_boxH H0 (v := .agg #[.int .i64 p.args, .int .i64 p.reads, .int .i64 p.writes, .int .i64 p.locals, .slice p.code.a p.code.n p.code.c]) rfl rfl ?_
  intro bp w2 H2
  refine wl_valE (v := .slice none 0 0) rfl (rf_assign rfl) rfl ?_
  refine wl_valE (v := .int .i64 (0 : Int)) rfl (rf_assign rfl) rfl ?_
  refine wl_nil ?_
  refine thn ?_
  refine scope_ ?_
  refine seq_ ?_
  refine seq_ ?_
  refine region_ ?_
  refine wl_valE (v := .agg #[.int .i64 p.args, .int .i64 p.reads, .int .i64 p.writes, .int .i64 p.locals, .slice p.code.a p.code.n p.code.c]) rfl (rf_loadBlk Try.underlying32 rfl ti32 rfl rfl (H2.blk 0 rfl) (leb rfl)) rfl ?_
  refine wl_tr H2 rfl [] (sizes_tr p) rfl .nil (rf_call Try.call30 rfl rfl) rfl ?_
  rintro _ w3 _ ⟨rfl, rfl⟩ H3
  refine wl_valE (v := .int .i64 (sizeE p)) rfl (rf_assign rfl) rfl ?_
  refine wl_nil ?_
  refine thn ?_
  refine seq_ ?_
  refine region_ ?_
  refine wl_valE (v := .int .i64 (sizeE p)) rfl (rf_move rfl) rfl ?_
  refine wl_valE (v := .bool (decide (sizeE p ≠ (0 : Int)))) rfl (rf_neq rfl rfl rfl rfl) rfl ?_
  refine wl_nil ?_
  refine thn ?_
  refine cond_ (t := decide (sizeE p ≠ (0 : Int))) rfl rfl (fun c21 => ?_) (fun c21 => ?_)
  · have c21p := of_decide_eq_true c21
    have hver := ver_size (sizeE_ne.1 c21p)
    have hsz : sizeE p = 30 := by unfold sizeE; rw [if_neg (sizeE_ne.1 c21p)]
    refine seq_ ?_
    refine region_ ?_
    refine wl_valE (v := .int .i64 (sizeE p)) rfl (rf_move rfl) rfl ?_
    refine wl_valE (v := .slice none 0 0) rfl (rf_assign rfl) rfl ?_
    refine wl_valE (v := .int .i64 (sizeE p)) rfl (rf_assign rfl) rfl ?_
    refine wl_nil ?_
    refine thn ?_
    refine ret_ ?_
    refine thr (scr ?_)
    refine fin2 (v1 := .slice none 0 0) (v2 := .int .i64 (sizeE p)) Try.results28 rfl rfl rfl rfl ?_
    exact ⟨_, ⟨_, by rw [hver, hsz], rfl⟩, H3.pick' [] rfl rfl⟩
  · have c21p := of_decide_eq_false c21
    have hs : sizeP p := by by_cases h : sizeP p; exact h; exact absurd (sizeE_ne.2 h) c21p
    have hs2 := hs
    unfold sizeP at hs2
    refine skip_ ?_
    refine thn ?_
    refine seq_ ?_
    refine seq_ ?_
    refine region_ ?_
    refine wl_valE (v := .pointer (some ⟨bp, 4, none⟩)) rfl (rf_fieldAddr Try.underlying32 rfl ti30 rfl rfl) rfl ?_
    refine wl_valE (v := .slice p.code.a p.code.n p.code.c) rfl (rf_load Try.underlying30 rfl rfl rfl ((H3.blk 0 rfl).cell rfl)) rfl ?_
    refine wl_valE (v := .int .i64 ((p.code.n : Nat) : Int)) rfl (rf_len_slice Try.underlying30 rfl rfl) rfl ?_
    refine wl_valE (v := .int .i64 (0 : Int)) rfl (rf_move rfl) rfl ?_
    refine wl_nil ?_
    refine thn ?_
    refine block_ ?_
    refine loop_ (fun qk_ qf_ qw_ => ∃ (g : Nat → Value) (i : Nat), qf_ = upds g [(1, .pointer (some ⟨bp, 0, none⟩)), (24, .slice p.code.a p.code.n p.code.c), (25, .int .i64 ((p.code.n : Nat) : Int)), (26, .int .i64 ((i : Nat) : Int))] ∧ qk_ = p.code.n - i ∧ (i ≤ p.code.n) ∧ (firstE p i (p.cl.drop i) = firstE p 0 p.cl) ∧ St w0 S0 [rdH encIns 2 p.code.a p.code.n p.code.c p.cl] qw_ [blkH bp #[.int .i64 p.args, .int .i64 p.reads, .int .i64 p.writes, .int .i64 p.locals, .slice p.code.a p.code.n p.code.c] 32]) (p.code.n - 0) ?_ ?_
    · refine ⟨_, 0, upds_self ⟨rfl, rfl, rfl, rfl, trivial⟩, rfl, Nat.zero_le _, rfl, H3.pick' [0] rfl rfl⟩
    · rintro lk0 _ wl0 ⟨gl0, i, rfl, hlk0, hi, hE, HL0⟩
      refine seq_ ?_
      refine region_ ?_
      refine wl_valE (v := .bool (decide (((i : Nat) : Int) < ((p.code.n : Nat) : Int)))) rfl (rf_lss rfl rfl rfl rfl) rfl ?_
      refine wl_nil ?_
      refine thn ?_
      refine seq_ ?_
      refine cond_ (t := decide (((i : Nat) : Int) < ((p.code.n : Nat) : Int))) rfl rfl (fun c27 => ?_) (fun c27 => ?_)
      · have c27p := of_decide_eq_true c27
        refine skip_ ?_
        refine thn ?_
        refine seq_ ?_
        refine block_ ?_
        refine seq_ ?_
        have hn4 := rd_len (HL0.rdR 0 Le.rfl)
        obtain ⟨x, hx⟩ : ∃ q_, p.cl[i]? = some q_ := ⟨_, List.getElem?_eq_getElem (by omega)⟩
        refine region_ ?_
        refine wl_valE (v := .int .i64 ((i : Nat) : Int)) rfl (rf_move rfl) rfl ?_
        refine wl_valE (v := .pointer (some ⟨ab p.code.a, ao p.code.a + i * 2, none⟩)) rfl (rf_indexAddrH Try.underlying30 ti87 rfl rfl rfl rfl (by omega) (by omega) (HL0.rdR 0 Le.rfl)) rfl ?_
        refine wl_valE (v := .agg #[.int .i64 x.op, .int .i64 x.a]) rfl (rf_loadAgg (cs := [.int .i64 x.op, .int .i64 x.a]) Try.underlying87 rfl ti87 rfl rfl (el_sub' (rd_el (HL0.rdR 0 Le.rfl) hx) 0 2 rfl) rfl) rfl ?_
        refine wl_allocH HL0 ti87 ?_
        intro bi w6 H6
        refine wl_valE (v := .int .i64 ((i : Nat) : Int)) rfl (rf_assign rfl) rfl ?_
        refine wl_storeAggH H6 1 (o := 0) (cs := [.int .i64 x.op, .int .i64 x.a]) (A' := #[.int .i64 x.op, .int .i64 x.a]) rfl rfl ti87 rfl rfl rfl rfl rfl oneAll (leb rfl) rfl ?_
        intro w7 H7
        refine wl_nil ?_
        refine thn ?_
        refine seq_ ?_
        refine seq_ ?_
        refine region_ ?_
        refine wl_valE (v := .pointer (some ⟨bi, 0, none⟩)) rfl (rf_fieldAddr Try.underlying87 rfl ti3 rfl rfl) rfl ?_
        refine wl_valE (v := .int .i64 x.op) rfl (rf_load Try.underlying3 rfl rfl rfl ((H7.blk 1 rfl).cell rfl)) rfl ?_
        refine wl_tr H7 rfl [] (within_tr x.op (36 : Int)) rfl .nil (rf_call Try.call31 rfl rfl) rfl ?_
        rintro _ w8 _ ⟨rfl, rfl⟩ H8
        refine wl_valE (v := .bool (!(decide (0 ≤ x.op ∧ x.op ≤ (36 : Int))))) rfl (rf_not rfl rfl) rfl ?_
        refine wl_nil ?_
        refine thn ?_
        refine cond_ (t := !(decide (0 ≤ x.op ∧ x.op ≤ (36 : Int)))) rfl rfl (fun c34 => ?_) (fun c34 => ?_)
        · have c34p := of_decide_eq_false (bnotT c34)
          have hver := ver_first (e := 31) hs (by rw [← hE, firstE_bad hx (e := 31) (by unfold insE; rw [if_neg (by omega)]) (by decide)]) (by decide)
          refine seq_ ?_
          refine region_ ?_
          refine wl_valE (v := .slice none 0 0) rfl (rf_assign rfl) rfl ?_
          refine wl_valE (v := .int .i64 (31 : Int)) rfl (rf_assign rfl) rfl ?_
          refine wl_nil ?_
          refine thn ?_
          refine ret_ ?_
          refine thr (blr (thr (thr (blr (thr (scr ?_))))))
          refine fin2 (v1 := .slice none 0 0) (v2 := .int .i64 (31 : Int)) Try.results28 rfl rfl rfl rfl ?_
          exact ⟨_, ⟨_, by rw [hver], rfl⟩, H8.pick' [] rfl rfl⟩
        · have c34p := of_decide_eq_true (bnotF c34)
          refine skip_ ?_
          refine thn ?_
          refine seq_ ?_
          refine region_ ?_
          refine wl_valE (v := .agg #[.int .i64 p.args, .int .i64 p.reads, .int .i64 p.writes, .int .i64 p.locals, .slice p.code.a p.code.n p.code.c]) rfl (rf_loadBlk Try.underlying32 rfl ti32 rfl rfl (H8.blk 0 rfl) (leb rfl)) rfl ?_
          refine wl_valE (v := .int .i64 ((i : Nat) : Int)) rfl (rf_move rfl) rfl ?_
          refine wl_tr H8 rfl [] (argumentL_tr p i x hx hs) rfl (.ro 0 Le.rfl .nil) (rf_call Try.call32 rfl rfl) rfl ?_
          rintro _ w9 _ ⟨rfl, rfl⟩ H9
          refine wl_valE (v := .int .i64 (argE p ((i : Nat) : Int) x)) rfl (rf_assign rfl) rfl ?_
          refine wl_nil ?_
          refine thn ?_
          refine seq_ ?_
          refine region_ ?_
          refine wl_valE (v := .int .i64 (argE p ((i : Nat) : Int) x)) rfl (rf_move rfl) rfl ?_
          refine wl_valE (v := .bool (decide (argE p ((i : Nat) : Int) x ≠ (0 : Int)))) rfl (rf_neq rfl rfl rfl rfl) rfl ?_
          refine wl_nil ?_
          refine thn ?_
          refine cond_ (t := decide (argE p ((i : Nat) : Int) x ≠ (0 : Int))) rfl rfl (fun c39 => ?_) (fun c39 => ?_)
          · have c39p := of_decide_eq_true c39
            have hver := ver_first (e := argE p ((i : Nat) : Int) x) hs (by rw [← hE, firstE_bad hx (by unfold insE; rw [if_pos (by omega)]) (by omega)]) (by omega)
            refine seq_ ?_
            refine region_ ?_
            refine wl_valE (v := .int .i64 (argE p ((i : Nat) : Int) x)) rfl (rf_move rfl) rfl ?_
            refine wl_valE (v := .slice none 0 0) rfl (rf_assign rfl) rfl ?_
            refine wl_valE (v := .int .i64 (argE p ((i : Nat) : Int) x)) rfl (rf_assign rfl) rfl ?_
            refine wl_nil ?_
            refine thn ?_
            refine ret_ ?_
            refine blr (thr (thr (blr (thr (scr ?_)))))
            refine fin2 (v1 := .slice none 0 0) (v2 := .int .i64 (argE p ((i : Nat) : Int) x)) Try.results28 rfl rfl rfl rfl ?_
            exact ⟨_, ⟨_, by rw [hver], rfl⟩, H9.pick' [] rfl rfl⟩
          · have c39p := of_decide_eq_false c39
            refine skip_ ?_
            refine bln ?_
            refine thn ?_
            refine region_ ?_
            refine wl_valE (v := .int .i64 ((i + 1 : Nat) : Int)) rfl (rf_add rfl rfl rfl rfl (IntWalk.i64_in _ (by omega))) rfl ?_
            refine wl_valE (v := .int .i64 ((i + 1 : Nat) : Int)) rfl (rf_move rfl) rfl ?_
            refine wl_nil ?_
            refine thn ?_
            refine ⟨p.code.n - (i + 1), _, rfl, (by omega), _, i + 1, upds_self ⟨rfl, rfl, rfl, rfl, trivial⟩, rfl, by omega, by rw [← hE, firstE_ok hx (by unfold insE; rw [if_pos (by omega)]; omega)], H9.pick' [0] rfl rfl⟩
      · have c27p := of_decide_eq_false c27
        refine exit_ ?_
        refine thx (thx (blx ?_))
        refine thn ?_
        refine seq_ ?_
        obtain rfl : i = p.code.n := by omega
        have hf : firstE p 0 p.cl = 0 := by rw [← hE, drop_all (by omega)]; rfl
        refine region_ ?_
        refine wl_valE (v := .pointer (some ⟨bp, 4, none⟩)) rfl (rf_fieldAddr Try.underlying32 rfl ti30 rfl rfl) rfl ?_
        refine wl_valE (v := .slice p.code.a p.code.n p.code.c) rfl (rf_load Try.underlying30 rfl rfl rfl ((HL0.blk 0 rfl).cell rfl)) rfl ?_
        refine wl_valE (v := .int .i64 ((p.code.n : Nat) : Int)) rfl (rf_len_slice Try.underlying30 rfl rfl) rfl ?_
        refine wl_valE (v := .int .i64 ((p.code.n + 1 : Nat) : Int)) rfl (rf_add rfl rfl rfl rfl (IntWalk.i64_in _ (by omega))) rfl ?_
        refine wl_makeSliceH (enc := encI) (l := p.code.n + 1) (c := p.code.n + 1) HL0 0 rfl encI_len Try.underlying65 ti3 rfl rfl rfl rfl rfl (by omega) (by omega) ?_
        intro da w11 H11
        refine wl_valE (v := .slice da (p.code.n + 1) (p.code.n + 1)) rfl (rf_assign rfl) rfl ?_
        refine wl_nil ?_
        refine thn ?_
        refine seq_ ?_
        refine seq_ ?_
        refine region_ ?_
        refine wl_valE (v := .slice da (p.code.n + 1) (p.code.n + 1)) rfl (rf_move rfl) rfl ?_
        refine wl_valE (v := .int .i64 ((p.code.n + 1 : Nat) : Int)) rfl (rf_len_slice Try.underlying65 rfl rfl) rfl ?_
        refine wl_valE (v := .int .i64 (0 : Int)) rfl (rf_move rfl) rfl ?_
        refine wl_nil ?_
        refine thn ?_
        refine block_ ?_
        refine loop_ (fun qk_ qf_ qw_ => ∃ (g : Nat → Value) (j : Nat), qf_ = upds g [(1, .pointer (some ⟨bp, 0, none⟩)), (8, .slice da (p.code.n + 1) (p.code.n + 1)), (48, .int .i64 ((p.code.n + 1 : Nat) : Int)), (49, .int .i64 ((j : Nat) : Int))] ∧ qk_ = p.code.n + 1 - j ∧ (j ≤ p.code.n + 1) ∧ St w0 S0 [rdH encIns 2 p.code.a p.code.n p.code.c p.cl] qw_ [blkH bp #[.int .i64 p.args, .int .i64 p.reads, .int .i64 p.writes, .int .i64 p.locals, .slice p.code.a p.code.n p.code.c] 32, slH encI 1 3 da (p.code.n + 1) (p.code.n + 1) (List.replicate j (-1) ++ List.replicate (p.code.n + 1 - j) 0)]) (p.code.n + 1 - 0) ?_ ?_
        · refine ⟨_, 0, upds_self ⟨rfl, rfl, rfl, rfl, trivial⟩, rfl, Nat.zero_le _, H11.pick' [0, 1] rfl rfl⟩
        · rintro lk1 _ wl1 ⟨gl1, j, rfl, hlk1, hj, HL1⟩
          refine seq_ ?_
          refine region_ ?_
          refine wl_valE (v := .bool (decide (((j : Nat) : Int) < ((p.code.n + 1 : Nat) : Int)))) rfl (rf_lss rfl rfl rfl rfl) rfl ?_
          refine wl_nil ?_
          refine thn ?_
          refine seq_ ?_
          refine cond_ (t := decide (((j : Nat) : Int) < ((p.code.n + 1 : Nat) : Int))) rfl rfl (fun c50 => ?_) (fun c50 => ?_)
          · have c50p := of_decide_eq_true c50
            refine skip_ ?_
            refine thn ?_
            refine seq_ ?_
            refine block_ ?_
            refine seq_ ?_
            refine region_ ?_
            refine wl_valE (v := .int .i64 ((j : Nat) : Int)) rfl (rf_move rfl) rfl ?_
            refine wl_valE (v := .int .i64 ((j : Nat) : Int)) rfl (rf_assign rfl) rfl ?_
            refine wl_nil ?_
            refine thn ?_
            refine region_ ?_
            refine wl_valE (v := .slice da (p.code.n + 1) (p.code.n + 1)) rfl (rf_move rfl) rfl ?_
            refine wl_valE (v := .int .i64 ((j : Nat) : Int)) rfl (rf_move rfl) rfl ?_
            refine wl_valE (v := .pointer (some ⟨ab da, ao da + j * 1, none⟩)) rfl (rf_indexAddrH Try.underlying65 ti3 rfl rfl rfl rfl (by omega) (by omega) (HL1.rdO 1 slH_rd)) rfl ?_
            have hn13 := slH_len HL1 1 rfl
            obtain ⟨x12, hx12⟩ : ∃ q_, (List.replicate j (-1) ++ List.replicate (p.code.n + 1 - j) 0)[j]? = some q_ := ⟨_, List.getElem?_eq_getElem (by omega)⟩
            refine wl_storeElH HL1 1 (enc := encI) (i := j) (j := 0) (q := (-1)) (u := .int .i64 (-1 : Int)) (cs := [.int .i64 (-1 : Int)]) rfl rfl encI_len ti3 rfl rfl rfl rfl rfl rfl oneAll hx12 (leb rfl) rfl ?_
            intro w14 H14
            have hx14 : ((List.replicate j (-1) ++ List.replicate (p.code.n + 1 - j) 0).set j (-1))[j]? = some (-1) := List.getElem?_set_self (List.getElem?_eq_some_iff.1 hx12).1
            have hn14 := slH_len H14 1 rfl
            have hrw15 : (List.replicate j (-1) ++ List.replicate (p.code.n + 1 - j) 0).set j (-1) = List.replicate (j + 1) (-1) ++ List.replicate (p.code.n + 1 - (j + 1)) 0 := rep_set (by omega)
            rw [hrw15] at H14
            refine wl_nil ?_
            refine bln ?_
            refine thn ?_
            refine region_ ?_
            refine wl_valE (v := .int .i64 ((j + 1 : Nat) : Int)) rfl (rf_add rfl rfl rfl rfl (IntWalk.i64_in _ (by omega))) rfl ?_
            refine wl_valE (v := .int .i64 ((j + 1 : Nat) : Int)) rfl (rf_move rfl) rfl ?_
            refine wl_nil ?_
            refine thn ?_
            refine ⟨p.code.n + 1 - (j + 1), _, rfl, (by omega), _, j + 1, upds_self ⟨rfl, rfl, rfl, rfl, trivial⟩, rfl, by omega, H14.pick' [0, 1] rfl rfl⟩
          · have c50p := of_decide_eq_false c50
            refine exit_ ?_
            refine thx (thx (blx ?_))
            refine thn ?_
            refine seq_ ?_
            obtain rfl : j = p.code.n + 1 := by omega
            refine region_ ?_
            refine wl_valE (v := .slice da (p.code.n + 1) (p.code.n + 1)) rfl (rf_move rfl) rfl ?_
            refine wl_valE (v := .pointer (some ⟨ab da, ao da + 0 * 1, none⟩)) rfl (rf_indexAddrH Try.underlying65 ti3 rfl rfl rfl rfl (by omega) (by omega) (HL1.rdO 1 slH_rd)) rfl ?_
            have hn17 := slH_len HL1 1 rfl
            obtain ⟨x16, hx16⟩ : ∃ q_, (List.replicate (p.code.n + 1) (-1) ++ List.replicate (p.code.n + 1 - (p.code.n + 1)) 0)[0]? = some q_ := ⟨_, List.getElem?_eq_getElem (by omega)⟩
            refine wl_storeElH HL1 1 (enc := encI) (i := 0) (j := 0) (q := 0) (u := .int .i64 (0 : Int)) (cs := [.int .i64 (0 : Int)]) rfl rfl encI_len ti3 rfl rfl rfl rfl rfl rfl oneAll hx16 (leb rfl) rfl ?_
            intro w18 H18
            have hx18 : ((List.replicate (p.code.n + 1) (-1) ++ List.replicate (p.code.n + 1 - (p.code.n + 1)) 0).set 0 0)[0]? = some 0 := List.getElem?_set_self (List.getElem?_eq_some_iff.1 hx16).1
            have hn18 := slH_len H18 1 rfl
            have hrw19 : (List.replicate (p.code.n + 1) (-1) ++ List.replicate (p.code.n + 1 - (p.code.n + 1)) 0).set 0 0 = d0 p.code.n := rep_end _
            rw [hrw19] at H18
            refine wl_nil ?_
            refine thn ?_
            refine seq_ ?_
            refine region_ ?_
            refine wl_valE (v := .bool false) rfl (rf_assign rfl) rfl ?_
            refine wl_nil ?_
            refine thn ?_
            refine seq_ ?_
            refine label_ ?_
            refine thn ?_
            refine seq_ ?_
            refine seq_ ?_
            refine region_ ?_
            refine wl_valE (v := .pointer (some ⟨bp, 4, none⟩)) rfl (rf_fieldAddr Try.underlying32 rfl ti30 rfl rfl) rfl ?_
            refine wl_valE (v := .slice p.code.a p.code.n p.code.c) rfl (rf_load Try.underlying30 rfl rfl rfl ((H18.blk 0 rfl).cell rfl)) rfl ?_
            refine wl_valE (v := .int .i64 ((p.code.n : Nat) : Int)) rfl (rf_len_slice Try.underlying30 rfl rfl) rfl ?_
            refine wl_valE (v := .int .i64 (0 : Int)) rfl (rf_move rfl) rfl ?_
            refine wl_nil ?_
            refine thn ?_
            refine block_ ?_
            refine loop_ (fun qk_ qf_ qw_ => ∃ (g : Nat → Value) (i : Nat) (d : List Int), qf_ = upds g [(8, .slice da (p.code.n + 1) (p.code.n + 1)), (10, .bool false), (59, .slice p.code.a p.code.n p.code.c), (60, .int .i64 ((p.code.n : Nat) : Int)), (61, .int .i64 ((i : Nat) : Int))] ∧ qk_ = p.code.n - i ∧ (i ≤ p.code.n ∧ d.length = p.code.n + 1) ∧ (∀ z ∈ d, -1 ≤ z ∧ z ≤ 32) ∧ (depE (p.cl.drop i) i d = depE p.cl 0 (d0 p.code.n)) ∧ St w0 S0 [rdH encIns 2 p.code.a p.code.n p.code.c p.cl] qw_ [blkH bp #[.int .i64 p.args, .int .i64 p.reads, .int .i64 p.writes, .int .i64 p.locals, .slice p.code.a p.code.n p.code.c] 32, slH encI 1 3 da (p.code.n + 1) (p.code.n + 1) d]) (p.code.n - 0) ?_ ?_
            · refine ⟨_, 0, d0 p.code.n, upds_self ⟨rfl, rfl, rfl, rfl, rfl, trivial⟩, rfl, ⟨Nat.zero_le _, d0_len _⟩, d0_in _, rfl, H18.pick' [0, 1] rfl rfl⟩
            · rintro lk2 _ wl2 ⟨gl2, i, d, rfl, hlk2, ⟨hi, hdl⟩, hdb, hD, HL2⟩
              refine seq_ ?_
              refine region_ ?_
              refine wl_valE (v := .bool (decide (((i : Nat) : Int) < ((p.code.n : Nat) : Int)))) rfl (rf_lss rfl rfl rfl rfl) rfl ?_
              refine wl_nil ?_
              refine thn ?_
              refine seq_ ?_
              refine cond_ (t := decide (((i : Nat) : Int) < ((p.code.n : Nat) : Int))) rfl rfl (fun c62 => ?_) (fun c62 => ?_)
              · have c62p := of_decide_eq_true c62
                refine skip_ ?_
                refine thn ?_
                refine seq_ ?_
                refine block_ ?_
                refine seq_ ?_
                have hn20 := rd_len (HL2.rdR 0 Le.rfl)
                obtain ⟨x, hx⟩ : ∃ q_, p.cl[i]? = some q_ := ⟨_, List.getElem?_eq_getElem (by omega)⟩
                have hn21 := slH_len HL2 1 rfl
                obtain ⟨y, hy⟩ : ∃ q_, d[i]? = some q_ := ⟨_, List.getElem?_eq_getElem (by omega)⟩
                have htk := tk_in x.op
                have hlv := lv_in x.op
                have hyb := hdb y (List.mem_of_getElem? hy)
                have hins : insE p ((i : Nat) : Int) x = 0 := by have := firstE_at hf i x hx; rwa [Nat.zero_add] at this
                refine region_ ?_
                refine wl_valE (v := .int .i64 ((i : Nat) : Int)) rfl (rf_move rfl) rfl ?_
                refine wl_valE (v := .pointer (some ⟨ab p.code.a, ao p.code.a + i * 2, none⟩)) rfl (rf_indexAddrH Try.underlying30 ti87 rfl rfl rfl rfl (by omega) (by omega) (HL2.rdR 0 Le.rfl)) rfl ?_
                refine wl_valE (v := .agg #[.int .i64 x.op, .int .i64 x.a]) rfl (rf_loadAgg (cs := [.int .i64 x.op, .int .i64 x.a]) Try.underlying87 rfl ti87 rfl rfl (el_sub' (rd_el (HL2.rdR 0 Le.rfl) hx) 0 2 rfl) rfl) rfl ?_
                refine wl_allocH HL2 ti87 ?_
                intro bj w23 H23
                refine wl_valE (v := .int .i64 ((i : Nat) : Int)) rfl (rf_assign rfl) rfl ?_
                refine wl_storeAggH H23 2 (o := 0) (cs := [.int .i64 x.op, .int .i64 x.a]) (A' := #[.int .i64 x.op, .int .i64 x.a]) rfl rfl ti87 rfl rfl rfl rfl rfl oneAll (leb rfl) rfl ?_
                intro w24 H24
                refine wl_nil ?_
                refine thn ?_
                refine seq_ ?_
                refine region_ ?_
                refine wl_valE (v := .slice da (p.code.n + 1) (p.code.n + 1)) rfl (rf_move rfl) rfl ?_
                refine wl_valE (v := .int .i64 ((i : Nat) : Int)) rfl (rf_move rfl) rfl ?_
                refine wl_valE (v := .pointer (some ⟨ab da, ao da + i * 1, none⟩)) rfl (rf_indexAddrH Try.underlying65 ti3 rfl rfl rfl rfl (by omega) (by omega) (H24.rdO 1 slH_rd)) rfl ?_
                refine wl_valE (v := .int .i64 y) rfl (rf_load Try.underlying3 rfl rfl rfl (rd_el (H24.rdO 1 slH_rd) hy 0 _ rfl)) rfl ?_
                refine wl_valE (v := .int .i64 y) rfl (rf_assign rfl) rfl ?_
                refine wl_nil ?_
                refine thn ?_
                refine seq_ ?_
                refine seq_ ?_
                refine region_ ?_
                refine wl_valE (v := .int .i64 y) rfl (rf_move rfl) rfl ?_
                refine wl_valE (v := .bool (decide (y < (0 : Int)))) rfl (rf_lss rfl rfl rfl rfl) rfl ?_
                refine wl_nil ?_
                refine thn ?_
                refine cond_ (t := decide (y < (0 : Int))) rfl rfl (fun c71 => ?_) (fun c71 => ?_)
                · have c71p := of_decide_eq_true c71
                  refine exit_ ?_
                  refine thx (blx ?_)
                  refine thn ?_
                  refine region_ ?_
                  refine wl_valE (v := .int .i64 ((i + 1 : Nat) : Int)) rfl (rf_add rfl rfl rfl rfl (IntWalk.i64_in _ (by omega))) rfl ?_
                  refine wl_valE (v := .int .i64 ((i + 1 : Nat) : Int)) rfl (rf_move rfl) rfl ?_
                  refine wl_nil ?_
                  refine thn ?_
                  refine ⟨p.code.n - (i + 1), _, rfl, (by omega), _, i + 1, d, upds_self ⟨rfl, rfl, rfl, rfl, rfl, trivial⟩, rfl, ⟨by omega, hdl⟩, hdb, by rw [← hD, dep_low hx hy c71p], H24.pick' [0, 1] rfl rfl⟩
                · have c71p := of_decide_eq_false c71
                  refine skip_ ?_
                  refine thn ?_
                  refine seq_ ?_
                  refine region_ ?_
                  refine wl_valE (v := .pointer (some ⟨bj, 0, none⟩)) rfl (rf_fieldAddr Try.underlying87 rfl ti3 rfl rfl) rfl ?_
                  refine wl_valE (v := .int .i64 x.op) rfl (rf_load Try.underlying3 rfl rfl rfl ((H24.blk 2 rfl).cell rfl)) rfl ?_
                  refine wl_tr H24 rfl [] (moves_tr x.op) rfl .nil (rf_call Try.call33 rfl rfl) rfl ?_
                  rintro _ w25 _ ⟨rfl, rfl⟩ H25
                  refine wl_valE (v := .tuple #[.int .i64 (tkF x.op), .int .i64 (lvF x.op)]) rfl (rf_move rfl) rfl ?_
                  refine wl_valE (v := .int .i64 (tkF x.op)) rfl (rf_extract rfl rfl rfl) rfl ?_
                  refine wl_valE (v := .int .i64 (lvF x.op)) rfl (rf_extract rfl rfl rfl) rfl ?_
                  refine wl_valE (v := .int .i64 (tkF x.op)) rfl (rf_assign rfl) rfl ?_
                  refine wl_valE (v := .int .i64 (lvF x.op)) rfl (rf_assign rfl) rfl ?_
                  refine wl_nil ?_
                  refine thn ?_
                  refine seq_ ?_
                  refine seq_ ?_
                  refine region_ ?_
                  refine wl_valE (v := .int .i64 y) rfl (rf_move rfl) rfl ?_
                  refine wl_valE (v := .int .i64 (tkF x.op)) rfl (rf_move rfl) rfl ?_
                  refine wl_valE (v := .bool (decide (y < tkF x.op))) rfl (rf_lss rfl rfl rfl rfl) rfl ?_
                  refine wl_valE (v := .bool (decide (y < tkF x.op))) rfl (rf_move rfl) rfl ?_
                  refine wl_split (decide (y < tkF x.op)) (fun u27_3 => ?_) (fun u27_3 => ?_)
                  · have u27_3p := of_decide_eq_true u27_3
                    refine wl_guardF rfl rfl rfl u27_3 ?_
                    refine wl_guardF rfl rfl rfl u27_3 ?_
                    refine wl_guardF rfl rfl rfl u27_3 ?_
                    refine wl_guardF rfl rfl rfl u27_3 ?_
                    refine wl_guardF rfl rfl rfl u27_3 ?_
                    refine wl_guardF rfl rfl rfl u27_3 ?_
                    refine wl_valE (v := .bool true) rfl (rf_pickT rfl rfl rfl u27_3) rfl ?_
                    refine wl_nil ?_
                    refine thn ?_
                    refine condT rfl rfl ?_
                    have hver := ver_dep (e := 34) hs hf (by rw [← hD, dep_out hx hy c71p (by omega)])
                    refine seq_ ?_
                    refine region_ ?_
                    refine wl_valE (v := .bool true) rfl (rf_assign rfl) rfl ?_
                    refine wl_nil ?_
                    refine thn ?_
                    refine exit_ ?_
                    refine thx (blo rfl (thx (thx (blx ?_))))
                    refine thn ?_
                    refine seq_ ?_
                    refine seq_ ?_
                    refine region_ ?_
                    refine wl_valE (v := .bool true) rfl (rf_move rfl) rfl ?_
                    refine wl_nil ?_
                    refine thn ?_
                    refine condT rfl rfl ?_
                    refine seq_ ?_
                    refine region_ ?_
                    refine wl_valE (v := .slice none 0 0) rfl (rf_assign rfl) rfl ?_
                    refine wl_valE (v := .int .i64 (34 : Int)) rfl (rf_assign rfl) rfl ?_
                    refine wl_nil ?_
                    refine thn ?_
                    refine ret_ ?_
                    refine thr (scr ?_)
                    refine fin2 (v1 := .slice none 0 0) (v2 := .int .i64 (34 : Int)) Try.results28 rfl rfl rfl rfl ?_
                    exact ⟨_, ⟨_, by rw [hver], rfl⟩, H25.pick' [] rfl rfl⟩
                  · have u27_3p := of_decide_eq_false u27_3
                    refine wl_guardT rfl rfl rfl u27_3 ?_
                    refine wl_valE (v := .int .i64 y) rfl (rf_move rfl) rfl ?_
                    refine wl_guardT rfl rfl rfl u27_3 ?_
                    refine wl_valE (v := .int .i64 (tkF x.op)) rfl (rf_move rfl) rfl ?_
                    refine wl_guardT rfl rfl rfl u27_3 ?_
                    refine wl_valE (v := .int .i64 (y - (tkF x.op))) rfl (rf_sub rfl rfl rfl rfl (IntWalk.i64_in _ (by omega))) rfl ?_
                    refine wl_guardT rfl rfl rfl u27_3 ?_
                    refine wl_valE (v := .int .i64 (lvF x.op)) rfl (rf_move rfl) rfl ?_
                    refine wl_guardT rfl rfl rfl u27_3 ?_
                    refine wl_valE (v := .int .i64 ((y - (tkF x.op)) + (lvF x.op))) rfl (rf_add rfl rfl rfl rfl (IntWalk.i64_in _ (by omega))) rfl ?_
                    refine wl_guardT rfl rfl rfl u27_3 ?_
                    refine wl_valE (v := .bool (decide ((32 : Int) < (y - (tkF x.op)) + (lvF x.op)))) rfl (rf_gtr rfl rfl rfl rfl) rfl ?_
                    refine wl_valE (v := .bool (decide ((32 : Int) < (y - (tkF x.op)) + (lvF x.op)))) rfl (rf_pickF rfl rfl rfl u27_3) rfl ?_
                    refine wl_nil ?_
                    refine thn ?_
                    refine cond_ (t := decide ((32 : Int) < (y - (tkF x.op)) + (lvF x.op))) rfl rfl (fun c88 => ?_) (fun c88 => ?_)
                    · have c88p := of_decide_eq_true c88
                      have hver := ver_dep (e := 34) hs hf (by rw [← hD, dep_out hx hy c71p (by omega)])
                      refine seq_ ?_
                      refine region_ ?_
                      refine wl_valE (v := .bool true) rfl (rf_assign rfl) rfl ?_
                      refine wl_nil ?_
                      refine thn ?_
                      refine exit_ ?_
                      refine thx (blo rfl (thx (thx (blx ?_))))
                      refine thn ?_
                      refine seq_ ?_
                      refine seq_ ?_
                      refine region_ ?_
                      refine wl_valE (v := .bool true) rfl (rf_move rfl) rfl ?_
                      refine wl_nil ?_
                      refine thn ?_
                      refine condT rfl rfl ?_
                      refine seq_ ?_
                      refine region_ ?_
                      refine wl_valE (v := .slice none 0 0) rfl (rf_assign rfl) rfl ?_
                      refine wl_valE (v := .int .i64 (34 : Int)) rfl (rf_assign rfl) rfl ?_
                      refine wl_nil ?_
                      refine thn ?_
                      refine ret_ ?_
                      refine thr (scr ?_)
                      refine fin2 (v1 := .slice none 0 0) (v2 := .int .i64 (34 : Int)) Try.results28 rfl rfl rfl rfl ?_
                      exact ⟨_, ⟨_, by rw [hver], rfl⟩, H25.pick' [] rfl rfl⟩
                    · have c88p := of_decide_eq_false c88
                      refine skip_ ?_
                      refine thn ?_
                      refine seq_ ?_
                      refine region_ ?_
                      refine wl_valE (v := .agg #[.int .i64 x.op, .int .i64 x.a]) rfl (rf_loadBlk Try.underlying87 rfl ti87 rfl rfl (H25.blk 2 rfl) (leb rfl)) rfl ?_
                      refine wl_valE (v := .int .i64 ((i : Nat) : Int)) rfl (rf_move rfl) rfl ?_
                      refine wl_tr H25 rfl [] (ways_tr x i (by omega)) rfl .nil (rf_call Try.call34 rfl rfl) rfl ?_
                      rintro _ w26 _ ⟨wa, wc, rfl, rfl⟩ H26
                      refine wl_valE (v := .int .i64 (((waysF ((i : Nat) : Int) x).length : Nat) : Int)) rfl (rf_len_slice Try.underlying65 rfl rfl) rfl ?_
                      refine wl_valE (v := .int .i64 (0 : Int)) rfl (rf_move rfl) rfl ?_
                      refine wl_nil ?_
                      refine thn ?_
                      refine block_ ?_
                      refine loop_ (fun qk_ qf_ qw_ => ∃ (g : Nat → Value) (k : Nat) (e : List Int), qf_ = upds g [(8, .slice da (p.code.n + 1) (p.code.n + 1)), (10, .bool false), (13, .int .i64 y), (14, .int .i64 (tkF x.op)), (15, .int .i64 (lvF x.op)), (59, .slice p.code.a p.code.n p.code.c), (60, .int .i64 ((p.code.n : Nat) : Int)), (61, .int .i64 ((i : Nat) : Int)), (91, .slice wa ((waysF ((i : Nat) : Int) x).length) wc), (92, .int .i64 (((waysF ((i : Nat) : Int) x).length : Nat) : Int)), (93, .int .i64 ((k : Nat) : Int))] ∧ qk_ = (waysF ((i : Nat) : Int) x).length - k ∧ (k ≤ (waysF ((i : Nat) : Int) x).length ∧ e.length = p.code.n + 1) ∧ (∀ z ∈ e, -1 ≤ z ∧ z ≤ 32) ∧ (stepW ((waysF ((i : Nat) : Int) x).drop k) e (y - tkF x.op + lvF x.op) = stepW (waysF ((i : Nat) : Int) x) d (y - tkF x.op + lvF x.op)) ∧ St w0 S0 [rdH encIns 2 p.code.a p.code.n p.code.c p.cl] qw_ [blkH bp #[.int .i64 p.args, .int .i64 p.reads, .int .i64 p.writes, .int .i64 p.locals, .slice p.code.a p.code.n p.code.c] 32, slH encI 1 3 da (p.code.n + 1) (p.code.n + 1) e, blkH bj #[.int .i64 x.op, .int .i64 x.a] 87, slH encI 1 3 wa ((waysF ((i : Nat) : Int) x).length) wc (waysF ((i : Nat) : Int) x)]) ((waysF ((i : Nat) : Int) x).length - 0) ?_ ?_
                      · refine ⟨_, 0, d, upds_self ⟨rfl, rfl, rfl, rfl, rfl, rfl, rfl, rfl, rfl, rfl, rfl, trivial⟩, rfl, ⟨Nat.zero_le _, hdl⟩, hdb, rfl, H26.pick' [0, 1, 2, 3] rfl rfl⟩
                      · rintro lk3 _ wl3 ⟨gl3, k, e, rfl, hlk3, ⟨hk, hel⟩, heb, hS, HL3⟩
                        refine seq_ ?_
                        refine region_ ?_
                        refine wl_valE (v := .bool (decide (((k : Nat) : Int) < (((waysF ((i : Nat) : Int) x).length : Nat) : Int)))) rfl (rf_lss rfl rfl rfl rfl) rfl ?_
                        refine wl_nil ?_
                        refine thn ?_
                        refine seq_ ?_
                        refine cond_ (t := decide (((k : Nat) : Int) < (((waysF ((i : Nat) : Int) x).length : Nat) : Int))) rfl rfl (fun c94 => ?_) (fun c94 => ?_)
                        · have c94p := of_decide_eq_true c94
                          refine skip_ ?_
                          refine thn ?_
                          refine seq_ ?_
                          refine block_ ?_
                          refine seq_ ?_
                          have hn27 := slH_len HL3 3 rfl
                          obtain ⟨t, ht⟩ : ∃ q_, (waysF ((i : Nat) : Int) x)[k]? = some q_ := ⟨_, List.getElem?_eq_getElem (by omega)⟩
                          have htb := ways_in hins (by omega) (List.mem_of_getElem? ht)
                          have hn28 := slH_len HL3 1 rfl
                          obtain ⟨z, hz⟩ : ∃ q_, e[t.toNat]? = some q_ := ⟨_, List.getElem?_eq_getElem (by omega)⟩
                          have hzb := heb z (List.mem_of_getElem? hz)
                          refine region_ ?_
                          refine wl_valE (v := .pointer (some ⟨ab wa, ao wa + k * 1, none⟩)) rfl (rf_indexAddrH Try.underlying65 ti3 rfl rfl rfl rfl (by omega) (by omega) (HL3.rdO 3 slH_rd)) rfl ?_
                          refine wl_valE (v := .int .i64 t) rfl (rf_load Try.underlying3 rfl rfl rfl (rd_el (HL3.rdO 3 slH_rd) ht 0 _ rfl)) rfl ?_
                          refine wl_valE (v := .int .i64 t) rfl (rf_assign rfl) rfl ?_
                          refine wl_nil ?_
                          refine thn ?_
                          refine seq_ ?_
                          refine seq_ ?_
                          refine region_ ?_
                          refine wl_valE (v := .slice da (p.code.n + 1) (p.code.n + 1)) rfl (rf_move rfl) rfl ?_
                          refine wl_valE (v := .int .i64 t) rfl (rf_move rfl) rfl ?_
                          refine wl_valE (v := .pointer (some ⟨ab da, ao da + t.toNat * 1, none⟩)) rfl (rf_indexAddrH Try.underlying65 ti3 rfl rfl rfl rfl (by omega) (by omega) (HL3.rdO 1 slH_rd)) rfl ?_
                          refine wl_valE (v := .int .i64 z) rfl (rf_load Try.underlying3 rfl rfl rfl (rd_el (HL3.rdO 1 slH_rd) hz 0 _ rfl)) rfl ?_
                          refine wl_valE (v := .bool (decide ((0 : Int) ≤ z))) rfl (rf_geq rfl rfl rfl rfl) rfl ?_
                          refine wl_valE (v := .bool (decide ((0 : Int) ≤ z))) rfl (rf_move rfl) rfl ?_
                          refine wl_split (decide ((0 : Int) ≤ z)) (fun u32_5 => ?_) (fun u32_5 => ?_)
                          · have u32_5p := of_decide_eq_true u32_5
                            refine wl_guardT rfl rfl rfl u32_5 ?_
                            refine wl_valE (v := .slice da (p.code.n + 1) (p.code.n + 1)) rfl (rf_move rfl) rfl ?_
                            refine wl_guardT rfl rfl rfl u32_5 ?_
                            refine wl_valE (v := .int .i64 t) rfl (rf_move rfl) rfl ?_
                            refine wl_guardT rfl rfl rfl u32_5 ?_
                            refine wl_valE (v := .pointer (some ⟨ab da, ao da + t.toNat * 1, none⟩)) rfl (rf_indexAddrH Try.underlying65 ti3 rfl rfl rfl rfl (by omega) (by omega) (HL3.rdO 1 slH_rd)) rfl ?_
                            refine wl_guardT rfl rfl rfl u32_5 ?_
                            refine wl_valE (v := .int .i64 z) rfl (rf_load Try.underlying3 rfl rfl rfl (rd_el (HL3.rdO 1 slH_rd) hz 0 _ rfl)) rfl ?_
                            refine wl_guardT rfl rfl rfl u32_5 ?_
                            refine wl_valE (v := .int .i64 y) rfl (rf_move rfl) rfl ?_
                            refine wl_guardT rfl rfl rfl u32_5 ?_
                            refine wl_valE (v := .int .i64 (tkF x.op)) rfl (rf_move rfl) rfl ?_
                            refine wl_guardT rfl rfl rfl u32_5 ?_
                            refine wl_valE (v := .int .i64 (y - (tkF x.op))) rfl (rf_sub rfl rfl rfl rfl (IntWalk.i64_in _ (by omega))) rfl ?_
                            refine wl_guardT rfl rfl rfl u32_5 ?_
                            refine wl_valE (v := .int .i64 (lvF x.op)) rfl (rf_move rfl) rfl ?_
                            refine wl_guardT rfl rfl rfl u32_5 ?_
                            refine wl_valE (v := .int .i64 ((y - (tkF x.op)) + (lvF x.op))) rfl (rf_add rfl rfl rfl rfl (IntWalk.i64_in _ (by omega))) rfl ?_
                            refine wl_guardT rfl rfl rfl u32_5 ?_
                            refine wl_valE (v := .bool (decide (z ≠ (y - (tkF x.op)) + (lvF x.op)))) rfl (rf_neq rfl rfl rfl rfl) rfl ?_
                            refine wl_valE (v := .bool (decide (z ≠ (y - (tkF x.op)) + (lvF x.op)))) rfl (rf_pickT rfl rfl rfl u32_5) rfl ?_
                            refine wl_nil ?_
                            refine thn ?_
                            refine cond_ (t := decide (z ≠ (y - (tkF x.op)) + (lvF x.op))) rfl rfl (fun c113 => ?_) (fun c113 => ?_)
                            · have c113p := of_decide_eq_true c113
                              have hver := ver_dep (e := 34) hs hf (by rw [← hD, dep_bad hx hy c71p (by omega) (by rw [← hS, drop_at ht, step_bad hz (by omega)])])
                              refine seq_ ?_
                              refine region_ ?_
                              refine wl_valE (v := .bool true) rfl (rf_assign rfl) rfl ?_
                              refine wl_nil ?_
                              refine thn ?_
                              refine exit_ ?_
                              refine thx (blo rfl (thx (thx (blo rfl (blo rfl (thx (thx (blx ?_))))))))
                              refine thn ?_
                              refine seq_ ?_
                              refine seq_ ?_
                              refine region_ ?_
                              refine wl_valE (v := .bool true) rfl (rf_move rfl) rfl ?_
                              refine wl_nil ?_
                              refine thn ?_
                              refine condT rfl rfl ?_
                              refine seq_ ?_
                              refine region_ ?_
                              refine wl_valE (v := .slice none 0 0) rfl (rf_assign rfl) rfl ?_
                              refine wl_valE (v := .int .i64 (34 : Int)) rfl (rf_assign rfl) rfl ?_
                              refine wl_nil ?_
                              refine thn ?_
                              refine ret_ ?_
                              refine thr (scr ?_)
                              refine fin2 (v1 := .slice none 0 0) (v2 := .int .i64 (34 : Int)) Try.results28 rfl rfl rfl rfl ?_
                              exact ⟨_, ⟨_, by rw [hver], rfl⟩, HL3.pick' [] rfl rfl⟩
                            · have c113p := of_decide_eq_false c113
                              refine skip_ ?_
                              refine thn ?_
                              refine region_ ?_
                              refine wl_valE (v := .slice da (p.code.n + 1) (p.code.n + 1)) rfl (rf_move rfl) rfl ?_
                              refine wl_valE (v := .int .i64 t) rfl (rf_move rfl) rfl ?_
                              refine wl_valE (v := .int .i64 y) rfl (rf_move rfl) rfl ?_
                              refine wl_valE (v := .int .i64 (tkF x.op)) rfl (rf_move rfl) rfl ?_
                              refine wl_valE (v := .int .i64 (y - (tkF x.op))) rfl (rf_sub rfl rfl rfl rfl (IntWalk.i64_in _ (by omega))) rfl ?_
                              refine wl_valE (v := .int .i64 (lvF x.op)) rfl (rf_move rfl) rfl ?_
                              refine wl_valE (v := .int .i64 ((y - (tkF x.op)) + (lvF x.op))) rfl (rf_add rfl rfl rfl rfl (IntWalk.i64_in _ (by omega))) rfl ?_
                              refine wl_valE (v := .pointer (some ⟨ab da, ao da + t.toNat * 1, none⟩)) rfl (rf_indexAddrH Try.underlying65 ti3 rfl rfl rfl rfl (by omega) (by omega) (HL3.rdO 1 slH_rd)) rfl ?_
                              refine wl_storeElH HL3 1 (enc := encI) (i := t.toNat) (j := 0) (q := ((y - (tkF x.op)) + (lvF x.op))) (u := .int .i64 ((y - (tkF x.op)) + (lvF x.op))) (cs := [.int .i64 ((y - (tkF x.op)) + (lvF x.op))]) rfl rfl encI_len ti3 rfl rfl rfl rfl rfl rfl oneAll hz (leb rfl) rfl ?_
                              intro w29 H29
                              have hx29 : (e.set t.toNat ((y - (tkF x.op)) + (lvF x.op)))[t.toNat]? = some ((y - (tkF x.op)) + (lvF x.op)) := List.getElem?_set_self (List.getElem?_eq_some_iff.1 hz).1
                              have hn29 := slH_len H29 1 rfl
                              refine wl_nil ?_
                              refine bln ?_
                              refine thn ?_
                              refine region_ ?_
                              refine wl_valE (v := .int .i64 ((k + 1 : Nat) : Int)) rfl (rf_add rfl rfl rfl rfl (IntWalk.i64_in _ (by omega))) rfl ?_
                              refine wl_valE (v := .int .i64 ((k + 1 : Nat) : Int)) rfl (rf_move rfl) rfl ?_
                              refine wl_nil ?_
                              refine thn ?_
                              refine ⟨(waysF ((i : Nat) : Int) x).length - (k + 1), _, rfl, (by omega), _, k + 1, (e.set t.toNat (y - tkF x.op + lvF x.op)), upds_self ⟨rfl, rfl, rfl, rfl, rfl, rfl, rfl, rfl, rfl, rfl, rfl, trivial⟩, rfl, ⟨by omega, by rw [List.length_set]; exact hel⟩, set_in heb (by omega), by rw [← hS, drop_at ht, step_ok hz (by omega)], H29.pick' [0, 1, 2, 3] rfl rfl⟩
                          · have u32_5p := of_decide_eq_false u32_5
                            refine wl_guardF rfl rfl rfl u32_5 ?_
                            refine wl_guardF rfl rfl rfl u32_5 ?_
                            refine wl_guardF rfl rfl rfl u32_5 ?_
                            refine wl_guardF rfl rfl rfl u32_5 ?_
                            refine wl_guardF rfl rfl rfl u32_5 ?_
                            refine wl_guardF rfl rfl rfl u32_5 ?_
                            refine wl_guardF rfl rfl rfl u32_5 ?_
                            refine wl_guardF rfl rfl rfl u32_5 ?_
                            refine wl_guardF rfl rfl rfl u32_5 ?_
                            refine wl_guardF rfl rfl rfl u32_5 ?_
                            refine wl_valE (v := .bool false) rfl (rf_pickF rfl rfl rfl u32_5) rfl ?_
                            refine wl_nil ?_
                            refine thn ?_
                            refine condF rfl rfl ?_
                            refine skip_ ?_
                            refine thn ?_
                            refine region_ ?_
                            refine wl_valE (v := .slice da (p.code.n + 1) (p.code.n + 1)) rfl (rf_move rfl) rfl ?_
                            refine wl_valE (v := .int .i64 t) rfl (rf_move rfl) rfl ?_
                            refine wl_valE (v := .int .i64 y) rfl (rf_move rfl) rfl ?_
                            refine wl_valE (v := .int .i64 (tkF x.op)) rfl (rf_move rfl) rfl ?_
                            refine wl_valE (v := .int .i64 (y - (tkF x.op))) rfl (rf_sub rfl rfl rfl rfl (IntWalk.i64_in _ (by omega))) rfl ?_
                            refine wl_valE (v := .int .i64 (lvF x.op)) rfl (rf_move rfl) rfl ?_
                            refine wl_valE (v := .int .i64 ((y - (tkF x.op)) + (lvF x.op))) rfl (rf_add rfl rfl rfl rfl (IntWalk.i64_in _ (by omega))) rfl ?_
                            refine wl_valE (v := .pointer (some ⟨ab da, ao da + t.toNat * 1, none⟩)) rfl (rf_indexAddrH Try.underlying65 ti3 rfl rfl rfl rfl (by omega) (by omega) (HL3.rdO 1 slH_rd)) rfl ?_
                            refine wl_storeElH HL3 1 (enc := encI) (i := t.toNat) (j := 0) (q := ((y - (tkF x.op)) + (lvF x.op))) (u := .int .i64 ((y - (tkF x.op)) + (lvF x.op))) (cs := [.int .i64 ((y - (tkF x.op)) + (lvF x.op))]) rfl rfl encI_len ti3 rfl rfl rfl rfl rfl rfl oneAll hz (leb rfl) rfl ?_
                            intro w30 H30
                            have hx30 : (e.set t.toNat ((y - (tkF x.op)) + (lvF x.op)))[t.toNat]? = some ((y - (tkF x.op)) + (lvF x.op)) := List.getElem?_set_self (List.getElem?_eq_some_iff.1 hz).1
                            have hn30 := slH_len H30 1 rfl
                            refine wl_nil ?_
                            refine bln ?_
                            refine thn ?_
                            refine region_ ?_
                            refine wl_valE (v := .int .i64 ((k + 1 : Nat) : Int)) rfl (rf_add rfl rfl rfl rfl (IntWalk.i64_in _ (by omega))) rfl ?_
                            refine wl_valE (v := .int .i64 ((k + 1 : Nat) : Int)) rfl (rf_move rfl) rfl ?_
                            refine wl_nil ?_
                            refine thn ?_
                            refine ⟨(waysF ((i : Nat) : Int) x).length - (k + 1), _, rfl, (by omega), _, k + 1, (e.set t.toNat (y - tkF x.op + lvF x.op)), upds_self ⟨rfl, rfl, rfl, rfl, rfl, rfl, rfl, rfl, rfl, rfl, rfl, trivial⟩, rfl, ⟨by omega, by rw [List.length_set]; exact hel⟩, set_in heb (by omega), by rw [← hS, drop_at ht, step_ok hz (by omega)], H30.pick' [0, 1, 2, 3] rfl rfl⟩
                        · have c94p := of_decide_eq_false c94
                          refine exit_ ?_
                          refine thx (thx (blx ?_))
                          refine bln ?_
                          refine thn ?_
                          refine region_ ?_
                          refine wl_valE (v := .int .i64 ((i + 1 : Nat) : Int)) rfl (rf_add rfl rfl rfl rfl (IntWalk.i64_in _ (by omega))) rfl ?_
                          refine wl_valE (v := .int .i64 ((i + 1 : Nat) : Int)) rfl (rf_move rfl) rfl ?_
                          refine wl_nil ?_
                          refine thn ?_
                          refine ⟨p.code.n - (i + 1), _, rfl, (by omega), _, i + 1, e, upds_self ⟨rfl, rfl, rfl, rfl, rfl, trivial⟩, rfl, ⟨by omega, hel⟩, heb, by rw [← hD, dep_ok hx hy c71p (by omega) (by rw [← hS, drop_all (by omega)]; rfl)], HL3.pick' [0, 1] rfl rfl⟩
              · have c62p := of_decide_eq_false c62
                refine exit_ ?_
                refine thx (thx (blx ?_))
                refine thn ?_
                refine seq_ ?_
                refine seq_ ?_
                refine region_ ?_
                refine wl_valE (v := .bool false) rfl (rf_move rfl) rfl ?_
                refine wl_nil ?_
                refine thn ?_
                refine condF rfl rfl ?_
                refine skip_ ?_
                refine thn ?_
                refine seq_ ?_
                obtain rfl : i = p.code.n := by omega
                have hver := ver_dep (e := 0) hs hf (by rw [← hD, drop_all (by omega)]; rfl)
                refine region_ ?_
                refine wl_valE (v := .slice da (p.code.n + 1) (p.code.n + 1)) rfl (rf_move rfl) rfl ?_
                refine wl_valE (v := .slice da (p.code.n + 1) (p.code.n + 1)) rfl (rf_assign rfl) rfl ?_
                refine wl_valE (v := .int .i64 (0 : Int)) rfl (rf_assign rfl) rfl ?_
                refine wl_nil ?_
                refine thn ?_
                refine ret_ ?_
                refine scr ?_
                refine fin2 (v1 := .slice da (p.code.n + 1) (p.code.n + 1)) (v2 := .int .i64 (0 : Int)) Try.results28 rfl rfl rfl rfl ?_
                exact ⟨_, ⟨_, by rw [hver], rfl⟩, HL2.pick' [] rfl rfl⟩
set_option maxRecDepth 100000 in
set_option maxHeartbeats 1000000 in
theorem depths_tr (p : ProgR) : Tr Try.prog 29 [.agg #[.int .i64 p.args, .int .i64 p.reads, .int .i64 p.writes, .int .i64 p.locals, .slice p.code.a p.code.n p.code.c]] [rdH encIns 2 p.code.a p.code.n p.code.c p.cl] [] (fun v m => ∃ s, v = .tuple #[s, .int .i64 (verE p)] ∧ m = []) := by
  intro w0 S0 H0
  have hl := (rd_len (H0.rdR 0 Le.rfl)).1
  refine enterR Try.func29 rfl Try.ntmps29 rfl ?_
  intro g0
  refine seq_ ?_
  refine region_ ?_
  refine wl_boxH H0 (v := .agg #[.int .i64 p.args, .int .i64 p.reads, .int .i64 p.writes, .int .i64 p.locals, .slice p.code.a p.code.n p.code.c]) rfl rfl ?_
  intro bp w2 H2
  refine wl_valE (v := .slice none 0 0) rfl (rf_assign rfl) rfl ?_
  refine wl_valE (v := .int .i64 (0 : Int)) rfl (rf_assign rfl) rfl ?_
  refine wl_nil ?_
  refine thn ?_
  refine seq_ ?_
  refine seq_ ?_
  refine region_ ?_
  refine wl_valE (v := .agg #[.int .i64 p.args, .int .i64 p.reads, .int .i64 p.writes, .int .i64 p.locals, .slice p.code.a p.code.n p.code.c]) rfl (rf_loadBlk Try.underlying32 rfl ti32 rfl rfl (H2.blk 0 rfl) (leb rfl)) rfl ?_
  refine wl_tr H2 rfl [] (limits_tr p) rfl .nil (rf_call Try.call35 rfl rfl) rfl ?_
  rintro _ w3 _ ⟨rfl, rfl⟩ H3
  refine wl_valE (v := .bool (!(decide (sizeP p)))) rfl (rf_not rfl rfl) rfl ?_
  refine wl_nil ?_
  refine thn ?_
  refine cond_ (t := !(decide (sizeP p))) rfl rfl (fun c16 => ?_) (fun c16 => ?_)
  · have c16p := of_decide_eq_false (bnotT c16)
    have hver := ver_size (p := p) (by simpa using c16)
    refine seq_ ?_
    refine region_ ?_
    refine wl_valE (v := .slice none 0 0) rfl (rf_assign rfl) rfl ?_
    refine wl_valE (v := .int .i64 (30 : Int)) rfl (rf_assign rfl) rfl ?_
    refine wl_nil ?_
    refine thn ?_
    refine ret_ ?_
    refine thr ?_
    refine fin2 (v1 := .slice none 0 0) (v2 := .int .i64 (30 : Int)) Try.results29 rfl rfl rfl rfl ?_
    exact ⟨_, ⟨_, by rw [hver], rfl⟩, H3.pick' [] rfl rfl⟩
  · have c16p := of_decide_eq_true (bnotF c16)
    have hs : sizeP p := by simpa using c16
    have hs2 := hs
    unfold sizeP at hs2
    refine skip_ ?_
    refine thn ?_
    refine seq_ ?_
    refine seq_ ?_
    refine region_ ?_
    refine wl_valE (v := .int .i64 (0 : Int)) rfl (rf_assign rfl) rfl ?_
    refine wl_nil ?_
    refine thn ?_
    refine block_ ?_
    refine loop_ (fun qk_ qf_ qw_ => ∃ (g : Nat → Value) (i : Nat), qf_ = upds g [(1, .pointer (some ⟨bp, 0, none⟩)), (4, .int .i64 ((i : Nat) : Int))] ∧ qk_ = p.code.n - i ∧ (i ≤ p.code.n) ∧ (firstE p i (p.cl.drop i) = firstE p 0 p.cl) ∧ St w0 S0 [rdH encIns 2 p.code.a p.code.n p.code.c p.cl] qw_ [blkH bp #[.int .i64 p.args, .int .i64 p.reads, .int .i64 p.writes, .int .i64 p.locals, .slice p.code.a p.code.n p.code.c] 32]) (p.code.n - 0) ?_ ?_
    · refine ⟨_, 0, upds_self ⟨rfl, rfl, trivial⟩, rfl, Nat.zero_le _, rfl, H3.pick' [0] rfl rfl⟩
    · rintro lk0 _ wl0 ⟨gl0, i, rfl, hlk0, hi, hE, HL0⟩
      refine seq_ ?_
      refine seq_ ?_
      refine region_ ?_
      refine wl_valE (v := .int .i64 ((i : Nat) : Int)) rfl (rf_move rfl) rfl ?_
      refine wl_valE (v := .pointer (some ⟨bp, 4, none⟩)) rfl (rf_fieldAddr Try.underlying32 rfl ti30 rfl rfl) rfl ?_
      refine wl_valE (v := .slice p.code.a p.code.n p.code.c) rfl (rf_load Try.underlying30 rfl rfl rfl ((HL0.blk 0 rfl).cell rfl)) rfl ?_
      refine wl_valE (v := .int .i64 ((p.code.n : Nat) : Int)) rfl (rf_len_slice Try.underlying30 rfl rfl) rfl ?_
      refine wl_valE (v := .bool (decide (((i : Nat) : Int) < ((p.code.n : Nat) : Int)))) rfl (rf_lss rfl rfl rfl rfl) rfl ?_
      refine wl_nil ?_
      refine thn ?_
      refine cond_ (t := decide (((i : Nat) : Int) < ((p.code.n : Nat) : Int))) rfl rfl (fun c21 => ?_) (fun c21 => ?_)
      · have c21p := of_decide_eq_true c21
        refine skip_ ?_
        refine thn ?_
        refine seq_ ?_
        refine block_ ?_
        refine seq_ ?_
        have hn4 := rd_len (HL0.rdR 0 Le.rfl)
        obtain ⟨x, hx⟩ : ∃ q_, p.cl[i]? = some q_ := ⟨_, List.getElem?_eq_getElem (by omega)⟩
        refine region_ ?_
        refine wl_valE (v := .pointer (some ⟨bp, 4, none⟩)) rfl (rf_fieldAddr Try.underlying32 rfl ti30 rfl rfl) rfl ?_
        refine wl_valE (v := .slice p.code.a p.code.n p.code.c) rfl (rf_load Try.underlying30 rfl rfl rfl ((HL0.blk 0 rfl).cell rfl)) rfl ?_
        refine wl_valE (v := .int .i64 ((i : Nat) : Int)) rfl (rf_move rfl) rfl ?_
        refine wl_valE (v := .pointer (some ⟨ab p.code.a, ao p.code.a + i * 2, none⟩)) rfl (rf_indexAddrH Try.underlying30 ti87 rfl rfl rfl rfl (by omega) (by omega) (HL0.rdR 0 Le.rfl)) rfl ?_
        refine wl_valE (v := .agg #[.int .i64 x.op, .int .i64 x.a]) rfl (rf_loadAgg (cs := [.int .i64 x.op, .int .i64 x.a]) Try.underlying87 rfl ti87 rfl rfl (el_sub' (rd_el (HL0.rdR 0 Le.rfl) hx) 0 2 rfl) rfl) rfl ?_
        refine wl_allocH HL0 ti87 ?_
        intro bi w6 H6
        refine wl_storeAggH H6 1 (o := 0) (cs := [.int .i64 x.op, .int .i64 x.a]) (A' := #[.int .i64 x.op, .int .i64 x.a]) rfl rfl ti87 rfl rfl rfl rfl rfl oneAll (leb rfl) rfl ?_
        intro w7 H7
        refine wl_nil ?_
        refine thn ?_
        refine seq_ ?_
        refine seq_ ?_
        refine region_ ?_
        refine wl_valE (v := .pointer (some ⟨bi, 0, none⟩)) rfl (rf_fieldAddr Try.underlying87 rfl ti3 rfl rfl) rfl ?_
        refine wl_valE (v := .int .i64 x.op) rfl (rf_load Try.underlying3 rfl rfl rfl ((H7.blk 1 rfl).cell rfl)) rfl ?_
        refine wl_valE (v := .bool (decide (x.op < (0 : Int)))) rfl (rf_lss rfl rfl rfl rfl) rfl ?_
        refine wl_valE (v := .bool (decide (x.op < (0 : Int)))) rfl (rf_move rfl) rfl ?_
        refine wl_split (decide (x.op < (0 : Int))) (fun u7_3 => ?_) (fun u7_3 => ?_)
        · have u7_3p := of_decide_eq_true u7_3
          refine wl_guardF rfl rfl rfl u7_3 ?_
          refine wl_guardF rfl rfl rfl u7_3 ?_
          refine wl_guardF rfl rfl rfl u7_3 ?_
          refine wl_valE (v := .bool true) rfl (rf_pickT rfl rfl rfl u7_3) rfl ?_
          refine wl_nil ?_
          refine thn ?_
          refine condT rfl rfl ?_
          have hver := ver_first (e := 31) hs (by rw [← hE, firstE_bad hx (e := 31) (by unfold insE; rw [if_neg (by omega)]) (by decide)]) (by decide)
          refine seq_ ?_
          refine region_ ?_
          refine wl_valE (v := .slice none 0 0) rfl (rf_assign rfl) rfl ?_
          refine wl_valE (v := .int .i64 (31 : Int)) rfl (rf_assign rfl) rfl ?_
          refine wl_nil ?_
          refine thn ?_
          refine ret_ ?_
          refine thr (blr (thr (thr (blr (thr ?_)))))
          refine fin2 (v1 := .slice none 0 0) (v2 := .int .i64 (31 : Int)) Try.results29 rfl rfl rfl rfl ?_
          exact ⟨_, ⟨_, by rw [hver], rfl⟩, H7.pick' [] rfl rfl⟩
        · have u7_3p := of_decide_eq_false u7_3
          refine wl_guardT rfl rfl rfl u7_3 ?_
          refine wl_valE (v := .pointer (some ⟨bi, 0, none⟩)) rfl (rf_fieldAddr Try.underlying87 rfl ti3 rfl rfl) rfl ?_
          refine wl_guardT rfl rfl rfl u7_3 ?_
          refine wl_valE (v := .int .i64 x.op) rfl (rf_load Try.underlying3 rfl rfl rfl ((H7.blk 1 rfl).cell rfl)) rfl ?_
          refine wl_guardT rfl rfl rfl u7_3 ?_
          refine wl_valE (v := .bool (decide ((37 : Int) ≤ x.op))) rfl (rf_geq rfl rfl rfl rfl) rfl ?_
          refine wl_valE (v := .bool (decide ((37 : Int) ≤ x.op))) rfl (rf_pickF rfl rfl rfl u7_3) rfl ?_
          refine wl_nil ?_
          refine thn ?_
          refine cond_ (t := decide ((37 : Int) ≤ x.op)) rfl rfl (fun c36 => ?_) (fun c36 => ?_)
          · have c36p := of_decide_eq_true c36
            have hver := ver_first (e := 31) hs (by rw [← hE, firstE_bad hx (e := 31) (by unfold insE; rw [if_neg (by omega)]) (by decide)]) (by decide)
            refine seq_ ?_
            refine region_ ?_
            refine wl_valE (v := .slice none 0 0) rfl (rf_assign rfl) rfl ?_
            refine wl_valE (v := .int .i64 (31 : Int)) rfl (rf_assign rfl) rfl ?_
            refine wl_nil ?_
            refine thn ?_
            refine ret_ ?_
            refine thr (blr (thr (thr (blr (thr ?_)))))
            refine fin2 (v1 := .slice none 0 0) (v2 := .int .i64 (31 : Int)) Try.results29 rfl rfl rfl rfl ?_
            exact ⟨_, ⟨_, by rw [hver], rfl⟩, H7.pick' [] rfl rfl⟩
          · have c36p := of_decide_eq_false c36
            have h : 0 ≤ x.op ∧ x.op < 37 := by omega
            refine skip_ ?_
            refine thn ?_
            refine seq_ ?_
            refine seq_ ?_
            refine region_ ?_
            refine wl_valE (v := .pointer (some ⟨bi, 0, none⟩)) rfl (rf_fieldAddr Try.underlying87 rfl ti3 rfl rfl) rfl ?_
            refine wl_valE (v := .int .i64 x.op) rfl (rf_load Try.underlying3 rfl rfl rfl ((H7.blk 1 rfl).cell rfl)) rfl ?_
            refine wl_tr H7 rfl [] (is_tr x.op h) rfl .nil (rf_call Try.call36 rfl rfl) rfl ?_
            rintro _ w8 _ ⟨rfl, rfl⟩ H8
            refine wl_valE (v := .bool (decide (x.op = 30 ∨ x.op = 31))) rfl (rf_move rfl) rfl ?_
            refine wl_split (decide (x.op = 30 ∨ x.op = 31)) (fun u9_3 => ?_) (fun u9_3 => ?_)
            · have u9_3p := of_decide_eq_true u9_3
              refine wl_guardT rfl rfl rfl u9_3 ?_
              refine wl_valE (v := .pointer (some ⟨bi, 1, none⟩)) rfl (rf_fieldAddr Try.underlying87 rfl ti2 rfl rfl) rfl ?_
              refine wl_guardT rfl rfl rfl u9_3 ?_
              refine wl_valE (v := .int .i64 x.a) rfl (rf_load Try.underlying2 rfl rfl rfl ((H8.blk 1 rfl).cell rfl)) rfl ?_
              refine wl_guardT rfl rfl rfl u9_3 ?_
              refine wl_valE (v := .int .i64 ((i : Nat) : Int)) rfl (rf_move rfl) rfl ?_
              refine wl_guardT rfl rfl rfl u9_3 ?_
              refine wl_valE (v := .bool (decide (x.a ≤ ((i : Nat) : Int)))) rfl (rf_leq rfl rfl rfl rfl) rfl ?_
              refine wl_guardT rfl rfl rfl u9_3 ?_
              refine wl_valE (v := .bool (decide (x.a ≤ ((i : Nat) : Int)))) rfl (rf_move rfl) rfl ?_
              refine wl_split (decide (x.a ≤ ((i : Nat) : Int))) (fun u9_8 => ?_) (fun u9_8 => ?_)
              · have u9_8p := of_decide_eq_true u9_8
                refine wl_guardF rfl rfl rfl u9_8 ?_
                refine wl_guardF rfl rfl rfl u9_8 ?_
                refine wl_guardF rfl rfl rfl u9_8 ?_
                refine wl_guardF rfl rfl rfl u9_8 ?_
                refine wl_guardF rfl rfl rfl u9_8 ?_
                refine wl_guardF rfl rfl rfl u9_8 ?_
                refine wl_guardT rfl rfl rfl u9_3 ?_
                refine wl_valE (v := .bool true) rfl (rf_pickT rfl rfl rfl u9_8) rfl ?_
                refine wl_valE (v := .bool true) rfl (rf_pickT rfl rfl rfl u9_3) rfl ?_
                refine wl_nil ?_
                refine thn ?_
                refine condT rfl rfl ?_
                have hver := ver_first (e := 33) hs (by rw [← hE, firstE_bad hx (ref_jump h (by omega) (by omega)) (by decide)]) (by decide)
                refine seq_ ?_
                refine region_ ?_
                refine wl_valE (v := .slice none 0 0) rfl (rf_assign rfl) rfl ?_
                refine wl_valE (v := .int .i64 (33 : Int)) rfl (rf_assign rfl) rfl ?_
                refine wl_nil ?_
                refine thn ?_
                refine ret_ ?_
                refine thr (blr (thr (thr (blr (thr ?_)))))
                refine fin2 (v1 := .slice none 0 0) (v2 := .int .i64 (33 : Int)) Try.results29 rfl rfl rfl rfl ?_
                exact ⟨_, ⟨_, by rw [hver], rfl⟩, H8.pick' [] rfl rfl⟩
              · have u9_8p := of_decide_eq_false u9_8
                refine wl_guardT rfl rfl rfl u9_8 ?_
                refine wl_valE (v := .pointer (some ⟨bi, 1, none⟩)) rfl (rf_fieldAddr Try.underlying87 rfl ti2 rfl rfl) rfl ?_
                refine wl_guardT rfl rfl rfl u9_8 ?_
                refine wl_valE (v := .int .i64 x.a) rfl (rf_load Try.underlying2 rfl rfl rfl ((H8.blk 1 rfl).cell rfl)) rfl ?_
                refine wl_guardT rfl rfl rfl u9_8 ?_
                refine wl_valE (v := .pointer (some ⟨bp, 4, none⟩)) rfl (rf_fieldAddr Try.underlying32 rfl ti30 rfl rfl) rfl ?_
                refine wl_guardT rfl rfl rfl u9_8 ?_
                refine wl_valE (v := .slice p.code.a p.code.n p.code.c) rfl (rf_load Try.underlying30 rfl rfl rfl ((H8.blk 0 rfl).cell rfl)) rfl ?_
                refine wl_guardT rfl rfl rfl u9_8 ?_
                refine wl_valE (v := .int .i64 ((p.code.n : Nat) : Int)) rfl (rf_len_slice Try.underlying30 rfl rfl) rfl ?_
                refine wl_guardT rfl rfl rfl u9_8 ?_
                refine wl_valE (v := .bool (decide (((p.code.n : Nat) : Int) < x.a))) rfl (rf_gtr rfl rfl rfl rfl) rfl ?_
                refine wl_guardT rfl rfl rfl u9_3 ?_
                refine wl_valE (v := .bool (decide (((p.code.n : Nat) : Int) < x.a))) rfl (rf_pickF rfl rfl rfl u9_8) rfl ?_
                refine wl_valE (v := .bool (decide (((p.code.n : Nat) : Int) < x.a))) rfl (rf_pickT rfl rfl rfl u9_3) rfl ?_
                refine wl_nil ?_
                refine thn ?_
                refine cond_ (t := decide (((p.code.n : Nat) : Int) < x.a)) rfl rfl (fun c53 => ?_) (fun c53 => ?_)
                · have c53p := of_decide_eq_true c53
                  have hver := ver_first (e := 33) hs (by rw [← hE, firstE_bad hx (ref_jump h (by omega) (by omega)) (by decide)]) (by decide)
                  refine seq_ ?_
                  refine region_ ?_
                  refine wl_valE (v := .slice none 0 0) rfl (rf_assign rfl) rfl ?_
                  refine wl_valE (v := .int .i64 (33 : Int)) rfl (rf_assign rfl) rfl ?_
                  refine wl_nil ?_
                  refine thn ?_
                  refine ret_ ?_
                  refine thr (blr (thr (thr (blr (thr ?_)))))
                  refine fin2 (v1 := .slice none 0 0) (v2 := .int .i64 (33 : Int)) Try.results29 rfl rfl rfl rfl ?_
                  exact ⟨_, ⟨_, by rw [hver], rfl⟩, H8.pick' [] rfl rfl⟩
                · have c53p := of_decide_eq_false c53
                  refine skip_ ?_
                  refine thn ?_
                  refine seq_ ?_
                  refine region_ ?_
                  refine wl_valE (v := .agg #[.int .i64 p.args, .int .i64 p.reads, .int .i64 p.writes, .int .i64 p.locals, .slice p.code.a p.code.n p.code.c]) rfl (rf_loadBlk Try.underlying32 rfl ti32 rfl rfl (H8.blk 0 rfl) (leb rfl)) rfl ?_
                  refine wl_valE (v := .agg #[.int .i64 x.op, .int .i64 x.a]) rfl (rf_loadBlk Try.underlying87 rfl ti87 rfl rfl (H8.blk 1 rfl) (leb rfl)) rfl ?_
                  refine wl_tr H8 rfl [] (argumentR_tr p x h) rfl .nil (rf_call Try.call37 rfl rfl) rfl ?_
                  rintro _ w9 _ ⟨rfl, rfl⟩ H9
                  refine wl_valE (v := .bool (!(decide (argB p x)))) rfl (rf_not rfl rfl) rfl ?_
                  refine wl_nil ?_
                  refine thn ?_
                  refine cond_ (t := !(decide (argB p x))) rfl rfl (fun c57 => ?_) (fun c57 => ?_)
                  · have c57p := of_decide_eq_false (bnotT c57)
                    have hver := ver_first (e := 32) hs (by rw [← hE, firstE_bad hx (ref_arg h (by omega) (by simpa using c57)) (by decide)]) (by decide)
                    refine seq_ ?_
                    refine region_ ?_
                    refine wl_valE (v := .slice none 0 0) rfl (rf_assign rfl) rfl ?_
                    refine wl_valE (v := .int .i64 (32 : Int)) rfl (rf_assign rfl) rfl ?_
                    refine wl_nil ?_
                    refine thn ?_
                    refine ret_ ?_
                    refine blr (thr (thr (blr (thr ?_))))
                    refine fin2 (v1 := .slice none 0 0) (v2 := .int .i64 (32 : Int)) Try.results29 rfl rfl rfl rfl ?_
                    exact ⟨_, ⟨_, by rw [hver], rfl⟩, H9.pick' [] rfl rfl⟩
                  · have c57p := of_decide_eq_true (bnotF c57)
                    refine skip_ ?_
                    refine bln ?_
                    refine thn ?_
                    refine region_ ?_
                    refine wl_valE (v := .int .i64 ((i : Nat) : Int)) rfl (rf_move rfl) rfl ?_
                    refine wl_valE (v := .int .i64 ((i + 1 : Nat) : Int)) rfl (rf_add rfl rfl rfl rfl (IntWalk.i64_in _ (by omega))) rfl ?_
                    refine wl_valE (v := .int .i64 ((i + 1 : Nat) : Int)) rfl (rf_assign rfl) rfl ?_
                    refine wl_nil ?_
                    refine thn ?_
                    refine ⟨p.code.n - (i + 1), _, rfl, (by omega), _, i + 1, upds_self ⟨rfl, rfl, trivial⟩, rfl, by omega, by rw [← hE, firstE_ok hx (ref_ok h (by omega) (by simpa using c57))], H9.pick' [0] rfl rfl⟩
            · have u9_3p := of_decide_eq_false u9_3
              refine wl_guardF rfl rfl rfl u9_3 ?_
              refine wl_guardF rfl rfl rfl u9_3 ?_
              refine wl_guardF rfl rfl rfl u9_3 ?_
              refine wl_guardF rfl rfl rfl u9_3 ?_
              refine wl_guardF rfl rfl rfl u9_3 ?_
              refine wl_guardS rfl rfl rfl ?_
              refine wl_guardS rfl rfl rfl ?_
              refine wl_guardS rfl rfl rfl ?_
              refine wl_guardS rfl rfl rfl ?_
              refine wl_guardS rfl rfl rfl ?_
              refine wl_guardS rfl rfl rfl ?_
              refine wl_guardF rfl rfl rfl u9_3 ?_
              refine wl_valE (v := .bool false) rfl (rf_pickF rfl rfl rfl u9_3) rfl ?_
              refine wl_nil ?_
              refine thn ?_
              refine condF rfl rfl ?_
              refine skip_ ?_
              refine thn ?_
              refine seq_ ?_
              refine region_ ?_
              refine wl_valE (v := .agg #[.int .i64 p.args, .int .i64 p.reads, .int .i64 p.writes, .int .i64 p.locals, .slice p.code.a p.code.n p.code.c]) rfl (rf_loadBlk Try.underlying32 rfl ti32 rfl rfl (H8.blk 0 rfl) (leb rfl)) rfl ?_
              refine wl_valE (v := .agg #[.int .i64 x.op, .int .i64 x.a]) rfl (rf_loadBlk Try.underlying87 rfl ti87 rfl rfl (H8.blk 1 rfl) (leb rfl)) rfl ?_
              refine wl_tr H8 rfl [] (argumentR_tr p x h) rfl .nil (rf_call Try.call37 rfl rfl) rfl ?_
              rintro _ w10 _ ⟨rfl, rfl⟩ H10
              refine wl_valE (v := .bool (!(decide (argB p x)))) rfl (rf_not rfl rfl) rfl ?_
              refine wl_nil ?_
              refine thn ?_
              refine cond_ (t := !(decide (argB p x))) rfl rfl (fun c57 => ?_) (fun c57 => ?_)
              · have c57p := of_decide_eq_false (bnotT c57)
                have hver := ver_first (e := 32) hs (by rw [← hE, firstE_bad hx (ref_arg h (by omega) (by simpa using c57)) (by decide)]) (by decide)
                refine seq_ ?_
                refine region_ ?_
                refine wl_valE (v := .slice none 0 0) rfl (rf_assign rfl) rfl ?_
                refine wl_valE (v := .int .i64 (32 : Int)) rfl (rf_assign rfl) rfl ?_
                refine wl_nil ?_
                refine thn ?_
                refine ret_ ?_
                refine blr (thr (thr (blr (thr ?_))))
                refine fin2 (v1 := .slice none 0 0) (v2 := .int .i64 (32 : Int)) Try.results29 rfl rfl rfl rfl ?_
                exact ⟨_, ⟨_, by rw [hver], rfl⟩, H10.pick' [] rfl rfl⟩
              · have c57p := of_decide_eq_true (bnotF c57)
                refine skip_ ?_
                refine bln ?_
                refine thn ?_
                refine region_ ?_
                refine wl_valE (v := .int .i64 ((i : Nat) : Int)) rfl (rf_move rfl) rfl ?_
                refine wl_valE (v := .int .i64 ((i + 1 : Nat) : Int)) rfl (rf_add rfl rfl rfl rfl (IntWalk.i64_in _ (by omega))) rfl ?_
                refine wl_valE (v := .int .i64 ((i + 1 : Nat) : Int)) rfl (rf_assign rfl) rfl ?_
                refine wl_nil ?_
                refine thn ?_
                refine ⟨p.code.n - (i + 1), _, rfl, (by omega), _, i + 1, upds_self ⟨rfl, rfl, trivial⟩, rfl, by omega, by rw [← hE, firstE_ok hx (ref_ok h (by omega) (by simpa using c57))], H10.pick' [0] rfl rfl⟩
      · have c21p := of_decide_eq_false c21
        refine exit_ ?_
        refine thx (thx (blx ?_))
        refine thn ?_
        refine seq_ ?_
        obtain rfl : i = p.code.n := by omega
        have hf : firstE p 0 p.cl = 0 := by rw [← hE, drop_all (by omega)]; rfl
        refine region_ ?_
        refine wl_buildSliceH (enc := encI) HL0 [0] encI_len Try.underlying65 ti3 rfl rfl rfl (.cons rfl rfl rfl rfl rfl rfl .nil) ?_
        intro da w12 H12
        refine wl_valE (v := .slice da 1 1) rfl (rf_assign rfl) rfl ?_
        refine wl_nil ?_
        refine thn ?_
        refine seq_ ?_
        refine seq_ ?_
        refine region_ ?_
        refine wl_valE (v := .int .i64 (0 : Int)) rfl (rf_assign rfl) rfl ?_
        refine wl_nil ?_
        refine thn ?_
        refine block_ ?_
        refine loop_ (fun qk_ qf_ qw_ => ∃ (g : Nat → Value) (j : Nat) (da : Option Addr) (dc : Nat), qf_ = upds g [(1, .pointer (some ⟨bp, 0, none⟩)), (6, .slice da (j + 1) dc), (7, .int .i64 ((j : Nat) : Int))] ∧ qk_ = p.code.n - j ∧ (j ≤ p.code.n) ∧ St w0 S0 [rdH encIns 2 p.code.a p.code.n p.code.c p.cl] qw_ [blkH bp #[.int .i64 p.args, .int .i64 p.reads, .int .i64 p.writes, .int .i64 p.locals, .slice p.code.a p.code.n p.code.c] 32, slH encI 1 3 da (j + 1) dc (d0 j)]) (p.code.n - 0) ?_ ?_
        · refine ⟨_, 0, da, 1, upds_self ⟨rfl, rfl, rfl, trivial⟩, rfl, Nat.zero_le _, H12.pick' [0, 1] rfl rfl⟩
        · rintro lk1 _ wl1 ⟨gl1, j, da, dc, rfl, hlk1, hj, HL1⟩
          refine seq_ ?_
          refine seq_ ?_
          refine region_ ?_
          refine wl_valE (v := .int .i64 ((j : Nat) : Int)) rfl (rf_move rfl) rfl ?_
          refine wl_valE (v := .pointer (some ⟨bp, 4, none⟩)) rfl (rf_fieldAddr Try.underlying32 rfl ti30 rfl rfl) rfl ?_
          refine wl_valE (v := .slice p.code.a p.code.n p.code.c) rfl (rf_load Try.underlying30 rfl rfl rfl ((HL1.blk 0 rfl).cell rfl)) rfl ?_
          refine wl_valE (v := .int .i64 ((p.code.n : Nat) : Int)) rfl (rf_len_slice Try.underlying30 rfl rfl) rfl ?_
          refine wl_valE (v := .bool (decide (((j : Nat) : Int) < ((p.code.n : Nat) : Int)))) rfl (rf_lss rfl rfl rfl rfl) rfl ?_
          refine wl_nil ?_
          refine thn ?_
          refine cond_ (t := decide (((j : Nat) : Int) < ((p.code.n : Nat) : Int))) rfl rfl (fun c63 => ?_) (fun c63 => ?_)
          · have c63p := of_decide_eq_true c63
            refine skip_ ?_
            refine thn ?_
            refine seq_ ?_
            refine block_ ?_
            refine region_ ?_
            refine wl_valE (v := .slice da (j + 1) dc) rfl (rf_move rfl) rfl ?_
            refine wl_buildSliceH (enc := encI) HL1 [(-1 : Int)] encI_len Try.underlying65 ti3 rfl rfl rfl (.cons rfl rfl rfl rfl rfl rfl .nil) ?_
            intro a13 w14 H14
            refine wl_appendH (enc := encI) (N := j + 1 + 1) H14 1 rfl rfl encI_len encI_one Try.underlying65 ti3 rfl rfl rfl rfl rfl (H14.rdO 2 slH_rd) rfl (by omega) (by omega) ?_
            intro a15 c15 w15 hc15 hd15 H15
            have hrw16 : (d0 j) ++ ([(-1 : Int)]) = d0 (j + 1) := d0_app _
            rw [hrw16] at H15
            refine wl_valE (v := .slice a15 (j + 1 + 1) c15) rfl (rf_assign rfl) rfl ?_
            refine wl_nil ?_
            refine bln ?_
            refine thn ?_
            refine region_ ?_
            refine wl_valE (v := .int .i64 ((j : Nat) : Int)) rfl (rf_move rfl) rfl ?_
            refine wl_valE (v := .int .i64 ((j + 1 : Nat) : Int)) rfl (rf_add rfl rfl rfl rfl (IntWalk.i64_in _ (by omega))) rfl ?_
            refine wl_valE (v := .int .i64 ((j + 1 : Nat) : Int)) rfl (rf_assign rfl) rfl ?_
            refine wl_nil ?_
            refine thn ?_
            refine ⟨p.code.n - (j + 1), _, rfl, (by omega), _, j + 1, a15, c15, upds_self ⟨rfl, rfl, rfl, trivial⟩, rfl, by omega, H15.pick' [0, 1] rfl rfl⟩
          · have c63p := of_decide_eq_false c63
            refine exit_ ?_
            refine thx (thx (blx ?_))
            refine thn ?_
            refine seq_ ?_
            refine seq_ ?_
            refine region_ ?_
            refine wl_valE (v := .int .i64 (0 : Int)) rfl (rf_assign rfl) rfl ?_
            refine wl_nil ?_
            refine thn ?_
            refine block_ ?_
            obtain rfl : j = p.code.n := by omega
            refine loop_ (fun qk_ qf_ qw_ => ∃ (g : Nat → Value) (i : Nat) (d : List Int), qf_ = upds g [(1, .pointer (some ⟨bp, 0, none⟩)), (6, .slice da (p.code.n + 1) dc), (8, .int .i64 ((i : Nat) : Int))] ∧ qk_ = p.code.n - i ∧ (i ≤ p.code.n ∧ d.length = p.code.n + 1) ∧ (∀ z ∈ d, -1 ≤ z ∧ z ≤ 32) ∧ (depE (p.cl.drop i) i d = depE p.cl 0 (d0 p.code.n)) ∧ St w0 S0 [rdH encIns 2 p.code.a p.code.n p.code.c p.cl] qw_ [blkH bp #[.int .i64 p.args, .int .i64 p.reads, .int .i64 p.writes, .int .i64 p.locals, .slice p.code.a p.code.n p.code.c] 32, slH encI 1 3 da (p.code.n + 1) dc d]) (p.code.n - 0) ?_ ?_
            · refine ⟨_, 0, d0 p.code.n, upds_self ⟨rfl, rfl, rfl, trivial⟩, rfl, ⟨Nat.zero_le _, d0_len _⟩, d0_in _, rfl, HL1.pick' [0, 1] rfl rfl⟩
            · rintro lk2 _ wl2 ⟨gl2, i, d, rfl, hlk2, ⟨hi, hdl⟩, hdb, hD, HL2⟩
              refine seq_ ?_
              refine seq_ ?_
              refine region_ ?_
              refine wl_valE (v := .int .i64 ((i : Nat) : Int)) rfl (rf_move rfl) rfl ?_
              refine wl_valE (v := .pointer (some ⟨bp, 4, none⟩)) rfl (rf_fieldAddr Try.underlying32 rfl ti30 rfl rfl) rfl ?_
              refine wl_valE (v := .slice p.code.a p.code.n p.code.c) rfl (rf_load Try.underlying30 rfl rfl rfl ((HL2.blk 0 rfl).cell rfl)) rfl ?_
              refine wl_valE (v := .int .i64 ((p.code.n : Nat) : Int)) rfl (rf_len_slice Try.underlying30 rfl rfl) rfl ?_
              refine wl_valE (v := .bool (decide (((i : Nat) : Int) < ((p.code.n : Nat) : Int)))) rfl (rf_lss rfl rfl rfl rfl) rfl ?_
              refine wl_nil ?_
              refine thn ?_
              refine cond_ (t := decide (((i : Nat) : Int) < ((p.code.n : Nat) : Int))) rfl rfl (fun c73 => ?_) (fun c73 => ?_)
              · have c73p := of_decide_eq_true c73
                refine skip_ ?_
                refine thn ?_
                refine seq_ ?_
                refine block_ ?_
                refine seq_ ?_
                refine seq_ ?_
                have hn17 := rd_len (HL2.rdR 0 Le.rfl)
                obtain ⟨x, hx⟩ : ∃ q_, p.cl[i]? = some q_ := ⟨_, List.getElem?_eq_getElem (by omega)⟩
                have hn18 := slH_len HL2 1 rfl
                obtain ⟨y, hy⟩ : ∃ q_, d[i]? = some q_ := ⟨_, List.getElem?_eq_getElem (by omega)⟩
                have htk := tk_in x.op
                have hlv := lv_in x.op
                have hyb := hdb y (List.mem_of_getElem? hy)
                have hins : insE p ((i : Nat) : Int) x = 0 := by have := firstE_at hf i x hx; rwa [Nat.zero_add] at this
                have h : 0 ≤ x.op ∧ x.op < 37 := by unfold insE at hins; omega
                refine region_ ?_
                refine wl_valE (v := .slice da (p.code.n + 1) dc) rfl (rf_move rfl) rfl ?_
                refine wl_valE (v := .int .i64 ((i : Nat) : Int)) rfl (rf_move rfl) rfl ?_
                refine wl_valE (v := .pointer (some ⟨ab da, ao da + i * 1, none⟩)) rfl (rf_indexAddrH Try.underlying65 ti3 rfl rfl rfl rfl (by omega) (by omega) (HL2.rdO 1 slH_rd)) rfl ?_
                refine wl_valE (v := .int .i64 y) rfl (rf_load Try.underlying3 rfl rfl rfl (rd_el (HL2.rdO 1 slH_rd) hy 0 _ rfl)) rfl ?_
                refine wl_valE (v := .bool (decide (y < (0 : Int)))) rfl (rf_lss rfl rfl rfl rfl) rfl ?_
                refine wl_nil ?_
                refine thn ?_
                refine cond_ (t := decide (y < (0 : Int))) rfl rfl (fun c80 => ?_) (fun c80 => ?_)
                · have c80p := of_decide_eq_true c80
                  refine exit_ ?_
                  refine thx (blx ?_)
                  refine thn ?_
                  refine region_ ?_
                  refine wl_valE (v := .int .i64 ((i : Nat) : Int)) rfl (rf_move rfl) rfl ?_
                  refine wl_valE (v := .int .i64 ((i + 1 : Nat) : Int)) rfl (rf_add rfl rfl rfl rfl (IntWalk.i64_in _ (by omega))) rfl ?_
                  refine wl_valE (v := .int .i64 ((i + 1 : Nat) : Int)) rfl (rf_assign rfl) rfl ?_
                  refine wl_nil ?_
                  refine thn ?_
                  refine ⟨p.code.n - (i + 1), _, rfl, (by omega), _, i + 1, d, upds_self ⟨rfl, rfl, rfl, trivial⟩, rfl, ⟨by omega, hdl⟩, hdb, by rw [← hD, dep_low hx hy c80p], HL2.pick' [0, 1] rfl rfl⟩
                · have c80p := of_decide_eq_false c80
                  refine skip_ ?_
                  refine thn ?_
                  refine seq_ ?_
                  refine region_ ?_
                  refine wl_valE (v := .pointer (some ⟨bp, 4, none⟩)) rfl (rf_fieldAddr Try.underlying32 rfl ti30 rfl rfl) rfl ?_
                  refine wl_valE (v := .slice p.code.a p.code.n p.code.c) rfl (rf_load Try.underlying30 rfl rfl rfl ((HL2.blk 0 rfl).cell rfl)) rfl ?_
                  refine wl_valE (v := .int .i64 ((i : Nat) : Int)) rfl (rf_move rfl) rfl ?_
                  refine wl_valE (v := .pointer (some ⟨ab p.code.a, ao p.code.a + i * 2, none⟩)) rfl (rf_indexAddrH Try.underlying30 ti87 rfl rfl rfl rfl (by omega) (by omega) (HL2.rdR 0 Le.rfl)) rfl ?_
                  refine wl_valE (v := .pointer (some ⟨ab p.code.a, ao p.code.a + i * 2, none⟩)) rfl (rf_fieldAddr Try.underlying87 rfl ti3 rfl rfl) rfl ?_
                  refine wl_valE (v := .int .i64 x.op) rfl (rf_load Try.underlying3 rfl rfl rfl (rd_el (HL2.rdR 0 Le.rfl) hx 0 _ rfl)) rfl ?_
                  refine wl_tr HL2 rfl [] (takes_tr x.op h) rfl .nil (rf_call Try.call38 rfl rfl) rfl ?_
                  rintro _ w19 _ ⟨rfl, rfl⟩ H19
                  refine wl_valE (v := .tuple #[.int .i64 (tkF x.op), .int .i64 (lvF x.op)]) rfl (rf_move rfl) rfl ?_
                  refine wl_valE (v := .int .i64 (tkF x.op)) rfl (rf_extract rfl rfl rfl) rfl ?_
                  refine wl_valE (v := .int .i64 (lvF x.op)) rfl (rf_extract rfl rfl rfl) rfl ?_
                  refine wl_valE (v := .int .i64 (tkF x.op)) rfl (rf_assign rfl) rfl ?_
                  refine wl_valE (v := .int .i64 (lvF x.op)) rfl (rf_assign rfl) rfl ?_
                  refine wl_nil ?_
                  refine thn ?_
                  refine seq_ ?_
                  refine region_ ?_
                  refine wl_valE (v := .slice da (p.code.n + 1) dc) rfl (rf_move rfl) rfl ?_
                  refine wl_valE (v := .int .i64 ((i : Nat) : Int)) rfl (rf_move rfl) rfl ?_
                  refine wl_valE (v := .pointer (some ⟨ab da, ao da + i * 1, none⟩)) rfl (rf_indexAddrH Try.underlying65 ti3 rfl rfl rfl rfl (by omega) (by omega) (H19.rdO 1 slH_rd)) rfl ?_
                  refine wl_valE (v := .int .i64 y) rfl (rf_load Try.underlying3 rfl rfl rfl (rd_el (H19.rdO 1 slH_rd) hy 0 _ rfl)) rfl ?_
                  refine wl_valE (v := .int .i64 (tkF x.op)) rfl (rf_move rfl) rfl ?_
                  refine wl_valE (v := .int .i64 (y - (tkF x.op))) rfl (rf_sub rfl rfl rfl rfl (IntWalk.i64_in _ (by omega))) rfl ?_
                  refine wl_valE (v := .int .i64 (y - (tkF x.op))) rfl (rf_assign rfl) rfl ?_
                  refine wl_nil ?_
                  refine thn ?_
                  refine seq_ ?_
                  refine seq_ ?_
                  refine region_ ?_
                  refine wl_valE (v := .int .i64 (y - (tkF x.op))) rfl (rf_move rfl) rfl ?_
                  refine wl_valE (v := .bool (decide (y - (tkF x.op) < (0 : Int)))) rfl (rf_lss rfl rfl rfl rfl) rfl ?_
                  refine wl_valE (v := .bool (decide (y - (tkF x.op) < (0 : Int)))) rfl (rf_move rfl) rfl ?_
                  refine wl_split (decide (y - (tkF x.op) < (0 : Int))) (fun u24_2 => ?_) (fun u24_2 => ?_)
                  · have u24_2p := of_decide_eq_true u24_2
                    refine wl_guardF rfl rfl rfl u24_2 ?_
                    refine wl_guardF rfl rfl rfl u24_2 ?_
                    refine wl_guardF rfl rfl rfl u24_2 ?_
                    refine wl_guardF rfl rfl rfl u24_2 ?_
                    refine wl_valE (v := .bool true) rfl (rf_pickT rfl rfl rfl u24_2) rfl ?_
                    refine wl_nil ?_
                    refine thn ?_
                    refine condT rfl rfl ?_
                    have hver := ver_dep (e := 34) hs hf (by rw [← hD, dep_out hx hy c80p (by omega)])
                    refine seq_ ?_
                    refine region_ ?_
                    refine wl_valE (v := .slice none 0 0) rfl (rf_assign rfl) rfl ?_
                    refine wl_valE (v := .int .i64 (34 : Int)) rfl (rf_assign rfl) rfl ?_
                    refine wl_nil ?_
                    refine thn ?_
                    refine ret_ ?_
                    refine thr (blr (thr (thr (blr (thr ?_)))))
                    refine fin2 (v1 := .slice none 0 0) (v2 := .int .i64 (34 : Int)) Try.results29 rfl rfl rfl rfl ?_
                    exact ⟨_, ⟨_, by rw [hver], rfl⟩, H19.pick' [] rfl rfl⟩
                  · have u24_2p := of_decide_eq_false u24_2
                    refine wl_guardT rfl rfl rfl u24_2 ?_
                    refine wl_valE (v := .int .i64 (y - (tkF x.op))) rfl (rf_move rfl) rfl ?_
                    refine wl_guardT rfl rfl rfl u24_2 ?_
                    refine wl_valE (v := .int .i64 (lvF x.op)) rfl (rf_move rfl) rfl ?_
                    refine wl_guardT rfl rfl rfl u24_2 ?_
                    refine wl_valE (v := .int .i64 ((y - (tkF x.op)) + (lvF x.op))) rfl (rf_add rfl rfl rfl rfl (IntWalk.i64_in _ (by omega))) rfl ?_
                    refine wl_guardT rfl rfl rfl u24_2 ?_
                    refine wl_valE (v := .bool (decide ((32 : Int) < (y - (tkF x.op)) + (lvF x.op)))) rfl (rf_gtr rfl rfl rfl rfl) rfl ?_
                    refine wl_valE (v := .bool (decide ((32 : Int) < (y - (tkF x.op)) + (lvF x.op)))) rfl (rf_pickF rfl rfl rfl u24_2) rfl ?_
                    refine wl_nil ?_
                    refine thn ?_
                    refine cond_ (t := decide ((32 : Int) < (y - (tkF x.op)) + (lvF x.op))) rfl rfl (fun c104 => ?_) (fun c104 => ?_)
                    · have c104p := of_decide_eq_true c104
                      have hver := ver_dep (e := 34) hs hf (by rw [← hD, dep_out hx hy c80p (by omega)])
                      refine seq_ ?_
                      refine region_ ?_
                      refine wl_valE (v := .slice none 0 0) rfl (rf_assign rfl) rfl ?_
                      refine wl_valE (v := .int .i64 (34 : Int)) rfl (rf_assign rfl) rfl ?_
                      refine wl_nil ?_
                      refine thn ?_
                      refine ret_ ?_
                      refine thr (blr (thr (thr (blr (thr ?_)))))
                      refine fin2 (v1 := .slice none 0 0) (v2 := .int .i64 (34 : Int)) Try.results29 rfl rfl rfl rfl ?_
                      exact ⟨_, ⟨_, by rw [hver], rfl⟩, H19.pick' [] rfl rfl⟩
                    · have c104p := of_decide_eq_false c104
                      refine skip_ ?_
                      refine thn ?_
                      refine seq_ ?_
                      refine region_ ?_
                      refine wl_valE (v := .int .i64 (y - (tkF x.op))) rfl (rf_move rfl) rfl ?_
                      refine wl_valE (v := .int .i64 (lvF x.op)) rfl (rf_move rfl) rfl ?_
                      refine wl_valE (v := .int .i64 ((y - (tkF x.op)) + (lvF x.op))) rfl (rf_add rfl rfl rfl rfl (IntWalk.i64_in _ (by omega))) rfl ?_
                      refine wl_valE (v := .int .i64 ((y - (tkF x.op)) + (lvF x.op))) rfl (rf_assign rfl) rfl ?_
                      refine wl_nil ?_
                      refine thn ?_
                      refine seq_ ?_
                      refine region_ ?_
                      refine wl_valE (v := .agg #[.int .i64 p.args, .int .i64 p.reads, .int .i64 p.writes, .int .i64 p.locals, .slice p.code.a p.code.n p.code.c]) rfl (rf_loadBlk Try.underlying32 rfl ti32 rfl rfl (H19.blk 0 rfl) (leb rfl)) rfl ?_
                      refine wl_valE (v := .int .i64 ((i : Nat) : Int)) rfl (rf_move rfl) rfl ?_
                      refine wl_tr H19 rfl [] (next_tr p i x hx (by omega) h) rfl (.ro 0 Le.rfl .nil) (rf_call Try.call39 rfl rfl) rfl ?_
                      rintro _ w20 _ ⟨wa, wc, rfl, rfl⟩ H20
                      refine wl_valE (v := .slice wa ((nextF ((i : Nat) : Int) x).length) wc) rfl (rf_assign rfl) rfl ?_
                      refine wl_nil ?_
                      refine thn ?_
                      refine seq_ ?_
                      refine region_ ?_
                      refine wl_valE (v := .int .i64 (0 : Int)) rfl (rf_assign rfl) rfl ?_
                      refine wl_nil ?_
                      refine thn ?_
                      refine block_ ?_
                      refine loop_ (fun qk_ qf_ qw_ => ∃ (g : Nat → Value) (k : Nat) (e : List Int), qf_ = upds g [(1, .pointer (some ⟨bp, 0, none⟩)), (6, .slice da (p.code.n + 1) dc), (8, .int .i64 ((i : Nat) : Int)), (11, .int .i64 ((y - (tkF x.op)) + (lvF x.op))), (12, .slice wa ((nextF ((i : Nat) : Int) x).length) wc), (13, .int .i64 ((k : Nat) : Int))] ∧ qk_ = (nextF ((i : Nat) : Int) x).length - k ∧ (k ≤ (nextF ((i : Nat) : Int) x).length ∧ e.length = p.code.n + 1) ∧ (∀ z ∈ e, -1 ≤ z ∧ z ≤ 32) ∧ (stepW ((nextF ((i : Nat) : Int) x).drop k) e (y - tkF x.op + lvF x.op) = stepW (nextF ((i : Nat) : Int) x) d (y - tkF x.op + lvF x.op)) ∧ St w0 S0 [rdH encIns 2 p.code.a p.code.n p.code.c p.cl] qw_ [blkH bp #[.int .i64 p.args, .int .i64 p.reads, .int .i64 p.writes, .int .i64 p.locals, .slice p.code.a p.code.n p.code.c] 32, slH encI 1 3 da (p.code.n + 1) dc e, slH encI 1 3 wa ((nextF ((i : Nat) : Int) x).length) wc (nextF ((i : Nat) : Int) x)]) ((nextF ((i : Nat) : Int) x).length - 0) ?_ ?_
                      · refine ⟨_, 0, d, upds_self ⟨rfl, rfl, rfl, rfl, rfl, rfl, trivial⟩, rfl, ⟨Nat.zero_le _, hdl⟩, hdb, rfl, H20.pick' [0, 1, 2] rfl rfl⟩
                      · rintro lk3 _ wl3 ⟨gl3, k, e, rfl, hlk3, ⟨hk, hel⟩, heb, hS, HL3⟩
                        refine seq_ ?_
                        refine seq_ ?_
                        refine region_ ?_
                        refine wl_valE (v := .int .i64 ((k : Nat) : Int)) rfl (rf_move rfl) rfl ?_
                        refine wl_valE (v := .slice wa ((nextF ((i : Nat) : Int) x).length) wc) rfl (rf_move rfl) rfl ?_
                        refine wl_valE (v := .int .i64 (((nextF ((i : Nat) : Int) x).length : Nat) : Int)) rfl (rf_len_slice Try.underlying65 rfl rfl) rfl ?_
                        refine wl_valE (v := .bool (decide (((k : Nat) : Int) < (((nextF ((i : Nat) : Int) x).length : Nat) : Int)))) rfl (rf_lss rfl rfl rfl rfl) rfl ?_
                        refine wl_nil ?_
                        refine thn ?_
                        refine cond_ (t := decide (((k : Nat) : Int) < (((nextF ((i : Nat) : Int) x).length : Nat) : Int))) rfl rfl (fun c114 => ?_) (fun c114 => ?_)
                        · have c114p := of_decide_eq_true c114
                          refine skip_ ?_
                          refine thn ?_
                          refine seq_ ?_
                          refine block_ ?_
                          refine seq_ ?_
                          refine seq_ ?_
                          have hn21 := slH_len HL3 2 rfl
                          obtain ⟨t, ht⟩ : ∃ q_, (nextF ((i : Nat) : Int) x)[k]? = some q_ := ⟨_, List.getElem?_eq_getElem (by omega)⟩
                          have htb := next_in hins (by omega) (List.mem_of_getElem? ht)
                          have hn22 := slH_len HL3 1 rfl
                          obtain ⟨z, hz⟩ : ∃ q_, e[t.toNat]? = some q_ := ⟨_, List.getElem?_eq_getElem (by omega)⟩
                          have hzb := heb z (List.mem_of_getElem? hz)
                          refine region_ ?_
                          refine wl_valE (v := .slice da (p.code.n + 1) dc) rfl (rf_move rfl) rfl ?_
                          refine wl_valE (v := .slice wa ((nextF ((i : Nat) : Int) x).length) wc) rfl (rf_move rfl) rfl ?_
                          refine wl_valE (v := .int .i64 ((k : Nat) : Int)) rfl (rf_move rfl) rfl ?_
                          refine wl_valE (v := .pointer (some ⟨ab wa, ao wa + k * 1, none⟩)) rfl (rf_indexAddrH Try.underlying65 ti3 rfl rfl rfl rfl (by omega) (by omega) (HL3.rdO 2 slH_rd)) rfl ?_
                          refine wl_valE (v := .int .i64 t) rfl (rf_load Try.underlying3 rfl rfl rfl (rd_el (HL3.rdO 2 slH_rd) ht 0 _ rfl)) rfl ?_
                          refine wl_valE (v := .pointer (some ⟨ab da, ao da + t.toNat * 1, none⟩)) rfl (rf_indexAddrH Try.underlying65 ti3 rfl rfl rfl rfl (by omega) (by omega) (HL3.rdO 1 slH_rd)) rfl ?_
                          refine wl_valE (v := .int .i64 z) rfl (rf_load Try.underlying3 rfl rfl rfl (rd_el (HL3.rdO 1 slH_rd) hz 0 _ rfl)) rfl ?_
                          refine wl_valE (v := .bool (decide ((0 : Int) ≤ z))) rfl (rf_geq rfl rfl rfl rfl) rfl ?_
                          refine wl_valE (v := .bool (decide ((0 : Int) ≤ z))) rfl (rf_move rfl) rfl ?_
                          refine wl_split (decide ((0 : Int) ≤ z)) (fun u31_8 => ?_) (fun u31_8 => ?_)
                          · have u31_8p := of_decide_eq_true u31_8
                            refine wl_guardT rfl rfl rfl u31_8 ?_
                            refine wl_valE (v := .slice da (p.code.n + 1) dc) rfl (rf_move rfl) rfl ?_
                            refine wl_guardT rfl rfl rfl u31_8 ?_
                            refine wl_valE (v := .slice wa ((nextF ((i : Nat) : Int) x).length) wc) rfl (rf_move rfl) rfl ?_
                            refine wl_guardT rfl rfl rfl u31_8 ?_
                            refine wl_valE (v := .int .i64 ((k : Nat) : Int)) rfl (rf_move rfl) rfl ?_
                            refine wl_guardT rfl rfl rfl u31_8 ?_
                            refine wl_valE (v := .pointer (some ⟨ab wa, ao wa + k * 1, none⟩)) rfl (rf_indexAddrH Try.underlying65 ti3 rfl rfl rfl rfl (by omega) (by omega) (HL3.rdO 2 slH_rd)) rfl ?_
                            refine wl_guardT rfl rfl rfl u31_8 ?_
                            refine wl_valE (v := .int .i64 t) rfl (rf_load Try.underlying3 rfl rfl rfl (rd_el (HL3.rdO 2 slH_rd) ht 0 _ rfl)) rfl ?_
                            refine wl_guardT rfl rfl rfl u31_8 ?_
                            refine wl_valE (v := .pointer (some ⟨ab da, ao da + t.toNat * 1, none⟩)) rfl (rf_indexAddrH Try.underlying65 ti3 rfl rfl rfl rfl (by omega) (by omega) (HL3.rdO 1 slH_rd)) rfl ?_
                            refine wl_guardT rfl rfl rfl u31_8 ?_
                            refine wl_valE (v := .int .i64 z) rfl (rf_load Try.underlying3 rfl rfl rfl (rd_el (HL3.rdO 1 slH_rd) hz 0 _ rfl)) rfl ?_
                            refine wl_guardT rfl rfl rfl u31_8 ?_
                            refine wl_valE (v := .int .i64 ((y - (tkF x.op)) + (lvF x.op))) rfl (rf_move rfl) rfl ?_
                            refine wl_guardT rfl rfl rfl u31_8 ?_
                            refine wl_valE (v := .bool (decide (z ≠ (y - (tkF x.op)) + (lvF x.op)))) rfl (rf_neq rfl rfl rfl rfl) rfl ?_
                            refine wl_valE (v := .bool (decide (z ≠ (y - (tkF x.op)) + (lvF x.op)))) rfl (rf_pickT rfl rfl rfl u31_8) rfl ?_
                            refine wl_nil ?_
                            refine thn ?_
                            refine cond_ (t := decide (z ≠ (y - (tkF x.op)) + (lvF x.op))) rfl rfl (fun c135 => ?_) (fun c135 => ?_)
                            · have c135p := of_decide_eq_true c135
                              have hver := ver_dep (e := 34) hs hf (by rw [← hD, dep_bad hx hy c80p (by omega) (by rw [← step_next, ← hS, drop_at ht, step_bad hz (by omega)])])
                              refine seq_ ?_
                              refine region_ ?_
                              refine wl_valE (v := .slice none 0 0) rfl (rf_assign rfl) rfl ?_
                              refine wl_valE (v := .int .i64 (34 : Int)) rfl (rf_assign rfl) rfl ?_
                              refine wl_nil ?_
                              refine thn ?_
                              refine ret_ ?_
                              refine thr (blr (thr (thr (blr (blr (thr (thr (blr (thr ?_)))))))))
                              refine fin2 (v1 := .slice none 0 0) (v2 := .int .i64 (34 : Int)) Try.results29 rfl rfl rfl rfl ?_
                              exact ⟨_, ⟨_, by rw [hver], rfl⟩, HL3.pick' [] rfl rfl⟩
                            · have c135p := of_decide_eq_false c135
                              refine skip_ ?_
                              refine thn ?_
                              refine region_ ?_
                              refine wl_valE (v := .slice da (p.code.n + 1) dc) rfl (rf_move rfl) rfl ?_
                              refine wl_valE (v := .slice wa ((nextF ((i : Nat) : Int) x).length) wc) rfl (rf_move rfl) rfl ?_
                              refine wl_valE (v := .int .i64 ((k : Nat) : Int)) rfl (rf_move rfl) rfl ?_
                              refine wl_valE (v := .pointer (some ⟨ab wa, ao wa + k * 1, none⟩)) rfl (rf_indexAddrH Try.underlying65 ti3 rfl rfl rfl rfl (by omega) (by omega) (HL3.rdO 2 slH_rd)) rfl ?_
                              refine wl_valE (v := .int .i64 t) rfl (rf_load Try.underlying3 rfl rfl rfl (rd_el (HL3.rdO 2 slH_rd) ht 0 _ rfl)) rfl ?_
                              refine wl_valE (v := .int .i64 ((y - (tkF x.op)) + (lvF x.op))) rfl (rf_move rfl) rfl ?_
                              refine wl_valE (v := .pointer (some ⟨ab da, ao da + t.toNat * 1, none⟩)) rfl (rf_indexAddrH Try.underlying65 ti3 rfl rfl rfl rfl (by omega) (by omega) (HL3.rdO 1 slH_rd)) rfl ?_
                              refine wl_storeElH HL3 1 (enc := encI) (i := t.toNat) (j := 0) (q := ((y - (tkF x.op)) + (lvF x.op))) (u := .int .i64 ((y - (tkF x.op)) + (lvF x.op))) (cs := [.int .i64 ((y - (tkF x.op)) + (lvF x.op))]) rfl rfl encI_len ti3 rfl rfl rfl rfl rfl rfl oneAll hz (leb rfl) rfl ?_
                              intro w23 H23
                              have hx23 : (e.set t.toNat ((y - (tkF x.op)) + (lvF x.op)))[t.toNat]? = some ((y - (tkF x.op)) + (lvF x.op)) := List.getElem?_set_self (List.getElem?_eq_some_iff.1 hz).1
                              have hn23 := slH_len H23 1 rfl
                              refine wl_nil ?_
                              refine bln ?_
                              refine thn ?_
                              refine region_ ?_
                              refine wl_valE (v := .int .i64 ((k : Nat) : Int)) rfl (rf_move rfl) rfl ?_
                              refine wl_valE (v := .int .i64 ((k + 1 : Nat) : Int)) rfl (rf_add rfl rfl rfl rfl (IntWalk.i64_in _ (by omega))) rfl ?_
                              refine wl_valE (v := .int .i64 ((k + 1 : Nat) : Int)) rfl (rf_assign rfl) rfl ?_
                              refine wl_nil ?_
                              refine thn ?_
                              refine ⟨(nextF ((i : Nat) : Int) x).length - (k + 1), _, rfl, (by omega), _, k + 1, (e.set t.toNat (y - tkF x.op + lvF x.op)), upds_self ⟨rfl, rfl, rfl, rfl, rfl, rfl, trivial⟩, rfl, ⟨by omega, by rw [List.length_set]; exact hel⟩, set_in heb (by omega), by rw [← hS, drop_at ht, step_ok hz (by omega)], H23.pick' [0, 1, 2] rfl rfl⟩
                          · have u31_8p := of_decide_eq_false u31_8
                            refine wl_guardF rfl rfl rfl u31_8 ?_
                            refine wl_guardF rfl rfl rfl u31_8 ?_
                            refine wl_guardF rfl rfl rfl u31_8 ?_
                            refine wl_guardF rfl rfl rfl u31_8 ?_
                            refine wl_guardF rfl rfl rfl u31_8 ?_
                            refine wl_guardF rfl rfl rfl u31_8 ?_
                            refine wl_guardF rfl rfl rfl u31_8 ?_
                            refine wl_guardF rfl rfl rfl u31_8 ?_
                            refine wl_guardF rfl rfl rfl u31_8 ?_
                            refine wl_valE (v := .bool false) rfl (rf_pickF rfl rfl rfl u31_8) rfl ?_
                            refine wl_nil ?_
                            refine thn ?_
                            refine condF rfl rfl ?_
                            refine skip_ ?_
                            refine thn ?_
                            refine region_ ?_
                            refine wl_valE (v := .slice da (p.code.n + 1) dc) rfl (rf_move rfl) rfl ?_
                            refine wl_valE (v := .slice wa ((nextF ((i : Nat) : Int) x).length) wc) rfl (rf_move rfl) rfl ?_
                            refine wl_valE (v := .int .i64 ((k : Nat) : Int)) rfl (rf_move rfl) rfl ?_
                            refine wl_valE (v := .pointer (some ⟨ab wa, ao wa + k * 1, none⟩)) rfl (rf_indexAddrH Try.underlying65 ti3 rfl rfl rfl rfl (by omega) (by omega) (HL3.rdO 2 slH_rd)) rfl ?_
                            refine wl_valE (v := .int .i64 t) rfl (rf_load Try.underlying3 rfl rfl rfl (rd_el (HL3.rdO 2 slH_rd) ht 0 _ rfl)) rfl ?_
                            refine wl_valE (v := .int .i64 ((y - (tkF x.op)) + (lvF x.op))) rfl (rf_move rfl) rfl ?_
                            refine wl_valE (v := .pointer (some ⟨ab da, ao da + t.toNat * 1, none⟩)) rfl (rf_indexAddrH Try.underlying65 ti3 rfl rfl rfl rfl (by omega) (by omega) (HL3.rdO 1 slH_rd)) rfl ?_
                            refine wl_storeElH HL3 1 (enc := encI) (i := t.toNat) (j := 0) (q := ((y - (tkF x.op)) + (lvF x.op))) (u := .int .i64 ((y - (tkF x.op)) + (lvF x.op))) (cs := [.int .i64 ((y - (tkF x.op)) + (lvF x.op))]) rfl rfl encI_len ti3 rfl rfl rfl rfl rfl rfl oneAll hz (leb rfl) rfl ?_
                            intro w24 H24
                            have hx24 : (e.set t.toNat ((y - (tkF x.op)) + (lvF x.op)))[t.toNat]? = some ((y - (tkF x.op)) + (lvF x.op)) := List.getElem?_set_self (List.getElem?_eq_some_iff.1 hz).1
                            have hn24 := slH_len H24 1 rfl
                            refine wl_nil ?_
                            refine bln ?_
                            refine thn ?_
                            refine region_ ?_
                            refine wl_valE (v := .int .i64 ((k : Nat) : Int)) rfl (rf_move rfl) rfl ?_
                            refine wl_valE (v := .int .i64 ((k + 1 : Nat) : Int)) rfl (rf_add rfl rfl rfl rfl (IntWalk.i64_in _ (by omega))) rfl ?_
                            refine wl_valE (v := .int .i64 ((k + 1 : Nat) : Int)) rfl (rf_assign rfl) rfl ?_
                            refine wl_nil ?_
                            refine thn ?_
                            refine ⟨(nextF ((i : Nat) : Int) x).length - (k + 1), _, rfl, (by omega), _, k + 1, (e.set t.toNat (y - tkF x.op + lvF x.op)), upds_self ⟨rfl, rfl, rfl, rfl, rfl, rfl, trivial⟩, rfl, ⟨by omega, by rw [List.length_set]; exact hel⟩, set_in heb (by omega), by rw [← hS, drop_at ht, step_ok hz (by omega)], H24.pick' [0, 1, 2] rfl rfl⟩
                        · have c114p := of_decide_eq_false c114
                          refine exit_ ?_
                          refine thx (thx (blx ?_))
                          refine bln ?_
                          refine thn ?_
                          refine region_ ?_
                          refine wl_valE (v := .int .i64 ((i : Nat) : Int)) rfl (rf_move rfl) rfl ?_
                          refine wl_valE (v := .int .i64 ((i + 1 : Nat) : Int)) rfl (rf_add rfl rfl rfl rfl (IntWalk.i64_in _ (by omega))) rfl ?_
                          refine wl_valE (v := .int .i64 ((i + 1 : Nat) : Int)) rfl (rf_assign rfl) rfl ?_
                          refine wl_nil ?_
                          refine thn ?_
                          refine ⟨p.code.n - (i + 1), _, rfl, (by omega), _, i + 1, e, upds_self ⟨rfl, rfl, rfl, trivial⟩, rfl, ⟨by omega, hel⟩, heb, by rw [← hD, dep_ok hx hy c80p (by omega) (by rw [← step_next, ← hS, drop_all (by omega)]; rfl)], HL3.pick' [0, 1] rfl rfl⟩
              · have c73p := of_decide_eq_false c73
                refine exit_ ?_
                refine thx (thx (blx ?_))
                refine thn ?_
                refine seq_ ?_
                obtain rfl : i = p.code.n := by omega
                have hver := ver_dep (e := 0) hs hf (by rw [← hD, drop_all (by omega)]; rfl)
                refine region_ ?_
                refine wl_valE (v := .slice da (p.code.n + 1) dc) rfl (rf_move rfl) rfl ?_
                refine wl_valE (v := .slice da (p.code.n + 1) dc) rfl (rf_assign rfl) rfl ?_
                refine wl_valE (v := .int .i64 (0 : Int)) rfl (rf_assign rfl) rfl ?_
                refine wl_nil ?_
                refine thn ?_
                refine ret_ ?_
                refine fin2 (v1 := .slice da (p.code.n + 1) dc) (v2 := .int .i64 (0 : Int)) Try.results29 rfl rfl rfl rfl ?_
                exact ⟨_, ⟨_, by rw [hver], rfl⟩, HL2.pick' [] rfl rfl⟩
theorem verifyL_tr (p : ProgR) : Tr Try.prog 25 [.agg #[.int .i64 p.args, .int .i64 p.reads, .int .i64 p.writes, .int .i64 p.locals, .slice p.code.a p.code.n p.code.c]] [rdH encIns 2 p.code.a p.code.n p.code.c p.cl] [] (fun v m => v = .int .i64 (verE p) ∧ m = []) := by
  intro w0 S0 H0
  refine enterR Try.func25 rfl Try.ntmps25 rfl ?_
  intro g0
  refine seq_ ?_
  refine region_ ?_
  refine wl_boxH H0 (v := .agg #[.int .i64 p.args, .int .i64 p.reads, .int .i64 p.writes, .int .i64 p.locals, .slice p.code.a p.code.n p.code.c]) rfl rfl ?_
  intro b1 w2 H2
  refine wl_valE (v := .int .i64 (0 : Int)) rfl (rf_assign rfl) rfl ?_
  refine wl_nil ?_
  refine thn ?_
  refine seq_ ?_
  refine region_ ?_
  refine wl_valE (v := .agg #[.int .i64 p.args, .int .i64 p.reads, .int .i64 p.writes, .int .i64 p.locals, .slice p.code.a p.code.n p.code.c]) rfl (rf_loadBlk Try.underlying32 rfl ti32 rfl rfl (H2.blk 0 rfl) (leb rfl)) rfl ?_
  refine wl_tr H2 rfl [] (look_tr p) rfl (.ro 0 Le.rfl .nil) (rf_call Try.call28 rfl rfl) rfl ?_
  rintro _ w3 _ ⟨sv, rfl, rfl⟩ H3
  refine wl_valE (v := .tuple #[sv, .int .i64 (verE p)]) rfl (rf_move rfl) rfl ?_
  refine wl_valE (v := sv) rfl (rf_extract rfl rfl rfl) rfl ?_
  refine wl_valE (v := .int .i64 (verE p)) rfl (rf_extract rfl rfl rfl) rfl ?_
  refine wl_valE (v := sv) rfl (rf_assign rfl) rfl ?_
  refine wl_valE (v := .int .i64 (verE p)) rfl (rf_assign rfl) rfl ?_
  refine wl_nil ?_
  refine thn ?_
  refine seq_ ?_
  refine region_ ?_
  refine wl_valE (v := .int .i64 (verE p)) rfl (rf_move rfl) rfl ?_
  refine wl_valE (v := .int .i64 (verE p)) rfl (rf_assign rfl) rfl ?_
  refine wl_nil ?_
  refine thn ?_
  refine ret_ ?_
  refine fin1 (v := .int .i64 (verE p)) Try.results25 rfl rfl ?_
  exact ⟨_, ⟨rfl, rfl⟩, H3.pick' [] rfl rfl⟩
theorem verifyR_tr (p : ProgR) : Tr Try.prog 27 [.agg #[.int .i64 p.args, .int .i64 p.reads, .int .i64 p.writes, .int .i64 p.locals, .slice p.code.a p.code.n p.code.c]] [rdH encIns 2 p.code.a p.code.n p.code.c p.cl] [] (fun v m => v = .int .i64 (verE p) ∧ m = []) := by
  intro w0 S0 H0
  refine enterR Try.func27 rfl Try.ntmps27 rfl ?_
  intro g0
  refine seq_ ?_
  refine region_ ?_
  refine wl_boxH H0 (v := .agg #[.int .i64 p.args, .int .i64 p.reads, .int .i64 p.writes, .int .i64 p.locals, .slice p.code.a p.code.n p.code.c]) rfl rfl ?_
  intro b1 w2 H2
  refine wl_valE (v := .int .i64 (0 : Int)) rfl (rf_assign rfl) rfl ?_
  refine wl_nil ?_
  refine thn ?_
  refine seq_ ?_
  refine region_ ?_
  refine wl_valE (v := .agg #[.int .i64 p.args, .int .i64 p.reads, .int .i64 p.writes, .int .i64 p.locals, .slice p.code.a p.code.n p.code.c]) rfl (rf_loadBlk Try.underlying32 rfl ti32 rfl rfl (H2.blk 0 rfl) (leb rfl)) rfl ?_
  refine wl_tr H2 rfl [] (depths_tr p) rfl (.ro 0 Le.rfl .nil) (rf_call Try.call29 rfl rfl) rfl ?_
  rintro _ w3 _ ⟨sv, rfl, rfl⟩ H3
  refine wl_valE (v := .tuple #[sv, .int .i64 (verE p)]) rfl (rf_move rfl) rfl ?_
  refine wl_valE (v := sv) rfl (rf_extract rfl rfl rfl) rfl ?_
  refine wl_valE (v := .int .i64 (verE p)) rfl (rf_extract rfl rfl rfl) rfl ?_
  refine wl_valE (v := sv) rfl (rf_assign rfl) rfl ?_
  refine wl_valE (v := .int .i64 (verE p)) rfl (rf_assign rfl) rfl ?_
  refine wl_nil ?_
  refine thn ?_
  refine seq_ ?_
  refine region_ ?_
  refine wl_valE (v := .int .i64 (verE p)) rfl (rf_move rfl) rfl ?_
  refine wl_valE (v := .int .i64 (verE p)) rfl (rf_assign rfl) rfl ?_
  refine wl_nil ?_
  refine thn ?_
  refine ret_ ?_
  refine fin1 (v := .int .i64 (verE p)) Try.results27 rfl rfl ?_
  exact ⟨_, ⟨rfl, rfl⟩, H3.pick' [] rfl rfl⟩
end Go.Proofs.Ytphllgfbjfajfaa.W
