import Derived.Test.YthckniipdcolgaaS1
import Derived.KernelRfl
namespace Go.Proofs.Ythckniipdcolgaa.W
open Go Go.Wk
set_option linter.unusedVariables false

theorem not_stale {st : StS} {k : Key} {b i : Int} (h : ∀ v r, st.ver v = some r → r.batch < b) : staleB st k b i = false := by
  unfold staleB
  cases hl : (st.ch k).getLast?.bind st.ver with
  | none => rfl
  | some r =>
    obtain ⟨v, _, h2⟩ := Option.bind_eq_some_iff.1 hl
    have := h v r h2
    simp; omega
theorem rem_bat {st : StS} {x b : Int} {r : VerR} (h : ∀ v r, st.ver v = some r → r.batch < b) : ∀ v r', (remSt st x r).ver v = some r' → r'.batch < b := fun v r' hv => by
  simp only [remSt] at hv
  split at hv
  · cases hv
  · exact h v r' hv
theorem ins_ok {st : StS} {k : Key} {b i : Int} (hk : okK k = true) (hb : 1 ≤ b ∧ b ≤ 1099511627776) (hi : 0 ≤ i ∧ i < 64) (hr : (st.live : Int) < st.room) (hs : staleB st k b i = false) : insErr st k b i = 0 := by
  unfold insErr
  rw [if_neg (by simp [hk]), if_neg (by omega), if_neg (by omega), if_neg (by omega), if_neg (by simp [hs])]
theorem ins_full {st : StS} {k : Key} {b i : Int} (hk : okK k = true) (hb : 1 ≤ b ∧ b ≤ 1099511627776) (hi : 0 ≤ i ∧ i < 64) (hr : st.room ≤ st.live) : insErr st k b i = 92 := by
  unfold insErr
  rw [if_neg (by simp [hk]), if_neg (by omega), if_neg (by omega), if_pos hr]
theorem okRow (x : Int) : okK ⟨0, x⟩ = true := rfl
/-- What the law knows of its store: so many versions, none of a batch from b on; T: just these are there. -/
structure RQ (st : StS) (n c : Nat) (L : Int) (b : Int) (T : List Int) : Prop where
  room : st.room = n
  live : st.live = c
  last : st.last = L
  bat : ∀ v r, st.ver v = some r → r.batch < b
  len : T.length = c
  nod : T.Nodup
  here : ∀ v ∈ T, ∃ r, st.ver v = some r
theorem RQ.cast {st : StS} {n c : Nat} {L b L' b' : Int} {T : List Int} (q : RQ st n c L b T) (hL : L = L') (hb : b = b') : RQ st n c L' b' T := by subst hL; subst hb; exact q
theorem RQ.ins {st : StS} {n c : Nat} {L b : Int} {T : List Int} (hi : StInv st) (q : RQ st n c L b T) (k : Key) : RQ (insSt st k b 0) n (c + 1) (L + 1) (b + 1) (T ++ [L + 1]) where
  room := q.room
  live := by show st.live + 1 = _; rw [q.live]
  last := by show st.last + 1 = _; rw [q.last]
  bat v r h := by
    simp only [insSt] at h
    split at h
    · cases h; show b < b + 1; omega
    · have := q.bat v r h; omega
  len := by simp [q.len]
  nod := by
    rw [List.nodup_append]
    refine ⟨q.nod, by simp, fun x hx y hy e => ?_⟩
    rw [List.mem_singleton] at hy
    obtain ⟨r, hr⟩ := q.here x hx
    have := (hi.verb x r hr).2.1
    have := q.last
    omega
  here v hv := by
    simp only [insSt]
    rcases List.mem_append.1 hv with hv | hv
    · obtain ⟨r, hr⟩ := q.here v hv
      have := (hi.verb v r hr).2.1
      exact ⟨r, by rw [if_neg (by omega)]; exact hr⟩
    · rw [List.mem_singleton] at hv
      exact ⟨_, by rw [if_pos (by have := q.last; omega)]⟩
theorem RQ.turn {st : StS} {n c : Nat} {L b : Int} {T : List Int} (hi : StInv st) (q : RQ st n c L b T) {j : Nat} {x : Int} {r : VerR} (hj : T[j]? = some x) (hv : st.ver x = some r) (k : Key) (hi2 : StInv (remSt st x r)) : RQ (insSt (remSt st x r) k b 0) n c (L + 1) (b + 1) (T.set j (L + 1)) where
  room := q.room
  live := by
    show st.live - 1 + 1 = _
    have : 0 < T.length := by have := (List.getElem?_eq_some_iff.1 hj).1; omega
    have := q.live; have := q.len; omega
  last := by show st.last + 1 = _; rw [q.last]
  bat v r' h := by
    have h' : (if v = st.last + 1 then some (⟨b, 0, k, false, ⟨false, 0⟩⟩ : VerR) else if v = x then none else st.ver v) = some r' := h
    by_cases e : v = st.last + 1
    · rw [if_pos e] at h'; cases h'; show b < b + 1; omega
    · rw [if_neg e] at h'
      by_cases e2 : v = x
      · rw [if_pos e2] at h'; cases h'
      · rw [if_neg e2] at h'
        have := q.bat v r' h'; omega
  len := by simp [q.len]
  nod := by
    have hnew : ∀ y ∈ T, y ≠ L + 1 := fun y hy e => by
      obtain ⟨r', hr'⟩ := q.here y hy
      have := (hi.verb y r' hr').2.1
      have := q.last
      omega
    rw [List.nodup_iff_pairwise_ne, List.pairwise_iff_getElem]
    intro a c' ha hc hac
    rw [List.length_set] at ha hc
    have hp := List.pairwise_iff_getElem.1 q.nod a c' ha hc hac
    rw [List.getElem_set, List.getElem_set]
    split
    · split
      · omega
      · exact fun e => hnew _ (List.getElem_mem hc) e.symm
    · split
      · exact hnew _ (List.getElem_mem ha)
      · exact hp
  here v hv' := by
    show ∃ r', (if v = st.last + 1 then some (⟨b, 0, k, false, ⟨false, 0⟩⟩ : VerR) else if v = x then none else st.ver v) = some r'
    have hl := q.last
    by_cases e : v = st.last + 1
    · exact ⟨_, if_pos e⟩
    · obtain ⟨a, ha⟩ := List.getElem?_of_mem hv'
      rw [List.getElem?_set] at ha
      by_cases hja : j = a
      · rw [if_pos hja] at ha
        split at ha
        · cases ha; exact absurd (by omega) e
        · cases ha
      · rw [if_neg hja] at ha
        obtain ⟨r', hr'⟩ := q.here v (List.mem_of_getElem? ha)
        have hvx : v ≠ x := fun e2 => by subst e2; exact hja (nodup_inj q.nod hj ha)
        exact ⟨r', by rw [if_neg e, if_neg hvx]; exact hr'⟩
set_option maxRecDepth 100000 in
theorem lawRoom_ret (c : Int) (vp : Value) (Fp : Nat → Prop) (ps : List Int) (w : World) (hps : ps.length ≤ 1048576) (hp : Rd encI 1 w Fp vp ps) (hFp : ∀ b, Fp b → b < w.heap.size) :
    Ret Try.prog 3 [.int .i64 c, vp] w fun v w' => v = .bool true ∧ Kp none_ w w' := by
  obtain ⟨pa, pcap, rfl, hpcap⟩ := hp.form
  have hkw : Kp none_ w w := Kp.refl w
  obtain ⟨m, hm, hm2⟩ : ∃ m : Nat, m < 200 ∧ (IntKind.u64.wrap c).tmod 200 = (m : Int) := by
    have h := u64_nn c
    refine ⟨((IntKind.u64.wrap c).tmod 200).toNat, ?_, ?_⟩ <;> rw [Int.tmod_eq_emod_of_nonneg h.1] <;> omega
  refine enterR Try.func3 rfl Try.ntmps3 rfl ?_
  intro g0
  refine seq_ ?_
  refine region_ ?_
  refine wl_valE (v := .bool false) rfl (rf_assign rfl) rfl ?_
  refine wl_nil ?_
  refine thn ?_
  refine seq_ ?_
  refine region_ ?_
  refine wl_valE (v := .int .i64 c) rfl (rf_move rfl) rfl ?_
  refine wl_valE (v := .int .u64 (IntKind.u64.wrap c)) rfl (rf_conv Try.underlying3 Try.underlying23 rfl rfl rfl) rfl ?_
  refine wl_valE (v := .int .u64 ((m : Nat) : Int)) rfl (rf_rem rfl rfl rfl rfl (by decide) hm2) rfl ?_
  refine wl_valE (v := .int .i64 ((m : Nat) : Int)) rfl (rf_conv Try.underlying23 Try.underlying3 rfl rfl (IntWalk.i64_in _ (by omega))) rfl ?_
  refine wl_valE (v := .int .i64 ((1 + m : Nat) : Int)) rfl (rf_add rfl rfl rfl rfl (by rw [IntWalk.i64_in _ (by omega)]; omega)) rfl ?_
  refine wl_valE (v := .int .i64 ((1 + m : Nat) : Int)) rfl (rf_assign rfl) rfl ?_
  refine wl_nil ?_
  refine thn ?_
  refine seq_ ?_
  refine region_ ?_
  refine wl_valE (v := .int .i64 ((1 + m : Nat) : Int)) rfl (rf_move rfl) rfl ?_
  refine wl_ret rfl (newS_ret 4 ((1 + m : Nat) : Int) w ⟨by omega, by omega⟩ ⟨by omega, by omega⟩) (rf_call Try.call4 rfl rfl) ?_
  rintro vq w1 ⟨s, h0, rfl, hs0, hk1, hfp0⟩
  have hp_w1 := hp.keep hk1
  have hkw_w1 := hkw.comp hk1 (fun _ _ e => e.elim)
  have hs1 := hk1.size
  refine wl_valE (v := .tuple #[.pointer (some ⟨s, 0, none⟩), .int .i64 0]) rfl (rf_move rfl) rfl ?_
  refine wl_valE (v := .pointer (some ⟨s, 0, none⟩)) rfl (rf_extract rfl rfl rfl) rfl ?_
  refine wl_valE (v := .int .i64 0) rfl (rf_extract rfl rfl rfl) rfl ?_
  refine wl_valE (v := .pointer (some ⟨s, 0, none⟩)) rfl (rf_assign rfl) rfl ?_
  refine wl_valE (v := .int .i64 0) rfl (rf_assign rfl) rfl ?_
  refine wl_nil ?_
  refine thn ?_
  refine seq_ ?_
  refine seq_ ?_
  refine region_ ?_
  refine wl_valE (v := .int .i64 0) rfl (rf_move rfl) rfl ?_
  refine wl_valE (v := .bool false) rfl (rf_neq rfl rfl rfl rfl) (congrArg Value.bool (by decide)) ?_
  refine wl_valE (v := .bool false) rfl (rf_move rfl) rfl ?_
  refine wl_guardT rfl rfl rfl rfl ?_
  refine wl_valE (v := .pointer (some ⟨s, 0, none⟩)) rfl (rf_move rfl) rfl ?_
  refine wl_guardT rfl rfl rfl rfl ?_
  refine wl_valE (v := .bool false) rfl (rf_eqlPN Try.underlying24 rfl rfl rfl rfl) rfl ?_
  refine wl_valE (v := .bool false) rfl (rf_pickF rfl rfl rfl rfl) rfl ?_
  refine wl_nil ?_
  refine thn ?_
  refine condF rfl rfl ?_
  refine skip_ ?_
  refine thn ?_
  refine seq_ ?_
  refine region_ ?_
  refine wl_valE (v := .slice none 0 0) rfl (rf_assign rfl) rfl ?_
  refine wl_nil ?_
  refine thn ?_
  refine seq_ ?_
  refine seq_ ?_
  refine region_ ?_
  refine wl_valE (v := .int .i64 ((0 : Nat) : Int)) rfl (rf_assign rfl) rfl ?_
  refine wl_nil ?_
  refine thn ?_
  refine block_ ?_
  refine loop_ (fun lk lf lw => ∃ (g : Nat → Value) (i : Nat) (st : StS) (h : StH) (tv : Value) (T : List Int) (F : Nat → Prop), lf = upds g [(1, .slice pa ps.length pcap), (5, .int .i64 ((1 + m : Nat) : Int)), (6, .pointer (some ⟨s, 0, none⟩)), (8, tv), (9, .int .i64 ((i : Nat) : Int))] ∧ i + lk = 1 + m ∧ StoreR lw s st h ∧ RQ st (1 + m) i i (i + 1) T ∧ Sl encI 1 3 lw F tv T ∧ (∀ x, fpS s h x → w.heap.size ≤ x) ∧ (∀ x, F x → w.heap.size ≤ x ∧ ¬ fpS s h x ∧ x < lw.heap.size) ∧ Kp (fun x => w.heap.size ≤ x) w1 lw) (1 + m) ?_ ?_
  · refine ⟨_, 0, (⟨((1 + m : Nat) : Int), 4, 0, 0, fun _ => none, fun _ => []⟩ : StS), h0, (.slice none 0 0), [], (fun _ => False), upds_self ⟨rfl, rfl, rfl, rfl, rfl, trivial⟩, ?_⟩
    exact ⟨by omega, hs0, ⟨rfl, rfl, rfl, fun v r h => by simp at h, rfl, by simp, fun v h => by simp at h⟩, Sl.nil _ _, fun x hx => by have := hfp0 x hx; omega, fun x h => h.elim, Kp.refl _⟩
  · intro lk0 lf0 wl hI0
    obtain ⟨gl0, i, st, h, tv, T, F, rfl, hik, hs, hq, hT, hfp, hF, hkl0⟩ := hI0
    have hp_wl := hp_w1.kp hkl0 (fun x h e => by have := hFp x h; first | omega | (have := hfp x e; omega) | (have := (hF x e).1; omega) | (have := hfpA x e; omega) | (have := hfpB x e; omega))
    have hkw_wl := hkw_w1.comp hkl0 (fun x hx e => by first | omega | (have := hfp x e; omega) | (have := (hF x e).1; omega) | (have := hfpA x e; omega) | (have := hfpB x e; omega))
    have hsl := hkl0.size
    refine seq_ ?_
    refine seq_ ?_
    refine region_ ?_
    refine wl_valE (v := .int .i64 ((i : Nat) : Int)) rfl (rf_move rfl) rfl ?_
    refine wl_valE (v := .int .i64 ((1 + m : Nat) : Int)) rfl (rf_move rfl) rfl ?_
    refine wl_valE (v := .bool (decide (((i : Nat) : Int) < ((1 + m : Nat) : Int)))) rfl (rf_lss rfl rfl rfl rfl) rfl ?_
    refine wl_nil ?_
    refine thn ?_
    refine cond_ (t := decide (((i : Nat) : Int) < ((1 + m : Nat) : Int))) rfl rfl (fun c36 => ?_) (fun c36 => ?_)
    · have c36p := of_decide_eq_true c36
      refine skip_ ?_
      refine thn ?_
      refine seq_ ?_
      refine block_ ?_
      refine seq_ ?_
      refine region_ ?_
      refine wl_valE (v := .pointer (some ⟨s, 0, none⟩)) rfl (rf_move rfl) rfl ?_
      refine wl_valE (v := .int .i64 ((i : Nat) : Int)) rfl (rf_move rfl) rfl ?_
      refine wl_valE (v := .int .i64 ((i % 7 : Nat) : Int)) rfl (rf_rem rfl rfl rfl rfl (by decide) (by have := tmodN i 7; simpa using this)) rfl ?_
      refine wl_valE (v := .agg #[.int .i64 ((0 : Nat) : Int), .int .i64 ((i % 7 : Nat) : Int)]) rfl (rf_build (offs := [(1, [.int .i64 ((i % 7 : Nat) : Int)])]) (places := #[(0, 1), (1, 1)]) Try.underlying31 ti31 (fun w => by kernel_rfl) (.cons rfl rfl rfl rfl rfl rfl .nil)) rfl ?_
      refine wl_valE (v := .int .i64 ((i : Nat) : Int)) rfl (rf_move rfl) rfl ?_
      refine wl_valE (v := .int .i64 ((i + 1 : Nat) : Int)) rfl (rf_add rfl rfl rfl rfl (IntWalk.i64_in _ (by omega))) rfl ?_
      refine wl_ret rfl (insert_ret s st h wl hs ⟨0, ((i % 7 : Nat) : Int)⟩ ((i + 1 : Nat) : Int) 0 (by have := hq.last; omega)) (rf_call Try.call5 rfl rfl) ?_
      rintro vq w2 ⟨hv, h', hsX, hfp2, hk2⟩
      have he : insErr st ⟨0, ((i % 7 : Nat) : Int)⟩ ((i + 1 : Nat) : Int) 0 = 0 := ins_ok (okRow _) ⟨by omega, by omega⟩ ⟨by omega, by omega⟩ (by have := hq.room; have := hq.live; omega) (not_stale (fun v r h => by have := hq.bat v r h; omega))
      rw [he, if_pos rfl, hq.last] at hv
      rw [he, if_pos rfl] at hsX
      subst hv
      obtain ⟨st2, hst2⟩ : ∃ q, q = insSt st ⟨0, ((i % 7 : Nat) : Int)⟩ ((i + 1 : Nat) : Int) 0 := ⟨_, rfl⟩
      rw [← hst2] at hsX
      have hq2 : RQ st2 (1 + m) (i + 1) ((i : Int) + 1) ((i : Int) + 1 + 1) (T ++ [(i : Int) + 1]) := by rw [hst2]; exact hq.ins hs.inv _
      have hfpA : ∀ x, fpS s h' x → w.heap.size ≤ x := fun x hx => (hfp2 x hx).elim (hfp x) (fun q => by omega)
      have hp_w2 := hp_wl.kp hk2 (fun x h e => by have := hFp x h; first | omega | (have := hfp x e; omega) | (have := (hF x e).1; omega) | (have := hfpA x e; omega) | (have := hfpB x e; omega))
      have hkw_w2 := hkw_wl.comp hk2 (fun x hx e => by first | omega | (have := hfp x e; omega) | (have := (hF x e).1; omega) | (have := hfpA x e; omega) | (have := hfpB x e; omega))
      have hkl0_w2 := hkl0.comp hk2 (fun x hx e => by first | exact hfp x e | exact (hF x e).1 | omega)
      have hT_w2 := hT.kp hk2 (fun x hx e => (hF x hx).2.1 e)
      have hs2 := hk2.size
      refine wl_valE (v := .tuple #[.int .i64 ((i : Int) + 1), .int .i64 0]) rfl (rf_move rfl) rfl ?_
      refine wl_valE (v := .int .i64 ((i : Int) + 1)) rfl (rf_extract rfl rfl rfl) rfl ?_
      refine wl_valE (v := .int .i64 0) rfl (rf_extract rfl rfl rfl) rfl ?_
      refine wl_valE (v := .int .i64 ((i : Int) + 1)) rfl (rf_assign rfl) rfl ?_
      refine wl_valE (v := .int .i64 0) rfl (rf_assign rfl) rfl ?_
      refine wl_nil ?_
      refine thn ?_
      refine seq_ ?_
      refine seq_ ?_
      refine region_ ?_
      refine wl_valE (v := .int .i64 0) rfl (rf_move rfl) rfl ?_
      refine wl_valE (v := .bool false) rfl (rf_neq rfl rfl rfl rfl) (congrArg Value.bool (by decide)) ?_
      refine wl_valE (v := .bool false) rfl (rf_move rfl) rfl ?_
      refine wl_guardT rfl rfl rfl rfl ?_
      refine wl_valE (v := .int .i64 ((i : Int) + 1)) rfl (rf_move rfl) rfl ?_
      refine wl_guardT rfl rfl rfl rfl ?_
      refine wl_valE (v := .int .i64 ((i : Nat) : Int)) rfl (rf_move rfl) rfl ?_
      refine wl_guardT rfl rfl rfl rfl ?_
      refine wl_valE (v := .int .i64 ((i + 1 : Nat) : Int)) rfl (rf_add rfl rfl rfl rfl (IntWalk.i64_in _ (by omega))) rfl ?_
      refine wl_guardT rfl rfl rfl rfl ?_
      refine wl_valE (v := .bool false) rfl (rf_neq rfl rfl rfl rfl) (congrArg Value.bool (decide_eq_false (by omega))) ?_
      refine wl_valE (v := .bool false) rfl (rf_pickF rfl rfl rfl rfl) rfl ?_
      refine wl_valE (v := .bool false) rfl (rf_move rfl) rfl ?_
      refine wl_guardT rfl rfl rfl rfl ?_
      refine wl_valE (v := .pointer (some ⟨s, 0, none⟩)) rfl (rf_move rfl) rfl ?_
      refine wl_guardT rfl rfl rfl rfl ?_
      refine wl_ret rfl (live_ret s st2 h' w2 hsX) (rf_call Try.call6 rfl rfl) ?_
      rintro vq w3 ⟨hv, hk3⟩
      rw [show (st2).live = i + 1 from hq2.live] at hv
      subst hv
      have hp_w3 := hp_w2.keep hk3
      have hkw_w3 := hkw_w2.comp hk3 (fun _ _ e => e.elim)
      have hkl0_w3 := hkl0_w2.comp hk3 (fun _ _ e => e.elim)
      have hT_w3 := hT_w2.keep hk3
      have hsX_w3 := hsX.keep hk3
      have hs3 := hk3.size
      refine wl_guardT rfl rfl rfl rfl ?_
      refine wl_valE (v := .int .i64 ((i : Nat) : Int)) rfl (rf_move rfl) rfl ?_
      refine wl_guardT rfl rfl rfl rfl ?_
      refine wl_valE (v := .int .i64 ((i + 1 : Nat) : Int)) rfl (rf_add rfl rfl rfl rfl (IntWalk.i64_in _ (by omega))) rfl ?_
      refine wl_guardT rfl rfl rfl rfl ?_
      refine wl_valE (v := .bool false) rfl (rf_neq rfl rfl rfl rfl) (congrArg Value.bool (decide_eq_false (by omega))) ?_
      refine wl_valE (v := .bool false) rfl (rf_pickF rfl rfl rfl rfl) rfl ?_
      refine wl_valE (v := .bool false) rfl (rf_move rfl) rfl ?_
      refine wl_guardT rfl rfl rfl rfl ?_
      refine wl_valE (v := .pointer (some ⟨s, 0, none⟩)) rfl (rf_move rfl) rfl ?_
      refine wl_guardT rfl rfl rfl rfl ?_
      refine wl_ret rfl (room_ret s st2 h' w3 hsX_w3 (by have : (st2).room = ((1 + m : Nat) : Int) := hq2.room; omega) (by have : (st2).live = i + 1 := hq2.live; omega)) (rf_call Try.call7 rfl rfl) ?_
      rintro vq w4 ⟨hv, hk4⟩
      rw [show (st2).live = i + 1 from hq2.live, show (st2).room = ((1 + m : Nat) : Int) from hq2.room] at hv
      subst hv
      have hp_w4 := hp_w3.keep hk4
      have hkw_w4 := hkw_w3.comp hk4 (fun _ _ e => e.elim)
      have hkl0_w4 := hkl0_w3.comp hk4 (fun _ _ e => e.elim)
      have hT_w4 := hT_w3.keep hk4
      have hsX_w4 := hsX_w3.keep hk4
      have hs4 := hk4.size
      refine wl_guardT rfl rfl rfl rfl ?_
      refine wl_valE (v := .int .i64 ((1 + m : Nat) : Int)) rfl (rf_move rfl) rfl ?_
      refine wl_guardT rfl rfl rfl rfl ?_
      refine wl_valE (v := .int .i64 ((i : Nat) : Int)) rfl (rf_move rfl) rfl ?_
      refine wl_guardT rfl rfl rfl rfl ?_
      refine wl_valE (v := .int .i64 (((1 + m : Nat) : Int) - ((i : Nat) : Int))) rfl (rf_sub rfl rfl rfl rfl (IntWalk.i64_in _ (by omega))) rfl ?_
      refine wl_guardT rfl rfl rfl rfl ?_
      refine wl_valE (v := .int .i64 ((((1 + m : Nat) : Int) - ((i : Nat) : Int)) - ((1 : Nat) : Int))) rfl (rf_sub rfl rfl rfl rfl (IntWalk.i64_in _ (by omega))) rfl ?_
      refine wl_guardT rfl rfl rfl rfl ?_
      refine wl_valE (v := .bool false) rfl (rf_neq rfl rfl rfl rfl) (congrArg Value.bool (decide_eq_false (by omega))) ?_
      refine wl_valE (v := .bool false) rfl (rf_pickF rfl rfl rfl rfl) rfl ?_
      refine wl_nil ?_
      refine thn ?_
      refine condF rfl rfl ?_
      refine skip_ ?_
      refine thn ?_
      refine region_ ?_
      refine wl_valE (v := tv) rfl (rf_move rfl) rfl ?_
      refine wl_valE (v := .int .i64 ((i : Int) + 1)) rfl (rf_move rfl) rfl ?_
      refine wl_buildSlice (css := [[.int .i64 ((i : Int) + 1)]]) Try.underlying22 ti3 rfl rfl rfl (.cons rfl rfl rfl rfl rfl rfl .nil) (by simp) ?_
      intro b5 w5 hg5 hk5 hb5
      have hp_w5 := hp_w4.keep hk5
      have hkw_w5 := hkw_w4.comp hk5 (fun _ _ e => e.elim)
      have hkl0_w5 := hkl0_w4.comp hk5 (fun _ _ e => e.elim)
      have hT_w5 := hT_w4.keep hk5
      have hsX_w5 := hsX_w4.keep hk5
      have hs5 := hk5.size
      have hsA := hsX_w5
      refine wl_append encI_len encI_one Try.underlying22 ti3 rfl rfl rfl rfl rfl (hT_w5) ((SlAt.of_blk (l := [(i : Int) + 1]) encI_len (by simp) hb5).rd (F := fun b => b = b5) rfl) (by have := hq.len; simp; omega) (by have := hq.len; simp; omega) ?_
      intro v6 w6 hk6 ha6
      have hp_w6 := hp_w5.kp hk6 (fun x h e => by have := hFp x h; first | omega | (have := hfp x e; omega) | (have := (hF x e).1; omega) | (have := hfpA x e; omega) | (have := hfpB x e; omega))
      have hkw_w6 := hkw_w5.comp hk6 (fun x hx e => by first | omega | (have := hfp x e; omega) | (have := (hF x e).1; omega) | (have := hfpA x e; omega) | (have := hfpB x e; omega))
      have hkl0_w6 := hkl0_w5.comp hk6 (fun x hx e => by first | exact hfp x e | exact (hF x e).1 | omega)
      have hsX_w6 := hsX_w5.kp hk6 (fun x hx e => (hfp2 x hx).elim (hF x e).2.1 (fun q => by have := (hF x e).2.2; omega))
      have hs6 := hk6.size
      replace ha6 := ha6.tight
      refine wl_valE (v := v6) rfl (rf_assign rfl) rfl ?_
      refine wl_nil ?_
      refine bln ?_
      refine thn ?_
      refine region_ ?_
      refine wl_valE (v := .int .i64 ((i : Nat) : Int)) rfl (rf_move rfl) rfl ?_
      refine wl_valE (v := .int .i64 ((i + 1 : Nat) : Int)) rfl (rf_add rfl rfl rfl rfl (IntWalk.i64_in _ (by omega))) rfl ?_
      refine wl_valE (v := .int .i64 ((i + 1 : Nat) : Int)) rfl (rf_assign rfl) rfl ?_
      refine wl_nil ?_
      refine thn ?_
      refine ⟨lk0 - 1, _, rfl, (by omega), _, i + 1, st2, h', (v6), T ++ [(i : Int) + 1], (fun b => (F b ∨ w5.heap.size ≤ b) ∧ b < w6.heap.size), upds_self ⟨rfl, rfl, rfl, rfl, rfl, trivial⟩, ?_⟩
      refine ⟨by omega, hsX_w6, hq2, ha6, fun x hx => (hfp2 x hx).elim (hfp x) (fun q => by omega), fun x hx => ?_, hkl0_w6⟩
      have hx2 := hx.2
      rcases hx.1 with q | q
      · have := hF x q
        exact ⟨this.1, fun e => (hfp2 x e).elim this.2.1 (fun e2 => by omega), by omega⟩
      · exact ⟨by omega, fun e => by have := hsA.lt x e; omega, by omega⟩
    · have c36p := of_decide_eq_false c36
      obtain rfl : i = 1 + m := by omega
      refine exit_ ?_
      refine thx (thx (blx ?_))
      refine thn ?_
      refine seq_ ?_
      refine region_ ?_
      refine wl_valE (v := .int .i64 ((1 + m : Nat) : Int)) rfl (rf_move rfl) rfl ?_
      refine wl_valE (v := .int .i64 ((1 + m + 1 : Nat) : Int)) rfl (rf_add rfl rfl rfl rfl (IntWalk.i64_in _ (by omega))) rfl ?_
      refine wl_valE (v := .int .i64 ((1 + m + 1 : Nat) : Int)) rfl (rf_assign rfl) rfl ?_
      refine wl_nil ?_
      refine thn ?_
      refine seq_ ?_
      refine region_ ?_
      refine wl_valE (v := .int .i64 ((1 + m : Nat) : Int)) rfl (rf_move rfl) rfl ?_
      refine wl_valE (v := .int .i64 ((1 + m : Nat) : Int)) rfl (rf_assign rfl) rfl ?_
      refine wl_nil ?_
      refine thn ?_
      refine seq_ ?_
      refine seq_ ?_
      refine region_ ?_
      refine wl_valE (v := .int .i64 ((0 : Nat) : Int)) rfl (rf_assign rfl) rfl ?_
      refine wl_nil ?_
      refine thn ?_
      refine block_ ?_
      refine loop_ (fun lk lf lw => ∃ (g : Nat → Value) (i : Nat) (st : StS) (h : StH) (tv : Value) (T : List Int) (F : Nat → Prop), lf = upds g [(1, .slice pa ps.length pcap), (5, .int .i64 ((1 + m : Nat) : Int)), (6, .pointer (some ⟨s, 0, none⟩)), (8, tv), (12, .int .i64 ((1 + m + 1 + i : Nat) : Int)), (13, .int .i64 ((1 + m + i : Nat) : Int)), (14, .int .i64 ((i : Nat) : Int))] ∧ i + lk = ps.length ∧ StoreR lw s st h ∧ RQ st (1 + m) (1 + m) ((1 + m + i : Nat) : Int) ((1 + m + 1 + i : Nat) : Int) T ∧ Sl encI 1 3 lw F tv T ∧ (∀ x, fpS s h x → w.heap.size ≤ x) ∧ (∀ x, F x → w.heap.size ≤ x ∧ ¬ fpS s h x ∧ x < lw.heap.size) ∧ Kp (fun x => w.heap.size ≤ x) wl lw) (ps.length) ?_ ?_
      · refine ⟨_, 0, st, h, tv, T, F, upds_self ⟨rfl, rfl, rfl, rfl, rfl, rfl, rfl, trivial⟩, ?_⟩
        exact ⟨by omega, hs, hq, hT, hfp, hF, Kp.refl _⟩
      · intro lk1 lf1 wm hI1
        obtain ⟨gl1, i, st, h, tv, T, F, rfl, hik, hs, hq, hT, hfp, hF, hkl1⟩ := hI1
        have hp_wm := hp_wl.kp hkl1 (fun x h e => by have := hFp x h; first | omega | (have := hfp x e; omega) | (have := (hF x e).1; omega) | (have := hfpA x e; omega) | (have := hfpB x e; omega))
        have hkw_wm := hkw_wl.comp hkl1 (fun x hx e => by first | omega | (have := hfp x e; omega) | (have := (hF x e).1; omega) | (have := hfpA x e; omega) | (have := hfpB x e; omega))
        have hsm := hkl1.size
        refine seq_ ?_
        refine seq_ ?_
        refine region_ ?_
        refine wl_valE (v := .int .i64 ((i : Nat) : Int)) rfl (rf_move rfl) rfl ?_
        refine wl_valE (v := .slice pa ps.length pcap) rfl (rf_move rfl) rfl ?_
        refine wl_valE (v := .int .i64 ((ps.length : Nat) : Int)) rfl (rf_len_slice Try.underlying22 rfl rfl) rfl ?_
        refine wl_valE (v := .bool (decide (((i : Nat) : Int) < ((ps.length : Nat) : Int)))) rfl (rf_lss rfl rfl rfl rfl) rfl ?_
        refine wl_nil ?_
        refine thn ?_
        refine cond_ (t := decide (((i : Nat) : Int) < ((ps.length : Nat) : Int))) rfl rfl (fun c83 => ?_) (fun c83 => ?_)
        · have c83p := of_decide_eq_true c83
          obtain ⟨x, hx⟩ : ∃ x, ps[i]? = some x := ⟨_, List.getElem?_eq_getElem (by omega)⟩
          obtain ⟨b5, o5, cap5, e5, hcap5, hF5, hlt5, hcell5⟩ := hp_wm.get (by omega)
          cases e5
          obtain ⟨tb, to, tcap, et, hFt, hTt⟩ := hT.at (by have := hq.len; omega)
          subst et
          have htw := (hF tb hFt).1
          have hql := hq.len
          obtain ⟨kk, hkk, hkk2⟩ : ∃ kk : Nat, kk < T.length ∧ (IntKind.u64.wrap x).tmod ((T.length : Nat) : Int) = (kk : Int) := by
            have h := u64_nn x
            have h2 := Int.emod_lt_of_pos (IntKind.u64.wrap x) (show (0 : Int) < ((T.length : Nat) : Int) by omega)
            have h3 := Int.emod_nonneg (IntKind.u64.wrap x) (show ((T.length : Nat) : Int) ≠ 0 by omega)
            refine ⟨((IntKind.u64.wrap x).tmod ((T.length : Nat) : Int)).toNat, ?_, ?_⟩ <;> rw [Int.tmod_eq_emod_of_nonneg h.1] <;> omega
          obtain ⟨y, hy⟩ : ∃ y, T[kk]? = some y := ⟨_, List.getElem?_eq_getElem hkk⟩
          obtain ⟨r, hr⟩ := hq.here y (List.mem_of_getElem? hy)
          refine skip_ ?_
          refine thn ?_
          refine seq_ ?_
          refine block_ ?_
          refine seq_ ?_
          refine region_ ?_
          refine wl_valE (v := .pointer (some ⟨s, 0, none⟩)) rfl (rf_move rfl) rfl ?_
          refine wl_valE (v := .agg #[.int .i64 ((0 : Nat) : Int), .int .i64 ((3 : Nat) : Int)]) rfl (rf_build (offs := [(1, [.int .i64 ((3 : Nat) : Int)])]) (places := #[(0, 1), (1, 1)]) Try.underlying31 ti31 (fun w => by kernel_rfl) (.cons rfl rfl rfl rfl rfl rfl .nil)) rfl ?_
          refine wl_valE (v := .int .i64 ((1 + m + 1 + i : Nat) : Int)) rfl (rf_move rfl) rfl ?_
          refine wl_ret rfl (insert_ret s st h wm hs ⟨0, 3⟩ ((1 + m + 1 + i : Nat) : Int) 0 (by have := hq.last; omega)) (rf_call Try.call5 rfl rfl) ?_
          rintro vq w7 ⟨hv, h', hsX, hfp2, hk7⟩
          have he : insErr st ⟨0, 3⟩ ((1 + m + 1 + i : Nat) : Int) 0 = 92 := ins_full rfl ⟨by omega, by omega⟩ ⟨by omega, by omega⟩ (by have := hq.room; have := hq.live; omega)
          rw [he, if_neg (by decide)] at hv
          rw [he, if_neg (by decide)] at hsX
          subst hv
          have hfpA : ∀ x, fpS s h' x → w.heap.size ≤ x := fun x hx => (hfp2 x hx).elim (hfp x) (fun q => by omega)
          have htA : ¬ fpS s h' tb := fun e => (hfp2 tb e).elim (hF tb hFt).2.1 (fun q => by have := (hF tb hFt).2.2; omega)
          have hp_w7 := hp_wm.kp hk7 (fun x h e => by have := hFp x h; first | omega | (have := hfp x e; omega) | (have := (hF x e).1; omega) | (have := hfpA x e; omega) | (have := hfpB x e; omega))
          have hkw_w7 := hkw_wm.comp hk7 (fun x hx e => by first | omega | (have := hfp x e; omega) | (have := (hF x e).1; omega) | (have := hfpA x e; omega) | (have := hfpB x e; omega))
          have hkl1_w7 := hkl1.comp hk7 (fun x hx e => by first | exact hfp x e | exact (hF x e).1 | exact hfpA x e | exact hfpB x e | omega)
          have hTt_w7 := hTt.kp hk7 (fun e => (hF tb hFt).2.1 e)
          have hs7 := hk7.size
          refine wl_valE (v := .tuple #[.int .i64 0, .int .i64 92]) rfl (rf_move rfl) rfl ?_
          refine wl_valE (v := .int .i64 0) rfl (rf_extract rfl rfl rfl) rfl ?_
          refine wl_valE (v := .int .i64 92) rfl (rf_extract rfl rfl rfl) rfl ?_
          refine wl_valE (v := .int .i64 0) rfl (rf_assign rfl) rfl ?_
          refine wl_valE (v := .int .i64 92) rfl (rf_assign rfl) rfl ?_
          refine wl_nil ?_
          refine thn ?_
          refine seq_ ?_
          refine seq_ ?_
          refine region_ ?_
          refine wl_valE (v := .int .i64 0) rfl (rf_move rfl) rfl ?_
          refine wl_valE (v := .bool false) rfl (rf_neq rfl rfl rfl rfl) (congrArg Value.bool (by decide)) ?_
          refine wl_valE (v := .bool false) rfl (rf_move rfl) rfl ?_
          refine wl_guardT rfl rfl rfl rfl ?_
          refine wl_valE (v := .int .i64 92) rfl (rf_move rfl) rfl ?_
          refine wl_guardT rfl rfl rfl rfl ?_
          refine wl_valE (v := .bool false) rfl (rf_neq rfl rfl rfl rfl) (congrArg Value.bool (by decide)) ?_
          refine wl_valE (v := .bool false) rfl (rf_pickF rfl rfl rfl rfl) rfl ?_
          refine wl_valE (v := .bool false) rfl (rf_move rfl) rfl ?_
          refine wl_guardT rfl rfl rfl rfl ?_
          refine wl_valE (v := .pointer (some ⟨s, 0, none⟩)) rfl (rf_move rfl) rfl ?_
          refine wl_guardT rfl rfl rfl rfl ?_
          refine wl_ret rfl (live_ret s st h' w7 hsX) (rf_call Try.call6 rfl rfl) ?_
          rintro vq w8 ⟨hv, hk8⟩
          rw [show (st).live = 1 + m from hq.live] at hv
          subst hv
          have hp_w8 := hp_w7.keep hk8
          have hkw_w8 := hkw_w7.comp hk8 (fun _ _ e => e.elim)
          have hkl1_w8 := hkl1_w7.comp hk8 (fun _ _ e => e.elim)
          have hTt_w8 := hTt_w7.keep hk8
          have hsX_w8 := hsX.keep hk8
          have hs8 := hk8.size
          refine wl_guardT rfl rfl rfl rfl ?_
          refine wl_valE (v := .int .i64 ((1 + m : Nat) : Int)) rfl (rf_move rfl) rfl ?_
          refine wl_guardT rfl rfl rfl rfl ?_
          refine wl_valE (v := .bool false) rfl (rf_neq rfl rfl rfl rfl) (congrArg Value.bool (decide_eq_false (by omega))) ?_
          refine wl_valE (v := .bool false) rfl (rf_pickF rfl rfl rfl rfl) rfl ?_
          refine wl_valE (v := .bool false) rfl (rf_move rfl) rfl ?_
          refine wl_guardT rfl rfl rfl rfl ?_
          refine wl_valE (v := .pointer (some ⟨s, 0, none⟩)) rfl (rf_move rfl) rfl ?_
          refine wl_guardT rfl rfl rfl rfl ?_
          refine wl_ret rfl (room_ret s st h' w8 hsX_w8 (by have : (st).room = ((1 + m : Nat) : Int) := hq.room; omega) (by have : (st).live = 1 + m := hq.live; omega)) (rf_call Try.call7 rfl rfl) ?_
          rintro vq w9 ⟨hv, hk9⟩
          rw [show (st).live = 1 + m from hq.live, show (st).room = ((1 + m : Nat) : Int) from hq.room] at hv
          subst hv
          have hp_w9 := hp_w8.keep hk9
          have hkw_w9 := hkw_w8.comp hk9 (fun _ _ e => e.elim)
          have hkl1_w9 := hkl1_w8.comp hk9 (fun _ _ e => e.elim)
          have hTt_w9 := hTt_w8.keep hk9
          have hsX_w9 := hsX_w8.keep hk9
          have hs9 := hk9.size
          refine wl_guardT rfl rfl rfl rfl ?_
          refine wl_valE (v := .bool false) rfl (rf_neq rfl rfl rfl rfl) (congrArg Value.bool (decide_eq_false (by omega))) ?_
          refine wl_valE (v := .bool false) rfl (rf_pickF rfl rfl rfl rfl) rfl ?_
          refine wl_nil ?_
          refine thn ?_
          refine condF rfl rfl ?_
          refine skip_ ?_
          refine thn ?_
          refine seq_ ?_
          refine region_ ?_
          refine wl_valE (v := .slice (some ⟨b5, o5, none⟩) ps.length pcap) rfl (rf_move rfl) rfl ?_
          refine wl_valE (v := .int .i64 ((i : Nat) : Int)) rfl (rf_move rfl) rfl ?_
          refine wl_valE (v := .pointer (some ⟨b5, o5 + i, none⟩)) rfl (rf_indexAddr Try.underlying22 ti3 rfl rfl rfl rfl (by omega) (by omega)) (by simp) ?_
          obtain ⟨b6, o6, cap6, e6, _, _, _, hcell6⟩ := hp_w9.get (by omega)
          cases e6
          refine wl_valE (v := .int .i64 x) rfl (rf_load Try.underlying3 rfl rfl rfl (el1 (hcell6 i x hx 0 _ rfl))) rfl ?_
          refine wl_valE (v := .int .u64 (IntKind.u64.wrap x)) rfl (rf_conv Try.underlying3 Try.underlying23 rfl rfl rfl) rfl ?_
          refine wl_valE (v := .slice (some ⟨tb, to, none⟩) T.length tcap) rfl (rf_move rfl) rfl ?_
          refine wl_valE (v := .int .i64 ((T.length : Nat) : Int)) rfl (rf_len_slice Try.underlying22 rfl rfl) rfl ?_
          refine wl_valE (v := .int .u64 ((T.length : Nat) : Int)) rfl (rf_conv Try.underlying3 Try.underlying23 rfl rfl (IntWalk.u64_in _ (by omega))) rfl ?_
          refine wl_valE (v := .int .u64 ((kk : Nat) : Int)) rfl (rf_rem rfl rfl rfl rfl (by omega) hkk2) rfl ?_
          refine wl_valE (v := .int .i64 ((kk : Nat) : Int)) rfl (rf_conv Try.underlying23 Try.underlying3 rfl rfl (IntWalk.i64_in _ (by omega))) rfl ?_
          refine wl_valE (v := .int .i64 ((kk : Nat) : Int)) rfl (rf_assign rfl) rfl ?_
          refine wl_nil ?_
          refine thn ?_
          refine seq_ ?_
          refine seq_ ?_
          refine region_ ?_
          refine wl_valE (v := .pointer (some ⟨s, 0, none⟩)) rfl (rf_move rfl) rfl ?_
          refine wl_valE (v := .slice (some ⟨tb, to, none⟩) T.length tcap) rfl (rf_move rfl) rfl ?_
          refine wl_valE (v := .int .i64 ((kk : Nat) : Int)) rfl (rf_move rfl) rfl ?_
          refine wl_valE (v := .pointer (some ⟨tb, to + kk, none⟩)) rfl (rf_indexAddr Try.underlying22 ti3 rfl rfl rfl rfl (by omega) (by omega)) (by simp) ?_
          refine wl_valE (v := .int .i64 y) rfl (rf_load Try.underlying3 rfl rfl rfl (el1 (hTt_w9.cell hy 0 _ rfl))) rfl ?_
          refine wl_ret rfl (remove_ret s st h' w9 hsX_w9 y r hr (by have := hq.last; omega)) (rf_call Try.call8 rfl rfl) ?_
          rintro vq w10 ⟨rfl, h3, hsY, hfp3, hk10⟩
          have hfpB : ∀ x, fpS s h3 x → w.heap.size ≤ x := fun x hx => (hfp3 x hx).elim (hfpA x) (fun q => by omega)
          have htB : ¬ fpS s h3 tb := fun e => (hfp3 tb e).elim htA (fun q => by have := hTt_w9.lt; omega)
          have hp_w10 := hp_w9.kp hk10 (fun x h e => by have := hFp x h; first | omega | (have := hfp x e; omega) | (have := (hF x e).1; omega) | (have := hfpA x e; omega) | (have := hfpB x e; omega))
          have hkw_w10 := hkw_w9.comp hk10 (fun x hx e => by first | omega | (have := hfp x e; omega) | (have := (hF x e).1; omega) | (have := hfpA x e; omega) | (have := hfpB x e; omega))
          have hkl1_w10 := hkl1_w9.comp hk10 (fun x hx e => by first | exact hfp x e | exact (hF x e).1 | exact hfpA x e | exact hfpB x e | omega)
          have hTt_w10 := hTt_w9.kp hk10 (fun e => htA e)
          have hs10 := hk10.size
          refine wl_valE (v := .bool false) rfl (rf_neq rfl rfl rfl rfl) (congrArg Value.bool (by decide)) ?_
          refine wl_valE (v := .bool false) rfl (rf_move rfl) rfl ?_
          refine wl_guardT rfl rfl rfl rfl ?_
          refine wl_valE (v := .pointer (some ⟨s, 0, none⟩)) rfl (rf_move rfl) rfl ?_
          refine wl_guardT rfl rfl rfl rfl ?_
          refine wl_valE (v := .slice (some ⟨tb, to, none⟩) T.length tcap) rfl (rf_move rfl) rfl ?_
          refine wl_guardT rfl rfl rfl rfl ?_
          refine wl_valE (v := .int .i64 ((kk : Nat) : Int)) rfl (rf_move rfl) rfl ?_
          refine wl_guardT rfl rfl rfl rfl ?_
          refine wl_valE (v := .pointer (some ⟨tb, to + kk, none⟩)) rfl (rf_indexAddr Try.underlying22 ti3 rfl rfl rfl rfl (by omega) (by omega)) (by simp) ?_
          refine wl_guardT rfl rfl rfl rfl ?_
          refine wl_valE (v := .int .i64 y) rfl (rf_load Try.underlying3 rfl rfl rfl (el1 (hTt_w10.cell hy 0 _ rfl))) rfl ?_
          refine wl_guardT rfl rfl rfl rfl ?_
          refine wl_ret rfl (removeN_ret s (remSt st y r) h3 w10 hsY y (by simp [remSt])) (rf_call Try.call8 rfl rfl) ?_
          rintro _ w11 ⟨rfl, hk11⟩
          have hp_w11 := hp_w10.keep hk11
          have hkw_w11 := hkw_w10.comp hk11 (fun _ _ e => e.elim)
          have hkl1_w11 := hkl1_w10.comp hk11 (fun _ _ e => e.elim)
          have hTt_w11 := hTt_w10.keep hk11
          have hsY_w11 := hsY.keep hk11
          have hs11 := hk11.size
          refine wl_guardT rfl rfl rfl rfl ?_
          refine wl_valE (v := .bool false) rfl (rf_neq rfl rfl rfl rfl) (congrArg Value.bool (by decide)) ?_
          refine wl_valE (v := .bool false) rfl (rf_pickF rfl rfl rfl rfl) rfl ?_
          refine wl_valE (v := .bool false) rfl (rf_move rfl) rfl ?_
          refine wl_guardT rfl rfl rfl rfl ?_
          refine wl_valE (v := .pointer (some ⟨s, 0, none⟩)) rfl (rf_move rfl) rfl ?_
          refine wl_guardT rfl rfl rfl rfl ?_
          refine wl_ret rfl (room_ret s (remSt st y r) h3 w11 hsY_w11 (by have : ((remSt st y r)).room = ((1 + m : Nat) : Int) := hq.room; omega) (by have : ((remSt st y r)).live = m := (by show st.live - 1 = m; rw [hq.live]; omega); omega)) (rf_call Try.call7 rfl rfl) ?_
          rintro vq w12 ⟨hv, hk12⟩
          rw [show ((remSt st y r)).live = m from (by show st.live - 1 = m; rw [hq.live]; omega), show ((remSt st y r)).room = ((1 + m : Nat) : Int) from hq.room] at hv
          subst hv
          have hp_w12 := hp_w11.keep hk12
          have hkw_w12 := hkw_w11.comp hk12 (fun _ _ e => e.elim)
          have hkl1_w12 := hkl1_w11.comp hk12 (fun _ _ e => e.elim)
          have hTt_w12 := hTt_w11.keep hk12
          have hsY_w12 := hsY_w11.keep hk12
          have hs12 := hk12.size
          refine wl_guardT rfl rfl rfl rfl ?_
          refine wl_valE (v := .bool false) rfl (rf_neq rfl rfl rfl rfl) (congrArg Value.bool (decide_eq_false (by omega))) ?_
          refine wl_valE (v := .bool false) rfl (rf_pickF rfl rfl rfl rfl) rfl ?_
          refine wl_nil ?_
          refine thn ?_
          refine condF rfl rfl ?_
          refine skip_ ?_
          refine thn ?_
          refine seq_ ?_
          refine region_ ?_
          refine wl_valE (v := .pointer (some ⟨s, 0, none⟩)) rfl (rf_move rfl) rfl ?_
          refine wl_valE (v := .int .i64 ((i : Nat) : Int)) rfl (rf_move rfl) rfl ?_
          refine wl_valE (v := .int .i64 ((i % 5 : Nat) : Int)) rfl (rf_rem rfl rfl rfl rfl (by decide) (by have := tmodN i 5; simpa using this)) rfl ?_
          refine wl_valE (v := .agg #[.int .i64 ((0 : Nat) : Int), .int .i64 ((i % 5 : Nat) : Int)]) rfl (rf_build (offs := [(1, [.int .i64 ((i % 5 : Nat) : Int)])]) (places := #[(0, 1), (1, 1)]) Try.underlying31 ti31 (fun w => by kernel_rfl) (.cons rfl rfl rfl rfl rfl rfl .nil)) rfl ?_
          refine wl_valE (v := .int .i64 ((1 + m + 1 + i : Nat) : Int)) rfl (rf_move rfl) rfl ?_
          refine wl_ret rfl (insert_ret s (remSt st y r) h3 w12 hsY_w12 ⟨0, ((i % 5 : Nat) : Int)⟩ ((1 + m + 1 + i : Nat) : Int) 0 (by show st.last ≤ _; have := hq.last; omega)) (rf_call Try.call5 rfl rfl) ?_
          rintro vq w13 ⟨hv, h4, hsZ, hfp4, hk13⟩
          have he : insErr (remSt st y r) ⟨0, ((i % 5 : Nat) : Int)⟩ ((1 + m + 1 + i : Nat) : Int) 0 = 0 := ins_ok (okRow _) ⟨by omega, by omega⟩ ⟨by omega, by omega⟩ (by show ((st.live - 1 : Nat) : Int) < st.room; have := hq.room; have := hq.live; omega) (not_stale (rem_bat (fun v r' h => by have := hq.bat v r' h; omega)))
          rw [he, if_pos rfl, show (remSt st y r).last = ((1 + m + i : Nat) : Int) from hq.last] at hv
          rw [he, if_pos rfl] at hsZ
          subst hv
          have hfpC : ∀ x, fpS s h4 x → w.heap.size ≤ x := fun x hx => (hfp4 x hx).elim (hfpB x) (fun q => by omega)
          have htC : ¬ fpS s h4 tb := fun e => (hfp4 tb e).elim htB (fun q => by have := hTt_w12.lt; omega)
          have hp_w13 := hp_w12.kp hk13 (fun x h e => by have := hFp x h; first | omega | (have := hfp x e; omega) | (have := (hF x e).1; omega) | (have := hfpA x e; omega) | (have := hfpB x e; omega))
          have hkw_w13 := hkw_w12.comp hk13 (fun x hx e => by first | omega | (have := hfp x e; omega) | (have := (hF x e).1; omega) | (have := hfpA x e; omega) | (have := hfpB x e; omega))
          have hkl1_w13 := hkl1_w12.comp hk13 (fun x hx e => by first | exact hfp x e | exact (hF x e).1 | exact hfpA x e | exact hfpB x e | omega)
          have hTt_w13 := hTt_w12.kp hk13 (fun e => htB e)
          have hs13 := hk13.size
          refine wl_valE (v := .tuple #[.int .i64 (((1 + m + i : Nat) : Int) + 1), .int .i64 0]) rfl (rf_move rfl) rfl ?_
          refine wl_valE (v := .int .i64 (((1 + m + i : Nat) : Int) + 1)) rfl (rf_extract rfl rfl rfl) rfl ?_
          refine wl_valE (v := .int .i64 0) rfl (rf_extract rfl rfl rfl) rfl ?_
          refine wl_valE (v := .int .i64 (((1 + m + i : Nat) : Int) + 1)) rfl (rf_assign rfl) rfl ?_
          refine wl_valE (v := .int .i64 0) rfl (rf_assign rfl) rfl ?_
          refine wl_nil ?_
          refine thn ?_
          refine seq_ ?_
          refine seq_ ?_
          refine region_ ?_
          refine wl_valE (v := .int .i64 0) rfl (rf_move rfl) rfl ?_
          refine wl_valE (v := .bool false) rfl (rf_neq rfl rfl rfl rfl) (congrArg Value.bool (by decide)) ?_
          refine wl_valE (v := .bool false) rfl (rf_move rfl) rfl ?_
          refine wl_guardT rfl rfl rfl rfl ?_
          refine wl_valE (v := .int .i64 (((1 + m + i : Nat) : Int) + 1)) rfl (rf_move rfl) rfl ?_
          refine wl_guardT rfl rfl rfl rfl ?_
          refine wl_valE (v := .int .i64 ((1 + m + i : Nat) : Int)) rfl (rf_move rfl) rfl ?_
          refine wl_guardT rfl rfl rfl rfl ?_
          refine wl_valE (v := .int .i64 ((1 + m + i + 1 : Nat) : Int)) rfl (rf_add rfl rfl rfl rfl (IntWalk.i64_in _ (by omega))) rfl ?_
          refine wl_guardT rfl rfl rfl rfl ?_
          refine wl_valE (v := .bool false) rfl (rf_neq rfl rfl rfl rfl) (congrArg Value.bool (decide_eq_false (by omega))) ?_
          refine wl_valE (v := .bool false) rfl (rf_pickF rfl rfl rfl rfl) rfl ?_
          refine wl_nil ?_
          refine thn ?_
          refine condF rfl rfl ?_
          refine skip_ ?_
          refine thn ?_
          refine seq_ ?_
          refine region_ ?_
          refine wl_valE (v := .int .i64 (((1 + m + i : Nat) : Int) + 1)) rfl (rf_move rfl) rfl ?_
          refine wl_valE (v := .int .i64 ((1 + m + (i + 1) : Nat) : Int)) rfl (rf_assign rfl) (congrArg (Value.int .i64) (by omega)) ?_
          refine wl_nil ?_
          refine thn ?_
          refine seq_ ?_
          refine region_ ?_
          refine wl_valE (v := .slice (some ⟨tb, to, none⟩) T.length tcap) rfl (rf_move rfl) rfl ?_
          refine wl_valE (v := .int .i64 ((kk : Nat) : Int)) rfl (rf_move rfl) rfl ?_
          refine wl_valE (v := .int .i64 (((1 + m + i : Nat) : Int) + 1)) rfl (rf_move rfl) rfl ?_
          refine wl_valE (v := .pointer (some ⟨tb, to + kk, none⟩)) rfl (rf_indexAddr Try.underlying22 ti3 rfl rfl rfl rfl (by omega) (by omega)) (by simp) ?_
          refine wl_storeEl (i := kk) (j := 0) (q := ((1 + m + i : Nat) : Int) + 1) (u := .int .i64 (((1 + m + i : Nat) : Int) + 1)) (c := [.int .i64 (((1 + m + i : Nat) : Int) + 1)]) encI_len ti3 rfl rfl rfl (by simp) rfl rfl rfl (by simp [Value.oneCell']) hTt_w13 hy (Nat.le_of_ble_eq_true rfl) rfl ?_
          intro w14 hk14 ha14
          have hp_w14 := hp_w13.kp hk14 (fun x h e => by have := hFp x h; first | omega | (have := hfp x e; omega) | (have := (hF x e).1; omega) | (have := hfpA x e; omega) | (have := hfpB x e; omega))
          have hkw_w14 := hkw_w13.comp hk14 (fun x hx e => by first | omega | (have := hfp x e; omega) | (have := (hF x e).1; omega) | (have := hfpA x e; omega) | (have := hfpB x e; omega))
          have hkl1_w14 := hkl1_w13.comp hk14 (fun x hx e => by first | exact hfp x e | exact (hF x e).1 | exact hfpA x e | exact hfpB x e | omega)
          have hsZ_w14 := hsZ.kp hk14 (fun x hx e => htC (e ▸ hx))
          have hs14 := hk14.size
          refine wl_nil ?_
          refine thn ?_
          refine region_ ?_
          refine wl_valE (v := .int .i64 ((1 + m + 1 + i : Nat) : Int)) rfl (rf_move rfl) rfl ?_
          refine wl_valE (v := .int .i64 ((1 + m + 1 + (i + 1) : Nat) : Int)) rfl (rf_add rfl rfl rfl rfl (by rw [IntWalk.i64_in _ (by omega)]; omega)) rfl ?_
          refine wl_valE (v := .int .i64 ((1 + m + 1 + (i + 1) : Nat) : Int)) rfl (rf_assign rfl) rfl ?_
          refine wl_nil ?_
          refine bln ?_
          refine thn ?_
          refine region_ ?_
          refine wl_valE (v := .int .i64 ((i : Nat) : Int)) rfl (rf_move rfl) rfl ?_
          refine wl_valE (v := .int .i64 ((i + 1 : Nat) : Int)) rfl (rf_add rfl rfl rfl rfl (IntWalk.i64_in _ (by omega))) rfl ?_
          refine wl_valE (v := .int .i64 ((i + 1 : Nat) : Int)) rfl (rf_assign rfl) rfl ?_
          refine wl_nil ?_
          refine thn ?_
          refine ⟨lk1 - 1, _, rfl, (by omega), _, i + 1, (insSt (remSt st y r) ⟨0, ((i % 5 : Nat) : Int)⟩ ((1 + m + 1 + i : Nat) : Int) 0), h4, (.slice (some ⟨tb, to, none⟩) T.length tcap), (T.set kk (((1 + m + i : Nat) : Int) + 1)), F, upds_self ⟨rfl, rfl, rfl, rfl, rfl, rfl, rfl, trivial⟩, ?_⟩
          refine ⟨by omega, hsZ_w14, (hq.turn hs.inv hy hr ⟨0, _⟩ hsY.inv).cast (by omega) (by omega), by have e := ha14.sl (F := F) hFt; rw [List.length_set] at e; exact e, hfpC, fun x hx => ?_, hkl1_w14⟩
          have h1 := hF x hx
          refine ⟨h1.1, fun e => ?_, by omega⟩
          rcases hfp4 x e with e | e
          · rcases hfp3 x e with e | e
            · rcases hfp2 x e with e | e
              · exact h1.2.1 e
              · omega
            · omega
          · omega
        · have c83p := of_decide_eq_false c83
          refine exit_ ?_
          refine thx (thx (blx ?_))
          refine thn ?_
          refine seq_ ?_
          refine region_ ?_
          refine wl_valE (v := .pointer (some ⟨s, 0, none⟩)) rfl (rf_move rfl) rfl ?_
          refine wl_ret rfl (live_ret s st h wm hs) (rf_call Try.call6 rfl rfl) ?_
          rintro vq w15 ⟨hv, hk15⟩
          rw [show (st).live = 1 + m from hq.live] at hv
          subst hv
          have hp_w15 := hp_wm.keep hk15
          have hkw_w15 := hkw_wm.comp hk15 (fun _ _ e => e.elim)
          have hkl1_w15 := hkl1.comp hk15 (fun _ _ e => e.elim)
          have hs_w15 := hs.keep hk15
          have hT_w15 := hT.keep hk15
          have hs15 := hk15.size
          refine wl_valE (v := .int .i64 ((1 + m : Nat) : Int)) rfl (rf_move rfl) rfl ?_
          refine wl_valE (v := .bool true) rfl (rf_eql rfl rfl rfl rfl) (congrArg Value.bool (decide_eq_true rfl)) ?_
          refine wl_valE (v := .bool true) rfl (rf_assign rfl) rfl ?_
          refine wl_nil ?_
          refine thn ?_
          refine ret_ ?_
          refine fin1 (v := .bool true) Try.results3 rfl rfl ?_
          exact ⟨rfl, hkw_w15⟩
end Go.Proofs.Ythckniipdcolgaa.W
