import Derived.Test.YtojcddlpkfhodaaS2
import Derived.KernelRfl
namespace Go.Proofs.Ytojcddlpkfhodaa.W
open Go Go.Wk
set_option linter.unusedVariables false
set_option linter.unusedSimpArgs false

theorem not_stale {st : StS} {k : Key} {b i : Int} (h : ∀ v r, st.ver v = some r → r.batch < b) : staleB st k b i = false := by
  unfold staleB
  cases hl : (st.ch k).getLast?.bind st.ver with
  | none => rfl
  | some r =>
    obtain ⟨v, _, h2⟩ := Option.bind_eq_some_iff.1 hl
    have := h v r h2
    simp; omega
theorem rem_bat {st : StS} {x b : Int} {r : VerR} (h : ∀ v r, st.ver v = some r → r.batch < b) : ∀ v r', (remSt st x r).ver v = some r' → r'.batch < b := fun v r' hv => by
  simp only [remSt] at hv
  split at hv
  · cases hv
  · exact h v r' hv
theorem ins_ok {st : StS} {k : Key} {b i : Int} (hk : okK k = true) (hb : 1 ≤ b ∧ b ≤ 1099511627776) (hi : 0 ≤ i ∧ i < 64) (hr : (st.live : Int) < st.room) (hs : staleB st k b i = false) : insErr st k b i = 0 := by
  unfold insErr
  rw [if_neg (by simp [hk]), if_neg (by omega), if_neg (by omega), if_neg (by omega), if_neg (by simp [hs])]
theorem ins_full {st : StS} {k : Key} {b i : Int} (hk : okK k = true) (hb : 1 ≤ b ∧ b ≤ 1099511627776) (hi : 0 ≤ i ∧ i < 64) (hr : st.room ≤ st.live) : insErr st k b i = 92 := by
  unfold insErr
  rw [if_neg (by simp [hk]), if_neg (by omega), if_neg (by omega), if_pos hr]
theorem okRow (x : Int) : okK ⟨0, x⟩ = true := rfl

structure LaidR where
  v : Int
  key : Key
  batch : Int
  index : Int
  fill : Bool
  cell : Cell
deriving DecidableEq
def encLaid (l : LaidR) : List Value := [.int .i64 l.v, .int .i64 l.key.table, .int .i64 l.key.row, .int .i64 l.batch, .int .i64 l.index, .bool l.fill, .bool l.cell.is_, .int .i64 l.cell.value]
theorem encLaid_len (l : LaidR) : (encLaid l).length = 8 := rfl
theorem encLaid_one (l : LaidR) : ∀ u ∈ encLaid l, u.oneCell' = true := by simp [encLaid, Value.oneCell']
structure WS where
  st : StS
  all : List LaidR
  last : Int
  batch : Int
structure WR (w : World) (wb s : Nat) (x : WS) (h : StH) (av : Value) (F : Nat → Prop) : Prop where
  blk : Blk w wb (.cells #[.pointer (some ⟨s, 0, none⟩), av, .int .i64 x.last, .int .i64 x.batch] 36 (0, 0))
  alls : Sl encLaid 8 52 w F av x.all
  store : StoreR w s x.st h
  sep : ∀ y, F y → ¬ fpS s h y ∧ y ≠ wb ∧ y < w.heap.size
  wbn : ¬ fpS s h wb
theorem WR.kp {w w' : World} {wb s : Nat} {x : WS} {h : StH} {av : Value} {F S : Nat → Prop} (q : WR w wb s x h av F) (hk : Kp S w w') (h1 : ∀ y, fpS s h y → ¬ S y) (h2 : ∀ y, F y → ¬ S y) (h3 : ¬ S wb) : WR w' wb s x h av F :=
  ⟨q.blk.kp hk h3, q.alls.kp hk h2, q.store.kp hk h1, fun y hy => ⟨(q.sep y hy).1, (q.sep y hy).2.1, Nat.lt_of_lt_of_le (q.sep y hy).2.2 hk.size⟩, q.wbn⟩
theorem WR.keep {w w' : World} {wb s : Nat} {x : WS} {h : StH} {av : Value} {F : Nat → Prop} (q : WR w wb s x h av F) (hk : Kp none_ w w') : WR w' wb s x h av F := q.kp hk (fun _ _ h => h) (fun _ _ h => h) (fun h => h)
theorem WR.kpN {w w' : World} {wb s : Nat} {x : WS} {h : StH} {av : Value} {F S : Nat → Prop} (q : WR w wb s x h av F) (hk : Kp S w w') (hn : ∀ y, fpS s h y ∨ F y ∨ y = wb → ¬ S y) : WR w' wb s x h av F := q.kp hk (fun y h => hn y (.inl h)) (fun y h => hn y (.inr (.inl h))) (hn wb (.inr (.inr rfl)))
/-- What is known of it: extra versions beside those of the list; the batches are at most 'batch'. -/
structure WInv (x : WS) (extra : Nat) : Prop where
  last : x.st.last = x.last
  live : x.st.live = x.all.length + extra
  room : x.st.room = 65536
  here : ∀ l ∈ x.all, x.st.ver l.v = some ⟨l.batch, l.index, l.key, l.fill, l.cell⟩
  nod : (x.all.map (·.v)).Nodup
  bat : ∀ v r, x.st.ver v = some r → r.batch ≤ x.batch
  bat0 : 1 ≤ x.batch
def k9 : Key := ⟨9, -9⟩
def st1 (p : Int) : StS := insSt ⟨65536, p, 0, 0, fun _ => none, fun _ => []⟩ k9 1 0
def ws1 (p : Int) : WS := ⟨st1 p, [⟨1, k9, 1, 0, false, ⟨false, 0⟩⟩], 1, 2⟩
theorem ws1_inv (p : Int) : WInv (ws1 p) 0 where
  last := rfl
  live := rfl
  room := rfl
  here l hl := by
    simp only [ws1, List.mem_singleton] at hl
    subst hl; rfl
  nod := by simp [ws1]
  bat v r h := by
    simp only [ws1, st1, insSt] at h ⊢
    split at h
    · cases h; decide
    · cases h
  bat0 := by simp [ws1]
theorem st1_err (p : Int) : insErr ⟨65536, p, 0, 0, fun _ => none, fun _ => []⟩ k9 1 0 = 0 := rfl
theorem st1_new (p : Int) : visF (st1 p) k9 1099511627776 = 1 := rfl

theorem _root_.Go.Wk.SlAt.rdFrom {α : Type} {enc : α → List Value} {sz : Nat} {e : TypeId} {w : World} {b o cap : Nat} {l : List α} {F : Nat → Prop} (h : SlAt enc sz e w b o cap l) (hF : F b) (k : Nat) (hk : k ≤ l.length) :
    Rd enc sz w F (.slice (if cap = k then some ⟨b, o, none⟩ else (some (⟨b, o, none⟩ : Addr)).map (·.add (k * sz))) (l.length - k) (cap - k)) (l.drop k) := by
  have hl := h.le
  by_cases e : cap = k
  · refine ⟨_, _, by rw [List.length_drop], by rw [List.length_drop]; omega, fun hp => ?_⟩
    rw [List.length_drop] at hp; omega
  · rw [if_neg e]
    have := (h.drop k (by omega)).rd hF
    rw [List.length_drop] at this
    simpa [add_at] using this
structure WriteR where
  key : Key
  later : Int
  index : Int
  fill : Bool
  cell : Cell
  drop : Int
def encWrite (q : WriteR) : List Value := [.int .i64 q.key.table, .int .i64 q.key.row, .int .i64 q.later, .int .i64 q.index, .bool q.fill, .bool q.cell.is_, .int .i64 q.cell.value, .int .i64 q.drop]
theorem encWrite_len (q : WriteR) : (encWrite q).length = 8 := rfl
def recOf (l : LaidR) : VerR := ⟨l.batch, l.index, l.key, l.fill, l.cell⟩
def dropW (x : WS) (i : Nat) (l : LaidR) : WS := { x with st := remSt x.st l.v (recOf l), all := x.all.eraseIdx i }
theorem WInv.drop {x : WS} {e : Nat} (h : WInv x e) {i : Nat} {l : LaidR} (hi : x.all[i]? = some l) : WInv (dropW x i l) e where
  last := h.last
  live := by
    have := (List.getElem?_eq_some_iff.1 hi).1
    have := h.live
    show x.st.live - 1 = (x.all.eraseIdx i).length + e
    rw [List.length_eraseIdx_of_lt (by assumption)]
    omega
  room := h.room
  here l' hl' := by
    have hm := (List.eraseIdx_sublist x.all i).subset hl'
    have hl2 : l' ∈ x.all.eraseIdx i := hl'
    have hne : l'.v ≠ l.v := by
      intro e
      obtain ⟨j, hj⟩ := List.getElem?_of_mem hm
      have hij : j = i := nodup_inj h.nod (i := j) (j := i) (x := l.v) (by rw [List.getElem?_map, hj, Option.map_some, e]) (by rw [List.getElem?_map, hi]; rfl)
      subst hij
      rw [hi] at hj; cases hj
      rw [List.mem_eraseIdx_iff_getElem?] at hl2
      obtain ⟨j2, hj2, hj3⟩ := hl2
      exact hj2 (nodup_inj h.nod (i := j2) (j := j) (x := l.v) (by rw [List.getElem?_map, hj3]; rfl) (by rw [List.getElem?_map, hi]; rfl))
    show (if l'.v = l.v then none else x.st.ver l'.v) = _
    rw [if_neg hne]
    exact h.here l' hm
  nod := h.nod.sublist ((List.eraseIdx_sublist x.all i).map _)
  bat v r hv := by
    have hv' : (if v = l.v then none else x.st.ver v) = some r := hv
    split at hv'
    · cases hv'
    · exact h.bat v r hv'
  bat0 := h.bat0
def putW (x : WS) (q : WriteR) (d j : Int) : WS :=
  { st := let s1 := insSt x.st q.key (x.batch + d) j; if q.fill then fillSt s1 (x.st.last + 1) ⟨x.batch + d, j, q.key, false, ⟨false, 0⟩⟩ q.cell else s1,
    all := x.all ++ [⟨x.st.last + 1, q.key, x.batch + d, j, q.fill, if q.fill && q.cell.is_ then q.cell else ⟨false, 0⟩⟩], last := x.st.last + 1, batch := x.batch + d }
theorem WInv.put {x : WS} {e : Nat} (hi : StInv x.st) (h : WInv x e) (q : WriteR) {d j : Int} (hd : 1 ≤ d) : WInv (putW x q d j) e where
  last := by unfold putW; cases q.fill <;> rfl
  live := by
    have := h.live
    unfold putW
    cases q.fill <;> simp [insSt, fillSt] <;> omega
  room := by unfold putW; cases q.fill <;> exact h.room
  here l hl := by
    have old : ∀ l ∈ x.all, l.v ≠ x.st.last + 1 := fun l hl e => by
      have := (hi.verb _ _ (h.here l hl)).2.1; omega
    rcases List.mem_append.1 hl with hl | hl
    · have h1 := h.here l hl
      have h2 := old l hl
      unfold putW
      cases q.fill <;> simp [insSt, fillSt, h2, h1]
    · rw [List.mem_singleton] at hl
      subst hl
      unfold putW
      cases hf : q.fill <;> simp [insSt, fillSt, fillR]
  nod := by
    show ((x.all ++ [(_ : LaidR)]).map (fun l : LaidR => l.v)).Nodup
    rw [List.map_append, List.nodup_append]
    refine ⟨h.nod, by simp, fun a ha b hb e => ?_⟩
    simp only [List.map_cons, List.map_nil, List.mem_singleton] at hb
    obtain ⟨l, hl, rfl⟩ := List.mem_map.1 ha
    have := (hi.verb _ _ (h.here l hl)).2.1
    omega
  bat v r hv := by
    have key : ∀ r0, (if v = x.st.last + 1 then some (⟨x.batch + d, j, q.key, false, ⟨false, 0⟩⟩ : VerR) else x.st.ver v) = some r0 → r0.batch ≤ x.batch + d := fun r0 h0 => by
      split at h0
      · cases h0; show x.batch + d ≤ x.batch + d; omega
      · have := h.bat v r0 h0; omega
    unfold putW at hv ⊢
    cases hf : q.fill
    · rw [hf] at hv; exact key r hv
    · rw [hf] at hv
      have hv' : (if v = x.st.last + 1 then some (fillR ⟨x.batch + d, j, q.key, false, ⟨false, 0⟩⟩ q.cell) else (if v = x.st.last + 1 then some (⟨x.batch + d, j, q.key, false, ⟨false, 0⟩⟩ : VerR) else x.st.ver v)) = some r := hv
      split at hv'
      · cases hv'; show x.batch + d ≤ x.batch + d; omega
      · exact key r (by rw [if_neg (by assumption)]; exact hv')
  bat0 := by have := h.bat0; show 1 ≤ x.batch + d; omega

def Wrote (x : WS) (q : WriteR) (x' : WS) : Prop := ∃ x1, (x1 = x ∨ (0 ≤ q.drop ∧ ∃ i l, x.all[i]? = some l ∧ x1 = dropW x i l)) ∧ (x' = x1 ∨ ∃ d j, 1 ≤ d ∧ d ≤ 100 ∧ 0 ≤ j ∧ j < 64 ∧ x' = putW x1 q d j)
theorem Wrote.inv {x x' : WS} {q : WriteR} {e : Nat} (h : Wrote x q x') (hi : StInv x.st) (hw : WInv x e) : WInv x' e := by
  obtain ⟨x1, h1, h2⟩ := h
  have hx1 : WInv x1 e ∧ StInv x1.st := by
    rcases h1 with rfl | ⟨_, i, l, hl, rfl⟩
    · exact ⟨hw, hi⟩
    · exact ⟨hw.drop hl, rem_inv hi (hw.here l (List.mem_of_getElem? hl))⟩
  rcases h2 with rfl | ⟨d, j, hd, _, _, _, rfl⟩
  · exact hx1.1
  · exact hx1.1.put hx1.2 q hd
theorem begun_ret (c : Int) (w : World) : Ret Try.prog 4 [.int .i64 c] w fun v w' => ∃ wb s h av F p, v = .tuple #[.pointer (some ⟨wb, 0, none⟩), .bool true] ∧ WR w' wb s (ws1 p) h av F ∧ (∀ y, fpS s h y ∨ F y ∨ y = wb → w.heap.size ≤ y) ∧ Kp none_ w w' := by
  have hkw : Kp none_ w w := Kp.refl w
  obtain ⟨m, hm, hm2⟩ : ∃ m : Nat, m < 256 ∧ (IntKind.u64.wrap c).tmod 256 = (m : Int) := by
    have h := u64_nn c
    refine ⟨((IntKind.u64.wrap c).tmod 256).toNat, ?_, ?_⟩ <;> rw [Int.tmod_eq_emod_of_nonneg h.1] <;> omega
  refine enterR Try.func4 rfl Try.ntmps4 rfl ?_
  intro g0
  refine seq_ ?_
  refine region_ ?_
  refine wl_valE (v := .pointer none) rfl (rf_assign rfl) rfl ?_
  refine wl_valE (v := .bool false) rfl (rf_assign rfl) rfl ?_
  refine wl_nil ?_
  refine thn ?_
  refine seq_ ?_
  refine region_ ?_
  refine wl_valE (v := .int .i64 c) rfl (rf_move rfl) rfl ?_
  refine wl_valE (v := .int .u64 (IntKind.u64.wrap c)) rfl (rf_conv Try.underlying3 Try.underlying46 rfl rfl rfl) rfl ?_
  refine wl_valE (v := .int .u64 ((m : Nat) : Int)) rfl (rf_rem rfl rfl rfl rfl (by decide) hm2) rfl ?_
  refine wl_valE (v := .int .i64 ((m : Nat) : Int)) rfl (rf_conv Try.underlying46 Try.underlying3 rfl rfl (IntWalk.i64_in _ (by omega))) rfl ?_
  refine wl_valE (v := .int .i64 ((1 + m : Nat) : Int)) rfl (rf_add rfl rfl rfl rfl (by rw [IntWalk.i64_in _ (by omega)]; omega)) rfl ?_
  refine wl_ret rfl (newS_ret ((1 + m : Nat) : Int) 65536 w ⟨by omega, by omega⟩ ⟨by omega, by omega⟩) (rf_call Try.call14 rfl rfl) ?_
  rintro vq w1 ⟨s, h0, rfl, hsA, hk1, hfp0⟩
  have hfpA : ∀ x, fpS s h0 x → w.heap.size ≤ x := fun x hx => by have := hfp0 x hx; omega
  have hkw_w1 := hkw.comp hk1 (fun _ _ e => e.elim)
  have hs1 := hk1.size
  refine wl_valE (v := .tuple #[.pointer (some ⟨s, 0, none⟩), .int .i64 0]) rfl (rf_move rfl) rfl ?_
  refine wl_valE (v := .pointer (some ⟨s, 0, none⟩)) rfl (rf_extract rfl rfl rfl) rfl ?_
  refine wl_valE (v := .int .i64 0) rfl (rf_extract rfl rfl rfl) rfl ?_
  refine wl_valE (v := .pointer (some ⟨s, 0, none⟩)) rfl (rf_assign rfl) rfl ?_
  refine wl_valE (v := .int .i64 0) rfl (rf_assign rfl) rfl ?_
  refine wl_nil ?_
  refine thn ?_
  refine seq_ ?_
  refine seq_ ?_
  refine region_ ?_
  refine wl_valE (v := .int .i64 0) rfl (rf_move rfl) rfl ?_
  refine wl_valE (v := .bool false) rfl (rf_neq rfl rfl rfl rfl) (congrArg Value.bool (by decide)) ?_
  refine wl_valE (v := .bool false) rfl (rf_move rfl) rfl ?_
  refine wl_guardT rfl rfl rfl rfl ?_
  refine wl_valE (v := .pointer (some ⟨s, 0, none⟩)) rfl (rf_move rfl) rfl ?_
  refine wl_guardT rfl rfl rfl rfl ?_
  refine wl_valE (v := .bool false) rfl (rf_eqlPN Try.underlying33 rfl rfl rfl rfl) rfl ?_
  refine wl_valE (v := .bool false) rfl (rf_pickF rfl rfl rfl rfl) rfl ?_
  refine wl_nil ?_
  refine thn ?_
  refine condF rfl rfl ?_
  refine skip_ ?_
  refine thn ?_
  refine seq_ ?_
  refine region_ ?_
  refine wl_valE (v := .pointer (some ⟨s, 0, none⟩)) rfl (rf_move rfl) rfl ?_
  refine wl_valE (v := .agg #[.int .i64 ((9 : Nat) : Int), .int .i64 (-9 : Int)]) rfl (rf_build (offs := [(0, [.int .i64 ((9 : Nat) : Int)]), (1, [.int .i64 (-9 : Int)])]) (places := #[(0, 1), (1, 1)]) Try.underlying28 ti28 (fun w => by kernel_rfl) (.cons rfl rfl rfl rfl rfl rfl (.cons rfl rfl rfl rfl rfl rfl .nil))) rfl ?_
  refine wl_ret rfl (insert_ret s _ h0 w1 hsA k9 1 0 (by show (0 : Int) ≤ _; decide)) (rf_call Try.call15 rfl rfl) ?_
  rintro vq w2 ⟨hv, h', hsB, hfp2, hk2⟩
  rw [st1_err, if_pos rfl] at hv hsB
  subst hv
  have hfpB : ∀ x, fpS s h' x → w.heap.size ≤ x := fun x hx => (hfp2 x hx).elim (hfpA x) (fun q => by omega)
  have hkw_w2 := hkw_w1.comp hk2 (fun x hx e => by first | omega | (have := hfpA x e; omega))
  have hs2 := hk2.size
  refine wl_valE (v := .tuple #[.int .i64 1, .int .i64 0]) rfl (rf_move rfl) rfl ?_
  refine wl_valE (v := .int .i64 1) rfl (rf_extract rfl rfl rfl) rfl ?_
  refine wl_valE (v := .int .i64 0) rfl (rf_extract rfl rfl rfl) rfl ?_
  refine wl_valE (v := .int .i64 1) rfl (rf_assign rfl) rfl ?_
  refine wl_valE (v := .int .i64 0) rfl (rf_assign rfl) rfl ?_
  refine wl_nil ?_
  refine thn ?_
  refine seq_ ?_
  refine seq_ ?_
  refine region_ ?_
  refine wl_valE (v := .int .i64 1) rfl (rf_move rfl) rfl ?_
  refine wl_valE (v := .bool false) rfl (rf_neq rfl rfl rfl rfl) (congrArg Value.bool (by decide)) ?_
  refine wl_valE (v := .bool false) rfl (rf_move rfl) rfl ?_
  refine wl_guardT rfl rfl rfl rfl ?_
  refine wl_valE (v := .int .i64 0) rfl (rf_move rfl) rfl ?_
  refine wl_guardT rfl rfl rfl rfl ?_
  refine wl_valE (v := .bool false) rfl (rf_neq rfl rfl rfl rfl) (congrArg Value.bool (by decide)) ?_
  refine wl_valE (v := .bool false) rfl (rf_pickF rfl rfl rfl rfl) rfl ?_
  refine wl_valE (v := .bool false) rfl (rf_move rfl) rfl ?_
  refine wl_guardT rfl rfl rfl rfl ?_
  refine wl_valE (v := .pointer (some ⟨s, 0, none⟩)) rfl (rf_move rfl) rfl ?_
  refine wl_guardT rfl rfl rfl rfl ?_
  refine wl_ret rfl (live_ret s (st1 _) h' w2 hsB) (rf_call Try.call6 rfl rfl) ?_
  rintro vq w3 ⟨hv, hk3⟩
  rw [show (st1 ((1 + m : Nat) : Int)).live = 1 from rfl] at hv
  subst hv
  have hkw_w3 := hkw_w2.comp hk3 (fun _ _ e => e.elim)
  have hsB_w3 := hsB.keep hk3
  have hs3 := hk3.size
  refine wl_guardT rfl rfl rfl rfl ?_
  refine wl_valE (v := .bool false) rfl (rf_neq rfl rfl rfl rfl) (congrArg Value.bool (by decide)) ?_
  refine wl_valE (v := .bool false) rfl (rf_pickF rfl rfl rfl rfl) rfl ?_
  refine wl_valE (v := .bool false) rfl (rf_move rfl) rfl ?_
  refine wl_guardT rfl rfl rfl rfl ?_
  refine wl_valE (v := .pointer (some ⟨s, 0, none⟩)) rfl (rf_move rfl) rfl ?_
  refine wl_guardT rfl rfl rfl rfl ?_
  refine wl_valE (v := .agg #[.int .i64 ((9 : Nat) : Int), .int .i64 (-9 : Int)]) rfl (rf_build (offs := [(0, [.int .i64 ((9 : Nat) : Int)]), (1, [.int .i64 (-9 : Int)])]) (places := #[(0, 1), (1, 1)]) Try.underlying28 ti28 (fun w => by kernel_rfl) (.cons rfl rfl rfl rfl rfl rfl (.cons rfl rfl rfl rfl rfl rfl .nil))) rfl ?_
  refine wl_guardT rfl rfl rfl rfl ?_
  refine wl_ret rfl (newest_ret s (st1 _) h' w3 hsB_w3 k9 (by show (0 + 1 : Int) ≤ _; decide)) (rf_call Try.call12 rfl rfl) ?_
  rintro vq w4 ⟨hv, hk4⟩
  rw [st1_new] at hv
  subst hv
  have hkw_w4 := hkw_w3.comp hk4 (fun _ _ e => e.elim)
  have hsB_w4 := hsB_w3.keep hk4
  have hs4 := hk4.size
  refine wl_guardT rfl rfl rfl rfl ?_
  refine wl_valE (v := .bool false) rfl (rf_neq rfl rfl rfl rfl) (congrArg Value.bool (by decide)) ?_
  refine wl_valE (v := .bool false) rfl (rf_pickF rfl rfl rfl rfl) rfl ?_
  refine wl_nil ?_
  refine thn ?_
  refine condF rfl rfl ?_
  refine skip_ ?_
  refine thn ?_
  refine seq_ ?_
  refine region_ ?_
  refine wl_valE (v := .pointer (some ⟨s, 0, none⟩)) rfl (rf_move rfl) rfl ?_
  refine wl_valE (v := .agg #[.int .i64 ((9 : Nat) : Int), .int .i64 (-9 : Int)]) rfl (rf_build (offs := [(0, [.int .i64 ((9 : Nat) : Int)]), (1, [.int .i64 (-9 : Int)])]) (places := #[(0, 1), (1, 1)]) Try.underlying28 ti28 (fun w => by kernel_rfl) (.cons rfl rfl rfl rfl rfl rfl (.cons rfl rfl rfl rfl rfl rfl .nil))) rfl ?_
  refine wl_valE (v := .agg #[.int .i64 ((1 : Nat) : Int), .int .i64 ((0 : Nat) : Int)]) rfl (rf_build (offs := [(0, [.int .i64 ((1 : Nat) : Int)])]) (places := #[(0, 1), (1, 1)]) Try.underlying50 ti50 (fun w => by kernel_rfl) (.cons rfl rfl rfl rfl rfl rfl .nil)) rfl ?_
  refine wl_valE (v := .agg #[.int .i64 ((1 : Nat) : Int), .int .i64 ((9 : Nat) : Int), .int .i64 (-9 : Int), .int .i64 ((1 : Nat) : Int), .int .i64 ((0 : Nat) : Int), .bool false, .bool false, .int .i64 ((0 : Nat) : Int)]) rfl (rf_build (offs := [(0, [.int .i64 ((1 : Nat) : Int)]), (1, [.int .i64 ((9 : Nat) : Int), .int .i64 (-9 : Int)]), (3, [.int .i64 ((1 : Nat) : Int), .int .i64 ((0 : Nat) : Int)])]) (places := #[(0, 1), (1, 2), (3, 2), (5, 1), (6, 2)]) Try.underlying52 ti52 (fun w => by kernel_rfl) (.cons rfl rfl rfl rfl rfl rfl (.cons rfl rfl rfl rfl rfl rfl (.cons rfl rfl rfl rfl rfl rfl .nil)))) rfl ?_
  refine wl_buildSlice (css := [[.int .i64 ((1 : Nat) : Int), .int .i64 ((9 : Nat) : Int), .int .i64 (-9 : Int), .int .i64 ((1 : Nat) : Int), .int .i64 ((0 : Nat) : Int), .bool false, .bool false, .int .i64 ((0 : Nat) : Int)]]) Try.underlying34 ti52 rfl rfl rfl (.cons rfl rfl rfl rfl rfl rfl .nil) (by simp) ?_
  intro b5 w5 hg5 hk5 hb5
  have hkw_w5 := hkw_w4.comp hk5 (fun _ _ e => e.elim)
  have hsB_w5 := hsB_w4.keep hk5
  have hs5 := hk5.size
  refine wl_valE (v := .agg #[.pointer (some ⟨s, 0, none⟩), .slice (some ⟨b5, 0, none⟩) 1 1, .int .i64 ((1 : Nat) : Int), .int .i64 ((2 : Nat) : Int)]) rfl (rf_build (offs := [(0, [.pointer (some ⟨s, 0, none⟩)]), (1, [.slice (some ⟨b5, 0, none⟩) 1 1]), (2, [.int .i64 ((1 : Nat) : Int)]), (3, [.int .i64 ((2 : Nat) : Int)])]) (places := #[(0, 1), (1, 1), (2, 1), (3, 1)]) Try.underlying36 ti36 (fun w => by kernel_rfl) (.cons rfl rfl rfl rfl rfl rfl (.cons rfl rfl rfl rfl rfl rfl (.cons rfl rfl rfl rfl rfl rfl (.cons rfl rfl rfl rfl rfl rfl .nil))))) rfl ?_
  refine wl_box (v := .agg #[.pointer (some ⟨s, 0, none⟩), .slice (some ⟨b5, 0, none⟩) 1 1, .int .i64 ((1 : Nat) : Int), .int .i64 ((2 : Nat) : Int)]) rfl rfl ?_
  intro b6 w6 hg6 hk6 hb6
  have ne6_b5 : b5 ≠ b6 := Nat.ne_of_lt (Nat.lt_of_lt_of_le hb5.lt hg6)
  have hkw_w6 := hkw_w5.comp hk6 (fun _ _ e => e.elim)
  have hsB_w6 := hsB_w5.keep hk6
  have hb5_w6 := hb5.keep hk6
  have hs6 := hk6.size
  refine wl_valE (v := .pointer (some ⟨b6, 0, none⟩)) rfl (rf_assign rfl) rfl ?_
  refine wl_valE (v := .bool true) rfl (rf_assign rfl) rfl ?_
  refine wl_nil ?_
  refine thn ?_
  refine ret_ ?_
  refine fin2 (v1 := .pointer (some ⟨b6, 0, none⟩)) (v2 := .bool true) Try.results4 rfl rfl rfl rfl ?_
  refine ⟨b6, s, h', _, (fun y => y = b5), _, rfl, ⟨hb6, ?_, hsB_w6, ?_, ?_⟩, ?_, hkw_w6⟩
  · exact (SlAt.of_blk (l := [(⟨1, k9, 1, 0, false, ⟨false, 0⟩⟩ : LaidR)]) encLaid_len (by simp) hb5_w6).sl rfl
  · rintro y rfl
    exact ⟨fun e => by have := hsB.lt _ e; omega, by omega, hb5_w6.lt⟩
  · intro e; have := hsB.lt _ e; omega
  · rintro y (e | e | e)
    · exact hfpB y e
    · omega
    · omega
theorem write_ret (wb s : Nat) (x : WS) (h : StH) (av : Value) (F : Nat → Prop) (q : WriteR) (e : Nat) (w : World) (hw : WR w wb s x h av F) (hi : WInv x e) (he : e ≤ 500) (hb : x.batch ≤ 1099511627000) (hl : x.last ≤ 17592186043000) (hal : x.all.length ≤ 4194304) :
    Ret Try.prog 5 [.pointer (some ⟨wb, 0, none⟩), .agg #[.int .i64 q.key.table, .int .i64 q.key.row, .int .i64 q.later, .int .i64 q.index, .bool q.fill, .bool q.cell.is_, .int .i64 q.cell.value, .int .i64 q.drop]] w fun v w' => v = .bool true ∧ ∃ x' h' av' F', WR w' wb s x' h' av' F' ∧ Wrote x q x' ∧ (∀ y, fpS s h' y ∨ F' y → fpS s h y ∨ F y ∨ w.heap.size ≤ y) ∧ Kp (fun y => fpS s h y ∨ F y ∨ y = wb) w w' := by
  have hblk := hw.blk
  have hA := hw.alls
  have hst := hw.store
  have hsep := hw.sep
  have hwlt := hblk.lt
  have hkT : Kp (fun y => fpS s h y ∨ F y ∨ y = wb) w w := Kp.refl w
  obtain ⟨aa, acap, hav, hacap⟩ := hA.form
  subst hav
  obtain ⟨m, hm, hm2⟩ : ∃ m : Nat, m < 100 ∧ (IntKind.u64.wrap q.later).tmod 100 = (m : Int) := by
    have h := u64_nn q.later
    refine ⟨((IntKind.u64.wrap q.later).tmod 100).toNat, ?_, ?_⟩ <;> rw [Int.tmod_eq_emod_of_nonneg h.1] <;> omega
  obtain ⟨mj, hmj, hmj2⟩ : ∃ m : Nat, m < 64 ∧ (IntKind.u64.wrap q.index).tmod 64 = (m : Int) := by
    have h := u64_nn q.index
    refine ⟨((IntKind.u64.wrap q.index).tmod 64).toNat, ?_, ?_⟩ <;> rw [Int.tmod_eq_emod_of_nonneg h.1] <;> omega
  refine enterR Try.func5 rfl Try.ntmps5 rfl ?_
  intro g0
  refine seq_ ?_
  refine region_ ?_
  refine wl_box (v := .agg #[.int .i64 q.key.table, .int .i64 q.key.row, .int .i64 q.later, .int .i64 q.index, .bool q.fill, .bool q.cell.is_, .int .i64 q.cell.value, .int .i64 q.drop]) rfl rfl ?_
  intro b1 w1 hg1 hk1 hb1
  have ne1_wb : wb ≠ b1 := Nat.ne_of_lt (Nat.lt_of_lt_of_le hblk.lt hg1)
  have hblk_w1 := hblk.keep hk1
  have hA_w1 := hA.keep hk1
  have hst_w1 := hst.keep hk1
  have hkT_w1 := hkT.comp hk1 (fun _ _ e => e.elim)
  have hs1 := hk1.size
  refine wl_valE (v := .bool false) rfl (rf_assign rfl) rfl ?_
  refine wl_nil ?_
  refine thn ?_
  refine seq_ ?_
  refine seq_ ?_
  refine cut_ (fun lf lw => ∃ (g : Nat → Value) (c20 : Bool), lf = upds g [(0, .pointer (some ⟨wb, 0, none⟩)), (3, .pointer (some ⟨b1, 0, none⟩)), (4, .bool false), (20, .bool c20)] ∧ (c20 = true → 0 ≤ q.drop ∧ 0 < x.all.length) ∧ Kp (none_) w1 lw) ?_ ?_
  · refine region_ ?_
    refine wl_valE (v := .pointer (some ⟨b1, 7, none⟩)) rfl (rf_fieldAddr Try.underlying32 rfl ti3 rfl rfl) rfl ?_
    refine wl_valE (v := .int .i64 q.drop) rfl (rf_load Try.underlying3 rfl rfl rfl (hb1.cell rfl)) rfl ?_
    refine wl_valE (v := .bool (decide (((0 : Nat) : Int) ≤ q.drop))) rfl (rf_geq rfl rfl rfl rfl) rfl ?_
    refine wl_valE (v := .bool (decide (((0 : Nat) : Int) ≤ q.drop))) rfl (rf_move rfl) rfl ?_
    refine wl_split (decide (((0 : Nat) : Int) ≤ q.drop)) (fun u1_3 => ?_) (fun u1_3 => ?_)
    · have u1_3p := of_decide_eq_true u1_3
      refine wl_guardT rfl rfl rfl u1_3 ?_
      refine wl_valE (v := .pointer (some ⟨wb, 0, none⟩)) rfl (rf_move rfl) rfl ?_
      refine wl_guardT rfl rfl rfl u1_3 ?_
      refine wl_valE (v := .pointer (some ⟨wb, 0, none⟩)) rfl (rf_nilCheckP rfl rfl) rfl ?_
      refine wl_guardT rfl rfl rfl u1_3 ?_
      refine wl_valE (v := .pointer (some ⟨wb, 1, none⟩)) rfl (rf_fieldAddr Try.underlying36 rfl ti34 rfl rfl) rfl ?_
      refine wl_guardT rfl rfl rfl u1_3 ?_
      refine wl_valE (v := .slice aa x.all.length acap) rfl (rf_load Try.underlying34 rfl rfl rfl (hblk_w1.cell rfl)) rfl ?_
      refine wl_guardT rfl rfl rfl u1_3 ?_
      refine wl_valE (v := .int .i64 ((x.all.length : Nat) : Int)) rfl (rf_len_slice Try.underlying34 rfl rfl) rfl ?_
      refine wl_guardT rfl rfl rfl u1_3 ?_
      refine wl_valE (v := .bool (decide (((0 : Nat) : Int) < ((x.all.length : Nat) : Int)))) rfl (rf_gtr rfl rfl rfl rfl) rfl ?_
      refine wl_valE (v := .bool (decide (((0 : Nat) : Int) < ((x.all.length : Nat) : Int)))) rfl (rf_pickT rfl rfl rfl u1_3) rfl ?_
      refine wl_nil ?_
      refine cxn ⟨_, _, upds_self ⟨rfl, rfl, rfl, rfl, trivial⟩, ?_⟩
      exact ⟨fun c => ⟨u1_3p, by have := of_decide_eq_true c; omega⟩, Kp.refl _⟩
    · have u1_3p := of_decide_eq_false u1_3
      refine wl_guardF rfl rfl rfl u1_3 ?_
      refine wl_guardF rfl rfl rfl u1_3 ?_
      refine wl_guardF rfl rfl rfl u1_3 ?_
      refine wl_guardF rfl rfl rfl u1_3 ?_
      refine wl_guardF rfl rfl rfl u1_3 ?_
      refine wl_guardF rfl rfl rfl u1_3 ?_
      refine wl_valE (v := .bool false) rfl (rf_pickF rfl rfl rfl u1_3) rfl ?_
      refine wl_nil ?_
      refine cxn ⟨_, _, upds_self ⟨rfl, rfl, rfl, rfl, trivial⟩, ?_⟩
      exact ⟨fun c => by simp at c, Kp.refl _⟩
  · intro lfcutr1 wc hIcutr1
    obtain ⟨glcutr1, c20, rfl, hc20, hkc1⟩ := hIcutr1
    have hblk_wc := hblk_w1.keep hkc1
    have hA_wc := hA_w1.keep hkc1
    have hst_wc := hst_w1.keep hkc1
    have hkT_wc := hkT_w1.comp hkc1 (fun _ _ e => e.elim)
    have hb1_wc := hb1.keep hkc1
    have hsc := hkc1.size
    refine thn ?_
    refine cut_ (fun lf lw => ∃ (g : Nat → Value) (x1 : WS) (h1 : StH) (av1 : Value) (F1 : Nat → Prop), lf = upds g [(0, .pointer (some ⟨wb, 0, none⟩)), (3, .pointer (some ⟨b1, 0, none⟩)), (20, .bool c20)] ∧ WR lw wb s x1 h1 av1 F1 ∧ WInv x1 e ∧ (x1 = x ∨ (0 ≤ q.drop ∧ ∃ i l, x.all[i]? = some l ∧ x1 = dropW x i l)) ∧ (∀ y, fpS s h1 y ∨ F1 y → fpS s h y ∨ F y ∨ w.heap.size ≤ y) ∧ Blk lw b1 (.cells #[.int .i64 q.key.table, .int .i64 q.key.row, .int .i64 q.later, .int .i64 q.index, .bool q.fill, .bool q.cell.is_, .int .i64 q.cell.value, .int .i64 q.drop] 32 (0, 0)) ∧ (¬ fpS s h1 b1 ∧ ¬ F1 b1 ∧ b1 ≠ wb) ∧ Kp (fun y => fpS s h y ∨ F y ∨ y = wb) w lw) ?_ ?_
    · refine cond_ (t := c20) rfl rfl (fun c20 => ?_) (fun c20 => ?_)
      · obtain ⟨hd0, hap⟩ := hc20 c20
        obtain ⟨i, hil, hi2⟩ : ∃ i : Nat, i < x.all.length ∧ q.drop.tmod ((x.all.length : Nat) : Int) = (i : Int) := by
          have h2 := Int.emod_lt_of_pos q.drop (show (0 : Int) < ((x.all.length : Nat) : Int) by omega)
          have h3 := Int.emod_nonneg q.drop (show ((x.all.length : Nat) : Int) ≠ 0 by omega)
          refine ⟨(q.drop.tmod ((x.all.length : Nat) : Int)).toNat, ?_, ?_⟩ <;> rw [Int.tmod_eq_emod_of_nonneg hd0] <;> omega
        obtain ⟨l, hli⟩ : ∃ l, x.all[i]? = some l := ⟨_, List.getElem?_eq_getElem hil⟩
        obtain ⟨ab, ao, ac2, et, hFb, hAt⟩ := hA_wc.at hap
        simp only [Value.slice.injEq] at et
        obtain ⟨rfl, _, rfl⟩ := et
        have hblk2 := hblk_wc
        have hb1n : ¬ fpS s h b1 := fun e => by have := hw.store.lt _ e; omega
        have hsab := hw.sep _ hFb
        refine seq_ ?_
        refine region_q mixedP (by kernel_rfl) ?_
        refine qt_valE (v := .pointer (some ⟨b1, 7, none⟩)) rfl (fun wq hq => rf_fieldAddr Try.underlying32 rfl ti3 rfl rfl) rfl ?_
        refine qt_valE (v := .int .i64 q.drop) rfl (fun wq hq => rf_load Try.underlying3 rfl rfl rfl ((hb1_wc.keep hq).cell rfl)) rfl ?_
        refine qt_valE (v := .pointer (some ⟨wb, 0, none⟩)) rfl (fun wq hq => rf_move rfl) rfl ?_
        refine qt_valE (v := .pointer (some ⟨wb, 0, none⟩)) rfl (fun wq hq => rf_nilCheckP rfl rfl) rfl ?_
        refine qt_valE (v := .pointer (some ⟨wb, 1, none⟩)) rfl (fun wq hq => rf_fieldAddr Try.underlying36 rfl ti34 rfl rfl) rfl ?_
        refine qt_valE (v := .slice (some ⟨ab, ao, none⟩) x.all.length acap) rfl (fun wq hq => rf_load Try.underlying34 rfl rfl rfl ((hblk2.keep hq).cell rfl)) rfl ?_
        refine qt_valE (v := .int .i64 ((x.all.length : Nat) : Int)) rfl (fun wq hq => rf_len_slice Try.underlying34 rfl rfl) rfl ?_
        refine qt_valE (v := .int .i64 ((i : Nat) : Int)) rfl (fun wq hq => rf_rem rfl rfl rfl rfl (by omega) hi2) rfl ?_
        refine qt_valE (v := .int .i64 ((i : Nat) : Int)) rfl (fun wq hq => rf_assign rfl) rfl ?_
        refine qt_nil ?_
        intro w2 hk2
        have hst_w2 := hst_wc.keep hk2
        have hkT_w2 := hkT_wc.comp hk2 (fun _ _ e => e.elim)
        have hb1_w2 := hb1_wc.keep hk2
        have hblk2_w2 := hblk2.keep hk2
        have hAt_w2 := hAt.keep hk2
        have hs2 := hk2.size
        refine thn ?_
        refine seq_ ?_
        refine seq_ ?_
        refine region_h (S := fun wq => Kp (fun y => fpS s h y) w2 wq) mixedP ?_
        intro w3 hk3
        have hst_w3 := hst_w2.keep hk3
        have hkT_w3 := hkT_w2.comp hk3 (fun _ _ e => e.elim)
        have hb1_w3 := hb1_w2.keep hk3
        have hblk2_w3 := hblk2_w2.keep hk3
        have hAt_w3 := hAt_w2.keep hk3
        have hs3 := hk3.size
        have hS3 : Kp (fun y => fpS s h y) w2 w3 := hk3.of_none
        refine wh_take (i := 0) (v := .pointer (some ⟨wb, 0, none⟩)) rfl (by kernel_rfl) (by kernel_rfl) (by kernel_rfl) hS3 rfl (fun wq hq => rf_move rfl) rfl ?_
        refine wh_take (i := 1) (v := .pointer (some ⟨wb, 0, none⟩)) rfl (by kernel_rfl) (by kernel_rfl) (by kernel_rfl) hS3 rfl (fun wq hq => rf_nilCheckP rfl rfl) rfl ?_
        refine wh_take (i := 2) (v := .pointer (some ⟨wb, 0, none⟩)) rfl (by kernel_rfl) (by kernel_rfl) (by kernel_rfl) hS3 rfl (fun wq hq => rf_fieldAddr Try.underlying36 rfl ti33 rfl rfl) rfl ?_
        refine wh_take (i := 3) (v := .pointer (some ⟨s, 0, none⟩)) rfl (by kernel_rfl) (by kernel_rfl) (by kernel_rfl) hS3 rfl (fun wq hq => rf_load Try.underlying33 rfl rfl rfl ((hblk2_w2.kp hq hw.wbn).cell rfl)) rfl ?_
        refine wh_take (i := 4) (v := .pointer (some ⟨wb, 0, none⟩)) rfl (by kernel_rfl) (by kernel_rfl) (by kernel_rfl) hS3 rfl (fun wq hq => rf_move rfl) rfl ?_
        refine wh_take (i := 5) (v := .pointer (some ⟨wb, 0, none⟩)) rfl (by kernel_rfl) (by kernel_rfl) (by kernel_rfl) hS3 rfl (fun wq hq => rf_nilCheckP rfl rfl) rfl ?_
        refine wh_take (i := 6) (v := .pointer (some ⟨wb, 1, none⟩)) rfl (by kernel_rfl) (by kernel_rfl) (by kernel_rfl) hS3 rfl (fun wq hq => rf_fieldAddr Try.underlying36 rfl ti34 rfl rfl) rfl ?_
        refine wh_take (i := 7) (v := .slice (some ⟨ab, ao, none⟩) x.all.length acap) rfl (by kernel_rfl) (by kernel_rfl) (by kernel_rfl) hS3 rfl (fun wq hq => rf_load Try.underlying34 rfl rfl rfl ((hblk2_w2.kp hq hw.wbn).cell rfl)) rfl ?_
        refine wh_take (i := 8) (v := .int .i64 ((i : Nat) : Int)) rfl (by kernel_rfl) (by kernel_rfl) (by kernel_rfl) hS3 rfl (fun wq hq => rf_move rfl) rfl ?_
        refine wh_take (i := 9) (v := .pointer (some ⟨ab, ao + i * 8, none⟩)) rfl (by kernel_rfl) (by kernel_rfl) (by kernel_rfl) hS3 rfl (fun wq hq => rf_indexAddr Try.underlying34 ti52 rfl rfl rfl rfl (by omega) (by omega)) rfl ?_
        refine wh_take (i := 10) (v := .pointer (some ⟨ab, ao + i * 8, none⟩)) rfl (by kernel_rfl) (by kernel_rfl) (by kernel_rfl) hS3 rfl (fun wq hq => rf_fieldAddr Try.underlying52 rfl ti3 rfl rfl) rfl ?_
        refine wh_take (i := 11) (v := .int .i64 l.v) rfl (by kernel_rfl) (by kernel_rfl) (by kernel_rfl) hS3 rfl (fun wq hq => rf_load Try.underlying3 rfl rfl rfl (hq.cell ((hAt_w2.cell hli 0 _ rfl)) (hsab).1)) rfl ?_
        refine wh_one (i := 12) (by kernel_rfl) rfl ?_
        refine wl_ret rfl (remove_ret s x.st h w3 hst_w3 l.v (recOf l) (hi.here l (List.mem_of_getElem? hli)) (by rw [hi.last]; omega)) (rf_call Try.call16 rfl rfl) ?_
        rintro vq w4 ⟨rfl, h1, hsX, hfp1, hk4⟩
        have hwX : ¬ fpS s h1 wb := fun e => (hfp1 wb e).elim hw.wbn (fun q => by have := hblk.lt; omega)
        have hXl : ∀ x, fpS s h1 x → x < w4.heap.size := fun x hx => hsX.lt x hx
        have hkT_w4 := hkT_w3.comp hk4 (fun x _ e => .inl e)
        have hb1_w4 := hb1_w3.kp hk4 hb1n
        have hblk2_w4 := hblk2_w3.kp hk4 hw.wbn
        have hAt_w4 := hAt_w3.kp hk4 hsab.1
        have hS_w4 := hS3.comp hk4 (fun b h e => by first | exact e | omega)
        have hs4 := hk4.size
        refine wl_nil ?_
        refine wh_back hS_w4 ?_
        refine wh_take (i := 13) (v := .bool false) rfl (by kernel_rfl) (by kernel_rfl) (by kernel_rfl) hS_w4 rfl (fun wq hq => rf_neq rfl rfl rfl rfl) (congrArg Value.bool (by decide)) ?_
        refine wh_done (by kernel_rfl) ?_
        refine thn ?_
        refine condF rfl rfl ?_
        refine skip_ ?_
        refine thn ?_
        obtain ⟨W4, hW4⟩ : ∃ n, n = w4.heap.size := ⟨_, rfl⟩
        have hXl4 : ∀ x, fpS s h1 x → x < W4 := fun x hx => by rw [hW4]; exact hsX.lt x hx
        refine region_v 19 (fun wq => Kp (none_) w4 wq) mixedP (by kernel_rfl) ?_
        intro w5 hk5
        have hkT_w5 := hkT_w4.comp hk5 (fun _ _ e => e.elim)
        have hb1_w5 := hb1_w4.keep hk5
        have hblk2_w5 := hblk2_w4.keep hk5
        have hAt_w5 := hAt_w4.keep hk5
        have hsX_w5 := hsX.keep hk5
        have hs5 := hk5.size
        have hS5 : Kp (none_) w4 w5 := hk5
        refine vh_take (i := 0) (v := .pointer (some ⟨wb, 0, none⟩)) rfl rfl (by kernel_rfl) (by kernel_rfl) (by kernel_rfl) hS5 rfl (fun wq hq => rf_move rfl) rfl ?_
        refine vh_take (i := 2) (v := .pointer (some ⟨wb, 0, none⟩)) rfl rfl (by kernel_rfl) (by kernel_rfl) (by kernel_rfl) hS5 rfl (fun wq hq => rf_move rfl) rfl ?_
        refine vh_take (i := 3) (v := .pointer (some ⟨wb, 0, none⟩)) rfl rfl (by kernel_rfl) (by kernel_rfl) (by kernel_rfl) hS5 rfl (fun wq hq => rf_nilCheckP rfl rfl) rfl ?_
        refine vh_take (i := 4) (v := .pointer (some ⟨wb, 1, none⟩)) rfl rfl (by kernel_rfl) (by kernel_rfl) (by kernel_rfl) hS5 rfl (fun wq hq => rf_fieldAddr Try.underlying36 rfl ti34 rfl rfl) rfl ?_
        refine vh_take (i := 5) (v := .slice (some ⟨ab, ao, none⟩) x.all.length acap) rfl rfl (by kernel_rfl) (by kernel_rfl) (by kernel_rfl) hS5 rfl (fun wq hq => rf_load Try.underlying34 rfl rfl rfl ((hblk2_w4.keep hq).cell rfl)) rfl ?_
        refine vh_take (i := 6) (v := .int .i64 ((i : Nat) : Int)) rfl rfl (by kernel_rfl) (by kernel_rfl) (by kernel_rfl) hS5 rfl (fun wq hq => rf_move rfl) rfl ?_
        refine vh_take (i := 7) (v := .slice (some ⟨ab, ao, none⟩) i acap) rfl rfl (by kernel_rfl) (by kernel_rfl) (by kernel_rfl) hS5 rfl (fun wq hq => rf_sliceTo (h := i) Try.underlying34 ti52 rfl rfl rfl rfl (by omega)) rfl ?_
        refine vh_take (i := 9) (v := .pointer (some ⟨wb, 0, none⟩)) rfl rfl (by kernel_rfl) (by kernel_rfl) (by kernel_rfl) hS5 rfl (fun wq hq => rf_move rfl) rfl ?_
        refine vh_take (i := 10) (v := .pointer (some ⟨wb, 0, none⟩)) rfl rfl (by kernel_rfl) (by kernel_rfl) (by kernel_rfl) hS5 rfl (fun wq hq => rf_nilCheckP rfl rfl) rfl ?_
        refine vh_take (i := 11) (v := .pointer (some ⟨wb, 1, none⟩)) rfl rfl (by kernel_rfl) (by kernel_rfl) (by kernel_rfl) hS5 rfl (fun wq hq => rf_fieldAddr Try.underlying36 rfl ti34 rfl rfl) rfl ?_
        refine vh_take (i := 12) (v := .slice (some ⟨ab, ao, none⟩) x.all.length acap) rfl rfl (by kernel_rfl) (by kernel_rfl) (by kernel_rfl) hS5 rfl (fun wq hq => rf_load Try.underlying34 rfl rfl rfl ((hblk2_w4.keep hq).cell rfl)) rfl ?_
        refine vh_take (i := 13) (v := .int .i64 ((i : Nat) : Int)) rfl rfl (by kernel_rfl) (by kernel_rfl) (by kernel_rfl) hS5 rfl (fun wq hq => rf_move rfl) rfl ?_
        refine vh_take (i := 14) (v := .int .i64 ((i + 1 : Nat) : Int)) rfl rfl (by kernel_rfl) (by kernel_rfl) (by kernel_rfl) hS5 rfl (fun wq hq => rf_add rfl rfl rfl rfl (IntWalk.i64_in _ (by omega))) rfl ?_
        refine vh_take (i := 15) (v := (.slice (if acap = i + 1 then some ⟨ab, ao, none⟩ else (some (⟨ab, ao, none⟩ : Addr)).map (·.add ((i + 1) * 8))) (x.all.length - (i + 1)) (acap - (i + 1)))) rfl rfl (by kernel_rfl) (by kernel_rfl) (by kernel_rfl) hS5 rfl (fun wq hq => rf_sliceFrom (l := i + 1) Try.underlying34 ti52 rfl rfl rfl rfl (by omega)) rfl ?_
        refine vh_one (i := 1) (by kernel_rfl) rfl rfl ?_
        refine wl_buildSlice0 Try.underlying34 ti52 ?_
        intro b6 w6 hg6 hk6 hb6
        have ne6_b1 : b1 ≠ b6 := Nat.ne_of_lt (Nat.lt_of_lt_of_le hb1_w5.lt hg6)
        have ne6_wb : wb ≠ b6 := Nat.ne_of_lt (Nat.lt_of_lt_of_le hblk2_w5.lt hg6)
        have ne6_ab : ab ≠ b6 := Nat.ne_of_lt (Nat.lt_of_lt_of_le hAt_w5.lt hg6)
        have hkT_w6 := hkT_w5.comp hk6 (fun _ _ e => e.elim)
        have hb1_w6 := hb1_w5.keep hk6
        have hblk2_w6 := hblk2_w5.keep hk6
        have hAt_w6 := hAt_w5.keep hk6
        have hsX_w6 := hsX_w5.keep hk6
        have hS_w6 := hS5.comp hk6 (fun _ _ e => e.elim)
        have hs6 := hk6.size
        refine wl_nil ?_
        refine vh_back hS_w6 ?_
        refine vh_one (i := 8) (by kernel_rfl) rfl rfl ?_
        refine wl_append encLaid_len encLaid_one Try.underlying34 ti52 rfl rfl rfl rfl rfl ((SlAt.of_blk (l := ([] : List LaidR)) encLaid_len (by simp) hb6).sl (F := fun y => y = b6) rfl) ((((hAt_w6.rd (F := F) hFb)).take i (by omega))) (by simp; omega) (by simp; omega) ?_
        intro v7 w7 hk7 ha7
        have hkT_w7 := hkT_w6.comp hk7 (fun x hx e => by omega)
        have hb1_w7 := hb1_w6.kp hk7 (by have := hb1.lt; omega)
        have hblk2_w7 := hblk2_w6.kp hk7 (by have := hblk.lt; omega)
        have hAt_w7 := hAt_w6.kp hk7 (by have := hsab.2.2; omega)
        have hsX_w7 := hsX_w6.kp hk7 (fun x hx e => by have := hXl x hx; omega)
        have hS_w7 := hS_w6.comp hk7 (fun b h e => by first | exact e | omega)
        have hs7 := hk7.size
        refine wl_nil ?_
        refine vh_back hS_w7 ?_
        refine vh_one (i := 16) (by kernel_rfl) rfl rfl ?_
        refine wl_append encLaid_len encLaid_one Try.underlying34 ti52 rfl rfl rfl rfl rfl (ha7) ((hAt_w7.rdFrom (F := F) hFb (i + 1) (by omega))) (by simp; omega) (by simp; omega) ?_
        intro v8 w8 hk8 ha8
        have hkT_w8 := hkT_w7.comp hk8 (fun x hx e => by omega)
        have hb1_w8 := hb1_w7.kp hk8 (by have := hb1.lt; omega)
        have hblk2_w8 := hblk2_w7.kp hk8 (by have := hblk.lt; omega)
        have hAt_w8 := hAt_w7.kp hk8 (by have := hsab.2.2; omega)
        have hsX_w8 := hsX_w7.kp hk8 (fun x hx e => by have := hXl x hx; omega)
        have hS_w8 := hS_w7.comp hk8 (fun b h e => by first | exact e | omega)
        have hs8 := hk8.size
        refine wl_nil ?_
        refine vh_back hS_w8 ?_
        refine vh_take (i := 17) (v := .pointer (some ⟨wb, 0, none⟩)) rfl rfl (by kernel_rfl) (by kernel_rfl) (by kernel_rfl) hS_w8 rfl (fun wq hq => rf_nilCheckP rfl rfl) rfl ?_
        refine vh_take (i := 18) (v := .pointer (some ⟨wb, 1, none⟩)) rfl rfl (by kernel_rfl) (by kernel_rfl) (by kernel_rfl) hS_w8 rfl (fun wq hq => rf_fieldAddr Try.underlying36 rfl ti34 rfl rfl) rfl ?_
        refine vh_last (by kernel_rfl) (by kernel_rfl) rfl ?_
        refine wl_store (b := wb) (o := 1) (v := v8) ti34 rfl rfl rfl rfl (by obtain ⟨_, _, e, _⟩ := ha8.form; rw [e]; rfl) hblk2_w8 (by first | decide | exact Nat.le_of_ble_eq_true rfl | simp) ?_
        intro w9 hk9 hb9
        have hkT_w9 := hkT_w8.comp hk9 (fun x _ e => .inr (.inr e))
        have hb1_w9 := hb1_w8.kp hk9 (by first | exact hbn1.2.2 | omega)
        have hAt_w9 := hAt_w8.kp hk9 (by omega)
        have hsX_w9 := hsX_w8.kp hk9 (fun x hx e => hwX (e ▸ hx))
        have hap_w9 := ha8.kp hk9 (fun x hx e => by rcases hx with (hx | hx) | hx <;> first | omega | (have := hblk.lt; omega))
        have hs9 := hk9.size
        refine wl_nil ?_
        refine vh_end ?_
        refine cxn ⟨_, (dropW x i l), h1, v8, (fun y => W4 ≤ y ∧ y < w9.heap.size), upds_self ⟨rfl, rfl, rfl, trivial⟩, ?_⟩
        have hapl : ([] ++ x.all.take i) ++ x.all.drop (i + 1) = x.all.eraseIdx i := by rw [List.nil_append, List.eraseIdx_eq_take_drop_succ]
        have hap2 := hap_w9
        rw [hapl] at hap2
        refine ⟨⟨hb9, hap2.tight.mono (fun y hy => ⟨by have := hblk.lt; omega, hy.2⟩), hsX_w9, fun y hy => ⟨fun e => by have := hXl4 y e; omega, by have := hblk.lt; omega, hy.2⟩, hwX⟩, hi.drop hli, .inr ⟨hd0, i, l, hli, rfl⟩, fun y hy => ?_, hb1_w9, ⟨fun e => (hfp1 b1 e).elim hb1n (fun q => by have := hb1.lt; omega), fun e => by have := hb1.lt; omega, by have := hblk.lt; omega⟩, hkT_w9⟩
        rcases hy with hy | hy
        · exact (hfp1 y hy).elim .inl (fun e => .inr (.inr (by omega)))
        · exact .inr (.inr (by omega))
      · refine skip_ ?_
        refine cxn ⟨_, x, h, (.slice aa x.all.length acap), F, upds_self ⟨rfl, rfl, rfl, trivial⟩, ?_⟩
        exact ⟨(hw.keep hk1).keep hkc1, hi, .inl rfl, fun y hy => hy.elim .inl (fun e => .inr (.inl e)), hb1_wc, ⟨fun e => by have := hw.store.lt _ e; omega, fun e => by have := (hsep _ e).2.2; omega, by omega⟩, hkT_wc⟩
    · intro lfcutc20 wd hIcutc20
      obtain ⟨glcutc20, x1, h1, av1, F1, rfl, hw1, hi1, hx1, hg1, hbx1, hbn1, hkT1⟩ := hIcutc20
      have hblk1 := hw1.blk
      have hA1 := hw1.alls
      have hst1 := hw1.store
      obtain ⟨a1, c1, rfl, hc1⟩ := hA1.form
      have hbe : x1.batch = x.batch := by rcases hx1 with rfl | ⟨_, _, _, _, rfl⟩ <;> rfl
      have hle : x1.last = x.last := by rcases hx1 with rfl | ⟨_, _, _, _, rfl⟩ <;> rfl
      have hae : x1.all.length ≤ x.all.length := by
        rcases hx1 with rfl | ⟨_, i, l, h, rfl⟩
        · exact Nat.le_refl _
        · exact List.length_eraseIdx_le _ _
      have hb0 := hi1.bat0
      have hlst := hi1.last
      have hl0 := hst1.inv.last0
      rw [← hlst] at hblk1
      have hXl1 : ∀ x, fpS s h1 x → x < wd.heap.size := fun x hx => hst1.lt x hx
      have hwd := hblk1.lt
      have hbxl := hbx1.lt
      obtain ⟨d, hd⟩ : ∃ d : Int, d = ((1 + m : Nat) : Int) := ⟨_, rfl⟩
      obtain ⟨rc, hrc⟩ : ∃ r : VerR, r = ⟨x1.batch + d, ((mj : Nat) : Int), q.key, false, ⟨false, 0⟩⟩ := ⟨_, rfl⟩
      obtain ⟨st2, hst2⟩ : ∃ q2, q2 = insSt x1.st q.key (x1.batch + d) ((mj : Nat) : Int) := ⟨_, rfl⟩
      refine thn ?_
      refine seq_ ?_
      refine seq_ ?_
      refine cut_ (fun lf lw => ∃ (g : Nat → Value) (c73 : Bool), lf = upds g [(0, .pointer (some ⟨wb, 0, none⟩)), (3, .pointer (some ⟨b1, 0, none⟩)), (73, .bool c73)] ∧ (c73 = false → okK q.key = true ∧ x1.all.length < 65000) ∧ Kp (none_) wd lw) ?_ ?_
      · refine region_ ?_
        refine wl_valE (v := .pointer (some ⟨b1, 0, none⟩)) rfl (rf_fieldAddr Try.underlying32 rfl ti28 rfl rfl) rfl ?_
        refine wl_valE (v := .agg #[.int .i64 q.key.table, .int .i64 q.key.row]) rfl (rf_loadBlk Try.underlying28 rfl ti28 rfl rfl hbx1 (Nat.le_of_ble_eq_true rfl)) rfl ?_
        refine wl_ret rfl (check_ret q.key wd) (rf_call Try.call17 rfl rfl) ?_
        rintro _ w10 ⟨rfl, hk10⟩
        have hkq6 := hk10
        have hblk1_w10 := hblk1.keep hk10
        have hA1_w10 := hA1.keep hk10
        have hst1_w10 := hst1.keep hk10
        have hbx1_w10 := hbx1.keep hk10
        have hkT1_w10 := hkT1.comp hk10 (fun _ _ e => e.elim)
        have hs10 := hk10.size
        refine wl_valE (v := .bool (decide (checkF q.key ≠ ((0 : Nat) : Int)))) rfl (rf_neq rfl rfl rfl rfl) rfl ?_
        refine wl_valE (v := .bool (decide (checkF q.key ≠ ((0 : Nat) : Int)))) rfl (rf_move rfl) rfl ?_
        refine wl_split (decide (checkF q.key ≠ ((0 : Nat) : Int))) (fun u6_4 => ?_) (fun u6_4 => ?_)
        · have u6_4p := of_decide_eq_true u6_4
          refine wl_guardF rfl rfl rfl u6_4 ?_
          refine wl_guardF rfl rfl rfl u6_4 ?_
          refine wl_guardF rfl rfl rfl u6_4 ?_
          refine wl_guardF rfl rfl rfl u6_4 ?_
          refine wl_guardF rfl rfl rfl u6_4 ?_
          refine wl_guardF rfl rfl rfl u6_4 ?_
          refine wl_valE (v := .bool true) rfl (rf_pickT rfl rfl rfl u6_4) rfl ?_
          refine wl_nil ?_
          refine cxn ⟨_, _, upds_self ⟨rfl, rfl, rfl, trivial⟩, ?_⟩
          exact ⟨fun c => by simp at c, hkq6⟩
        · have u6_4p := of_decide_eq_false u6_4
          refine wl_guardT rfl rfl rfl u6_4 ?_
          refine wl_valE (v := .pointer (some ⟨wb, 0, none⟩)) rfl (rf_move rfl) rfl ?_
          refine wl_guardT rfl rfl rfl u6_4 ?_
          refine wl_valE (v := .pointer (some ⟨wb, 0, none⟩)) rfl (rf_nilCheckP rfl rfl) rfl ?_
          refine wl_guardT rfl rfl rfl u6_4 ?_
          refine wl_valE (v := .pointer (some ⟨wb, 1, none⟩)) rfl (rf_fieldAddr Try.underlying36 rfl ti34 rfl rfl) rfl ?_
          refine wl_guardT rfl rfl rfl u6_4 ?_
          refine wl_valE (v := .slice a1 x1.all.length c1) rfl (rf_load Try.underlying34 rfl rfl rfl (hblk1_w10.cell rfl)) rfl ?_
          refine wl_guardT rfl rfl rfl u6_4 ?_
          refine wl_valE (v := .int .i64 ((x1.all.length : Nat) : Int)) rfl (rf_len_slice Try.underlying34 rfl rfl) rfl ?_
          refine wl_guardT rfl rfl rfl u6_4 ?_
          refine wl_valE (v := .bool (decide (((65000 : Nat) : Int) ≤ ((x1.all.length : Nat) : Int)))) rfl (rf_geq rfl rfl rfl rfl) rfl ?_
          refine wl_valE (v := .bool (decide (((65000 : Nat) : Int) ≤ ((x1.all.length : Nat) : Int)))) rfl (rf_pickF rfl rfl rfl u6_4) rfl ?_
          refine wl_nil ?_
          refine cxn ⟨_, _, upds_self ⟨rfl, rfl, rfl, trivial⟩, ?_⟩
          exact ⟨fun c => ⟨by unfold checkF at u6_4p; split at u6_4p <;> simp_all, by have := of_decide_eq_false c; omega⟩, hkq6⟩
      · intro lfcutr6 we hIcutr6
        obtain ⟨glcutr6, c73, rfl, hc73, hkc6⟩ := hIcutr6
        have hblk1_we := hblk1.keep hkc6
        have hA1_we := hA1.keep hkc6
        have hst1_we := hst1.keep hkc6
        have hbx1_we := hbx1.keep hkc6
        have hkT1_we := hkT1.comp hkc6 (fun _ _ e => e.elim)
        have hse := hkc6.size
        refine thn ?_
        refine cond_ (t := c73) rfl rfl (fun c73 => ?_) (fun c73 => ?_)
        · refine seq_ ?_
          refine region_ ?_
          refine wl_valE (v := .bool true) rfl (rf_assign rfl) rfl ?_
          refine wl_nil ?_
          refine thn ?_
          refine ret_ ?_
          refine thr ?_
          refine fin1 (v := .bool true) Try.results5 rfl rfl ?_
          exact ⟨rfl, x1, h1, _, F1, ⟨by rw [← hlst]; exact hblk1_we, hA1_we, hst1_we, fun y hy => ⟨(hw1.sep y hy).1, (hw1.sep y hy).2.1, by have := (hw1.sep y hy).2.2; omega⟩, hw1.wbn⟩, ⟨x1, hx1, .inl rfl⟩, hg1, hkT1_we⟩
        · obtain ⟨hok, hln⟩ := hc73 c73
          refine skip_ ?_
          refine thn ?_
          refine seq_ ?_
          refine region_t 10 mixedP (by kernel_rfl) ?_
          intro w11 hk11
          have hblk1_w11 := hblk1_we.keep hk11
          have hA1_w11 := hA1_we.keep hk11
          have hst1_w11 := hst1_we.keep hk11
          have hbx1_w11 := hbx1_we.keep hk11
          have hkT1_w11 := hkT1_we.comp hk11 (fun _ _ e => e.elim)
          have hs11 := hk11.size
          refine ss_valE (v := .pointer (some ⟨wb, 0, none⟩)) rfl (rf_move rfl) rfl ?_
          refine ss_valE (v := .pointer (some ⟨wb, 0, none⟩)) rfl (rf_nilCheckP rfl rfl) rfl ?_
          refine ss_valE (v := .pointer (some ⟨wb, 3, none⟩)) rfl (rf_fieldAddr Try.underlying36 rfl ti3 rfl rfl) rfl ?_
          refine ss_valE (v := .int .i64 x1.batch) rfl (rf_load Try.underlying3 rfl rfl rfl (hblk1_w11.cell rfl)) rfl ?_
          refine ss_valE (v := .pointer (some ⟨b1, 2, none⟩)) rfl (rf_fieldAddr Try.underlying32 rfl ti3 rfl rfl) rfl ?_
          refine ss_valE (v := .int .i64 q.later) rfl (rf_load Try.underlying3 rfl rfl rfl (hbx1_w11.cell rfl)) rfl ?_
          refine ss_valE (v := .int .u64 (IntKind.u64.wrap q.later)) rfl (rf_conv Try.underlying3 Try.underlying46 rfl rfl rfl) rfl ?_
          refine ss_valE (v := .int .u64 ((m : Nat) : Int)) rfl (rf_rem rfl rfl rfl rfl (by decide) hm2) rfl ?_
          refine ss_valE (v := .int .i64 ((m : Nat) : Int)) rfl (rf_conv Try.underlying46 Try.underlying3 rfl rfl (IntWalk.i64_in _ (by omega))) rfl ?_
          refine ss_valE (v := .int .i64 d) rfl (rf_add rfl rfl rfl rfl (by rw [IntWalk.i64_in _ (by omega)]; omega)) rfl ?_
          refine ss_tail ?_
          refine wl_valE (v := .int .i64 (x1.batch + d)) rfl (rf_add rfl rfl rfl rfl (IntWalk.i64_in _ (by omega))) rfl ?_
          refine wl_valE (v := .pointer (some ⟨wb, 0, none⟩)) rfl (rf_nilCheckP rfl rfl) rfl ?_
          refine wl_valE (v := .pointer (some ⟨wb, 3, none⟩)) rfl (rf_fieldAddr Try.underlying36 rfl ti3 rfl rfl) rfl ?_
          refine wl_store (b := wb) (o := 3) (v := .int .i64 (x1.batch + d)) ti3 rfl rfl rfl rfl rfl hblk1_w11 (by first | decide | exact Nat.le_of_ble_eq_true rfl | simp) ?_
          intro w12 hk12 hb12
          have hA1_w12 := hA1_w11.kp hk12 (fun x hx e => (hw1.sep x hx).2.1 e)
          have hst1_w12 := hst1_w11.kp hk12 (fun x hx e => hw1.wbn (e ▸ hx))
          have hbx1_w12 := hbx1_w11.kp hk12 (by first | exact hbn1.2.2 | omega)
          have hkT1_w12 := hkT1_w11.comp hk12 (fun x _ e => .inr (.inr e))
          have hs12 := hk12.size
          replace hb12 : Blk w12 wb (.cells #[.pointer (some ⟨s, 0, none⟩), .slice a1 x1.all.length c1, .int .i64 x1.st.last, .int .i64 (x1.batch + d)] _ (0, 0)) := hb12
          refine wl_nil ?_
          refine thn ?_
          refine seq_ ?_
          refine region_h (S := fun wq => Kp (none_) w12 wq) mixedP ?_
          intro w13 hk13
          have hA1_w13 := hA1_w12.keep hk13
          have hst1_w13 := hst1_w12.keep hk13
          have hbx1_w13 := hbx1_w12.keep hk13
          have hkT1_w13 := hkT1_w12.comp hk13 (fun _ _ e => e.elim)
          have hblk1_w13 := hb12.keep hk13
          have hs13 := hk13.size
          have hS13 : Kp (none_) w12 w13 := hk13
          refine wh_take (i := 0) (v := .pointer (some ⟨wb, 0, none⟩)) rfl (by kernel_rfl) (by kernel_rfl) (by kernel_rfl) hS13 rfl (fun wq hq => rf_move rfl) rfl ?_
          refine wh_take (i := 1) (v := .pointer (some ⟨wb, 0, none⟩)) rfl (by kernel_rfl) (by kernel_rfl) (by kernel_rfl) hS13 rfl (fun wq hq => rf_nilCheckP rfl rfl) rfl ?_
          refine wh_take (i := 2) (v := .pointer (some ⟨wb, 3, none⟩)) rfl (by kernel_rfl) (by kernel_rfl) (by kernel_rfl) hS13 rfl (fun wq hq => rf_fieldAddr Try.underlying36 rfl ti3 rfl rfl) rfl ?_
          refine wh_take (i := 3) (v := .int .i64 (x1.batch + d)) rfl (by kernel_rfl) (by kernel_rfl) (by kernel_rfl) hS13 rfl (fun wq hq => rf_load Try.underlying3 rfl rfl rfl ((hb12.keep hq).cell rfl)) rfl ?_
          refine wh_take (i := 4) (v := .pointer (some ⟨b1, 3, none⟩)) rfl (by kernel_rfl) (by kernel_rfl) (by kernel_rfl) hS13 rfl (fun wq hq => rf_fieldAddr Try.underlying32 rfl ti3 rfl rfl) rfl ?_
          refine wh_take (i := 5) (v := .int .i64 q.index) rfl (by kernel_rfl) (by kernel_rfl) (by kernel_rfl) hS13 rfl (fun wq hq => rf_load Try.underlying3 rfl rfl rfl ((hbx1_w12.keep hq).cell rfl)) rfl ?_
          refine wh_take (i := 6) (v := .int .u64 (IntKind.u64.wrap q.index)) rfl (by kernel_rfl) (by kernel_rfl) (by kernel_rfl) hS13 rfl (fun wq hq => rf_conv Try.underlying3 Try.underlying46 rfl rfl rfl) rfl ?_
          refine wh_take (i := 7) (v := .int .u64 ((mj : Nat) : Int)) rfl (by kernel_rfl) (by kernel_rfl) (by kernel_rfl) hS13 rfl (fun wq hq => rf_rem rfl rfl rfl rfl (by decide) hmj2) rfl ?_
          refine wh_take (i := 8) (v := .int .i64 ((mj : Nat) : Int)) rfl (by kernel_rfl) (by kernel_rfl) (by kernel_rfl) hS13 rfl (fun wq hq => rf_conv Try.underlying46 Try.underlying3 rfl rfl (IntWalk.i64_in _ (by omega))) rfl ?_
          refine wh_take (i := 9) (v := .agg #[.int .i64 (x1.batch + d), .int .i64 ((mj : Nat) : Int)]) rfl (by kernel_rfl) (by kernel_rfl) (by kernel_rfl) hS13 rfl (fun wq hq => rf_build (offs := [(0, [.int .i64 (x1.batch + d)]), (1, [.int .i64 ((mj : Nat) : Int)])]) (places := #[(0, 1), (1, 1)]) Try.underlying50 ti50 (fun w => by kernel_rfl) (.cons rfl rfl rfl rfl rfl rfl (.cons rfl rfl rfl rfl rfl rfl .nil))) rfl ?_
          refine wh_one (i := 10) (by kernel_rfl) rfl ?_
          refine wl_alloc ti50 ?_
          intro b14 w14 hg14 hk14 hb14
          have ne14_b1 : b1 ≠ b14 := Nat.ne_of_lt (Nat.lt_of_lt_of_le hbx1_w13.lt hg14)
          have ne14_wb : wb ≠ b14 := Nat.ne_of_lt (Nat.lt_of_lt_of_le hblk1_w13.lt hg14)
          have hA1_w14 := hA1_w13.keep hk14
          have hst1_w14 := hst1_w13.keep hk14
          have hbx1_w14 := hbx1_w13.keep hk14
          have hkT1_w14 := hkT1_w13.comp hk14 (fun _ _ e => e.elim)
          have hblk1_w14 := hblk1_w13.keep hk14
          have hS_w14 := hS13.comp hk14 (fun _ _ e => e.elim)
          have hs14 := hk14.size
          refine wl_nil ?_
          refine wh_back hS_w14 ?_
          refine wh_one (i := 11) (by kernel_rfl) rfl ?_
          refine wl_storeAgg (b := b14) (o := 0) (cs := [.int .i64 (x1.batch + d), .int .i64 ((mj : Nat) : Int)]) ti50 rfl rfl rfl rfl rfl (by simp [Value.oneCell']) hb14 (Nat.le_of_ble_eq_true rfl) ?_
          intro w15 hk15 hb15
          have hA1_w15 := hA1_w14.kp hk15 (fun x hx e => by have := (hw1.sep x hx).2.2; omega)
          have hst1_w15 := hst1_w14.kp hk15 (fun x hx e => by have := hXl1 x hx; omega)
          have hbx1_w15 := hbx1_w14.kp hk15 ne14_b1
          have hkT1_w15 := hkT1_w14.comp hk15 (fun x hx e => by omega)
          have hblk1_w15 := hblk1_w14.kp hk15 ne14_wb
          have hS_w15 := hS_w14.comp hk15 (fun b h e => by first | exact e | omega)
          have hs15 := hk15.size
          replace hb15 : Blk w15 b14 (.cells #[.int .i64 (x1.batch + d), .int .i64 ((mj : Nat) : Int)] _ (0, 0)) := hb15
          refine wl_nil ?_
          refine wh_back hS_w15 ?_
          refine wh_done (by kernel_rfl) ?_
          refine thn ?_
          refine seq_ ?_
          refine region_h (S := fun wq => Kp (fun y => fpS s h1 y) w15 wq) mixedP ?_
          intro w16 hk16
          have hA1_w16 := hA1_w15.keep hk16
          have hst1_w16 := hst1_w15.keep hk16
          have hbx1_w16 := hbx1_w15.keep hk16
          have hkT1_w16 := hkT1_w15.comp hk16 (fun _ _ e => e.elim)
          have hblk1_w16 := hblk1_w15.keep hk16
          have hb14_w16 := hb15.keep hk16
          have hs16 := hk16.size
          have hS16 : Kp (fun y => fpS s h1 y) w15 w16 := hk16.of_none
          refine wh_take (i := 0) (v := .pointer (some ⟨wb, 0, none⟩)) rfl (by kernel_rfl) (by kernel_rfl) (by kernel_rfl) hS16 rfl (fun wq hq => rf_move rfl) rfl ?_
          refine wh_take (i := 1) (v := .pointer (some ⟨wb, 0, none⟩)) rfl (by kernel_rfl) (by kernel_rfl) (by kernel_rfl) hS16 rfl (fun wq hq => rf_nilCheckP rfl rfl) rfl ?_
          refine wh_take (i := 2) (v := .pointer (some ⟨wb, 0, none⟩)) rfl (by kernel_rfl) (by kernel_rfl) (by kernel_rfl) hS16 rfl (fun wq hq => rf_fieldAddr Try.underlying36 rfl ti33 rfl rfl) rfl ?_
          refine wh_take (i := 3) (v := .pointer (some ⟨s, 0, none⟩)) rfl (by kernel_rfl) (by kernel_rfl) (by kernel_rfl) hS16 rfl (fun wq hq => rf_load Try.underlying33 rfl rfl rfl ((hblk1_w15.kp hq hw1.wbn).cell rfl)) rfl ?_
          refine wh_take (i := 4) (v := .pointer (some ⟨b1, 0, none⟩)) rfl (by kernel_rfl) (by kernel_rfl) (by kernel_rfl) hS16 rfl (fun wq hq => rf_fieldAddr Try.underlying32 rfl ti28 rfl rfl) rfl ?_
          refine wh_take (i := 5) (v := .agg #[.int .i64 q.key.table, .int .i64 q.key.row]) rfl (by kernel_rfl) (by kernel_rfl) (by kernel_rfl) hS16 rfl (fun wq hq => rf_loadBlk Try.underlying28 rfl ti28 rfl rfl (hbx1_w15.kp hq hbn1.1) (Nat.le_of_ble_eq_true rfl)) rfl ?_
          refine wh_take (i := 6) (v := .pointer (some ⟨b14, 0, none⟩)) rfl (by kernel_rfl) (by kernel_rfl) (by kernel_rfl) hS16 rfl (fun wq hq => rf_fieldAddr Try.underlying50 rfl ti3 rfl rfl) rfl ?_
          refine wh_take (i := 7) (v := .int .i64 (x1.batch + d)) rfl (by kernel_rfl) (by kernel_rfl) (by kernel_rfl) hS16 rfl (fun wq hq => rf_load Try.underlying3 rfl rfl rfl ((hb15.kp hq (fun e => by have := hXl1 _ e; omega)).cell rfl)) rfl ?_
          refine wh_take (i := 8) (v := .pointer (some ⟨b14, 1, none⟩)) rfl (by kernel_rfl) (by kernel_rfl) (by kernel_rfl) hS16 rfl (fun wq hq => rf_fieldAddr Try.underlying50 rfl ti3 rfl rfl) rfl ?_
          refine wh_take (i := 9) (v := .int .i64 ((mj : Nat) : Int)) rfl (by kernel_rfl) (by kernel_rfl) (by kernel_rfl) hS16 rfl (fun wq hq => rf_load Try.underlying3 rfl rfl rfl ((hb15.kp hq (fun e => by have := hXl1 _ e; omega)).cell rfl)) rfl ?_
          refine wh_one (i := 10) (by kernel_rfl) rfl ?_
          refine wl_ret rfl (insert_ret s x1.st h1 w16 hst1_w16 q.key (x1.batch + d) ((mj : Nat) : Int) (by omega)) (rf_call Try.call15 rfl rfl) ?_
          rintro vq w17 ⟨hv, h2, hsY, hfp2, hk17⟩
          have he0 : insErr x1.st q.key (x1.batch + d) ((mj : Nat) : Int) = 0 := ins_ok hok ⟨by omega, by omega⟩ ⟨by omega, by omega⟩ (by have := hi1.room; have := hi1.live; omega) (not_stale (fun v r h => by have := hi1.bat v r h; omega))
          rw [he0, if_pos rfl] at hv hsY
          subst hv
          rw [← hst2] at hsY
          have hXl2 : ∀ x, fpS s h2 x → x < w17.heap.size := fun x hx => hsY.lt x hx
          have hwX2 : ¬ fpS s h2 wb := fun e => (hfp2 wb e).elim hw1.wbn (fun q => by omega)
          have hFX2 : ∀ y, F1 y → ¬ fpS s h2 y := fun y hy e => (hfp2 y e).elim (hw1.sep y hy).1 (fun q => by have := (hw1.sep y hy).2.2; omega)
          have hbX2 : ¬ fpS s h2 b1 := fun e => (hfp2 b1 e).elim hbn1.1 (fun q => by omega)
          have hA1_w17 := hA1_w16.kp hk17 (fun x hx e => (hw1.sep x hx).1 e)
          have hbx1_w17 := hbx1_w16.kp hk17 hbn1.1
          have hkT1_w17 := hkT1_w16.comp hk17 (fun x hx e => by rcases hg1 x (.inl e) with h | h | h; exact .inl h; exact .inr (.inl h); omega)
          have hblk1_w17 := hblk1_w16.kp hk17 hw1.wbn
          have hb14_w17 := hb14_w16.kp hk17 (fun e => by have := hXl1 _ e; omega)
          have hS_w17 := hS16.comp hk17 (fun b h e => e)
          have hs17 := hk17.size
          refine wl_nil ?_
          refine wh_back hS_w17 ?_
          refine wh_take (i := 11) (v := .tuple #[.int .i64 (x1.st.last + 1), .int .i64 0]) rfl (by kernel_rfl) (by kernel_rfl) (by kernel_rfl) hS_w17 rfl (fun wq hq => rf_move rfl) rfl ?_
          refine wh_take (i := 12) (v := .int .i64 (x1.st.last + 1)) rfl (by kernel_rfl) (by kernel_rfl) (by kernel_rfl) hS_w17 rfl (fun wq hq => rf_extract rfl rfl rfl) rfl ?_
          refine wh_take (i := 13) (v := .int .i64 0) rfl (by kernel_rfl) (by kernel_rfl) (by kernel_rfl) hS_w17 rfl (fun wq hq => rf_extract rfl rfl rfl) rfl ?_
          refine wh_take (i := 14) (v := .int .i64 (x1.st.last + 1)) rfl (by kernel_rfl) (by kernel_rfl) (by kernel_rfl) hS_w17 rfl (fun wq hq => rf_assign rfl) rfl ?_
          refine wh_take (i := 15) (v := .int .i64 0) rfl (by kernel_rfl) (by kernel_rfl) (by kernel_rfl) hS_w17 rfl (fun wq hq => rf_assign rfl) rfl ?_
          refine wh_done (by kernel_rfl) ?_
          refine thn ?_
          refine seq_ ?_
          refine seq_ ?_
          refine region_ ?_
          refine wl_valE (v := .int .i64 0) rfl (rf_move rfl) rfl ?_
          refine wl_valE (v := .bool false) rfl (rf_neq rfl rfl rfl rfl) (congrArg Value.bool (by decide)) ?_
          refine wl_valE (v := .bool false) rfl (rf_move rfl) rfl ?_
          refine wl_guardT rfl rfl rfl rfl ?_
          refine wl_valE (v := .int .i64 (x1.st.last + 1)) rfl (rf_move rfl) rfl ?_
          refine wl_guardT rfl rfl rfl rfl ?_
          refine wl_valE (v := .pointer (some ⟨wb, 0, none⟩)) rfl (rf_move rfl) rfl ?_
          refine wl_guardT rfl rfl rfl rfl ?_
          refine wl_valE (v := .pointer (some ⟨wb, 0, none⟩)) rfl (rf_nilCheckP rfl rfl) rfl ?_
          refine wl_guardT rfl rfl rfl rfl ?_
          refine wl_valE (v := .pointer (some ⟨wb, 2, none⟩)) rfl (rf_fieldAddr Try.underlying36 rfl ti3 rfl rfl) rfl ?_
          refine wl_guardT rfl rfl rfl rfl ?_
          refine wl_valE (v := .int .i64 x1.st.last) rfl (rf_load Try.underlying3 rfl rfl rfl (hblk1_w17.cell rfl)) rfl ?_
          refine wl_guardT rfl rfl rfl rfl ?_
          refine wl_valE (v := .int .i64 (x1.st.last + ((1 : Nat) : Int))) rfl (rf_add rfl rfl rfl rfl (IntWalk.i64_in _ (by omega))) rfl ?_
          refine wl_guardT rfl rfl rfl rfl ?_
          refine wl_valE (v := .bool false) rfl (rf_neq rfl rfl rfl rfl) (congrArg Value.bool (decide_eq_false (by omega))) ?_
          refine wl_valE (v := .bool false) rfl (rf_pickF rfl rfl rfl rfl) rfl ?_
          refine wl_nil ?_
          refine thn ?_
          refine condF rfl rfl ?_
          refine skip_ ?_
          refine thn ?_
          refine seq_ ?_
          refine region_ ?_
          refine wl_valE (v := .pointer (some ⟨wb, 0, none⟩)) rfl (rf_move rfl) rfl ?_
          refine wl_valE (v := .int .i64 (x1.st.last + 1)) rfl (rf_move rfl) rfl ?_
          refine wl_valE (v := .pointer (some ⟨wb, 0, none⟩)) rfl (rf_nilCheckP rfl rfl) rfl ?_
          refine wl_valE (v := .pointer (some ⟨wb, 2, none⟩)) rfl (rf_fieldAddr Try.underlying36 rfl ti3 rfl rfl) rfl ?_
          refine wl_store (b := wb) (o := 2) (v := .int .i64 (x1.st.last + 1)) ti3 rfl rfl rfl rfl rfl hblk1_w17 (by first | decide | exact Nat.le_of_ble_eq_true rfl | simp) ?_
          intro w18 hk18 hb18
          have hA1_w18 := hA1_w17.kp hk18 (fun x hx e => (hw1.sep x hx).2.1 e)
          have hbx1_w18 := hbx1_w17.kp hk18 (by first | exact hbn1.2.2 | omega)
          have hkT1_w18 := hkT1_w17.comp hk18 (fun x _ e => .inr (.inr e))
          have hb14_w18 := hb14_w17.kp hk18 (Ne.symm ne14_wb)
          have hsY_w18 := hsY.kp hk18 (fun x hx e => hwX2 (e ▸ hx))
          have hs18 := hk18.size
          replace hb18 : Blk w18 wb (.cells #[.pointer (some ⟨s, 0, none⟩), .slice a1 x1.all.length c1, .int .i64 (x1.st.last + 1), .int .i64 (x1.batch + d)] _ (0, 0)) := hb18
          refine wl_nil ?_
          refine thn ?_
          refine seq_ ?_
          refine region_ ?_
          refine wl_valE (v := .int .i64 (x1.st.last + 1)) rfl (rf_move rfl) rfl ?_
          refine wl_valE (v := .pointer (some ⟨b1, 0, none⟩)) rfl (rf_fieldAddr Try.underlying32 rfl ti28 rfl rfl) rfl ?_
          refine wl_valE (v := .agg #[.int .i64 q.key.table, .int .i64 q.key.row]) rfl (rf_loadBlk Try.underlying28 rfl ti28 rfl rfl hbx1_w18 (Nat.le_of_ble_eq_true rfl)) rfl ?_
          refine wl_valE (v := .agg #[.int .i64 (x1.batch + d), .int .i64 ((mj : Nat) : Int)]) rfl (rf_loadBlk Try.underlying50 rfl ti50 rfl rfl hb14_w18 (Nat.le_of_ble_eq_true rfl)) rfl ?_
          refine wl_valE (v := .agg #[.int .i64 (x1.st.last + 1), .int .i64 q.key.table, .int .i64 q.key.row, .int .i64 (x1.batch + d), .int .i64 ((mj : Nat) : Int), .bool false, .bool false, .int .i64 ((0 : Nat) : Int)]) rfl (rf_build (offs := [(0, [.int .i64 (x1.st.last + 1)]), (1, [.int .i64 q.key.table, .int .i64 q.key.row]), (3, [.int .i64 (x1.batch + d), .int .i64 ((mj : Nat) : Int)])]) (places := #[(0, 1), (1, 2), (3, 2), (5, 1), (6, 2)]) Try.underlying52 ti52 (fun w => by kernel_rfl) (.cons rfl rfl rfl rfl rfl rfl (.cons rfl rfl rfl rfl rfl rfl (.cons rfl rfl rfl rfl rfl rfl .nil)))) rfl ?_
          refine wl_alloc ti52 ?_
          intro b19 w19 hg19 hk19 hb19
          have ne19_b1 : b1 ≠ b19 := Nat.ne_of_lt (Nat.lt_of_lt_of_le hbx1_w18.lt hg19)
          have ne19_wb : wb ≠ b19 := Nat.ne_of_lt (Nat.lt_of_lt_of_le hb18.lt hg19)
          have hA1_w19 := hA1_w18.keep hk19
          have hbx1_w19 := hbx1_w18.keep hk19
          have hkT1_w19 := hkT1_w18.comp hk19 (fun _ _ e => e.elim)
          have hsY_w19 := hsY_w18.keep hk19
          have hblk1_w19 := hb18.keep hk19
          have hs19 := hk19.size
          refine wl_storeAgg (b := b19) (o := 0) (cs := [.int .i64 (x1.st.last + 1), .int .i64 q.key.table, .int .i64 q.key.row, .int .i64 (x1.batch + d), .int .i64 ((mj : Nat) : Int), .bool false, .bool false, .int .i64 ((0 : Nat) : Int)]) ti52 rfl rfl rfl rfl rfl (by simp [Value.oneCell']) hb19 (Nat.le_of_ble_eq_true rfl) ?_
          intro w20 hk20 hb20
          have hA1_w20 := hA1_w19.kp hk20 (fun x hx e => by have := (hw1.sep x hx).2.2; omega)
          have hbx1_w20 := hbx1_w19.kp hk20 ne19_b1
          have hkT1_w20 := hkT1_w19.comp hk20 (fun x hx e => by omega)
          have hsY_w20 := hsY_w19.kp hk20 (fun x hx e => by have := hXl2 x hx; omega)
          have hblk1_w20 := hblk1_w19.kp hk20 ne19_wb
          have hs20 := hk20.size
          replace hb20 : Blk w20 b19 (.cells #[.int .i64 (x1.st.last + 1), .int .i64 q.key.table, .int .i64 q.key.row, .int .i64 (x1.batch + d), .int .i64 ((mj : Nat) : Int), .bool false, .bool false, .int .i64 ((0 : Nat) : Int)] _ (0, 0)) := hb20
          refine wl_nil ?_
          refine thn ?_
          refine seq_ ?_
          refine seq_ ?_
          refine region_ ?_
          refine wl_valE (v := .pointer (some ⟨b1, 4, none⟩)) rfl (rf_fieldAddr Try.underlying32 rfl ti4 rfl rfl) rfl ?_
          refine wl_valE (v := .bool q.fill) rfl (rf_load Try.underlying4 rfl rfl rfl (hbx1_w20.cell rfl)) rfl ?_
          refine wl_nil ?_
          refine thn ?_
          refine cond_ (t := q.fill) rfl rfl (fun c132 => ?_) (fun c132 => ?_)
          · refine seq_ ?_
            refine region_ ?_
            refine wl_valE (v := .pointer (some ⟨b19, 5, none⟩)) rfl (rf_fieldAddr Try.underlying52 rfl ti4 rfl rfl) rfl ?_
            refine wl_store (b := b19) (o := 5) (v := .bool true) ti4 rfl rfl rfl rfl rfl hb20 (by first | decide | exact Nat.le_of_ble_eq_true rfl | simp) ?_
            intro w21 hk21 hb21
            have hA1_w21 := hA1_w20.kp hk21 (fun x hx e => by have := (hw1.sep x hx).2.2; omega)
            have hbx1_w21 := hbx1_w20.kp hk21 ne19_b1
            have hkT1_w21 := hkT1_w20.comp hk21 (fun x hx e => by omega)
            have hsY_w21 := hsY_w20.kp hk21 (fun x hx e => by have := hXl2 x hx; omega)
            have hblk1_w21 := hblk1_w20.kp hk21 ne19_wb
            have hs21 := hk21.size
            replace hb21 : Blk w21 b19 (.cells #[.int .i64 (x1.st.last + 1), .int .i64 q.key.table, .int .i64 q.key.row, .int .i64 (x1.batch + d), .int .i64 ((mj : Nat) : Int), .bool true, .bool false, .int .i64 ((0 : Nat) : Int)] _ (0, 0)) := hb21
            refine wl_nil ?_
            refine thn ?_
            refine seq_ ?_
            refine seq_ ?_
            refine region_ ?_
            refine wl_valE (v := .pointer (some ⟨b1, 5, none⟩)) rfl (rf_fieldAddr Try.underlying32 rfl ti30 rfl rfl) rfl ?_
            refine wl_valE (v := .pointer (some ⟨b1, 5, none⟩)) rfl (rf_fieldAddr Try.underlying30 rfl ti4 rfl rfl) rfl ?_
            refine wl_valE (v := .bool q.cell.is_) rfl (rf_load Try.underlying4 rfl rfl rfl (hbx1_w21.cell rfl)) rfl ?_
            refine wl_nil ?_
            refine thn ?_
            refine cond_ (t := q.cell.is_) rfl rfl (fun c136 => ?_) (fun c136 => ?_)
            · obtain ⟨lx, hlx⟩ : ∃ l, l = (⟨x1.st.last + 1, q.key, x1.batch + d, ((mj : Nat) : Int), true, q.cell⟩ : LaidR) := ⟨_, rfl⟩
              refine region_ ?_
              refine wl_valE (v := .pointer (some ⟨b1, 5, none⟩)) rfl (rf_fieldAddr Try.underlying32 rfl ti30 rfl rfl) rfl ?_
              refine wl_valE (v := .agg #[.bool q.cell.is_, .int .i64 q.cell.value]) rfl (rf_loadBlk Try.underlying30 rfl ti30 rfl rfl hbx1_w21 (Nat.le_of_ble_eq_true rfl)) rfl ?_
              refine wl_valE (v := .pointer (some ⟨b19, 6, none⟩)) rfl (rf_fieldAddr Try.underlying52 rfl ti30 rfl rfl) rfl ?_
              refine wl_storeAgg (b := b19) (o := 6) (cs := [.bool q.cell.is_, .int .i64 q.cell.value]) ti30 rfl rfl rfl rfl rfl (by simp [Value.oneCell']) hb21 (Nat.le_of_ble_eq_true rfl) ?_
              intro w22 hk22 hb22
              have hA1_w22 := hA1_w21.kp hk22 (fun x hx e => by have := (hw1.sep x hx).2.2; omega)
              have hbx1_w22 := hbx1_w21.kp hk22 ne19_b1
              have hkT1_w22 := hkT1_w21.comp hk22 (fun x hx e => by omega)
              have hsY_w22 := hsY_w21.kp hk22 (fun x hx e => by have := hXl2 x hx; omega)
              have hblk1_w22 := hblk1_w21.kp hk22 ne19_wb
              have hs22 := hk22.size
              replace hb22 : Blk w22 b19 (.cells #[.int .i64 (x1.st.last + 1), .int .i64 q.key.table, .int .i64 q.key.row, .int .i64 (x1.batch + d), .int .i64 ((mj : Nat) : Int), .bool true, .bool q.cell.is_, .int .i64 q.cell.value] _ (0, 0)) := hb22
              refine wl_nil ?_
              refine thn ?_
              refine seq_ ?_
              refine region_h (S := fun wq => Kp (fun y => fpS s h2 y) w22 wq) mixedP ?_
              intro w23 hk23
              have hA1_w23 := hA1_w22.keep hk23
              have hbx1_w23 := hbx1_w22.keep hk23
              have hkT1_w23 := hkT1_w22.comp hk23 (fun _ _ e => e.elim)
              have hsY_w23 := hsY_w22.keep hk23
              have hblk1_w23 := hblk1_w22.keep hk23
              have hb19_w23 := hb22.keep hk23
              have hs23 := hk23.size
              have hS23 : Kp (fun y => fpS s h2 y) w22 w23 := hk23.of_none
              refine wh_take (i := 0) (v := .pointer (some ⟨wb, 0, none⟩)) rfl (by kernel_rfl) (by kernel_rfl) (by kernel_rfl) hS23 rfl (fun wq hq => rf_move rfl) rfl ?_
              refine wh_take (i := 1) (v := .pointer (some ⟨wb, 0, none⟩)) rfl (by kernel_rfl) (by kernel_rfl) (by kernel_rfl) hS23 rfl (fun wq hq => rf_nilCheckP rfl rfl) rfl ?_
              refine wh_take (i := 2) (v := .pointer (some ⟨wb, 0, none⟩)) rfl (by kernel_rfl) (by kernel_rfl) (by kernel_rfl) hS23 rfl (fun wq hq => rf_fieldAddr Try.underlying36 rfl ti33 rfl rfl) rfl ?_
              refine wh_take (i := 3) (v := .pointer (some ⟨s, 0, none⟩)) rfl (by kernel_rfl) (by kernel_rfl) (by kernel_rfl) hS23 rfl (fun wq hq => rf_load Try.underlying33 rfl rfl rfl ((hblk1_w22.kp hq hwX2).cell rfl)) rfl ?_
              refine wh_take (i := 4) (v := .int .i64 (x1.st.last + 1)) rfl (by kernel_rfl) (by kernel_rfl) (by kernel_rfl) hS23 rfl (fun wq hq => rf_move rfl) rfl ?_
              refine wh_take (i := 5) (v := .pointer (some ⟨b1, 5, none⟩)) rfl (by kernel_rfl) (by kernel_rfl) (by kernel_rfl) hS23 rfl (fun wq hq => rf_fieldAddr Try.underlying32 rfl ti30 rfl rfl) rfl ?_
              refine wh_take (i := 6) (v := .agg #[.bool q.cell.is_, .int .i64 q.cell.value]) rfl (by kernel_rfl) (by kernel_rfl) (by kernel_rfl) hS23 rfl (fun wq hq => rf_loadBlk Try.underlying30 rfl ti30 rfl rfl (hbx1_w22.kp hq hbX2) (Nat.le_of_ble_eq_true rfl)) rfl ?_
              have hv2 : st2.ver (x1.st.last + 1) = some rc := by rw [hst2, hrc]; exact if_pos rfl
              refine wh_one (i := 7) (by kernel_rfl) rfl ?_
              refine wl_ret rfl (fill_ret s st2 h2 w23 hsY_w23 q.cell (x1.st.last + 1) rc hv2 (by rw [hrc])) (rf_call Try.call18 rfl rfl) ?_
              rintro vq w24 ⟨rfl, hsY, hk24⟩
              have hA1_w24 := hA1_w23.kp hk24 (fun x hx e => hFX2 x hx e)
              have hbx1_w24 := hbx1_w23.kp hk24 hbX2
              have hkT1_w24 := hkT1_w23.comp hk24 (fun x hx e => by rcases hfp2 x e with h | h; rcases hg1 x (.inl h) with h | h | h; exact .inl h; exact .inr (.inl h); omega; omega)
              have hblk1_w24 := hblk1_w23.kp hk24 hwX2
              have hb19_w24 := hb19_w23.kp hk24 (fun e => by have := hXl2 _ e; omega)
              have hS_w24 := hS23.comp hk24 (fun b h e => e)
              have hs24 := hk24.size
              refine wl_nil ?_
              refine wh_back hS_w24 ?_
              refine wh_take (i := 8) (v := .bool false) rfl (by kernel_rfl) (by kernel_rfl) (by kernel_rfl) hS_w24 rfl (fun wq hq => rf_neq rfl rfl rfl rfl) (congrArg Value.bool (by decide)) ?_
              refine wh_done (by kernel_rfl) ?_
              refine thn ?_
              refine condF rfl rfl ?_
              refine skip_ ?_
              refine thn ?_
              refine seq_ ?_
              obtain ⟨WA, hWA⟩ : ∃ n, n = w24.heap.size := ⟨_, rfl⟩
              refine region_v 10 (fun wq => Kp (F1) w24 wq) mixedP (by kernel_rfl) ?_
              intro w25 hk25
              have hA1_w25 := hA1_w24.keep hk25
              have hbx1_w25 := hbx1_w24.keep hk25
              have hkT1_w25 := hkT1_w24.comp hk25 (fun _ _ e => e.elim)
              have hblk1_w25 := hblk1_w24.keep hk25
              have hb19_w25 := hb19_w24.keep hk25
              have hsY_w25 := hsY.keep hk25
              have hs25 := hk25.size
              have hS25 : Kp (F1) w24 w25 := hk25.of_none
              refine vh_take (i := 0) (v := .pointer (some ⟨wb, 0, none⟩)) rfl rfl (by kernel_rfl) (by kernel_rfl) (by kernel_rfl) hS25 rfl (fun wq hq => rf_move rfl) rfl ?_
              refine vh_take (i := 1) (v := .pointer (some ⟨wb, 0, none⟩)) rfl rfl (by kernel_rfl) (by kernel_rfl) (by kernel_rfl) hS25 rfl (fun wq hq => rf_move rfl) rfl ?_
              refine vh_take (i := 2) (v := .pointer (some ⟨wb, 0, none⟩)) rfl rfl (by kernel_rfl) (by kernel_rfl) (by kernel_rfl) hS25 rfl (fun wq hq => rf_nilCheckP rfl rfl) rfl ?_
              refine vh_take (i := 3) (v := .pointer (some ⟨wb, 1, none⟩)) rfl rfl (by kernel_rfl) (by kernel_rfl) (by kernel_rfl) hS25 rfl (fun wq hq => rf_fieldAddr Try.underlying36 rfl ti34 rfl rfl) rfl ?_
              refine vh_take (i := 4) (v := .slice a1 x1.all.length c1) rfl rfl (by kernel_rfl) (by kernel_rfl) (by kernel_rfl) hS25 rfl (fun wq hq => rf_load Try.underlying34 rfl rfl rfl ((hblk1_w24.kp hq (fun e => (hw1.sep _ e).2.1 rfl)).cell rfl)) rfl ?_
              refine vh_take (i := 5) (v := .agg #[.int .i64 (x1.st.last + 1), .int .i64 q.key.table, .int .i64 q.key.row, .int .i64 (x1.batch + d), .int .i64 ((mj : Nat) : Int), .bool true, .bool q.cell.is_, .int .i64 q.cell.value]) rfl rfl (by kernel_rfl) (by kernel_rfl) (by kernel_rfl) hS25 rfl (fun wq hq => rf_loadBlk Try.underlying52 rfl ti52 rfl rfl (hb19_w24.kp hq (fun e => by have := (hw1.sep _ e).2.2; omega)) (Nat.le_of_ble_eq_true rfl)) rfl ?_
              refine vh_one (i := 6) (by kernel_rfl) rfl rfl ?_
              refine wl_buildSlice (css := [[.int .i64 (x1.st.last + 1), .int .i64 q.key.table, .int .i64 q.key.row, .int .i64 (x1.batch + d), .int .i64 ((mj : Nat) : Int), .bool true, .bool q.cell.is_, .int .i64 q.cell.value]]) Try.underlying34 ti52 rfl rfl rfl (.cons rfl rfl rfl rfl rfl rfl .nil) (by simp) ?_
              intro b26 w26 hg26 hk26 hb26
              have ne26_b1 : b1 ≠ b26 := Nat.ne_of_lt (Nat.lt_of_lt_of_le hbx1_w25.lt hg26)
              have ne26_wb : wb ≠ b26 := Nat.ne_of_lt (Nat.lt_of_lt_of_le hblk1_w25.lt hg26)
              have ne26_b19 : b19 ≠ b26 := Nat.ne_of_lt (Nat.lt_of_lt_of_le hb19_w25.lt hg26)
              have hA1_w26 := hA1_w25.keep hk26
              have hbx1_w26 := hbx1_w25.keep hk26
              have hkT1_w26 := hkT1_w25.comp hk26 (fun _ _ e => e.elim)
              have hblk1_w26 := hblk1_w25.keep hk26
              have hb19_w26 := hb19_w25.keep hk26
              have hsY_w26 := hsY_w25.keep hk26
              have hS_w26 := hS25.comp hk26 (fun _ _ e => e.elim)
              have hs26 := hk26.size
              refine wl_nil ?_
              refine vh_back hS_w26 ?_
              refine vh_one (i := 7) (by kernel_rfl) rfl rfl ?_
              refine wl_append encLaid_len encLaid_one Try.underlying34 ti52 rfl rfl rfl rfl rfl (hA1_w26) ((SlAt.of_blk (l := [lx]) encLaid_len (by simp) (by rw [hlx]; exact hb26)).rd (F := fun b => b = b26) rfl) (by simp; omega) (by simp; omega) ?_
              intro v27 w27 hk27 ha27
              have hbx1_w27 := hbx1_w26.kp hk27 (fun e => hbn1.2.1 e)
              have hkT1_w27 := hkT1_w26.comp hk27 (fun x hx e => by rcases hg1 x (.inr e) with h | h | h; exact .inl h; exact .inr (.inl h); omega)
              have hblk1_w27 := hblk1_w26.kp hk27 (fun e => (hw1.sep _ e).2.1 rfl)
              have hb19_w27 := hb19_w26.kp hk27 (fun e => by have := (hw1.sep _ e).2.2; omega)
              have hsY_w27 := hsY_w26.kp hk27 (fun x hx e => by have := hFX2 x e; exact this hx)
              have hS_w27 := hS_w26.comp hk27 (fun b h e => e)
              have hs27 := hk27.size
              refine wl_nil ?_
              refine vh_back hS_w27 ?_
              refine vh_take (i := 8) (v := .pointer (some ⟨wb, 0, none⟩)) rfl rfl (by kernel_rfl) (by kernel_rfl) (by kernel_rfl) hS_w27 rfl (fun wq hq => rf_nilCheckP rfl rfl) rfl ?_
              refine vh_take (i := 9) (v := .pointer (some ⟨wb, 1, none⟩)) rfl rfl (by kernel_rfl) (by kernel_rfl) (by kernel_rfl) hS_w27 rfl (fun wq hq => rf_fieldAddr Try.underlying36 rfl ti34 rfl rfl) rfl ?_
              refine vh_last (by kernel_rfl) (by kernel_rfl) rfl ?_
              refine wl_store (b := wb) (o := 1) (v := v27) ti34 rfl rfl rfl rfl (by obtain ⟨_, _, e, _⟩ := ha27.form; rw [e]; rfl) hblk1_w27 (by first | decide | exact Nat.le_of_ble_eq_true rfl | simp) ?_
              intro w28 hk28 hb28
              have hbx1_w28 := hbx1_w27.kp hk28 (by first | exact hbn1.2.2 | omega)
              have hkT1_w28 := hkT1_w27.comp hk28 (fun x _ e => .inr (.inr e))
              have hb19_w28 := hb19_w27.kp hk28 (Ne.symm ne19_wb)
              have hsY_w28 := hsY_w27.kp hk28 (fun x hx e => hwX2 (e ▸ hx))
              have hA9_w28 := ha27.kp hk28 (fun x hx e => hx.elim (fun h => (hw1.sep x h).2.1 e) (fun h => by omega))
              have hs28 := hk28.size
              refine wl_nil ?_
              refine vh_end ?_
              refine thn ?_
              refine seq_ ?_
              refine region_ ?_
              refine wl_valE (v := .bool true) rfl (rf_assign rfl) rfl ?_
              refine wl_nil ?_
              refine thn ?_
              refine ret_ ?_
              refine fin1 (v := .bool true) Try.results5 rfl rfl ?_
              have hpA := hA9_w28.tight
              have hput : putW x1 q d ((mj : Nat) : Int) = ⟨fillSt st2 (x1.st.last + 1) rc q.cell, x1.all ++ [lx], x1.st.last + 1, x1.batch + d⟩ := by simp only [hlx, hst2, hrc]; unfold putW; simp [c132, c136]
              refine ⟨rfl, putW x1 q d ((mj : Nat) : Int), h2, v27, (fun y => (F1 y ∨ WA ≤ y) ∧ y < w28.heap.size), ?_, ⟨x1, hx1, .inr ⟨d, ((mj : Nat) : Int), by omega, by omega, by omega, by omega, rfl⟩⟩, fun y hy => ?_, hkT1_w28⟩
              · rw [hput]
                refine ⟨hb28, hpA.mono (fun y hy => ⟨hy.1.elim .inl (fun e => .inr (by omega)), hy.2⟩), hsY_w28, fun y hy => ⟨fun e => hy.1.elim (fun e1 => hFX2 y e1 e) (fun e1 => by have := hXl2 y e; omega), hy.1.elim (fun e => (hw1.sep y e).2.1) (fun e => by omega), hy.2⟩, hwX2⟩
              · rcases hy with hy | ⟨hy | hy, _⟩
                · rcases hfp2 y hy with hy | hy
                  · exact hg1 y (.inl hy)
                  · exact .inr (.inr (by omega))
                · exact hg1 y (.inr hy)
                · exact .inr (.inr (by omega))
            · obtain ⟨lx, hlx⟩ : ∃ l, l = (⟨x1.st.last + 1, q.key, x1.batch + d, ((mj : Nat) : Int), true, ⟨false, 0⟩⟩ : LaidR) := ⟨_, rfl⟩
              refine skip_ ?_
              refine thn ?_
              refine seq_ ?_
              refine region_h (S := fun wq => Kp (fun y => fpS s h2 y) w21 wq) mixedP ?_
              intro w29 hk29
              have hA1_w29 := hA1_w21.keep hk29
              have hbx1_w29 := hbx1_w21.keep hk29
              have hkT1_w29 := hkT1_w21.comp hk29 (fun _ _ e => e.elim)
              have hsY_w29 := hsY_w21.keep hk29
              have hblk1_w29 := hblk1_w21.keep hk29
              have hb19_w29 := hb21.keep hk29
              have hs29 := hk29.size
              have hS29 : Kp (fun y => fpS s h2 y) w21 w29 := hk29.of_none
              refine wh_take (i := 0) (v := .pointer (some ⟨wb, 0, none⟩)) rfl (by kernel_rfl) (by kernel_rfl) (by kernel_rfl) hS29 rfl (fun wq hq => rf_move rfl) rfl ?_
              refine wh_take (i := 1) (v := .pointer (some ⟨wb, 0, none⟩)) rfl (by kernel_rfl) (by kernel_rfl) (by kernel_rfl) hS29 rfl (fun wq hq => rf_nilCheckP rfl rfl) rfl ?_
              refine wh_take (i := 2) (v := .pointer (some ⟨wb, 0, none⟩)) rfl (by kernel_rfl) (by kernel_rfl) (by kernel_rfl) hS29 rfl (fun wq hq => rf_fieldAddr Try.underlying36 rfl ti33 rfl rfl) rfl ?_
              refine wh_take (i := 3) (v := .pointer (some ⟨s, 0, none⟩)) rfl (by kernel_rfl) (by kernel_rfl) (by kernel_rfl) hS29 rfl (fun wq hq => rf_load Try.underlying33 rfl rfl rfl ((hblk1_w21.kp hq hwX2).cell rfl)) rfl ?_
              refine wh_take (i := 4) (v := .int .i64 (x1.st.last + 1)) rfl (by kernel_rfl) (by kernel_rfl) (by kernel_rfl) hS29 rfl (fun wq hq => rf_move rfl) rfl ?_
              refine wh_take (i := 5) (v := .pointer (some ⟨b1, 5, none⟩)) rfl (by kernel_rfl) (by kernel_rfl) (by kernel_rfl) hS29 rfl (fun wq hq => rf_fieldAddr Try.underlying32 rfl ti30 rfl rfl) rfl ?_
              refine wh_take (i := 6) (v := .agg #[.bool q.cell.is_, .int .i64 q.cell.value]) rfl (by kernel_rfl) (by kernel_rfl) (by kernel_rfl) hS29 rfl (fun wq hq => rf_loadBlk Try.underlying30 rfl ti30 rfl rfl (hbx1_w21.kp hq hbX2) (Nat.le_of_ble_eq_true rfl)) rfl ?_
              have hv2 : st2.ver (x1.st.last + 1) = some rc := by rw [hst2, hrc]; exact if_pos rfl
              refine wh_one (i := 7) (by kernel_rfl) rfl ?_
              refine wl_ret rfl (fill_ret s st2 h2 w29 hsY_w29 q.cell (x1.st.last + 1) rc hv2 (by rw [hrc])) (rf_call Try.call18 rfl rfl) ?_
              rintro vq w30 ⟨rfl, hsY, hk30⟩
              have hA1_w30 := hA1_w29.kp hk30 (fun x hx e => hFX2 x hx e)
              have hbx1_w30 := hbx1_w29.kp hk30 hbX2
              have hkT1_w30 := hkT1_w29.comp hk30 (fun x hx e => by rcases hfp2 x e with h | h; rcases hg1 x (.inl h) with h | h | h; exact .inl h; exact .inr (.inl h); omega; omega)
              have hblk1_w30 := hblk1_w29.kp hk30 hwX2
              have hb19_w30 := hb19_w29.kp hk30 (fun e => by have := hXl2 _ e; omega)
              have hS_w30 := hS29.comp hk30 (fun b h e => e)
              have hs30 := hk30.size
              refine wl_nil ?_
              refine wh_back hS_w30 ?_
              refine wh_take (i := 8) (v := .bool false) rfl (by kernel_rfl) (by kernel_rfl) (by kernel_rfl) hS_w30 rfl (fun wq hq => rf_neq rfl rfl rfl rfl) (congrArg Value.bool (by decide)) ?_
              refine wh_done (by kernel_rfl) ?_
              refine thn ?_
              refine condF rfl rfl ?_
              refine skip_ ?_
              refine thn ?_
              refine seq_ ?_
              obtain ⟨WA, hWA⟩ : ∃ n, n = w30.heap.size := ⟨_, rfl⟩
              refine region_v 10 (fun wq => Kp (F1) w30 wq) mixedP (by kernel_rfl) ?_
              intro w31 hk31
              have hA1_w31 := hA1_w30.keep hk31
              have hbx1_w31 := hbx1_w30.keep hk31
              have hkT1_w31 := hkT1_w30.comp hk31 (fun _ _ e => e.elim)
              have hblk1_w31 := hblk1_w30.keep hk31
              have hb19_w31 := hb19_w30.keep hk31
              have hsY_w31 := hsY.keep hk31
              have hs31 := hk31.size
              have hS31 : Kp (F1) w30 w31 := hk31.of_none
              refine vh_take (i := 0) (v := .pointer (some ⟨wb, 0, none⟩)) rfl rfl (by kernel_rfl) (by kernel_rfl) (by kernel_rfl) hS31 rfl (fun wq hq => rf_move rfl) rfl ?_
              refine vh_take (i := 1) (v := .pointer (some ⟨wb, 0, none⟩)) rfl rfl (by kernel_rfl) (by kernel_rfl) (by kernel_rfl) hS31 rfl (fun wq hq => rf_move rfl) rfl ?_
              refine vh_take (i := 2) (v := .pointer (some ⟨wb, 0, none⟩)) rfl rfl (by kernel_rfl) (by kernel_rfl) (by kernel_rfl) hS31 rfl (fun wq hq => rf_nilCheckP rfl rfl) rfl ?_
              refine vh_take (i := 3) (v := .pointer (some ⟨wb, 1, none⟩)) rfl rfl (by kernel_rfl) (by kernel_rfl) (by kernel_rfl) hS31 rfl (fun wq hq => rf_fieldAddr Try.underlying36 rfl ti34 rfl rfl) rfl ?_
              refine vh_take (i := 4) (v := .slice a1 x1.all.length c1) rfl rfl (by kernel_rfl) (by kernel_rfl) (by kernel_rfl) hS31 rfl (fun wq hq => rf_load Try.underlying34 rfl rfl rfl ((hblk1_w30.kp hq (fun e => (hw1.sep _ e).2.1 rfl)).cell rfl)) rfl ?_
              refine vh_take (i := 5) (v := .agg #[.int .i64 (x1.st.last + 1), .int .i64 q.key.table, .int .i64 q.key.row, .int .i64 (x1.batch + d), .int .i64 ((mj : Nat) : Int), .bool true, .bool false, .int .i64 ((0 : Nat) : Int)]) rfl rfl (by kernel_rfl) (by kernel_rfl) (by kernel_rfl) hS31 rfl (fun wq hq => rf_loadBlk Try.underlying52 rfl ti52 rfl rfl (hb19_w30.kp hq (fun e => by have := (hw1.sep _ e).2.2; omega)) (Nat.le_of_ble_eq_true rfl)) rfl ?_
              refine vh_one (i := 6) (by kernel_rfl) rfl rfl ?_
              refine wl_buildSlice (css := [[.int .i64 (x1.st.last + 1), .int .i64 q.key.table, .int .i64 q.key.row, .int .i64 (x1.batch + d), .int .i64 ((mj : Nat) : Int), .bool true, .bool false, .int .i64 ((0 : Nat) : Int)]]) Try.underlying34 ti52 rfl rfl rfl (.cons rfl rfl rfl rfl rfl rfl .nil) (by simp) ?_
              intro b32 w32 hg32 hk32 hb32
              have ne32_b1 : b1 ≠ b32 := Nat.ne_of_lt (Nat.lt_of_lt_of_le hbx1_w31.lt hg32)
              have ne32_wb : wb ≠ b32 := Nat.ne_of_lt (Nat.lt_of_lt_of_le hblk1_w31.lt hg32)
              have ne32_b19 : b19 ≠ b32 := Nat.ne_of_lt (Nat.lt_of_lt_of_le hb19_w31.lt hg32)
              have hA1_w32 := hA1_w31.keep hk32
              have hbx1_w32 := hbx1_w31.keep hk32
              have hkT1_w32 := hkT1_w31.comp hk32 (fun _ _ e => e.elim)
              have hblk1_w32 := hblk1_w31.keep hk32
              have hb19_w32 := hb19_w31.keep hk32
              have hsY_w32 := hsY_w31.keep hk32
              have hS_w32 := hS31.comp hk32 (fun _ _ e => e.elim)
              have hs32 := hk32.size
              refine wl_nil ?_
              refine vh_back hS_w32 ?_
              refine vh_one (i := 7) (by kernel_rfl) rfl rfl ?_
              refine wl_append encLaid_len encLaid_one Try.underlying34 ti52 rfl rfl rfl rfl rfl (hA1_w32) ((SlAt.of_blk (l := [lx]) encLaid_len (by simp) (by rw [hlx]; exact hb32)).rd (F := fun b => b = b32) rfl) (by simp; omega) (by simp; omega) ?_
              intro v33 w33 hk33 ha33
              have hbx1_w33 := hbx1_w32.kp hk33 (fun e => hbn1.2.1 e)
              have hkT1_w33 := hkT1_w32.comp hk33 (fun x hx e => by rcases hg1 x (.inr e) with h | h | h; exact .inl h; exact .inr (.inl h); omega)
              have hblk1_w33 := hblk1_w32.kp hk33 (fun e => (hw1.sep _ e).2.1 rfl)
              have hb19_w33 := hb19_w32.kp hk33 (fun e => by have := (hw1.sep _ e).2.2; omega)
              have hsY_w33 := hsY_w32.kp hk33 (fun x hx e => by have := hFX2 x e; exact this hx)
              have hS_w33 := hS_w32.comp hk33 (fun b h e => e)
              have hs33 := hk33.size
              refine wl_nil ?_
              refine vh_back hS_w33 ?_
              refine vh_take (i := 8) (v := .pointer (some ⟨wb, 0, none⟩)) rfl rfl (by kernel_rfl) (by kernel_rfl) (by kernel_rfl) hS_w33 rfl (fun wq hq => rf_nilCheckP rfl rfl) rfl ?_
              refine vh_take (i := 9) (v := .pointer (some ⟨wb, 1, none⟩)) rfl rfl (by kernel_rfl) (by kernel_rfl) (by kernel_rfl) hS_w33 rfl (fun wq hq => rf_fieldAddr Try.underlying36 rfl ti34 rfl rfl) rfl ?_
              refine vh_last (by kernel_rfl) (by kernel_rfl) rfl ?_
              refine wl_store (b := wb) (o := 1) (v := v33) ti34 rfl rfl rfl rfl (by obtain ⟨_, _, e, _⟩ := ha33.form; rw [e]; rfl) hblk1_w33 (by first | decide | exact Nat.le_of_ble_eq_true rfl | simp) ?_
              intro w34 hk34 hb34
              have hbx1_w34 := hbx1_w33.kp hk34 (by first | exact hbn1.2.2 | omega)
              have hkT1_w34 := hkT1_w33.comp hk34 (fun x _ e => .inr (.inr e))
              have hb19_w34 := hb19_w33.kp hk34 (Ne.symm ne19_wb)
              have hsY_w34 := hsY_w33.kp hk34 (fun x hx e => hwX2 (e ▸ hx))
              have hA9_w34 := ha33.kp hk34 (fun x hx e => hx.elim (fun h => (hw1.sep x h).2.1 e) (fun h => by omega))
              have hs34 := hk34.size
              refine wl_nil ?_
              refine vh_end ?_
              refine thn ?_
              refine seq_ ?_
              refine region_ ?_
              refine wl_valE (v := .bool true) rfl (rf_assign rfl) rfl ?_
              refine wl_nil ?_
              refine thn ?_
              refine ret_ ?_
              refine fin1 (v := .bool true) Try.results5 rfl rfl ?_
              have hpA := hA9_w34.tight
              have hput : putW x1 q d ((mj : Nat) : Int) = ⟨fillSt st2 (x1.st.last + 1) rc q.cell, x1.all ++ [lx], x1.st.last + 1, x1.batch + d⟩ := by simp only [hlx, hst2, hrc]; unfold putW; simp [c132, c136]
              refine ⟨rfl, putW x1 q d ((mj : Nat) : Int), h2, v33, (fun y => (F1 y ∨ WA ≤ y) ∧ y < w34.heap.size), ?_, ⟨x1, hx1, .inr ⟨d, ((mj : Nat) : Int), by omega, by omega, by omega, by omega, rfl⟩⟩, fun y hy => ?_, hkT1_w34⟩
              · rw [hput]
                refine ⟨hb34, hpA.mono (fun y hy => ⟨hy.1.elim .inl (fun e => .inr (by omega)), hy.2⟩), hsY_w34, fun y hy => ⟨fun e => hy.1.elim (fun e1 => hFX2 y e1 e) (fun e1 => by have := hXl2 y e; omega), hy.1.elim (fun e => (hw1.sep y e).2.1) (fun e => by omega), hy.2⟩, hwX2⟩
              · rcases hy with hy | ⟨hy | hy, _⟩
                · rcases hfp2 y hy with hy | hy
                  · exact hg1 y (.inl hy)
                  · exact .inr (.inr (by omega))
                · exact hg1 y (.inr hy)
                · exact .inr (.inr (by omega))
          · obtain ⟨lx, hlx⟩ : ∃ l, l = (⟨x1.st.last + 1, q.key, x1.batch + d, ((mj : Nat) : Int), false, ⟨false, 0⟩⟩ : LaidR) := ⟨_, rfl⟩
            refine skip_ ?_
            refine thn ?_
            refine seq_ ?_
            obtain ⟨WA, hWA⟩ : ∃ n, n = w20.heap.size := ⟨_, rfl⟩
            refine region_v 10 (fun wq => Kp (F1) w20 wq) mixedP (by kernel_rfl) ?_
            intro w35 hk35
            have hA1_w35 := hA1_w20.keep hk35
            have hbx1_w35 := hbx1_w20.keep hk35
            have hkT1_w35 := hkT1_w20.comp hk35 (fun _ _ e => e.elim)
            have hsY_w35 := hsY_w20.keep hk35
            have hblk1_w35 := hblk1_w20.keep hk35
            have hb19_w35 := hb20.keep hk35
            have hs35 := hk35.size
            have hS35 : Kp (F1) w20 w35 := hk35.of_none
            refine vh_take (i := 0) (v := .pointer (some ⟨wb, 0, none⟩)) rfl rfl (by kernel_rfl) (by kernel_rfl) (by kernel_rfl) hS35 rfl (fun wq hq => rf_move rfl) rfl ?_
            refine vh_take (i := 1) (v := .pointer (some ⟨wb, 0, none⟩)) rfl rfl (by kernel_rfl) (by kernel_rfl) (by kernel_rfl) hS35 rfl (fun wq hq => rf_move rfl) rfl ?_
            refine vh_take (i := 2) (v := .pointer (some ⟨wb, 0, none⟩)) rfl rfl (by kernel_rfl) (by kernel_rfl) (by kernel_rfl) hS35 rfl (fun wq hq => rf_nilCheckP rfl rfl) rfl ?_
            refine vh_take (i := 3) (v := .pointer (some ⟨wb, 1, none⟩)) rfl rfl (by kernel_rfl) (by kernel_rfl) (by kernel_rfl) hS35 rfl (fun wq hq => rf_fieldAddr Try.underlying36 rfl ti34 rfl rfl) rfl ?_
            refine vh_take (i := 4) (v := .slice a1 x1.all.length c1) rfl rfl (by kernel_rfl) (by kernel_rfl) (by kernel_rfl) hS35 rfl (fun wq hq => rf_load Try.underlying34 rfl rfl rfl ((hblk1_w20.kp hq (fun e => (hw1.sep _ e).2.1 rfl)).cell rfl)) rfl ?_
            refine vh_take (i := 5) (v := .agg #[.int .i64 (x1.st.last + 1), .int .i64 q.key.table, .int .i64 q.key.row, .int .i64 (x1.batch + d), .int .i64 ((mj : Nat) : Int), .bool false, .bool false, .int .i64 ((0 : Nat) : Int)]) rfl rfl (by kernel_rfl) (by kernel_rfl) (by kernel_rfl) hS35 rfl (fun wq hq => rf_loadBlk Try.underlying52 rfl ti52 rfl rfl (hb20.kp hq (fun e => by have := (hw1.sep _ e).2.2; omega)) (Nat.le_of_ble_eq_true rfl)) rfl ?_
            refine vh_one (i := 6) (by kernel_rfl) rfl rfl ?_
            refine wl_buildSlice (css := [[.int .i64 (x1.st.last + 1), .int .i64 q.key.table, .int .i64 q.key.row, .int .i64 (x1.batch + d), .int .i64 ((mj : Nat) : Int), .bool false, .bool false, .int .i64 ((0 : Nat) : Int)]]) Try.underlying34 ti52 rfl rfl rfl (.cons rfl rfl rfl rfl rfl rfl .nil) (by simp) ?_
            intro b36 w36 hg36 hk36 hb36
            have ne36_b1 : b1 ≠ b36 := Nat.ne_of_lt (Nat.lt_of_lt_of_le hbx1_w35.lt hg36)
            have ne36_wb : wb ≠ b36 := Nat.ne_of_lt (Nat.lt_of_lt_of_le hblk1_w35.lt hg36)
            have ne36_b19 : b19 ≠ b36 := Nat.ne_of_lt (Nat.lt_of_lt_of_le hb19_w35.lt hg36)
            have hA1_w36 := hA1_w35.keep hk36
            have hbx1_w36 := hbx1_w35.keep hk36
            have hkT1_w36 := hkT1_w35.comp hk36 (fun _ _ e => e.elim)
            have hsY_w36 := hsY_w35.keep hk36
            have hblk1_w36 := hblk1_w35.keep hk36
            have hb19_w36 := hb19_w35.keep hk36
            have hS_w36 := hS35.comp hk36 (fun _ _ e => e.elim)
            have hs36 := hk36.size
            refine wl_nil ?_
            refine vh_back hS_w36 ?_
            refine vh_one (i := 7) (by kernel_rfl) rfl rfl ?_
            refine wl_append encLaid_len encLaid_one Try.underlying34 ti52 rfl rfl rfl rfl rfl (hA1_w36) ((SlAt.of_blk (l := [lx]) encLaid_len (by simp) (by rw [hlx]; exact hb36)).rd (F := fun b => b = b36) rfl) (by simp; omega) (by simp; omega) ?_
            intro v37 w37 hk37 ha37
            have hbx1_w37 := hbx1_w36.kp hk37 (fun e => hbn1.2.1 e)
            have hkT1_w37 := hkT1_w36.comp hk37 (fun x hx e => by rcases hg1 x (.inr e) with h | h | h; exact .inl h; exact .inr (.inl h); omega)
            have hsY_w37 := hsY_w36.kp hk37 (fun x hx e => by have := hFX2 x e; exact this hx)
            have hblk1_w37 := hblk1_w36.kp hk37 (fun e => (hw1.sep _ e).2.1 rfl)
            have hb19_w37 := hb19_w36.kp hk37 (fun e => by have := (hw1.sep _ e).2.2; omega)
            have hS_w37 := hS_w36.comp hk37 (fun b h e => e)
            have hs37 := hk37.size
            refine wl_nil ?_
            refine vh_back hS_w37 ?_
            refine vh_take (i := 8) (v := .pointer (some ⟨wb, 0, none⟩)) rfl rfl (by kernel_rfl) (by kernel_rfl) (by kernel_rfl) hS_w37 rfl (fun wq hq => rf_nilCheckP rfl rfl) rfl ?_
            refine vh_take (i := 9) (v := .pointer (some ⟨wb, 1, none⟩)) rfl rfl (by kernel_rfl) (by kernel_rfl) (by kernel_rfl) hS_w37 rfl (fun wq hq => rf_fieldAddr Try.underlying36 rfl ti34 rfl rfl) rfl ?_
            refine vh_last (by kernel_rfl) (by kernel_rfl) rfl ?_
            refine wl_store (b := wb) (o := 1) (v := v37) ti34 rfl rfl rfl rfl (by obtain ⟨_, _, e, _⟩ := ha37.form; rw [e]; rfl) hblk1_w37 (by first | decide | exact Nat.le_of_ble_eq_true rfl | simp) ?_
            intro w38 hk38 hb38
            have hbx1_w38 := hbx1_w37.kp hk38 (by first | exact hbn1.2.2 | omega)
            have hkT1_w38 := hkT1_w37.comp hk38 (fun x _ e => .inr (.inr e))
            have hsY_w38 := hsY_w37.kp hk38 (fun x hx e => hwX2 (e ▸ hx))
            have hb19_w38 := hb19_w37.kp hk38 (Ne.symm ne19_wb)
            have hA9_w38 := ha37.kp hk38 (fun x hx e => hx.elim (fun h => (hw1.sep x h).2.1 e) (fun h => by omega))
            have hs38 := hk38.size
            refine wl_nil ?_
            refine vh_end ?_
            refine thn ?_
            refine seq_ ?_
            refine region_ ?_
            refine wl_valE (v := .bool true) rfl (rf_assign rfl) rfl ?_
            refine wl_nil ?_
            refine thn ?_
            refine ret_ ?_
            refine fin1 (v := .bool true) Try.results5 rfl rfl ?_
            have hpA := hA9_w38.tight
            have hput : putW x1 q d ((mj : Nat) : Int) = ⟨st2, x1.all ++ [lx], x1.st.last + 1, x1.batch + d⟩ := by simp only [hlx, hst2]; unfold putW; simp [c132]
            refine ⟨rfl, putW x1 q d ((mj : Nat) : Int), h2, v37, (fun y => (F1 y ∨ WA ≤ y) ∧ y < w38.heap.size), ?_, ⟨x1, hx1, .inr ⟨d, ((mj : Nat) : Int), by omega, by omega, by omega, by omega, rfl⟩⟩, fun y hy => ?_, hkT1_w38⟩
            · rw [hput]
              refine ⟨hb38, hpA.mono (fun y hy => ⟨hy.1.elim .inl (fun e => .inr (by omega)), hy.2⟩), hsY_w38, fun y hy => ⟨fun e => hy.1.elim (fun e1 => hFX2 y e1 e) (fun e1 => by have := hXl2 y e; omega), hy.1.elim (fun e => (hw1.sep y e).2.1) (fun e => by omega), hy.2⟩, hwX2⟩
            · rcases hy with hy | ⟨hy | hy, _⟩
              · rcases hfp2 y hy with hy | hy
                · exact hg1 y (.inl hy)
                · exact .inr (.inr (by omega))
              · exact hg1 y (.inr hy)
              · exact .inr (.inr (by omega))
end Go.Proofs.Ytojcddlpkfhodaa.W
