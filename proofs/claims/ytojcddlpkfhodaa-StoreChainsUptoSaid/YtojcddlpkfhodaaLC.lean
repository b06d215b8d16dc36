import Derived.Test.YtojcddlpkfhodaaHT
import Derived.Test.YtojcddlpkfhodaaLW
import Derived.KernelRfl
namespace Go.Proofs.Ytojcddlpkfhodaa.W
open Go Go.Wk
set_option linter.unusedVariables false
set_option linter.unusedSimpArgs false

structure LookedR where
  parts : Int
  fst_ : Value
  fst : List WriteR
  thn_ : Value
  thn : List WriteR
  batch : Int
def encLooked (o : LookedR) : List Value := [.int .i64 o.parts, o.fst_, o.thn_, .int .i64 o.batch]
def latP (k : Key) (b : Int) (l : LaidR) : Bool := decide (l.key = k) && decide (l.batch ≤ b)
def latF (all : List LaidR) (k : Key) (b : Int) : Int := ((all.reverse.find? (latP k b)).map (·.v)).getD 0
theorem latF_app (all : List LaidR) (x : LaidR) (k : Key) (b : Int) : latF (all ++ [x]) k b = if latP k b x then x.v else latF all k b := by
  unfold latF
  rw [List.reverse_append, List.reverse_cons, List.reverse_nil, List.nil_append, List.singleton_append, List.find?_cons]
  cases latP k b x <;> simp
theorem latF_more (all r : List LaidR) (k : Key) (b : Int) (h : ∀ l ∈ r, b < l.batch) : latF (all ++ r) k b = latF all k b := by
  unfold latF
  rw [List.reverse_append, List.find?_append]
  have : r.reverse.find? (latP k b) = none := by
    rw [List.find?_eq_none]
    intro x hx
    have := h x (List.mem_reverse.1 hx)
    simp [latP]; omega
  rw [this]; rfl
theorem latF_congr (all : List LaidR) (k : Key) (b c : Int) (h : ∀ l ∈ all, (l.batch ≤ b ↔ l.batch ≤ c)) : latF all k b = latF all k c := by
  have : all.reverse.find? (latP k b) = all.reverse.find? (latP k c) := by
    have h' : ∀ l ∈ all.reverse, latP k b l = latP k c l := fun l hl => by simp [latP, h l (List.mem_reverse.1 hl)]
    generalize all.reverse = r at h'
    induction r with
    | nil => rfl
    | cons x r ih => rw [List.find?_cons, List.find?_cons, h' x (by simp), ih (fun l hl => h' l (by simp [hl]))]
  unfold latF; rw [this]
theorem latF_none (all : List LaidR) (k : Key) (b : Int) (h : ∀ l ∈ all, b < l.batch) : latF all k b = 0 := by
  have := latF_more [] all k b h
  rw [List.nil_append] at this
  exact this
structure VI (x : WS) (i : Nat) : Prop where
  inv : WInv x 0
  ch : ∀ k, x.st.ch k = (x.all.filter (fun l => decide (l.key = k))).map (·.v)
  pos : ∀ l ∈ x.all, 1 ≤ l.batch ∧ l.batch ≤ x.batch
  last : x.last ≤ 1 + i
  batch : x.batch ≤ 2 + 100 * i
  len : x.all.length ≤ 1 + i
theorem vis_lat {x : WS} {i : Nat} (h : VI x i) (k : Key) (b : Int) : visF x.st k b = latF x.all k b := by
  unfold visF latF
  rw [h.ch k, ← List.map_reverse, List.find?_map, ← List.filter_reverse, List.find?_filter]
  have key : ∀ r : List LaidR, (∀ l ∈ r, x.st.ver l.v = some (recOf l)) → r.find? (fun a => decide (decide (a.key = k) = true ∧ (visP x.st b ∘ fun x => x.v) a = true)) = r.find? (latP k b) := by
    intro r hr
    induction r with
    | nil => rfl
    | cons y r ih =>
      rw [List.find?_cons, List.find?_cons, ih (fun l hl => hr l (by simp [hl]))]
      have : decide (decide (y.key = k) = true ∧ (visP x.st b ∘ fun x => x.v) y = true) = latP k b y := by
        simp [visP, hr y (by simp), latP, recOf]
      rw [this]
  rw [key _ (fun l hl => h.inv.here l (List.mem_reverse.1 hl))]
theorem VI.drop {x : WS} {i j : Nat} {l : LaidR} (h : VI x i) (hl : x.all[j]? = some l) : VI (dropW x j l) i where
  inv := h.inv.drop hl
  ch k := by
    have hv : ∀ y ∈ x.all.eraseIdx j, y.v ≠ l.v := fun y hy e => by
      rw [List.mem_eraseIdx_iff_getElem?] at hy
      obtain ⟨m, hm, hm2⟩ := hy
      exact hm (nodup_inj h.inv.nod (i := m) (j := j) (x := l.v) (by rw [List.getElem?_map, hm2, ← e]; rfl) (by rw [List.getElem?_map, hl]; rfl))
    have hx : x.all.eraseIdx j = x.all.filter (fun y => decide (y.v ≠ l.v)) := by
      rw [List.eraseIdx_eq_take_drop_succ]
      have hj := (List.getElem?_eq_some_iff.1 hl)
      have e1 : x.all = x.all.take j ++ l :: x.all.drop (j + 1) := by
        rw [← hj.2, ← List.drop_eq_getElem_cons hj.1, List.take_append_drop]
      have hv' : ∀ y ∈ x.all.take j ++ x.all.drop (j + 1), y.v ≠ l.v := fun y hy => hv y (by rw [List.eraseIdx_eq_take_drop_succ]; exact hy)
      conv => rhs; rw [e1]
      rw [List.filter_append, List.filter_cons, if_neg (by simp), ← List.filter_append, List.filter_eq_self.2 (fun y hy => by simpa using hv' y hy)]
    show (if k = l.key then (x.st.ch k).filter (fun y => decide (y ≠ l.v)) else x.st.ch k) = ((x.all.eraseIdx j).filter _).map _
    rw [hx, h.ch k, List.filter_filter]
    split
    · rw [List.filter_map, List.filter_filter]
      congr 1
      apply List.filter_congr
      intro y _
      simp [Bool.and_comm]
    · rename_i hk
      congr 1
      apply List.filter_congr
      intro y hy
      by_cases e : y.key = k
      · have : y.v ≠ l.v := fun e2 => hk (by
          obtain ⟨m, hm⟩ := List.getElem?_of_mem hy
          have : m = j := nodup_inj h.inv.nod (i := m) (j := j) (x := l.v) (by rw [List.getElem?_map, hm, ← e2]; rfl) (by rw [List.getElem?_map, hl]; rfl)
          subst this
          rw [hl] at hm; cases hm; exact e.symm)
        simp [e, this]
      · simp [e]
  pos l' hl' := h.pos l' ((List.eraseIdx_sublist x.all j).subset hl')
  last := h.last
  batch := h.batch
  len := Nat.le_trans (List.length_eraseIdx_le _ _) h.len
theorem VI.put {x : WS} {i : Nat} (h : VI x i) (hi : StInv x.st) (q : WriteR) {d j : Int} (hd : 1 ≤ d ∧ d ≤ 100) : VI (putW x q d j) (i + 1) where
  inv := h.inv.put hi q hd.1
  ch k := by
    have e1 : (putW x q d j).st.ch k = if k = q.key then x.st.ch q.key ++ [x.st.last + 1] else x.st.ch k := by unfold putW; cases q.fill <;> rfl
    have e2 : (putW x q d j).all.filter (fun l => decide (l.key = k)) = x.all.filter (fun l => decide (l.key = k)) ++ (if k = q.key then [⟨x.st.last + 1, q.key, x.batch + d, j, q.fill, if q.fill && q.cell.is_ then q.cell else ⟨false, 0⟩⟩] else []) := by
      show (x.all ++ [_]).filter _ = _
      rw [List.filter_append]
      by_cases e : k = q.key
      · simp [e]
      · simp [e, Ne.symm e]
    rw [e1, e2, List.map_append]
    split
    · rename_i e; subst e; rw [h.ch]; rfl
    · rw [h.ch, List.map_nil, List.append_nil]
  pos l hl := by
    show 1 ≤ l.batch ∧ l.batch ≤ x.batch + d
    rcases List.mem_append.1 hl with hl | hl
    · have := h.pos l hl; omega
    · rw [List.mem_singleton] at hl; subst hl
      have := h.inv.bat0
      show 1 ≤ x.batch + d ∧ x.batch + d ≤ x.batch + d
      omega
  last := by show x.st.last + 1 ≤ 1 + ((i + 1 : Nat) : Int); have := h.last; have := h.inv.last; omega
  batch := by show x.batch + d ≤ 2 + 100 * ((i + 1 : Nat) : Int); have := h.batch; omega
  len := by show (x.all ++ [_]).length ≤ 1 + (i + 1); have := h.len; simp; omega
theorem VI.step {x : WS} {i : Nat} (h : VI x i) : VI x (i + 1) := ⟨h.inv, h.ch, h.pos, by have := h.last; omega, by have := h.batch; omega, by have := h.len; omega⟩
theorem VI.wrote {x x' : WS} {i : Nat} {q : WriteR} (h : VI x i) (hi : StInv x.st) (hw : Wrote x q x') : VI x' (i + 1) := by
  obtain ⟨x1, h1, h2⟩ := hw
  have hx1 : VI x1 i ∧ StInv x1.st := by
    rcases h1 with rfl | ⟨_, j, l, hl, rfl⟩
    · exact ⟨h, hi⟩
    · exact ⟨h.drop hl, rem_inv hi (h.inv.here l (List.mem_of_getElem? hl))⟩
  rcases h2 with rfl | ⟨d, j, hd, hd2, _, _, rfl⟩
  · exact hx1.1.step
  · exact hx1.1.put hx1.2 q ⟨hd, hd2⟩
theorem ws1_vi (p : Int) : VI (ws1 p) 0 where
  inv := ws1_inv p
  ch k := by
    show (if k = k9 then [] ++ [(0 : Int) + 1] else []) = _
    by_cases e : k = k9
    · subst e; rfl
    · rw [if_neg e]; simp [ws1, Ne.symm e]
  pos l hl := by
    rw [show (ws1 p).all = [⟨1, k9, 1, 0, false, ⟨false, 0⟩⟩] from rfl, List.mem_singleton] at hl
    subst hl
    exact ⟨(by decide : (1 : Int) ≤ 1), (by decide : (1 : Int) ≤ 2)⟩
  last := (by decide : (1 : Int) ≤ 1 + 0)
  batch := (by decide : (2 : Int) ≤ 2 + 100 * 0)
  len := (by decide : 1 ≤ 1 + 0)
/-- A write that takes nothing out. -/
theorem Wrote.keeps {x x' : WS} {q : WriteR} (hw : Wrote x q x') (hd : q.drop < 0) : x.batch ≤ x'.batch ∧ ∃ r, x'.all = x.all ++ r ∧ ∀ l ∈ r, x.batch < l.batch := by
  obtain ⟨x1, h1, h2⟩ := hw
  obtain rfl : x1 = x := h1.elim id (fun h => by omega)
  rcases h2 with rfl | ⟨d, j, hd1, _, _, _, rfl⟩
  · exact ⟨by omega, [], by simp, fun l hl => by cases hl⟩
  · refine ⟨by show x1.batch ≤ x1.batch + d; omega, [_], rfl, fun l hl => ?_⟩
    rw [List.mem_singleton] at hl; subst hl
    show x1.batch < x1.batch + d
    omega

abbrev WY := Nat × StH × Value × (Nat → Prop)
def wfp (wb : Nat) (y : WY) (b : Nat) : Prop := fpS y.1 y.2.1 b ∨ y.2.2.2 b ∨ b = wb
theorem wlt {wb : Nat} {x : WS} {w : World} {y : WY} (h : WR w wb y.1 x y.2.1 y.2.2.1 y.2.2.2) : ∀ b, wfp wb y b → b < w.heap.size := by
  rintro b (hb | hb | hb)
  · exact h.store.lt b hb
  · exact (h.sep b hb).2.2
  · subst hb; exact h.blk.lt
/-- the laws' world: a store, and what must be in it -/
def wldH (wb : Nat) (x : WS) : HP := oldH (fun w (y : WY) => WR w wb y.1 x y.2.1 y.2.2.1 y.2.2.2) (wfp wb) (fun h => wlt h) (fun h hk hd => h.kpN hk hd)
theorem begun_tr (c : Int) : Tr Try.prog 4 [.int .i64 c] [] [] fun v m => ∃ wb p, v = .tuple #[.pointer (some ⟨wb, 0, none⟩), .bool true] ∧ m = [wldH wb (ws1 p)] := by
  intro w S0 H
  refine Ret.mono (begun_ret c w) ?_
  rintro v w' ⟨wb, s, h, av, F, p, rfl, h1, h2, h3⟩
  exact ⟨_, ⟨wb, p, rfl, rfl⟩, H.new (S := wfp wb (s, h, av, F)) h3 ⟨(s, h, av, F), h1, fun _ => Iff.rfl⟩ h2⟩
theorem write_tr (wb : Nat) (x : WS) (q : WriteR) (e : Nat) (hi : WInv x e) (he : e ≤ 500) (hb : x.batch ≤ 1099511627000) (hl : x.last ≤ 17592186043000) (hal : x.all.length ≤ 4194304) :
    Tr Try.prog 5 [.pointer (some ⟨wb, 0, none⟩), .agg #[.int .i64 q.key.table, .int .i64 q.key.row, .int .i64 q.later, .int .i64 q.index, .bool q.fill, .bool q.cell.is_, .int .i64 q.cell.value, .int .i64 q.drop]] [] [wldH wb x] fun v m => ∃ x', (v = .bool true ∧ Wrote x q x') ∧ m = [wldH wb x'] :=
  Tr.of_oldE (Rp' := fun x' w (y : WY) => WR w wb y.1 x' y.2.1 y.2.2.1 y.2.2.2) (kp' := fun x' {w y w' T} h hk hd => h.kpN hk hd) fun w y hy => by
    refine Ret.mono (write_ret wb y.1 x y.2.1 y.2.2.1 y.2.2.2 q e w hy hi he hb hl hal) ?_
    rintro v w' ⟨rfl, x', h', av', F', h1, h2, h3, h4⟩
    refine ⟨x', ⟨rfl, h2⟩, (y.1, h', av', F'), h1, ?_, h4⟩
    rintro b (hb | hb | hb)
    · rcases h3 b (.inl hb) with h | h | h
      · exact .inl (.inl h)
      · exact .inl (.inr (.inl h))
      · exact .inr h
    · rcases h3 b (.inr hb) with h | h | h
      · exact .inl (.inl h)
      · exact .inl (.inr (.inl h))
      · exact .inr h
    · exact .inl (.inr (.inr hb))
theorem wldInv {w0 w : World} {S0 : Nat → Prop} {R L : List HP} {wb : Nat} {x : WS} (H : St w0 S0 R w L) (k : Nat) (hA : getH L k = wldH wb x) : StInv x.st := by
  obtain ⟨S, y, hy, _⟩ := H.get k hA
  exact hy.store.inv
theorem stoPar {w0 w : World} {S0 : Nat → Prop} {R L : List HP} {s : Nat} {st : StS} (H : St w0 S0 R w L) (k : Nat) (hA : getH L k = stoH s st) : 1 ≤ st.parts ∧ st.parts ≤ 256 ∧ StInv st := by
  obtain ⟨S, h, hs, _⟩ := H.get k hA
  have h1 := hs.parts
  have h2 := hs.dict.pos
  exact ⟨by omega, by omega, hs.inv⟩
theorem wldOpen {w0 w : World} {S0 : Nat → Prop} {R L : List HP} {wb : Nat} {x : WS} (H : St w0 S0 R w L) (k : Nat) (hA : getH L k = wldH wb x) (hlt : hasH L k = true) : ∃ s a c, St w0 S0 R w (putsH L [k] [blkH wb #[.pointer (some ⟨s, 0, none⟩), .slice a x.all.length c, .int .i64 x.last, .int .i64 x.batch] 36, slH encLaid 8 52 a x.all.length c x.all, stoH s x.st]) := by
  obtain ⟨m, ⟨s, a, c, rfl⟩, H'⟩ := H.openG k hA hlt (φ := fun m => ∃ s a c, m = [blkH wb #[.pointer (some ⟨s, 0, none⟩), .slice a x.all.length c, .int .i64 x.last, .int .i64 x.batch] 36, slH encLaid 8 52 a x.all.length c x.all, stoH s x.st]) (fun S hS => by
    obtain ⟨y, hy, hfp⟩ := hS
    obtain ⟨a, c, e, hac⟩ := hy.alls.form
    have hal := hy.alls
    have hb := hy.blk
    rw [e] at hal hb
    obtain ⟨S2, h2, h2f⟩ := slH_mk hal
    refine ⟨_, ⟨y.1, a, c, rfl⟩, _, OwnF.three (blkH_mk hb) h2 (S3 := fpS y.1 y.2.1) ⟨y.2.1, hy.store, fun _ => Iff.rfl⟩ ?_ ?_ ?_, ?_⟩
    · rintro b rfl hb2
      exact (hy.sep _ (h2f _ hb2)).2.1 rfl
    · rintro b rfl hb2
      exact hy.wbn hb2
    · exact fun b hb2 hb3 => (hy.sep b (h2f b hb2)).1 hb3
    · rintro b ⟨i, (⟨_, hb2⟩ | ⟨_, hb2⟩ | ⟨_, hb2⟩)⟩
      · exact (hfp b).2 (.inr (.inr hb2))
      · exact (hfp b).2 (.inr (.inl (h2f b hb2)))
      · exact (hfp b).2 (.inl hb2))
  exact ⟨s, a, c, H'⟩
/-! plain -/
def lastF (l : List Int) : Int := l.getLast?.getD 0
def keyP (k : Key) (l : LaidR) : Bool := decide (l.key = k)
def restF (x : WS) (k : Key) (q : Nat) : List Int := ((x.all.take q).filter (keyP k)).map (·.v)
def cntF (x : WS) (k : Key) (q : Nat) : Nat := ((x.all.drop q).filter (keyP k)).length
theorem find_all {α : Type} {p : α → Bool} {l : List α} (h : ∀ y ∈ l, p y = true) : l.find? p = l.head? := by
  cases l with
  | nil => rfl
  | cons a l => rw [List.find?_cons, h a (by simp)]; rfl
theorem newest_last {x : WS} {i : Nat} (h : VI x i) (hi : StInv x.st) (hb : x.batch ≤ 1099511627776) (k : Key) : visF x.st k 1099511627776 = lastF (x.st.ch k) := by
  unfold visF lastF
  rw [find_all (fun v hv => ?_), List.head?_reverse]
  rw [List.mem_reverse] at hv
  obtain ⟨r, h1, _⟩ := hi.chv k v hv
  unfold visP
  rw [h1]
  have := h.inv.bat v r h1
  simp; omega
theorem ch_split {x : WS} {i : Nat} (h : VI x i) (k : Key) (q : Nat) : x.st.ch k = restF x k q ++ ((x.all.drop q).filter (keyP k)).map (·.v) := by
  rw [h.ch k]
  show (x.all.filter (keyP k)).map _ = _
  unfold restF
  rw [← List.map_append, ← List.filter_append, List.take_append_drop]
theorem rest_succ {x : WS} {k : Key} {p : Nat} {l : LaidR} (hl : x.all[p]? = some l) : restF x k (p + 1) = restF x k p ++ (if l.key = k then [l.v] else []) := by
  unfold restF
  rw [List.take_add_one, hl, Option.toList_some, List.filter_append, List.map_append]
  by_cases e : l.key = k
  · simp [keyP, e]
  · simp [keyP, e]
theorem cnt_succ {x : WS} {k : Key} {p : Nat} {l : LaidR} (hl : x.all[p]? = some l) : cntF x k p = (if l.key = k then 1 else 0) + cntF x k (p + 1) := by
  unfold cntF
  rw [drop_at hl, List.filter_cons]
  by_cases e : l.key = k
  · simp [keyP, e]; omega
  · simp [keyP, e]
theorem cnt_le (x : WS) (k : Key) (q : Nat) : cntF x k q ≤ x.all.length := by
  unfold cntF
  have h1 := List.length_filter_le (keyP k) (x.all.drop q)
  have h2 : (x.all.drop q).length = x.all.length - q := List.length_drop
  omega
theorem cnt_ch {x : WS} {i : Nat} (h : VI x i) (k : Key) : cntF x k 0 = (x.st.ch k).length := by
  rw [ch_split h k 0]
  unfold restF cntF
  simp
theorem last_snoc (l : List Int) (v : Int) : lastF (l ++ [v]) = v := by unfold lastF; simp
theorem last_nil : lastF [] = 0 := rfl
theorem prev_split : ∀ (r : List Int) {x : Int} (d : List Int) (p : Int), x ∉ r → prevF (r ++ x :: d) x p = r.getLast?.getD p
  | [], x, d, p, _ => by simp [prevF]
  | y :: r, x, d, p, h => by
    rw [List.mem_cons, not_or] at h
    rw [List.cons_append]
    unfold prevF
    rw [if_neg (fun e => h.1 e.symm), prev_split r d y h.2, List.getLast?_cons]
    rfl
structure At (x : WS) (k : Key) (p : Nat) (l : LaidR) : Prop where
  ver : verF x.st l.v = ⟨l.batch, l.index, l.key, l.fill, l.cell⟩
  ref : refE x.st l.v = 0
  bef : befF x.st l.v = lastF (restF x k p)
  chn : ∀ c, (chnF x.st k)[cntF x k (p + 1)]? = some c → c = ⟨l.batch, l.index, l.fill, l.cell⟩
  lt : cntF x k (p + 1) < (chnF x.st k).length
  rest : restF x k (p + 1) = restF x k p ++ [l.v]
  cnt : cntF x k p = cntF x k (p + 1) + 1
theorem at_key {x : WS} {i : Nat} (h : VI x i) (hi : StInv x.st) {k : Key} {p : Nat} {l : LaidR} (hl : x.all[p]? = some l) (hk : l.key = k) : At x k p l := by
  have hver := h.inv.here l (List.mem_of_getElem? hl)
  have hv : verF x.st l.v = ⟨l.batch, l.index, l.key, l.fill, l.cell⟩ := by unfold verF; rw [hver]; rfl
  have hr : restF x k (p + 1) = restF x k p ++ [l.v] := by rw [rest_succ hl, if_pos hk]
  have hc : cntF x k p = cntF x k (p + 1) + 1 := by rw [cnt_succ hl, if_pos hk]; omega
  have hs := ch_split h k (p + 1)
  rw [hr, List.append_assoc] at hs
  have hlen : (chnF x.st k).length = (x.st.ch k).length := by unfold chnF; simp
  have hnm : l.v ∉ restF x k p := fun hm => by
    have hp := (hi.sorted k)
    rw [hs, List.pairwise_append] at hp
    have := (hp.2.2 l.v hm l.v (by simp)).1
    omega
  refine ⟨hv, by unfold refE; rw [hver]; rfl, ?_, ?_, ?_, hr, hc⟩
  · unfold befF
    rw [hver]
    show prevF (x.st.ch l.key) l.v 0 = _
    rw [hk, hs]
    exact prev_split _ _ _ hnm
  · intro c hcx
    have e : (x.st.ch k).reverse[cntF x k (p + 1)]? = some l.v := by
      rw [hs, List.reverse_append, List.reverse_append, List.append_assoc]
      have e1 : cntF x k (p + 1) = (((x.all.drop (p + 1)).filter (keyP k)).map (·.v)).reverse.length := by unfold cntF; simp
      rw [List.getElem?_append_right (by omega), e1, Nat.sub_self]
      rfl
    unfold chnF at hcx
    rw [List.getElem?_map, e] at hcx
    simp only [Option.map_some, Option.some.injEq] at hcx
    rw [← hcx, hv]; rfl
  · rw [hlen, ← cnt_ch h k]
    have : cntF x k p ≤ cntF x k 0 := by
      unfold cntF
      exact ((List.drop_sublist p x.all).filter _).length_le
    omega
theorem newest_pos {x : WS} {i : Nat} (h : VI x i) (hi : StInv x.st) (hb : x.batch ≤ 1099511627776) {k : Key} (hk : x.st.ch k ≠ []) : visF x.st k 1099511627776 ≠ 0 := by
  rw [newest_last h hi hb k]
  unfold lastF
  rw [List.getLast?_eq_some_getLast hk]
  obtain ⟨r, h1, _⟩ := hi.chv k _ (List.getLast_mem hk)
  have := (hi.verb _ r h1).1
  show (x.st.ch k).getLast hk ≠ 0
  omega
/-! counting -/
theorem cnt_add {α : Type} {p q r : α → Bool} : ∀ {l : List α}, (∀ y ∈ l, r y = (p y || q y)) → (∀ y ∈ l, ¬ (p y = true ∧ q y = true)) → l.countP r = l.countP p + l.countP q
  | [], _, _ => rfl
  | a :: l, h, h2 => by
    have ih := cnt_add (l := l) (fun y hy => h y (by simp [hy])) (fun y hy => h2 y (by simp [hy]))
    rw [List.countP_cons, List.countP_cons, List.countP_cons, ih, h a (by simp)]
    have := h2 a (by simp)
    cases hp : p a <;> cases hq : q a
    · simp
    · simp; omega
    · simp; omega
    · exact absurd ⟨hp, hq⟩ this
def cntP (x : WS) (p : Int) : Nat := x.all.countP (fun l => decide (partF x.st l.key < p))
def cntK (x : WS) (ks : List Key) : Nat := x.all.countP (fun l => decide (l.key ∈ ks))
theorem cntK_nil (x : WS) : cntK x [] = 0 := by unfold cntK; simp
theorem cntK_le (x : WS) (ks : List Key) : cntK x ks ≤ x.all.length := List.countP_le_length
theorem cntP_le (x : WS) (p : Int) : cntP x p ≤ x.all.length := List.countP_le_length
theorem cntK_succ {x : WS} {ks : List Key} {j : Nat} {k : Key} (hk : ks[j]? = some k) (hr : RisK ks) : cntK x (ks.take (j + 1)) = cntK x (ks.take j) + cntF x k 0 := by
  unfold cntK cntF
  rw [List.drop_zero, ← List.countP_eq_length_filter]
  refine cnt_add (fun y _ => ?_) (fun y _ h => ?_)
  · rw [List.take_add_one, hk, Option.toList_some]
    simp [keyP, Bool.decide_or]
  · simp only [keyP, decide_eq_true_eq] at h
    obtain ⟨h1, rfl⟩ := h
    obtain ⟨i, hi⟩ := List.getElem?_of_mem h1
    rw [List.getElem?_take] at hi
    split at hi
    · obtain ⟨q1, q2⟩ := List.getElem?_eq_some_iff.1 hi
      obtain ⟨q3, q4⟩ := List.getElem?_eq_some_iff.1 hk
      have := List.pairwise_iff_getElem.1 hr.2 i j q1 q3 (by omega)
      rw [q2, q4] at this
      exact ltK_irrefl _ this
    · cases hi
theorem ch_ne {x : WS} {i : Nat} (h : VI x i) {l : LaidR} (hl : l ∈ x.all) : x.st.ch l.key ≠ [] := by
  rw [h.ch]
  intro e
  have : l.v ∈ (x.all.filter (fun y => decide (y.key = l.key))).map (·.v) := List.mem_map.2 ⟨l, List.mem_filter.2 ⟨hl, by simp⟩, rfl⟩
  rw [e] at this; cases this
theorem cntP_succ {x : WS} {i : Nat} (h : VI x i) {p : Int} {ks : List Key} (hk : IsKeys x.st p ks) : cntP x (p + 1) = cntP x p + cntK x ks := by
  unfold cntP cntK
  refine cnt_add (fun y hy => ?_) (fun y hy h2 => ?_)
  · have := hk.2 y.key
    have hc := ch_ne h hy
    have e : y.key ∈ ks ↔ partF x.st y.key = p := by
      rw [this]; exact ⟨fun h => h.2, fun h => ⟨hc, h⟩⟩
    rw [← Bool.decide_or]
    apply decide_eq_decide.2
    rw [e]; omega
  · simp only [decide_eq_true_eq] at h2
    have := ((hk.2 y.key).1 h2.2).2
    have h3 := h2.1
    unfold partF at h3
    omega
theorem cntP_begin {x : WS} (hp : 1 ≤ x.st.parts) : cntP x (-1) = 0 := by
  unfold cntP
  rw [List.countP_eq_zero]
  intro y _
  have := mod_pos (hashF y.key) hp
  simp only [decide_eq_true_eq]
  unfold partF; omega
theorem cntP_end {x : WS} (hp : 1 ≤ x.st.parts) : cntP x (x.st.parts + 1) = x.all.length := by
  unfold cntP
  rw [List.countP_eq_length]
  intro y _
  have := mod_pos (hashF y.key) hp
  simp only [decide_eq_true_eq]
  unfold partF; omega
set_option maxRecDepth 100000 in
theorem chained_tr (wb s : Nat) (x : WS) (a : Option Addr) (c : Nat) (k : Key) (i0 : Nat) (hvi : VI x i0) (hsi : StInv x.st) (hb : x.batch ≤ 1099511627000) (hll : x.last ≤ 1048577) (hal : x.all.length ≤ 1048577) : Tr Try.prog 13 [.pointer (some ⟨wb, 0, none⟩), .agg #[.int .i64 k.table, .int .i64 k.row]] [blkH wb #[.pointer (some ⟨s, 0, none⟩), .slice a x.all.length c, .int .i64 x.last, .int .i64 x.batch] 36, rdH encLaid 8 a x.all.length c x.all, stoH s x.st] [] (fun v m => v = .int .i64 ((cntF x k 0 : Nat) : Int) ∧ m = []) := by
  intro w0 S0 H0
  have hlst := hvi.inv.last
  have hclen : (chnF x.st k).length = cntF x k 0 := by rw [cnt_ch hvi k]; unfold chnF; simp
  refine enterR Try.func13 rfl Try.ntmps13 rfl ?_
  intro g0
  refine seq_ ?_
  refine region_ ?_
  refine wl_boxH H0 (v := .agg #[.int .i64 k.table, .int .i64 k.row]) rfl rfl ?_
  intro bk w2 H2
  refine wl_valE (v := .int .i64 (0 : Int)) rfl (rf_assign rfl) rfl ?_
  refine wl_nil ?_
  refine thn ?_
  refine seq_ ?_
  refine region_h (S := (fun wq => St w0 S0 [blkH wb #[.pointer (some ⟨s, 0, none⟩), .slice a x.all.length c, .int .i64 x.last, .int .i64 x.batch] 36, rdH encLaid 8 a x.all.length c x.all, stoH s x.st] wq [blkH bk #[.int .i64 k.table, .int .i64 k.row] 28])) mixedP ?_
  intro w3 hk3
  have H3 := H2.keep hk3
  have hS3 : St w0 S0 [blkH wb #[.pointer (some ⟨s, 0, none⟩), .slice a x.all.length c, .int .i64 x.last, .int .i64 x.batch] 36, rdH encLaid 8 a x.all.length c x.all, stoH s x.st] w3 [blkH bk #[.int .i64 k.table, .int .i64 k.row] 28] := H3.pick' [0] rfl rfl
  refine wh_take (i := 0) (v := .pointer (some ⟨wb, 0, none⟩)) rfl (by kernel_rfl) (by kernel_rfl) (by kernel_rfl) hS3 rfl (fun wq hq => rf_move rfl) rfl ?_
  refine wh_take (i := 1) (v := .pointer (some ⟨wb, 0, none⟩)) rfl (by kernel_rfl) (by kernel_rfl) (by kernel_rfl) hS3 rfl (fun wq hq => rf_nilCheckP rfl rfl) rfl ?_
  refine wh_take (i := 2) (v := .pointer (some ⟨wb, 0, none⟩)) rfl (by kernel_rfl) (by kernel_rfl) (by kernel_rfl) hS3 rfl (fun wq hq => rf_fieldAddr Try.underlying36 rfl ti33 rfl rfl) rfl ?_
  refine wh_take (i := 3) (v := .pointer (some ⟨s, 0, none⟩)) rfl (by kernel_rfl) (by kernel_rfl) (by kernel_rfl) hS3 rfl (fun wq hq => rf_load Try.underlying33 rfl rfl rfl ((hq.blkR 0 rfl).cell rfl)) rfl ?_
  refine wh_take (i := 4) (v := .agg #[.int .i64 k.table, .int .i64 k.row]) rfl (by kernel_rfl) (by kernel_rfl) (by kernel_rfl) hS3 rfl (fun wq hq => rf_loadBlk Try.underlying28 rfl ti28 rfl rfl (hq.blk 0 rfl) (leb rfl)) rfl ?_
  refine wh_one (i := 5) (by kernel_rfl) rfl ?_
  refine wl_tr H3 rfl [] (chain_tr s x.st k (by omega)) rfl (.ro 2 Le.rfl .nil) (rf_call Try.call24 rfl rfl) rfl ?_
  rintro _ w4 _ ⟨ca, cc, rfl, rfl⟩ H4
  refine wl_nil ?_
  have hS5 : St w0 S0 [blkH wb #[.pointer (some ⟨s, 0, none⟩), .slice a x.all.length c, .int .i64 x.last, .int .i64 x.batch] 36, rdH encLaid 8 a x.all.length c x.all, stoH s x.st] w4 [blkH bk #[.int .i64 k.table, .int .i64 k.row] 28] := H4.pick' [0] rfl rfl
  refine wh_back hS5 ?_
  refine wh_take (i := 6) (v := .slice ca ((chnF x.st k).length) cc) rfl (by kernel_rfl) (by kernel_rfl) (by kernel_rfl) hS5 rfl (fun wq hq => rf_assign rfl) rfl ?_
  refine wh_done (by kernel_rfl) ?_
  refine thn ?_
  refine seq_ ?_
  refine region_ ?_
  refine wl_valE (v := .int .i64 (0 : Int)) rfl (rf_assign rfl) rfl ?_
  refine wl_nil ?_
  refine thn ?_
  refine seq_ ?_
  refine region_q mixedP (by kernel_rfl) ?_
  refine qt_valE (v := .pointer (some ⟨wb, 0, none⟩)) rfl (fun wq hq => rf_move rfl) rfl ?_
  refine qt_valE (v := .pointer (some ⟨wb, 0, none⟩)) rfl (fun wq hq => rf_nilCheckP rfl rfl) rfl ?_
  refine qt_valE (v := .pointer (some ⟨wb, 0, none⟩)) rfl (fun wq hq => rf_fieldAddr Try.underlying36 rfl ti33 rfl rfl) rfl ?_
  refine qt_valE (v := .pointer (some ⟨s, 0, none⟩)) rfl (fun wq hq => rf_load Try.underlying33 rfl rfl rfl (((H4.keep hq).blkR 0 rfl).cell rfl)) rfl ?_
  refine qt_valE (v := .agg #[.int .i64 k.table, .int .i64 k.row]) rfl (fun wq hq => rf_loadBlk Try.underlying28 rfl ti28 rfl rfl ((H4.keep hq).blk 0 rfl) (leb rfl)) rfl ?_
  refine qt_ret (v := .int .i64 (visF x.st k 1099511627776)) rfl (fun wq hq => ((newest_tr k (by omega)).quiet (H4.keep hq) (.ro 2 Le.rfl .nil) (by rintro _ _ ⟨rfl, rfl⟩; exact rfl)).mono (fun _ _ h => ⟨h.1, hq.trans h.2⟩)) (fun wq hq => rf_call Try.call12 rfl rfl) ?_
  refine qt_valE (v := .int .i64 (visF x.st k 1099511627776)) rfl (fun wq hq => rf_assign rfl) rfl ?_
  refine qt_nil ?_
  intro w6 hk6
  have H6 := H4.keep hk6
  refine thn ?_
  refine seq_ ?_
  refine seq_ ?_
  refine region_ ?_
  refine wl_valE (v := .pointer (some ⟨wb, 0, none⟩)) rfl (rf_move rfl) rfl ?_
  refine wl_valE (v := .pointer (some ⟨wb, 0, none⟩)) rfl (rf_nilCheckP rfl rfl) rfl ?_
  refine wl_valE (v := .pointer (some ⟨wb, 1, none⟩)) rfl (rf_fieldAddr Try.underlying36 rfl ti34 rfl rfl) rfl ?_
  refine wl_valE (v := .slice a x.all.length c) rfl (rf_load Try.underlying34 rfl rfl rfl ((H6.blkR 0 rfl).cell rfl)) rfl ?_
  refine wl_valE (v := .int .i64 ((x.all.length : Nat) : Int)) rfl (rf_len_slice Try.underlying34 rfl rfl) rfl ?_
  refine wl_valE (v := .int .i64 (((x.all.length : Nat) : Int) - (1 : Int))) rfl (rf_sub rfl rfl rfl rfl (IntWalk.i64_in _ (by omega))) rfl ?_
  refine wl_valE (v := .int .i64 (((x.all.length : Nat) : Int) - (1 : Int))) rfl (rf_assign rfl) rfl ?_
  refine wl_nil ?_
  refine thn ?_
  refine block_ ?_
  refine loop_ (fun qk_ qf_ qw_ => ∃ (g : Nat → Value) (q n : Nat) (v : Int), qf_ = upds g [(0, .pointer (some ⟨wb, 0, none⟩)), (3, .pointer (some ⟨bk, 0, none⟩)), (5, .slice ca ((chnF x.st k).length) cc), (6, .int .i64 ((n : Nat) : Int)), (7, .int .i64 v), (8, .int .i64 ((q : Int) - 1))] ∧ qk_ = q ∧ (q ≤ x.all.length) ∧ (v = lastF (restF x k q)) ∧ (n = cntF x k q) ∧ St w0 S0 [blkH wb #[.pointer (some ⟨s, 0, none⟩), .slice a x.all.length c, .int .i64 x.last, .int .i64 x.batch] 36, rdH encLaid 8 a x.all.length c x.all, stoH s x.st] qw_ [blkH bk #[.int .i64 k.table, .int .i64 k.row] 28, slH encVer 5 72 ca ((chnF x.st k).length) cc (chnF x.st k)]) (x.all.length) ?_ ?_
  · refine ⟨_, x.all.length, 0, visF x.st k 1099511627776, upds_self ⟨rfl, rfl, rfl, rfl, rfl, rfl, trivial⟩, rfl, Nat.le_refl _, by rw [newest_last hvi hsi (by omega) k]; unfold restF; rw [List.take_length]; have := hvi.ch k; rw [this]; rfl, by unfold cntF; rw [List.drop_length]; rfl, H6.pick' [0, 1] rfl rfl⟩
  · rintro lk0 _ wl0 ⟨gl0, q, n, v, rfl, hlk0, hq, hv, hn, HL0⟩
    refine seq_ ?_
    refine seq_ ?_
    refine region_ ?_
    refine wl_valE (v := .int .i64 ((q : Int) - 1)) rfl (rf_move rfl) rfl ?_
    refine wl_valE (v := .bool (decide ((0 : Int) ≤ (q : Int) - 1))) rfl (rf_geq rfl rfl rfl rfl) rfl ?_
    refine wl_nil ?_
    refine thn ?_
    refine cond_ (t := decide ((0 : Int) ≤ (q : Int) - 1)) rfl rfl (fun c33 => ?_) (fun c33 => ?_)
    · have c33p := of_decide_eq_true c33
      obtain ⟨p, rfl⟩ : ∃ p, q = p + 1 := ⟨q - 1, by omega⟩
      have hn7 := rd_len (HL0.rdR 1 Le.rfl)
      obtain ⟨lx, hlx⟩ : ∃ q_, x.all[p]? = some q_ := ⟨_, List.getElem?_eq_getElem (by omega)⟩
      refine skip_ ?_
      refine thn ?_
      refine seq_ ?_
      refine block_ ?_
      refine seq_ ?_
      refine region_ ?_
      refine wl_valE (v := .pointer (some ⟨wb, 0, none⟩)) rfl (rf_move rfl) rfl ?_
      refine wl_valE (v := .pointer (some ⟨wb, 0, none⟩)) rfl (rf_nilCheckP rfl rfl) rfl ?_
      refine wl_valE (v := .pointer (some ⟨wb, 1, none⟩)) rfl (rf_fieldAddr Try.underlying36 rfl ti34 rfl rfl) rfl ?_
      refine wl_valE (v := .slice a x.all.length c) rfl (rf_load Try.underlying34 rfl rfl rfl ((HL0.blkR 0 rfl).cell rfl)) rfl ?_
      refine wl_valE (v := .int .i64 ((p : Nat) : Int)) rfl (rf_move rfl) (congrArg (Value.int .i64) (by omega)) ?_
      refine wl_valE (v := .pointer (some ⟨ab a, ao a + p * 8, none⟩)) rfl (rf_indexAddrH Try.underlying34 ti52 rfl rfl rfl rfl (by omega) (by omega) (HL0.rdR 1 Le.rfl)) rfl ?_
      refine wl_valE (v := .agg #[.int .i64 lx.v, .int .i64 lx.key.table, .int .i64 lx.key.row, .int .i64 lx.batch, .int .i64 lx.index, .bool lx.fill, .bool lx.cell.is_, .int .i64 lx.cell.value]) rfl (rf_loadAgg (cs := [.int .i64 lx.v, .int .i64 lx.key.table, .int .i64 lx.key.row, .int .i64 lx.batch, .int .i64 lx.index, .bool lx.fill, .bool lx.cell.is_, .int .i64 lx.cell.value]) Try.underlying52 rfl ti52 rfl rfl (el_sub' (rd_el (HL0.rdR 1 Le.rfl) hlx) 0 8 rfl) rfl) rfl ?_
      refine wl_allocH HL0 ti52 ?_
      intro bx w9 H9
      refine wl_storeAggH H9 2 (o := 0) (cs := [.int .i64 lx.v, .int .i64 lx.key.table, .int .i64 lx.key.row, .int .i64 lx.batch, .int .i64 lx.index, .bool lx.fill, .bool lx.cell.is_, .int .i64 lx.cell.value]) (A' := #[.int .i64 lx.v, .int .i64 lx.key.table, .int .i64 lx.key.row, .int .i64 lx.batch, .int .i64 lx.index, .bool lx.fill, .bool lx.cell.is_, .int .i64 lx.cell.value]) rfl rfl ti52 rfl rfl rfl rfl rfl oneAll (leb rfl) rfl ?_
      intro w10 H10
      refine wl_nil ?_
      refine thn ?_
      refine seq_ ?_
      refine seq_ ?_
      refine region_ ?_
      refine wl_valE (v := .pointer (some ⟨bx, 1, none⟩)) rfl (rf_fieldAddr Try.underlying52 rfl ti28 rfl rfl) rfl ?_
      refine wl_valE (v := .agg #[.int .i64 lx.key.table, .int .i64 lx.key.row]) rfl (rf_loadBlk Try.underlying28 rfl ti28 rfl rfl (H10.blk 2 rfl) (leb rfl)) rfl ?_
      refine wl_valE (v := .agg #[.int .i64 k.table, .int .i64 k.row]) rfl (rf_loadBlk Try.underlying28 rfl ti28 rfl rfl (H10.blk 0 rfl) (leb rfl)) rfl ?_
      refine wl_valE (v := .bool (!decide (lx.key = k))) rfl (rf_neqS (by kernel_rfl) (eqKey lx.key k _) rfl rfl rfl rfl) rfl ?_
      refine wl_nil ?_
      refine thn ?_
      refine cond_ (t := !decide (lx.key = k)) rfl rfl (fun c46 => ?_) (fun c46 => ?_)
      · have c46p := of_decide_eq_false (bnotT c46)
        refine exit_ ?_
        refine thx (blx ?_)
        refine thn ?_
        refine region_ ?_
        refine wl_valE (v := .int .i64 (((p + 1) : Int) - 1)) rfl (rf_move rfl) rfl ?_
        refine wl_valE (v := .int .i64 ((p : Int) - 1)) rfl (rf_sub rfl rfl rfl rfl (by rw [IntWalk.i64_in _ (by omega)]; omega)) rfl ?_
        refine wl_valE (v := .int .i64 ((p : Int) - 1)) rfl (rf_assign rfl) rfl ?_
        refine wl_nil ?_
        refine thn ?_
        refine ⟨p, _, rfl, (by omega), _, p, n, v, upds_self ⟨rfl, rfl, rfl, rfl, rfl, rfl, trivial⟩, rfl, by omega, by rw [hv, rest_succ hlx, if_neg c46p, List.append_nil], by rw [hn, cnt_succ hlx, if_neg c46p, Nat.zero_add], H10.pick' [0, 1] rfl rfl⟩
      · have c46p := of_decide_eq_true (bnotF c46)
        have hat := at_key hvi hsi hlx c46p
        have hv2 : v = lx.v := by rw [hv, hat.rest, last_snoc]
        have hnlt : n < (chnF x.st k).length := by rw [hn]; exact hat.lt
        have hn11 := slH_len H10 1 rfl
        obtain ⟨cx, hcx⟩ : ∃ q_, (chnF x.st k)[n]? = some q_ := ⟨_, List.getElem?_eq_getElem (by omega)⟩
        have hcx2 : cx = ⟨lx.batch, lx.index, lx.fill, lx.cell⟩ := hat.chn cx (by rw [← hn]; exact hcx)
        subst hv2
        refine skip_ ?_
        refine thn ?_
        refine seq_ ?_
        refine region_ ?_
        refine wl_valE (v := .pointer (some ⟨wb, 0, none⟩)) rfl (rf_move rfl) rfl ?_
        refine wl_valE (v := .pointer (some ⟨wb, 0, none⟩)) rfl (rf_nilCheckP rfl rfl) rfl ?_
        refine wl_valE (v := .pointer (some ⟨wb, 0, none⟩)) rfl (rf_fieldAddr Try.underlying36 rfl ti33 rfl rfl) rfl ?_
        refine wl_valE (v := .pointer (some ⟨s, 0, none⟩)) rfl (rf_load Try.underlying33 rfl rfl rfl ((H10.blkR 0 rfl).cell rfl)) rfl ?_
        refine wl_valE (v := .int .i64 lx.v) rfl (rf_move rfl) rfl ?_
        refine wl_tr H10 rfl [] (look_tr lx.v) rfl (.ro 2 Le.rfl .nil) (rf_call Try.call25 rfl rfl) rfl ?_
        rintro _ w12 _ ⟨rfl, rfl⟩ H12
        rw [hat.ver, hat.ref]
        refine wl_valE (v := .tuple #[.agg #[.int .i64 lx.batch, .int .i64 lx.index, .bool lx.fill, .bool lx.cell.is_, .int .i64 lx.cell.value], .int .i64 0]) rfl (rf_move rfl) rfl ?_
        refine wl_valE (v := .agg #[.int .i64 lx.batch, .int .i64 lx.index, .bool lx.fill, .bool lx.cell.is_, .int .i64 lx.cell.value]) rfl (rf_extract rfl rfl rfl) rfl ?_
        refine wl_valE (v := .int .i64 0) rfl (rf_extract rfl rfl rfl) rfl ?_
        refine wl_allocH H12 ti72 ?_
        intro ba w14 H14
        refine wl_storeAggH H14 3 (o := 0) (cs := [.int .i64 lx.batch, .int .i64 lx.index, .bool lx.fill, .bool lx.cell.is_, .int .i64 lx.cell.value]) (A' := #[.int .i64 lx.batch, .int .i64 lx.index, .bool lx.fill, .bool lx.cell.is_, .int .i64 lx.cell.value]) rfl rfl ti72 rfl rfl rfl rfl rfl oneAll (leb rfl) rfl ?_
        intro w15 H15
        try dsimp only [putsH, setH, List.cons_append, List.nil_append] at H15
        refine wl_valE (v := .int .i64 0) rfl (rf_assign rfl) rfl ?_
        refine wl_nil ?_
        refine thn ?_
        refine seq_ ?_
        refine region_ ?_
        refine wl_valE (v := .pointer (some ⟨wb, 0, none⟩)) rfl (rf_move rfl) rfl ?_
        refine wl_valE (v := .pointer (some ⟨wb, 0, none⟩)) rfl (rf_nilCheckP rfl rfl) rfl ?_
        refine wl_valE (v := .pointer (some ⟨wb, 0, none⟩)) rfl (rf_fieldAddr Try.underlying36 rfl ti33 rfl rfl) rfl ?_
        refine wl_valE (v := .pointer (some ⟨s, 0, none⟩)) rfl (rf_load Try.underlying33 rfl rfl rfl ((H15.blkR 0 rfl).cell rfl)) rfl ?_
        refine wl_valE (v := .int .i64 lx.v) rfl (rf_move rfl) rfl ?_
        refine wl_tr H15 rfl [] (keyOf_tr s x.st lx.v) rfl (.ro 2 Le.rfl .nil) (rf_call Try.call26 rfl rfl) rfl ?_
        rintro _ w16 _ ⟨rfl, rfl⟩ H16
        rw [hat.ver, hat.ref]
        refine wl_valE (v := .tuple #[.agg #[.int .i64 lx.key.table, .int .i64 lx.key.row], .int .i64 0]) rfl (rf_move rfl) rfl ?_
        refine wl_valE (v := .agg #[.int .i64 lx.key.table, .int .i64 lx.key.row]) rfl (rf_extract rfl rfl rfl) rfl ?_
        refine wl_valE (v := .int .i64 0) rfl (rf_extract rfl rfl rfl) rfl ?_
        refine wl_allocH H16 ti28 ?_
        intro bf w18 H18
        refine wl_storeAggH H18 4 (o := 0) (cs := [.int .i64 lx.key.table, .int .i64 lx.key.row]) (A' := #[.int .i64 lx.key.table, .int .i64 lx.key.row]) rfl rfl ti28 rfl rfl rfl rfl rfl oneAll (leb rfl) rfl ?_
        intro w19 H19
        refine wl_valE (v := .int .i64 0) rfl (rf_assign rfl) rfl ?_
        refine wl_nil ?_
        refine thn ?_
        refine seq_ ?_
        refine seq_ ?_
        refine region_q mixedP (by kernel_rfl) ?_
        refine qt_valE (v := .int .i64 lx.v) rfl (fun wq hq => rf_move rfl) rfl ?_
        refine qt_valE (v := .pointer (some ⟨bx, 0, none⟩)) rfl (fun wq hq => rf_fieldAddr Try.underlying52 rfl ti3 rfl rfl) rfl ?_
        refine qt_valE (v := .int .i64 lx.v) rfl (fun wq hq => rf_load Try.underlying3 rfl rfl rfl (((H19.keep hq).blk 2 rfl).cell rfl)) rfl ?_
        refine qt_valE (v := .bool false) rfl (fun wq hq => rf_neq rfl rfl rfl rfl) (congrArg Value.bool (decide_eq_false (by simp))) ?_
        refine qt_valE (v := .bool false) rfl (fun wq hq => rf_move rfl) rfl ?_
        refine qt_guardT rfl rfl rfl rfl ?_
        refine qt_valE (v := .int .i64 0) rfl (fun wq hq => rf_move rfl) rfl ?_
        refine qt_guardT rfl rfl rfl rfl ?_
        refine qt_valE (v := .bool false) rfl (fun wq hq => rf_neq rfl rfl rfl rfl) (congrArg Value.bool (by decide)) ?_
        refine qt_valE (v := .bool false) rfl (fun wq hq => rf_pickF rfl rfl rfl rfl) rfl ?_
        refine qt_valE (v := .bool false) rfl (fun wq hq => rf_move rfl) rfl ?_
        refine qt_guardT rfl rfl rfl rfl ?_
        refine qt_valE (v := .int .i64 0) rfl (fun wq hq => rf_move rfl) rfl ?_
        refine qt_guardT rfl rfl rfl rfl ?_
        refine qt_valE (v := .bool false) rfl (fun wq hq => rf_neq rfl rfl rfl rfl) (congrArg Value.bool (by decide)) ?_
        refine qt_valE (v := .bool false) rfl (fun wq hq => rf_pickF rfl rfl rfl rfl) rfl ?_
        refine qt_valE (v := .bool false) rfl (fun wq hq => rf_move rfl) rfl ?_
        refine qt_guardT rfl rfl rfl rfl ?_
        refine qt_valE (v := .agg #[.int .i64 lx.key.table, .int .i64 lx.key.row]) rfl (fun wq hq => rf_loadBlk Try.underlying28 rfl ti28 rfl rfl ((H19.keep hq).blk 4 rfl) (leb rfl)) rfl ?_
        refine qt_guardT rfl rfl rfl rfl ?_
        refine qt_valE (v := .agg #[.int .i64 k.table, .int .i64 k.row]) rfl (fun wq hq => rf_loadBlk Try.underlying28 rfl ti28 rfl rfl ((H19.keep hq).blk 0 rfl) (leb rfl)) rfl ?_
        refine qt_guardT rfl rfl rfl rfl ?_
        refine qt_valE (v := .bool false) rfl (fun wq hq => rf_neqS (by kernel_rfl) (eqKey lx.key k _) rfl rfl rfl rfl) (congrArg Value.bool (by simp [c46p])) ?_
        refine qt_valE (v := .bool false) rfl (fun wq hq => rf_pickF rfl rfl rfl rfl) rfl ?_
        refine qt_valE (v := .bool false) rfl (fun wq hq => rf_move rfl) rfl ?_
        refine qt_guardT rfl rfl rfl rfl ?_
        refine qt_valE (v := .int .i64 ((n : Nat) : Int)) rfl (fun wq hq => rf_move rfl) rfl ?_
        refine qt_guardT rfl rfl rfl rfl ?_
        refine qt_valE (v := .slice ca ((chnF x.st k).length) cc) rfl (fun wq hq => rf_move rfl) rfl ?_
        refine qt_guardT rfl rfl rfl rfl ?_
        refine qt_valE (v := .int .i64 (((chnF x.st k).length : Nat) : Int)) rfl (fun wq hq => rf_len_slice Try.underlying69 rfl rfl) rfl ?_
        refine qt_guardT rfl rfl rfl rfl ?_
        refine qt_valE (v := .bool false) rfl (fun wq hq => rf_geq rfl rfl rfl rfl) (congrArg Value.bool (decide_eq_false (by omega))) ?_
        refine qt_valE (v := .bool false) rfl (fun wq hq => rf_pickF rfl rfl rfl rfl) rfl ?_
        refine qt_valE (v := .bool false) rfl (fun wq hq => rf_move rfl) rfl ?_
        refine qt_guardT rfl rfl rfl rfl ?_
        refine qt_valE (v := .slice ca ((chnF x.st k).length) cc) rfl (fun wq hq => rf_move rfl) rfl ?_
        refine qt_guardT rfl rfl rfl rfl ?_
        refine qt_valE (v := .int .i64 ((n : Nat) : Int)) rfl (fun wq hq => rf_move rfl) rfl ?_
        refine qt_guardT rfl rfl rfl rfl ?_
        refine qt_valE (v := .pointer (some ⟨ab ca, ao ca + n * 5, none⟩)) rfl (fun wq hq => rf_indexAddrH Try.underlying69 ti72 rfl rfl rfl rfl (by omega) (by omega) ((H19.keep hq).rdO 1 slH_rd)) rfl ?_
        refine qt_guardT rfl rfl rfl rfl ?_
        refine qt_valE (v := .agg #[.int .i64 cx.batch, .int .i64 cx.index, .bool cx.filled, .bool cx.cell.is_, .int .i64 cx.cell.value]) rfl (fun wq hq => rf_loadAgg (cs := [.int .i64 cx.batch, .int .i64 cx.index, .bool cx.filled, .bool cx.cell.is_, .int .i64 cx.cell.value]) Try.underlying72 rfl ti72 rfl rfl (el_sub' (rd_el ((H19.keep hq).rdO 1 slH_rd) hcx) 0 5 rfl) rfl) rfl ?_
        refine qt_guardT rfl rfl rfl rfl ?_
        refine qt_valE (v := .agg #[.int .i64 lx.batch, .int .i64 lx.index, .bool lx.fill, .bool lx.cell.is_, .int .i64 lx.cell.value]) rfl (fun wq hq => rf_loadBlk Try.underlying72 rfl ti72 rfl rfl ((H19.keep hq).blk 3 rfl) (leb rfl)) rfl ?_
        refine qt_guardT rfl rfl rfl rfl ?_
        refine qt_valE (v := .bool false) rfl (fun wq hq => rf_neqS (by kernel_rfl) (eqVer cx (⟨lx.batch, lx.index, lx.fill, ⟨lx.cell.is_, lx.cell.value⟩⟩ : Ver) _) rfl rfl rfl rfl) (congrArg Value.bool (by simp [hcx2])) ?_
        refine qt_valE (v := .bool false) rfl (fun wq hq => rf_pickF rfl rfl rfl rfl) rfl ?_
        refine qt_nil ?_
        intro w20 hk20
        have H20 := H19.keep hk20
        refine thn ?_
        refine condF rfl rfl ?_
        refine skip_ ?_
        refine thn ?_
        refine seq_ ?_
        refine seq_ ?_
        refine region_ ?_
        refine wl_valE (v := .agg #[.int .i64 lx.batch, .int .i64 lx.index, .bool lx.fill, .bool lx.cell.is_, .int .i64 lx.cell.value]) rfl (rf_loadBlk Try.underlying72 rfl ti72 rfl rfl (H20.blk 3 rfl) (leb rfl)) rfl ?_
        refine wl_valE (v := .pointer (some ⟨bx, 3, none⟩)) rfl (rf_fieldAddr Try.underlying52 rfl ti50 rfl rfl) rfl ?_
        refine wl_valE (v := .pointer (some ⟨bx, 3, none⟩)) rfl (rf_fieldAddr Try.underlying50 rfl ti3 rfl rfl) rfl ?_
        refine wl_valE (v := .int .i64 lx.batch) rfl (rf_load Try.underlying3 rfl rfl rfl ((H20.blk 2 rfl).cell rfl)) rfl ?_
        refine wl_valE (v := .pointer (some ⟨bx, 3, none⟩)) rfl (rf_fieldAddr Try.underlying52 rfl ti50 rfl rfl) rfl ?_
        refine wl_valE (v := .pointer (some ⟨bx, 4, none⟩)) rfl (rf_fieldAddr Try.underlying50 rfl ti3 rfl rfl) rfl ?_
        refine wl_valE (v := .int .i64 lx.index) rfl (rf_load Try.underlying3 rfl rfl rfl ((H20.blk 2 rfl).cell rfl)) rfl ?_
        refine wl_valE (v := .pointer (some ⟨bx, 5, none⟩)) rfl (rf_fieldAddr Try.underlying52 rfl ti4 rfl rfl) rfl ?_
        refine wl_valE (v := .bool lx.fill) rfl (rf_load Try.underlying4 rfl rfl rfl ((H20.blk 2 rfl).cell rfl)) rfl ?_
        refine wl_valE (v := .pointer (some ⟨bx, 6, none⟩)) rfl (rf_fieldAddr Try.underlying52 rfl ti30 rfl rfl) rfl ?_
        refine wl_valE (v := .agg #[.bool lx.cell.is_, .int .i64 lx.cell.value]) rfl (rf_loadBlk Try.underlying30 rfl ti30 rfl rfl (H20.blk 2 rfl) (leb rfl)) rfl ?_
        refine wl_valE (v := .agg #[.int .i64 lx.batch, .int .i64 lx.index, .bool lx.fill, .bool lx.cell.is_, .int .i64 lx.cell.value]) rfl (rf_build (offs := [(0, [.int .i64 lx.batch]), (1, [.int .i64 lx.index]), (2, [.bool lx.fill]), (3, [.bool lx.cell.is_, .int .i64 lx.cell.value])]) (places := #[(0, 1), (1, 1), (2, 1), (3, 2)]) Try.underlying72 ti72 (fun w => by kernel_rfl) (.cons rfl rfl rfl rfl rfl rfl (.cons rfl rfl rfl rfl rfl rfl (.cons rfl rfl rfl rfl rfl rfl (.cons rfl rfl rfl rfl rfl rfl .nil))))) rfl ?_
        refine wl_valE (v := .bool false) rfl (rf_neqS (by kernel_rfl) (eqVer (⟨lx.batch, lx.index, lx.fill, ⟨lx.cell.is_, lx.cell.value⟩⟩ : Ver) (⟨lx.batch, lx.index, lx.fill, ⟨lx.cell.is_, lx.cell.value⟩⟩ : Ver) _) rfl rfl rfl rfl) (congrArg Value.bool (by simp)) ?_
        refine wl_nil ?_
        refine thn ?_
        refine condF rfl rfl ?_
        refine skip_ ?_
        refine thn ?_
        refine seq_ ?_
        refine region_ ?_
        refine wl_valE (v := .pointer (some ⟨wb, 0, none⟩)) rfl (rf_move rfl) rfl ?_
        refine wl_valE (v := .pointer (some ⟨wb, 0, none⟩)) rfl (rf_nilCheckP rfl rfl) rfl ?_
        refine wl_valE (v := .pointer (some ⟨wb, 0, none⟩)) rfl (rf_fieldAddr Try.underlying36 rfl ti33 rfl rfl) rfl ?_
        refine wl_valE (v := .pointer (some ⟨s, 0, none⟩)) rfl (rf_load Try.underlying33 rfl rfl rfl ((H20.blkR 0 rfl).cell rfl)) rfl ?_
        refine wl_valE (v := .int .i64 lx.v) rfl (rf_move rfl) rfl ?_
        refine wl_tr H20 rfl [] (before_tr s x.st lx.v (by omega)) rfl (.ro 2 Le.rfl .nil) (rf_call Try.call27 rfl rfl) rfl ?_
        rintro _ w21 _ ⟨rfl, rfl⟩ H21
        rw [hat.bef]
        refine wl_valE (v := .int .i64 (lastF (restF x k p))) rfl (rf_assign rfl) rfl ?_
        refine wl_nil ?_
        refine thn ?_
        refine region_ ?_
        refine wl_valE (v := .int .i64 ((n : Nat) : Int)) rfl (rf_move rfl) rfl ?_
        refine wl_valE (v := .int .i64 ((n + 1 : Nat) : Int)) rfl (rf_add rfl rfl rfl rfl (IntWalk.i64_in _ (by omega))) rfl ?_
        refine wl_valE (v := .int .i64 ((n + 1 : Nat) : Int)) rfl (rf_assign rfl) rfl ?_
        refine wl_nil ?_
        refine bln ?_
        refine thn ?_
        refine region_ ?_
        refine wl_valE (v := .int .i64 (((p + 1) : Int) - 1)) rfl (rf_move rfl) rfl ?_
        refine wl_valE (v := .int .i64 ((p : Int) - 1)) rfl (rf_sub rfl rfl rfl rfl (by rw [IntWalk.i64_in _ (by omega)]; omega)) rfl ?_
        refine wl_valE (v := .int .i64 ((p : Int) - 1)) rfl (rf_assign rfl) rfl ?_
        refine wl_nil ?_
        refine thn ?_
        refine ⟨p, _, rfl, (by omega), _, p, n + 1, lastF (restF x k p), upds_self ⟨rfl, rfl, rfl, rfl, rfl, rfl, trivial⟩, rfl, by omega, rfl, by rw [hat.cnt, hn], H21.pick' [0, 1] rfl rfl⟩
    · have c33p := of_decide_eq_false c33
      obtain rfl : q = 0 := by omega
      have hv0 : v = 0 := hv
      subst hv0
      refine exit_ ?_
      refine thx (thx (blx ?_))
      refine thn ?_
      refine seq_ ?_
      refine seq_ ?_
      refine region_ ?_
      refine wl_valE (v := .int .i64 0) rfl (rf_move rfl) rfl ?_
      refine wl_valE (v := .bool false) rfl (rf_neq rfl rfl rfl rfl) (congrArg Value.bool (by decide)) ?_
      refine wl_valE (v := .bool false) rfl (rf_move rfl) rfl ?_
      refine wl_guardT rfl rfl rfl rfl ?_
      refine wl_valE (v := .int .i64 ((n : Nat) : Int)) rfl (rf_move rfl) rfl ?_
      refine wl_guardT rfl rfl rfl rfl ?_
      refine wl_valE (v := .slice ca ((chnF x.st k).length) cc) rfl (rf_move rfl) rfl ?_
      refine wl_guardT rfl rfl rfl rfl ?_
      refine wl_valE (v := .int .i64 (((chnF x.st k).length : Nat) : Int)) rfl (rf_len_slice Try.underlying69 rfl rfl) rfl ?_
      refine wl_guardT rfl rfl rfl rfl ?_
      refine wl_valE (v := .bool false) rfl (rf_neq rfl rfl rfl rfl) (congrArg Value.bool (decide_eq_false (by omega))) ?_
      refine wl_valE (v := .bool false) rfl (rf_pickF rfl rfl rfl rfl) rfl ?_
      refine wl_nil ?_
      refine thn ?_
      refine condF rfl rfl ?_
      refine skip_ ?_
      refine thn ?_
      refine seq_ ?_
      refine region_ ?_
      refine wl_valE (v := .int .i64 ((n : Nat) : Int)) rfl (rf_move rfl) rfl ?_
      refine wl_valE (v := .int .i64 ((n : Nat) : Int)) rfl (rf_assign rfl) rfl ?_
      refine wl_nil ?_
      refine thn ?_
      refine ret_ ?_
      refine fin1 (v := .int .i64 ((n : Nat) : Int)) Try.results13 rfl rfl ?_
      exact ⟨_, ⟨by rw [hn], rfl⟩, HL0.pick' [] rfl rfl⟩
set_option maxRecDepth 100000 in
set_option maxHeartbeats 1000000 in
theorem chains_tr (c0 : Int) (a : Option Addr) (n c : Nat) (qs : List WriteR) (hn : n ≤ 1048576) : Tr Try.prog 3 [.int .i64 c0, .slice a n c] [rdH encWrite 8 a n c qs] [] (fun v m => v = .bool true) := by
  intro w0 S0 H0
  refine enterR Try.func3 rfl Try.ntmps3 rfl ?_
  intro g0
  refine seq_ ?_
  refine region_ ?_
  refine wl_valE (v := .bool false) rfl (rf_assign rfl) rfl ?_
  refine wl_nil ?_
  refine thn ?_
  refine seq_ ?_
  refine region_ ?_
  refine wl_valE (v := .int .i64 c0) rfl (rf_move rfl) rfl ?_
  refine wl_tr H0 rfl [] (begun_tr c0) rfl .nil (rf_call Try.call4 rfl rfl) rfl ?_
  rintro _ w1 _ ⟨wb, p0, rfl, rfl⟩ H1
  refine wl_valE (v := .tuple #[.pointer (some ⟨wb, 0, none⟩), .bool true]) rfl (rf_move rfl) rfl ?_
  refine wl_valE (v := .pointer (some ⟨wb, 0, none⟩)) rfl (rf_extract rfl rfl rfl) rfl ?_
  refine wl_valE (v := .bool true) rfl (rf_extract rfl rfl rfl) rfl ?_
  refine wl_valE (v := .pointer (some ⟨wb, 0, none⟩)) rfl (rf_assign rfl) rfl ?_
  refine wl_valE (v := .bool true) rfl (rf_assign rfl) rfl ?_
  refine wl_nil ?_
  refine thn ?_
  refine seq_ ?_
  refine seq_ ?_
  refine region_ ?_
  refine wl_valE (v := .bool true) rfl (rf_move rfl) rfl ?_
  refine wl_valE (v := .bool false) rfl (rf_not rfl rfl) rfl ?_
  refine wl_nil ?_
  refine thn ?_
  refine condF rfl rfl ?_
  refine skip_ ?_
  refine thn ?_
  refine seq_ ?_
  refine seq_ ?_
  refine region_ ?_
  refine wl_valE (v := .int .i64 (0 : Int)) rfl (rf_assign rfl) rfl ?_
  refine wl_nil ?_
  refine thn ?_
  refine block_ ?_
  refine loop_ (fun qk_ qf_ qw_ => ∃ (g : Nat → Value) (i : Nat) (x : WS), qf_ = upds g [(1, .slice a n c), (5, .pointer (some ⟨wb, 0, none⟩)), (7, .int .i64 ((i : Nat) : Int))] ∧ qk_ = n - i ∧ (i ≤ n) ∧ (VI x i) ∧ St w0 S0 [rdH encWrite 8 a n c qs] qw_ [wldH wb x]) (n - 0) ?_ ?_
  · refine ⟨_, 0, ws1 p0, upds_self ⟨rfl, rfl, rfl, trivial⟩, rfl, Nat.zero_le _, ws1_vi p0, H1.pick' [0] rfl rfl⟩
  · rintro lk0 _ wl0 ⟨gl0, i, x, rfl, hlk0, hi, hvi, HL0⟩
    refine seq_ ?_
    refine seq_ ?_
    refine region_ ?_
    refine wl_valE (v := .int .i64 ((i : Nat) : Int)) rfl (rf_move rfl) rfl ?_
    refine wl_valE (v := .slice a n c) rfl (rf_move rfl) rfl ?_
    refine wl_valE (v := .int .i64 ((n : Nat) : Int)) rfl (rf_len_slice Try.underlying22 rfl rfl) rfl ?_
    refine wl_valE (v := .bool (decide (((i : Nat) : Int) < ((n : Nat) : Int)))) rfl (rf_lss rfl rfl rfl rfl) rfl ?_
    refine wl_nil ?_
    refine thn ?_
    refine cond_ (t := decide (((i : Nat) : Int) < ((n : Nat) : Int))) rfl rfl (fun c23 => ?_) (fun c23 => ?_)
    · have c23p := of_decide_eq_true c23
      refine skip_ ?_
      refine thn ?_
      refine seq_ ?_
      refine block_ ?_
      refine seq_ ?_
      have hn2 := rd_len (HL0.rdR 0 Le.rfl)
      obtain ⟨q, hq⟩ : ∃ q_, qs[i]? = some q_ := ⟨_, List.getElem?_eq_getElem (by omega)⟩
      have hsi := wldInv HL0 0 rfl
      have hbt := hvi.batch
      have hlt := hvi.last
      have hle := hvi.len
      have hlst := hvi.inv.last
      refine region_ ?_
      refine wl_valE (v := .pointer (some ⟨wb, 0, none⟩)) rfl (rf_move rfl) rfl ?_
      refine wl_valE (v := .slice a n c) rfl (rf_move rfl) rfl ?_
      refine wl_valE (v := .int .i64 ((i : Nat) : Int)) rfl (rf_move rfl) rfl ?_
      refine wl_valE (v := .pointer (some ⟨ab a, ao a + i * 8, none⟩)) rfl (rf_indexAddrH Try.underlying22 ti32 rfl rfl rfl rfl (by omega) (by omega) (HL0.rdR 0 Le.rfl)) rfl ?_
      refine wl_valE (v := .agg #[.int .i64 q.key.table, .int .i64 q.key.row, .int .i64 q.later, .int .i64 q.index, .bool q.fill, .bool q.cell.is_, .int .i64 q.cell.value, .int .i64 q.drop]) rfl (rf_loadAgg (cs := [.int .i64 q.key.table, .int .i64 q.key.row, .int .i64 q.later, .int .i64 q.index, .bool q.fill, .bool q.cell.is_, .int .i64 q.cell.value, .int .i64 q.drop]) Try.underlying32 rfl ti32 rfl rfl (el_sub' (rd_el (HL0.rdR 0 Le.rfl) hq) 0 8 rfl) rfl) rfl ?_
      refine wl_tr HL0 rfl [0] (write_tr wb x q 0 hvi.inv (by omega) (by omega) (by omega) (by omega)) rfl .nil (rf_call Try.call5 rfl rfl) rfl ?_
      rintro _ w3 _ ⟨x2, ⟨rfl, hx2⟩, rfl⟩ H3
      refine wl_valE (v := .bool false) rfl (rf_not rfl rfl) rfl ?_
      refine wl_nil ?_
      refine thn ?_
      refine condF rfl rfl ?_
      refine skip_ ?_
      refine bln ?_
      refine thn ?_
      refine region_ ?_
      refine wl_valE (v := .int .i64 ((i : Nat) : Int)) rfl (rf_move rfl) rfl ?_
      refine wl_valE (v := .int .i64 ((i + 1 : Nat) : Int)) rfl (rf_add rfl rfl rfl rfl (IntWalk.i64_in _ (by omega))) rfl ?_
      refine wl_valE (v := .int .i64 ((i + 1 : Nat) : Int)) rfl (rf_assign rfl) rfl ?_
      refine wl_nil ?_
      refine thn ?_
      refine ⟨n - (i + 1), _, rfl, (by omega), _, i + 1, x2, upds_self ⟨rfl, rfl, rfl, trivial⟩, rfl, by omega, hvi.wrote hsi hx2, H3.pick' [0] rfl rfl⟩
    · have c23p := of_decide_eq_false c23
      refine exit_ ?_
      refine thx (thx (blx ?_))
      refine thn ?_
      refine seq_ ?_
      refine seq_ ?_
      have hsi := wldInv HL0 0 rfl
      have hbt := hvi.batch
      have hlt := hvi.last
      have hle := hvi.len
      have hlst := hvi.inv.last
      have hlive := hvi.inv.live
      have hroom := hvi.inv.room
      obtain ⟨sb, la, lc, H4⟩ := wldOpen HL0 0 rfl rfl
      dsimp only [putsH, setH, List.cons_append, List.nil_append] at H4
      have hpar := stoPar H4 2 rfl
      refine region_q mixedP (by kernel_rfl) ?_
      refine qt_valE (v := .pointer (some ⟨wb, 0, none⟩)) rfl (fun wq hq => rf_move rfl) rfl ?_
      refine qt_valE (v := .pointer (some ⟨wb, 0, none⟩)) rfl (fun wq hq => rf_nilCheckP rfl rfl) rfl ?_
      refine qt_valE (v := .pointer (some ⟨wb, 0, none⟩)) rfl (fun wq hq => rf_fieldAddr Try.underlying36 rfl ti33 rfl rfl) rfl ?_
      refine qt_valE (v := .pointer (some ⟨sb, 0, none⟩)) rfl (fun wq hq => rf_load Try.underlying33 rfl rfl rfl (((H4.keep hq).blk 0 rfl).cell rfl)) rfl ?_
      refine qt_ret (v := .int .i64 ((x.st.live : Nat) : Int)) rfl (fun wq hq => ((live_tr).quiet (H4.keep hq) (.own 2 rfl Le.rfl .nil) (by rintro _ _ ⟨rfl, rfl⟩; exact rfl)).mono (fun _ _ h => ⟨h.1, hq.trans h.2⟩)) (fun wq hq => rf_call Try.call6 rfl rfl) ?_
      refine qt_valE (v := .pointer (some ⟨wb, 0, none⟩)) rfl (fun wq hq => rf_move rfl) rfl ?_
      refine qt_valE (v := .pointer (some ⟨wb, 0, none⟩)) rfl (fun wq hq => rf_nilCheckP rfl rfl) rfl ?_
      refine qt_valE (v := .pointer (some ⟨wb, 1, none⟩)) rfl (fun wq hq => rf_fieldAddr Try.underlying36 rfl ti34 rfl rfl) rfl ?_
      refine qt_valE (v := .slice la x.all.length lc) rfl (fun wq hq => rf_load Try.underlying34 rfl rfl rfl (((H4.keep hq).blk 0 rfl).cell rfl)) rfl ?_
      refine qt_valE (v := .int .i64 ((x.all.length : Nat) : Int)) rfl (fun wq hq => rf_len_slice Try.underlying34 rfl rfl) rfl ?_
      refine qt_valE (v := .bool false) rfl (fun wq hq => rf_neq rfl rfl rfl rfl) (congrArg Value.bool (decide_eq_false (by omega))) ?_
      refine qt_valE (v := .bool false) rfl (fun wq hq => rf_move rfl) rfl ?_
      refine qt_guardT rfl rfl rfl rfl ?_
      refine qt_valE (v := .pointer (some ⟨wb, 0, none⟩)) rfl (fun wq hq => rf_move rfl) rfl ?_
      refine qt_guardT rfl rfl rfl rfl ?_
      refine qt_valE (v := .pointer (some ⟨wb, 0, none⟩)) rfl (fun wq hq => rf_nilCheckP rfl rfl) rfl ?_
      refine qt_guardT rfl rfl rfl rfl ?_
      refine qt_valE (v := .pointer (some ⟨wb, 0, none⟩)) rfl (fun wq hq => rf_fieldAddr Try.underlying36 rfl ti33 rfl rfl) rfl ?_
      refine qt_guardT rfl rfl rfl rfl ?_
      refine qt_valE (v := .pointer (some ⟨sb, 0, none⟩)) rfl (fun wq hq => rf_load Try.underlying33 rfl rfl rfl (((H4.keep hq).blk 0 rfl).cell rfl)) rfl ?_
      refine qt_guardT rfl rfl rfl rfl ?_
      refine qt_ret (v := .int .i64 (x.st.room - ((x.st.live : Nat) : Int))) rfl (fun wq hq => ((room_tr ⟨by omega, by omega⟩ (by omega)).quiet (H4.keep hq) (.own 2 rfl Le.rfl .nil) (by rintro _ _ ⟨rfl, rfl⟩; exact rfl)).mono (fun _ _ h => ⟨h.1, hq.trans h.2⟩)) (fun wq hq => rf_call Try.call7 rfl rfl) ?_
      refine qt_guardT rfl rfl rfl rfl ?_
      refine qt_valE (v := .pointer (some ⟨wb, 0, none⟩)) rfl (fun wq hq => rf_move rfl) rfl ?_
      refine qt_guardT rfl rfl rfl rfl ?_
      refine qt_valE (v := .pointer (some ⟨wb, 0, none⟩)) rfl (fun wq hq => rf_nilCheckP rfl rfl) rfl ?_
      refine qt_guardT rfl rfl rfl rfl ?_
      refine qt_valE (v := .pointer (some ⟨wb, 1, none⟩)) rfl (fun wq hq => rf_fieldAddr Try.underlying36 rfl ti34 rfl rfl) rfl ?_
      refine qt_guardT rfl rfl rfl rfl ?_
      refine qt_valE (v := .slice la x.all.length lc) rfl (fun wq hq => rf_load Try.underlying34 rfl rfl rfl (((H4.keep hq).blk 0 rfl).cell rfl)) rfl ?_
      refine qt_guardT rfl rfl rfl rfl ?_
      refine qt_valE (v := .int .i64 ((x.all.length : Nat) : Int)) rfl (fun wq hq => rf_len_slice Try.underlying34 rfl rfl) rfl ?_
      refine qt_guardT rfl rfl rfl rfl ?_
      refine qt_valE (v := .int .i64 ((65536 : Int) - ((x.all.length : Nat) : Int))) rfl (fun wq hq => rf_sub rfl rfl rfl rfl (IntWalk.i64_in _ (by omega))) rfl ?_
      refine qt_guardT rfl rfl rfl rfl ?_
      refine qt_valE (v := .bool false) rfl (fun wq hq => rf_neq rfl rfl rfl rfl) (congrArg Value.bool (decide_eq_false (by omega))) ?_
      refine qt_valE (v := .bool false) rfl (fun wq hq => rf_pickF rfl rfl rfl rfl) rfl ?_
      refine qt_nil ?_
      intro w5 hk5
      have H5 := H4.keep hk5
      refine thn ?_
      refine condF rfl rfl ?_
      refine skip_ ?_
      refine thn ?_
      refine seq_ ?_
      refine region_ ?_
      refine wl_valE (v := .int .i64 (0 : Int)) rfl (rf_assign rfl) rfl ?_
      refine wl_nil ?_
      refine thn ?_
      refine seq_ ?_
      refine seq_ ?_
      refine region_ ?_
      refine wl_valE (v := .int .i64 (-1 : Int)) rfl (rf_assign rfl) rfl ?_
      refine wl_nil ?_
      refine thn ?_
      refine block_ ?_
      refine loop_ (fun qk_ qf_ qw_ => ∃ (g : Nat → Value) (p : Int) (tot : Nat), qf_ = upds g [(5, .pointer (some ⟨wb, 0, none⟩)), (8, .int .i64 ((tot : Nat) : Int)), (9, .int .i64 p)] ∧ qk_ = (x.st.parts + 1 - p).toNat ∧ (-1 ≤ p ∧ p ≤ x.st.parts + 1) ∧ (tot = cntP x p) ∧ St w0 S0 [rdH encWrite 8 a n c qs] qw_ [blkH wb #[.pointer (some ⟨sb, 0, none⟩), .slice la x.all.length lc, .int .i64 x.last, .int .i64 x.batch] 36, slH encLaid 8 52 la x.all.length lc x.all, stoH sb x.st]) ((x.st.parts + 1 - (-1)).toNat) ?_ ?_
      · refine ⟨_, -1, 0, upds_self ⟨rfl, rfl, rfl, trivial⟩, rfl, ⟨by omega, by omega⟩, (cntP_begin hpar.1).symm, H5.pick' [0, 1, 2] rfl rfl⟩
      · rintro lk1 _ wl1 ⟨gl1, p, tot, rfl, hlk1, hp, htot, HL1⟩
        refine seq_ ?_
        refine seq_ ?_
        refine region_ ?_
        refine wl_valE (v := .int .i64 p) rfl (rf_move rfl) rfl ?_
        refine wl_valE (v := .pointer (some ⟨wb, 0, none⟩)) rfl (rf_move rfl) rfl ?_
        refine wl_valE (v := .pointer (some ⟨wb, 0, none⟩)) rfl (rf_nilCheckP rfl rfl) rfl ?_
        refine wl_valE (v := .pointer (some ⟨wb, 0, none⟩)) rfl (rf_fieldAddr Try.underlying36 rfl ti33 rfl rfl) rfl ?_
        refine wl_valE (v := .pointer (some ⟨sb, 0, none⟩)) rfl (rf_load Try.underlying33 rfl rfl rfl ((HL1.blk 0 rfl).cell rfl)) rfl ?_
        refine wl_tr HL1 rfl [] (parts_tr sb x.st) rfl (.own 2 rfl Le.rfl .nil) (rf_call Try.call8 rfl rfl) rfl ?_
        rintro _ w6 _ ⟨rfl, rfl⟩ H6
        refine wl_valE (v := .bool (decide (p ≤ x.st.parts))) rfl (rf_leq rfl rfl rfl rfl) rfl ?_
        refine wl_nil ?_
        refine thn ?_
        refine cond_ (t := decide (p ≤ x.st.parts)) rfl rfl (fun c64 => ?_) (fun c64 => ?_)
        · have c64p := of_decide_eq_true c64
          refine skip_ ?_
          refine thn ?_
          refine seq_ ?_
          refine block_ ?_
          refine seq_ ?_
          refine region_ ?_
          refine wl_valE (v := .pointer (some ⟨wb, 0, none⟩)) rfl (rf_move rfl) rfl ?_
          refine wl_valE (v := .pointer (some ⟨wb, 0, none⟩)) rfl (rf_nilCheckP rfl rfl) rfl ?_
          refine wl_valE (v := .pointer (some ⟨wb, 0, none⟩)) rfl (rf_fieldAddr Try.underlying36 rfl ti33 rfl rfl) rfl ?_
          refine wl_valE (v := .pointer (some ⟨sb, 0, none⟩)) rfl (rf_load Try.underlying33 rfl rfl rfl ((H6.blk 0 rfl).cell rfl)) rfl ?_
          refine wl_valE (v := .int .i64 p) rfl (rf_move rfl) rfl ?_
          refine wl_tr H6 rfl [] (keys_tr sb x.st p (by omega)) rfl (.own 2 rfl Le.rfl .nil) (rf_call Try.call9 rfl rfl) rfl ?_
          rintro _ w7 _ ⟨ka, kc, ks, hks, rfl, rfl⟩ H7
          refine wl_valE (v := .slice ka ks.length kc) rfl (rf_assign rfl) rfl ?_
          refine wl_nil ?_
          refine thn ?_
          refine seq_ ?_
          refine seq_ ?_
          have hkn := slH_len H7 3 rfl
          refine region_ ?_
          refine wl_valE (v := .slice ka ks.length kc) rfl (rf_move rfl) rfl ?_
          refine wl_tr H7 rfl [] (rises_tr ka ks.length kc ks (by omega)) rfl (.own 3 rfl slH_rd .nil) (rf_call Try.call10 rfl rfl) rfl ?_
          rintro _ w8 _ ⟨rfl, rfl⟩ H8
          refine wl_valE (v := .bool (!(decide (RisK ks)))) rfl (rf_not rfl rfl) rfl ?_
          refine wl_nil ?_
          refine thn ?_
          refine condF' rfl rfl (t := !(decide (RisK ks))) ((by rw [decide_eq_true hks.1]; rfl)) ?_
          refine skip_ ?_
          refine thn ?_
          refine seq_ ?_
          refine region_ ?_
          refine wl_valE (v := .int .i64 (0 : Int)) rfl (rf_assign rfl) rfl ?_
          refine wl_nil ?_
          refine thn ?_
          refine block_ ?_
          refine loop_ (fun qk_ qf_ qw_ => ∃ (g : Nat → Value) (j tot2 : Nat), qf_ = upds g [(5, .pointer (some ⟨wb, 0, none⟩)), (8, .int .i64 ((tot2 : Nat) : Int)), (9, .int .i64 p), (10, .slice ka ks.length kc), (11, .int .i64 ((j : Nat) : Int))] ∧ qk_ = ks.length - j ∧ (j ≤ ks.length) ∧ (tot2 = tot + cntK x (ks.take j)) ∧ St w0 S0 [rdH encWrite 8 a n c qs] qw_ [blkH wb #[.pointer (some ⟨sb, 0, none⟩), .slice la x.all.length lc, .int .i64 x.last, .int .i64 x.batch] 36, slH encLaid 8 52 la x.all.length lc x.all, stoH sb x.st, slH encKey 2 28 ka ks.length kc ks]) (ks.length - 0) ?_ ?_
          · refine ⟨_, 0, tot, upds_self ⟨rfl, rfl, rfl, rfl, rfl, trivial⟩, rfl, Nat.zero_le _, by rw [List.take_zero, cntK_nil]; rfl, H8.pick' [0, 1, 2, 3] rfl rfl⟩
          · rintro lk2 _ wl2 ⟨gl2, j, tot2, rfl, hlk2, hj, htot2, HL2⟩
            refine seq_ ?_
            refine seq_ ?_
            refine region_ ?_
            refine wl_valE (v := .int .i64 ((j : Nat) : Int)) rfl (rf_move rfl) rfl ?_
            refine wl_valE (v := .slice ka ks.length kc) rfl (rf_move rfl) rfl ?_
            refine wl_valE (v := .int .i64 ((ks.length : Nat) : Int)) rfl (rf_len_slice Try.underlying38 rfl rfl) rfl ?_
            refine wl_valE (v := .bool (decide (((j : Nat) : Int) < ((ks.length : Nat) : Int)))) rfl (rf_lss rfl rfl rfl rfl) rfl ?_
            refine wl_nil ?_
            refine thn ?_
            refine cond_ (t := decide (((j : Nat) : Int) < ((ks.length : Nat) : Int))) rfl rfl (fun c79 => ?_) (fun c79 => ?_)
            · have c79p := of_decide_eq_true c79
              refine skip_ ?_
              refine thn ?_
              refine seq_ ?_
              refine block_ ?_
              refine seq_ ?_
              refine seq_ ?_
              have hn9 := slH_len HL2 3 rfl
              obtain ⟨k, hk⟩ : ∃ q_, ks[j]? = some q_ := ⟨_, List.getElem?_eq_getElem (by omega)⟩
              have hkm := (hks.2 k).1 (List.mem_of_getElem? hk)
              have hc1 := cnt_ch hvi k
              have hc2 : 0 < (x.st.ch k).length := List.length_pos_iff.2 hkm.1
              have hc3 := cnt_le x k 0
              have hc4 := cntP_le x p
              have hc5 := cntK_le x (ks.take j)
              refine region_q mixedP (by kernel_rfl) ?_
              refine qt_valE (v := .pointer (some ⟨wb, 0, none⟩)) rfl (fun wq hq => rf_move rfl) rfl ?_
              refine qt_valE (v := .pointer (some ⟨wb, 0, none⟩)) rfl (fun wq hq => rf_nilCheckP rfl rfl) rfl ?_
              refine qt_valE (v := .pointer (some ⟨wb, 0, none⟩)) rfl (fun wq hq => rf_fieldAddr Try.underlying36 rfl ti33 rfl rfl) rfl ?_
              refine qt_valE (v := .pointer (some ⟨sb, 0, none⟩)) rfl (fun wq hq => rf_load Try.underlying33 rfl rfl rfl (((HL2.keep hq).blk 0 rfl).cell rfl)) rfl ?_
              refine qt_valE (v := .slice ka ks.length kc) rfl (fun wq hq => rf_move rfl) rfl ?_
              refine qt_valE (v := .int .i64 ((j : Nat) : Int)) rfl (fun wq hq => rf_move rfl) rfl ?_
              refine qt_valE (v := .pointer (some ⟨ab ka, ao ka + j * 2, none⟩)) rfl (fun wq hq => rf_indexAddrH Try.underlying38 ti28 rfl rfl rfl rfl (by omega) (by omega) ((HL2.keep hq).rdO 3 slH_rd)) rfl ?_
              refine qt_valE (v := .agg #[.int .i64 k.table, .int .i64 k.row]) rfl (fun wq hq => rf_loadAgg (cs := [.int .i64 k.table, .int .i64 k.row]) Try.underlying28 rfl ti28 rfl rfl (el_sub' (rd_el ((HL2.keep hq).rdO 3 slH_rd) hk) 0 2 rfl) rfl) rfl ?_
              refine qt_ret (v := .int .i64 (partF x.st k)) rfl (fun wq hq => ((part_tr sb x.st k).quiet (HL2.keep hq) (.own 2 rfl Le.rfl .nil) (by rintro _ _ ⟨rfl, rfl⟩; exact rfl)).mono (fun _ _ h => ⟨h.1, hq.trans h.2⟩)) (fun wq hq => rf_call Try.call11 rfl rfl) ?_
              refine qt_valE (v := .int .i64 p) rfl (fun wq hq => rf_move rfl) rfl ?_
              refine qt_valE (v := .bool false) rfl (fun wq hq => rf_neq rfl rfl rfl rfl) (congrArg Value.bool (decide_eq_false (fun h => h hkm.2))) ?_
              refine qt_valE (v := .bool false) rfl (fun wq hq => rf_move rfl) rfl ?_
              refine qt_guardT rfl rfl rfl rfl ?_
              refine qt_valE (v := .pointer (some ⟨wb, 0, none⟩)) rfl (fun wq hq => rf_move rfl) rfl ?_
              refine qt_guardT rfl rfl rfl rfl ?_
              refine qt_valE (v := .pointer (some ⟨wb, 0, none⟩)) rfl (fun wq hq => rf_nilCheckP rfl rfl) rfl ?_
              refine qt_guardT rfl rfl rfl rfl ?_
              refine qt_valE (v := .pointer (some ⟨wb, 0, none⟩)) rfl (fun wq hq => rf_fieldAddr Try.underlying36 rfl ti33 rfl rfl) rfl ?_
              refine qt_guardT rfl rfl rfl rfl ?_
              refine qt_valE (v := .pointer (some ⟨sb, 0, none⟩)) rfl (fun wq hq => rf_load Try.underlying33 rfl rfl rfl (((HL2.keep hq).blk 0 rfl).cell rfl)) rfl ?_
              refine qt_guardT rfl rfl rfl rfl ?_
              refine qt_valE (v := .slice ka ks.length kc) rfl (fun wq hq => rf_move rfl) rfl ?_
              refine qt_guardT rfl rfl rfl rfl ?_
              refine qt_valE (v := .int .i64 ((j : Nat) : Int)) rfl (fun wq hq => rf_move rfl) rfl ?_
              refine qt_guardT rfl rfl rfl rfl ?_
              refine qt_valE (v := .pointer (some ⟨ab ka, ao ka + j * 2, none⟩)) rfl (fun wq hq => rf_indexAddrH Try.underlying38 ti28 rfl rfl rfl rfl (by omega) (by omega) ((HL2.keep hq).rdO 3 slH_rd)) rfl ?_
              refine qt_guardT rfl rfl rfl rfl ?_
              refine qt_valE (v := .agg #[.int .i64 k.table, .int .i64 k.row]) rfl (fun wq hq => rf_loadAgg (cs := [.int .i64 k.table, .int .i64 k.row]) Try.underlying28 rfl ti28 rfl rfl (el_sub' (rd_el ((HL2.keep hq).rdO 3 slH_rd) hk) 0 2 rfl) rfl) rfl ?_
              refine qt_guardT rfl rfl rfl rfl ?_
              refine qt_ret (v := .int .i64 (visF x.st k 1099511627776)) rfl (fun wq hq => ((newest_tr k (by omega)).quiet (HL2.keep hq) (.own 2 rfl Le.rfl .nil) (by rintro _ _ ⟨rfl, rfl⟩; exact rfl)).mono (fun _ _ h => ⟨h.1, hq.trans h.2⟩)) (fun wq hq => rf_call Try.call12 rfl rfl) ?_
              refine qt_guardT rfl rfl rfl rfl ?_
              refine qt_valE (v := .bool false) rfl (fun wq hq => rf_eql rfl rfl rfl rfl) (congrArg Value.bool (decide_eq_false (newest_pos hvi hsi (by omega) hkm.1))) ?_
              refine qt_valE (v := .bool false) rfl (fun wq hq => rf_pickF rfl rfl rfl rfl) rfl ?_
              refine qt_nil ?_
              intro w10 hk10
              have H10 := HL2.keep hk10
              refine thn ?_
              refine condF rfl rfl ?_
              refine skip_ ?_
              refine thn ?_
              refine seq_ ?_
              refine region_ ?_
              refine wl_valE (v := .pointer (some ⟨wb, 0, none⟩)) rfl (rf_move rfl) rfl ?_
              refine wl_valE (v := .slice ka ks.length kc) rfl (rf_move rfl) rfl ?_
              refine wl_valE (v := .int .i64 ((j : Nat) : Int)) rfl (rf_move rfl) rfl ?_
              refine wl_valE (v := .pointer (some ⟨ab ka, ao ka + j * 2, none⟩)) rfl (rf_indexAddrH Try.underlying38 ti28 rfl rfl rfl rfl (by omega) (by omega) (H10.rdO 3 slH_rd)) rfl ?_
              refine wl_valE (v := .agg #[.int .i64 k.table, .int .i64 k.row]) rfl (rf_loadAgg (cs := [.int .i64 k.table, .int .i64 k.row]) Try.underlying28 rfl ti28 rfl rfl (el_sub' (rd_el (H10.rdO 3 slH_rd) hk) 0 2 rfl) rfl) rfl ?_
              refine wl_tr H10 rfl [] (chained_tr wb sb x la lc k _ hvi hsi (by omega) (by omega) (by omega)) rfl (.own 0 rfl Le.rfl (.own 1 rfl slH_rd (.own 2 rfl Le.rfl .nil))) (rf_call Try.call13 rfl rfl) rfl ?_
              rintro _ w11 _ ⟨rfl, rfl⟩ H11
              refine wl_valE (v := .int .i64 ((cntF x k 0 : Nat) : Int)) rfl (rf_assign rfl) rfl ?_
              refine wl_nil ?_
              refine thn ?_
              refine seq_ ?_
              refine seq_ ?_
              refine region_ ?_
              refine wl_valE (v := .int .i64 ((cntF x k 0 : Nat) : Int)) rfl (rf_move rfl) rfl ?_
              refine wl_valE (v := .bool (decide (((cntF x k 0 : Nat) : Int) < (1 : Int)))) rfl (rf_lss rfl rfl rfl rfl) rfl ?_
              refine wl_nil ?_
              refine thn ?_
              refine condF' rfl rfl (t := decide (((cntF x k 0 : Nat) : Int) < (1 : Int))) ((decide_eq_false (by omega))) ?_
              refine skip_ ?_
              refine thn ?_
              refine region_ ?_
              refine wl_valE (v := .int .i64 ((tot2 : Nat) : Int)) rfl (rf_move rfl) rfl ?_
              refine wl_valE (v := .int .i64 ((cntF x k 0 : Nat) : Int)) rfl (rf_move rfl) rfl ?_
              refine wl_valE (v := .int .i64 ((tot2 + (cntF x k 0) : Nat) : Int)) rfl (rf_add rfl rfl rfl rfl (IntWalk.i64_in _ (by omega))) rfl ?_
              refine wl_valE (v := .int .i64 ((tot2 + (cntF x k 0) : Nat) : Int)) rfl (rf_assign rfl) rfl ?_
              refine wl_nil ?_
              refine bln ?_
              refine thn ?_
              refine region_ ?_
              refine wl_valE (v := .int .i64 ((j : Nat) : Int)) rfl (rf_move rfl) rfl ?_
              refine wl_valE (v := .int .i64 ((j + 1 : Nat) : Int)) rfl (rf_add rfl rfl rfl rfl (IntWalk.i64_in _ (by omega))) rfl ?_
              refine wl_valE (v := .int .i64 ((j + 1 : Nat) : Int)) rfl (rf_assign rfl) rfl ?_
              refine wl_nil ?_
              refine thn ?_
              refine ⟨ks.length - (j + 1), _, rfl, (by omega), _, j + 1, tot2 + cntF x k 0, upds_self ⟨rfl, rfl, rfl, rfl, rfl, trivial⟩, rfl, by omega, by rw [htot2, cntK_succ hk hks.1]; omega, H11.pick' [0, 1, 2, 3] rfl rfl⟩
            · have c79p := of_decide_eq_false c79
              refine exit_ ?_
              refine thx (thx (blx ?_))
              refine bln ?_
              refine thn ?_
              refine region_ ?_
              refine wl_valE (v := .int .i64 p) rfl (rf_move rfl) rfl ?_
              refine wl_valE (v := .int .i64 (p + (1 : Int))) rfl (rf_add rfl rfl rfl rfl (IntWalk.i64_in _ (by omega))) rfl ?_
              refine wl_valE (v := .int .i64 (p + (1 : Int))) rfl (rf_assign rfl) rfl ?_
              refine wl_nil ?_
              refine thn ?_
              refine ⟨(x.st.parts + 1 - (p + 1)).toNat, _, rfl, (by omega), _, p + 1, tot2, upds_self ⟨rfl, rfl, rfl, trivial⟩, rfl, ⟨by omega, by omega⟩, by rw [htot2, htot, cntP_succ hvi hks, List.take_of_length_le (by omega)], HL2.pick' [0, 1, 2] rfl rfl⟩
        · have c64p := of_decide_eq_false c64
          refine exit_ ?_
          refine thx (thx (blx ?_))
          refine thn ?_
          refine seq_ ?_
          obtain rfl : p = x.st.parts + 1 := by omega
          have hend := cntP_end (x := x) hpar.1
          refine region_ ?_
          refine wl_valE (v := .int .i64 ((tot : Nat) : Int)) rfl (rf_move rfl) rfl ?_
          refine wl_valE (v := .pointer (some ⟨wb, 0, none⟩)) rfl (rf_move rfl) rfl ?_
          refine wl_valE (v := .pointer (some ⟨wb, 0, none⟩)) rfl (rf_nilCheckP rfl rfl) rfl ?_
          refine wl_valE (v := .pointer (some ⟨wb, 1, none⟩)) rfl (rf_fieldAddr Try.underlying36 rfl ti34 rfl rfl) rfl ?_
          refine wl_valE (v := .slice la x.all.length lc) rfl (rf_load Try.underlying34 rfl rfl rfl ((H6.blk 0 rfl).cell rfl)) rfl ?_
          refine wl_valE (v := .int .i64 ((x.all.length : Nat) : Int)) rfl (rf_len_slice Try.underlying34 rfl rfl) rfl ?_
          refine wl_valE (v := .bool (decide (((tot : Nat) : Int) = ((x.all.length : Nat) : Int)))) rfl (rf_eql rfl rfl rfl rfl) rfl ?_
          refine wl_valE (v := .bool (decide (((tot : Nat) : Int) = ((x.all.length : Nat) : Int)))) rfl (rf_assign rfl) rfl ?_
          refine wl_nil ?_
          refine thn ?_
          refine ret_ ?_
          refine fin1 (v := .bool (decide (((tot : Nat) : Int) = ((x.all.length : Nat) : Int)))) Try.results3 rfl rfl ?_
          exact ⟨_, congrArg Value.bool (decide_eq_true (by omega)), H6.pick' [] rfl rfl⟩
end Go.Proofs.Ytojcddlpkfhodaa.W
