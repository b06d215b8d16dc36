import Derived.Test.YtojcddlpkfhodaaGreatS2
import Derived.Test.YtojcddlpkfhodaaGreatD2
import Derived.Test.YtojcddlpkfhodaaGreatK3
import Derived.KernelRfl
namespace Go.Proofs.YtojcddlpkfhodaaGreat.W
open Go Go.Wk
set_option linter.unusedVariables false
set_option linter.unusedSimpArgs false

def stoH (s : Nat) (st : StS) : HP := oldH (fun w h => StoreR w s st h) (fpS s) (fun h => h.lt) (fun h hk hd => h.kp hk hd)
def fixH (s : Nat) (st : StS) (h : StH) : HP := oldH (fun w (_ : Unit) => StoreR w s st h) (fun _ => fpS s h) (fun h => h.lt) (fun h hk hd => h.kp hk hd)
def st0 (m c : Int) : StS := ⟨c, m, 0, 0, fun _ => none, fun _ => []⟩
def zVer : VerR := ⟨0, 0, ⟨0, 0⟩, false, ⟨false, 0⟩⟩
def verF (st : StS) (x : Int) : VerR := (st.ver x).getD zVer
def refE (st : StS) (x : Int) : Int := if (st.ver x).isSome then 0 else 93
def remS (st : StS) (x : Int) : StS := match st.ver x with | some r => remSt st x r | none => st
def filE (st : StS) (x : Int) : Int := match st.ver x with | some r => if r.filled then 95 else 0 | none => 93
def filS (st : StS) (x : Int) (c : Cell) : StS := match st.ver x with | some r => if r.filled then st else fillSt st x r c | none => st
def insS (st : StS) (k : Key) (b i : Int) : StS := if insErr st k b i = 0 then insSt st k b i else st
theorem newS_tr (m c : Int) (hm : 1 ≤ m ∧ m ≤ 256) (hc : 1 ≤ c ∧ c ≤ 65536) : Tr Tryz.prog 4 [.int .i64 m, .int .i64 c] [] [] fun v q => ∃ s, v = .tuple #[.pointer (some ⟨s, 0, none⟩), .int .i64 0] ∧ q = [stoH s (st0 m c)] := by
  intro w S0 H
  refine Ret.mono (newS_ret m c w hm hc) ?_
  rintro v w' ⟨s, h, rfl, h1, h2, h3⟩
  exact ⟨_, ⟨s, rfl, rfl⟩, H.new (S := fpS s h) h2 ⟨h, h1, fun _ => Iff.rfl⟩ h3⟩
theorem insert_tr {s : Nat} {st : StS} (k : Key) (b i : Int) (hl : st.last ≤ 17592186044000) : Tr Tryz.prog 12 [.pointer (some ⟨s, 0, none⟩), .agg #[.int .i64 k.table, .int .i64 k.row], .int .i64 b, .int .i64 i] [] [stoH s st] fun v q => v = .tuple #[.int .i64 (if insErr st k b i = 0 then st.last + 1 else 0), .int .i64 (insErr st k b i)] ∧ q = [stoH s (insS st k b i)] :=
  Tr.of_old fun w h hs => insert_ret s st h w hs k b i hl
theorem remove_tr {s : Nat} {st : StS} (x : Int) (hl : st.last ≤ 17592186044415) : Tr Tryz.prog 16 [.pointer (some ⟨s, 0, none⟩), .int .i64 x] [] [stoH s st] fun v q => v = .int .i64 (refE st x) ∧ q = [stoH s (remS st x)] :=
  Tr.of_old fun w h hs => by
    unfold refE remS
    cases hv : st.ver x with
    | none => exact (removeN_ret s st h w hs x hv).mono fun v w' ⟨h1, h2⟩ => ⟨h1, h, hs.keep h2, fun _ => .inl, h2.of_none⟩
    | some r => exact remove_ret s st h w hs x r hv hl
theorem fill_tr {s : Nat} {st : StS} (x : Int) (c : Cell) : Tr Tryz.prog 14 [.pointer (some ⟨s, 0, none⟩), .int .i64 x, .agg #[.bool c.is_, .int .i64 c.value]] [] [stoH s st] fun v q => v = .int .i64 (filE st x) ∧ q = [stoH s (filS st x c)] :=
  Tr.of_old fun w h hs => by
    unfold filE filS
    cases hv : st.ver x with
    | none => exact (fillN_ret s st h w hs c x hv).mono fun v w' ⟨h1, h2⟩ => ⟨h1, h, hs.keep h2, fun _ => .inl, h2.of_none⟩
    | some r =>
      cases hf : r.filled with
      | true => simp only [hf, if_true]; exact (fillE_ret s st h w hs c x r hv hf).mono fun v w' ⟨h1, h2⟩ => ⟨h1, h, hs.keep h2, fun _ => .inl, h2.of_none⟩
      | false => simp only [hf]; exact (fill_ret s st h w hs c x r hv hf).mono fun v w' ⟨h1, h2, h3⟩ => ⟨h1, h, h2, fun _ => .inl, h3⟩
theorem look_tr {s : Nat} {st : StS} (x : Int) : Tr Tryz.prog 18 [.pointer (some ⟨s, 0, none⟩), .int .i64 x] [stoH s st] [] fun v q => v = .tuple #[.agg #[.int .i64 (verF st x).batch, .int .i64 (verF st x).index, .bool (verF st x).filled, .bool (verF st x).cell.is_, .int .i64 (verF st x).cell.value], .int .i64 (refE st x)] ∧ q = [] :=
  Tr.of_quiet fun w h hs => by
    unfold refE verF
    cases hv : st.ver x with
    | none => exact lookN_ret s st h w hs x hv
    | some r => exact look_ret s st h w hs x r hv
theorem visible_tr {s : Nat} {st : StS} (k : Key) (b : Int) (hl : st.last ≤ 17592186044415) : Tr Tryz.prog 26 [.pointer (some ⟨s, 0, none⟩), .agg #[.int .i64 k.table, .int .i64 k.row], .int .i64 b] [stoH s st] [] fun v q => v = .int .i64 (visF st k b) ∧ q = [] :=
  Tr.of_quiet fun w h hs => visible_ret s st h w hs k b hl
theorem newest_tr {s : Nat} {st : StS} (k : Key) (hl : st.last ≤ 17592186044415) : Tr Tryz.prog 24 [.pointer (some ⟨s, 0, none⟩), .agg #[.int .i64 k.table, .int .i64 k.row]] [stoH s st] [] fun v q => v = .int .i64 (visF st k 1099511627776) ∧ q = [] :=
  Tr.of_quiet fun w h hs => newest_ret s st h w hs k hl
theorem live_tr {s : Nat} {st : StS} : Tr Tryz.prog 36 [.pointer (some ⟨s, 0, none⟩)] [stoH s st] [] fun v q => v = .int .i64 ((st.live : Nat) : Int) ∧ q = [] :=
  Tr.of_quiet fun w h hs => live_ret s st h w hs
theorem room_tr {s : Nat} {st : StS} (hr : 0 ≤ st.room ∧ st.room ≤ 65536) (hl : (st.live : Int) ≤ 1000000000) : Tr Tryz.prog 37 [.pointer (some ⟨s, 0, none⟩)] [stoH s st] [] fun v q => v = .int .i64 (st.room - (st.live : Nat)) ∧ q = [] :=
  Tr.of_quiet fun w h hs => room_ret s st h w hs hr hl
/-! opened for reading -/
theorem stoR {w0 w : World} {S0 : Nat → Prop} {R L : List HP} {s : Nat} {st : StS} (H : St w0 S0 R w L) (k : Nat) (hA : getH R k = stoH s st) : ∃ h, StoreR w s st h ∧ St w0 S0 (R ++ [blkH s #[.int .i64 st.room, .int .i64 st.parts, .int .i64 st.last, .map (some h.vr), .pointer (some ⟨h.bd, 0, none⟩)] 61, mapH iv pv h.vr h.m, fixH s st h]) w L := by
  obtain ⟨h, hs, H'⟩ := H.oldR k hA (fun h => [blkH s #[.int .i64 st.room, .int .i64 st.parts, .int .i64 st.last, .map (some h.vr), .pointer (some ⟨h.bd, 0, none⟩)] 61, mapH iv pv h.vr h.m, fixH s st h]) (fun h hs i => by
    match i with
    | 0 => exact ⟨_, blkH_mk hs.blk, fun b hb => .inl hb⟩
    | 1 => exact ⟨_, mapH_mk hs.vers, fun b hb => .inr (.inl hb)⟩
    | 2 => exact ⟨fpS s h, ⟨(), hs, fun _ => Iff.rfl⟩, fun b hb => hb⟩
    | (n + 3) => exact ⟨fun _ => False, fun _ h => h, fun _ h => h.elim⟩)
  exact ⟨h, hs, H'⟩
theorem stoCh {w0 w : World} {S0 : Nat → Prop} {R L : List HP} {s : Nat} {st : StS} {h : StH} (H : St w0 S0 R w L) (i : Nat) (hA : getH R i = fixH s st h) (k : Key) : St w0 S0 (R ++ [rdH encI 1 (chainV h.ls k).a (st.ch k).length (chainV h.ls k).c (st.ch k)]) w L := by
  obtain ⟨_, _, H'⟩ := H.oldR i hA (fun _ => [rdH encI 1 (chainV h.ls k).a (st.ch k).length (chainV h.ls k).c (st.ch k)]) (fun _ hs j => by
    match j with
    | 0 =>
      refine ⟨fun b => h.own b = some k, rdH_mk rfl ?_ (fun x hx => hs.ownlt x (by rw [hx]; simp)), fun b hb => .inr (.inr (.inr (.inr (by rw [hb]; simp))))⟩
      have hc := (hs.chain k).rd
      obtain ⟨a, c, e, _⟩ := hc.form
      simp only [slv, Value.slice.injEq] at e
      have : slv (chainV h.ls k) = .slice (chainV h.ls k).a (st.ch k).length (chainV h.ls k).c := by unfold slv; rw [e.2.1]
      rw [← this]; exact hc
    | (n + 1) => exact ⟨fun _ => False, fun _ h => h, fun _ h => h.elim⟩)
  exact H'
theorem stoVer {w0 w : World} {S0 : Nat → Prop} {R L : List HP} {s : Nat} {st : StS} {h : StH} (H : St w0 S0 R w L) (i : Nat) (hA : getH R i = fixH s st h) {v : Int} {r : VerR} (hv : st.ver v = some r) : ∃ b, getL h.m v = some b ∧ St w0 S0 (R ++ [blkH b #[.int .i64 r.batch, .int .i64 r.index, .int .i64 r.key.table, .int .i64 r.key.row, .bool r.filled, .bool r.cell.is_, .int .i64 r.cell.value] 104]) w L := by
  obtain ⟨S, hS⟩ := H.getR i hA
  obtain ⟨_, hs, _⟩ := hS
  obtain ⟨b, h1, h2, h3⟩ := hs.get hv
  obtain ⟨_, _, H'⟩ := H.oldR i hA (fun _ => [blkH b #[.int .i64 r.batch, .int .i64 r.index, .int .i64 r.key.table, .int .i64 r.key.row, .bool r.filled, .bool r.cell.is_, .int .i64 r.cell.value] 104]) (fun _ hs j => by
    match j with
    | 0 => exact ⟨_, blkH_mk h2, fun x hx => .inr (.inr (.inr (.inl (by rw [hx]; exact h3))))⟩
    | (n + 1) => exact ⟨fun _ => False, fun _ h => h, fun _ h => h.elim⟩)
  exact ⟨b, h1, H'⟩
theorem getF_tr {s : Nat} {st : StS} {h : StH} (k : Key) : Tr Tryz.prog 45 [.pointer (some ⟨h.bd, 0, none⟩), .agg #[.int .i64 k.table, .int .i64 k.row]] [fixH s st h] [] fun v q => v = .tuple #[.slice (chainV h.ls k).a (st.ch k).length (chainV h.ls k).c, .bool (dgetC h.ls k).isSome] ∧ q = [] :=
  Tr.of_quiet fun w _ hs => (getC_ret k h.bd h.bp h.rs h.ls h.came h.n w hs.dict).mono fun v w' ⟨h1, h2⟩ => ⟨by
    obtain ⟨a, c, e, _⟩ := (hs.chain k).form
    simp only [slv, Value.slice.injEq] at e
    rw [← e.2.1, h1]; rfl, h2⟩
theorem row_lt {R : List SlotC} {l : List (Key × SlotC)} (h : RowOfC l R) : R.length = l.length := by rw [h.1.length_eq, List.length_map]
theorem partL_len {ls : List (List (Key × SlotC))} {c : Int} (h : CBC ls c) (p : Int) : ((partLC ls p).length : Int) ≤ c := by
  unfold partLC
  split
  · rw [List.getD_eq_getElem?_getD]
    cases hl : ls[p.toNat]? with
    | none => simp; exact h.1
    | some l => exact (h.2 l (List.mem_of_getElem? hl)).2.2
  · simp; exact h.1
theorem rowF_tr {s : Nat} {st : StS} {h : StH} (p : Int) (hl : st.last ≤ 2932031007400) : Tr Tryz.prog 65 [.pointer (some ⟨h.bd, 0, none⟩), .int .i64 p] [fixH s st h] [] fun v q => ∃ a c R, (RowOfC (partLC h.ls p) R ∧ (R.length : Int) ≤ st.last) ∧ v = .slice a R.length c ∧ q = [slH encSlotC 4 124 a R.length c R] :=
  Tr.of_new fun w _ hs => by
    have hc := hs.came
    refine Ret.mono (rowAC_ret h.bd h.bp h.rs h.ls h.came h.n w hs.dict p (fun l hl => ⟨fun p hp => ?_, (hc.1.2 l hl).2.1⟩) (fun l hl => ?_)) ?_
    · have := (hc.1.2 l hl).1 p hp; unfold okCC; omega
    · have := (hc.1.2 l hl).2.2; omega
    · rintro v w' ⟨R, hR, hs2, g⟩
      exact ⟨R, ⟨hR, by rw [row_lt hR]; have := partL_len hc.1 p; omega⟩, ⟨_, hs2, fun y hy => hy.1⟩, g⟩
/-- the keys of a partition -/
def IsKeys (st : StS) (p : Int) (l : List Key) : Prop := RisK l ∧ ∀ k, k ∈ l ↔ st.ch k ≠ [] ∧ ((hashF k : Nat) : Int) % st.parts = p
theorem rows_keys {w : World} {s : Nat} {st : StS} {h : StH} (hs : StoreR w s st h) {p : Int} {R : List SlotC} (hR : RowOfC (partLC h.ls p) R) : (R.map (·.key)).Nodup ∧ ∀ k, k ∈ R.map (·.key) ↔ st.ch k ≠ [] ∧ ((hashF k : Nat) : Int) % st.parts = p := by
  have hm : (R.map (·.key)).Perm ((partLC h.ls p).map (fun q => q.2.key)) := by
    have := hR.1.map (·.key)
    rwa [List.map_map] at this
  have hk : (partLC h.ls p).map (fun q => q.2.key) = (partLC h.ls p).map (·.1) ∧ ((partLC h.ls p).map (·.1)).Nodup := by
    unfold partLC
    split
    · rw [List.getD_eq_getElem?_getD]
      cases hl : h.ls[p.toNat]? with
      | none => simp
      | some l =>
        have := hs.dict.keys l (List.mem_of_getElem? hl)
        exact ⟨List.map_congr_left (fun q hq => this.2 q hq), this.1⟩
    · simp
  rw [hk.1] at hm
  refine ⟨hm.nodup_iff.2 hk.2, fun k => ?_⟩
  rw [hm.mem_iff]
  have hlen := hs.dict.len
  have hpos := hs.dict.pos
  have hpp := hs.parts
  have hi := Nat.mod_lt (hashF k) (show 0 < h.ls.length by omega)
  obtain ⟨l, hl⟩ : ∃ l, h.ls[hashF k % h.ls.length]? = some l := ⟨_, List.getElem?_eq_getElem hi⟩
  have hg := dgetC_eq hl
  have hme : ((hashF k : Nat) : Int) % st.parts = ((hashF k % h.ls.length : Nat) : Int) := by rw [hpp, ← hlen]; rfl
  have hc := hs.chnone k
  constructor
  · intro hk2
    obtain ⟨q, hq, rfl⟩ := List.mem_map.1 hk2
    have hq2 := hq
    unfold partLC at hq
    split at hq
    · rw [List.getD_eq_getElem?_getD] at hq
      cases hl2 : h.ls[p.toNat]? with
      | none => rw [hl2] at hq; cases hq
      | some l2 =>
        rw [hl2] at hq
        have hp := hs.ptc _ l2 hl2 q hq
        rw [hp] at hl hme
        rw [hl2] at hl; cases hl
        refine ⟨fun e => ?_, by omega⟩
        have := hc.2 e
        rw [hg] at this
        have h3 := mem_getL (hs.dict.keys l (List.mem_of_getElem? hl2)).1 (a := q.1) (v := q.2) hq
        rw [this] at h3; cases h3
    · cases hq
  · rintro ⟨h1, h2⟩
    have hp : p = ((hashF k % h.ls.length : Nat) : Int) := by omega
    subst hp
    unfold partLC
    rw [if_pos (by omega), Int.toNat_natCast, List.getD_eq_getElem?_getD, hl, Option.getD_some]
    cases hg2 : getL l k with
    | none => exact absurd (hc.1 (hg.trans hg2)) h1
    | some s => exact List.mem_map.2 ⟨_, getL_mem hg2, rfl⟩
theorem keys_ok {st : StS} (h : StInv st) {k : Key} (hk : st.ch k ≠ []) : okK k = true := by
  cases hc : st.ch k with
  | nil => exact absurd hc hk
  | cons v l =>
    obtain ⟨r, h1, h2⟩ := h.chv k v (by rw [hc]; simp)
    have := (h.verb v r h1).2.2.2
    rwa [h2] at this
end Go.Proofs.YtojcddlpkfhodaaGreat.W
