import Derived.Test.YtiidihgimcebgaaC6
import Derived.KernelRfl
namespace Go.Proofs.Ytiidihgimcebgaa.W
open Go Go.Wk
set_option linter.unusedVariables false
set_option linter.unusedSimpArgs false

def bi : Option Nat → Int | none => -1 | some j => ((j : Nat) : Int)
def rawR : List Sv → List Cho → List RCho
  | s :: ss, c :: cs => ⟨c.left, s⟩ :: rawR ss cs
  | _, _ => []
theorem rawR_get : ∀ {ss : List Sv} {cs : List Cho} {i : Nat} {c : Cho}, ss.length = cs.length → cs[i]? = some c → ∃ s, ss[i]? = some s ∧ (rawR ss cs)[i]? = some ⟨c.left, s⟩
  | s :: ss, d :: cs, 0, c, _, h => by cases h; exact ⟨s, rfl, rfl⟩
  | s :: ss, d :: cs, i + 1, c, he, h => rawR_get (ss := ss) (cs := cs) (i := i) (Nat.succ.inj he) (by simpa using h)
  | [], [], _, _, _, h => by simp at h
  | [], _ :: _, _, _, he, _ => by cases he
  | _ :: _, [], _, _, he, _ => by cases he
theorem rawR_len : ∀ {ss : List Sv} {cs : List Cho}, ss.length = cs.length → (rawR ss cs).length = cs.length
  | [], [], _ => rfl
  | s :: ss, d :: cs, h => congrArg (· + 1) (rawR_len (ss := ss) (cs := cs) (Nat.succ.inj h))
theorem rawR_set : ∀ {ss : List Sv} {cs : List Cho} {i : Nat} {s : Sv} {v : Int} {c : Cho}, ss[i]? = some s → cs[i]? = some c → (rawR ss cs).set i ⟨v, s⟩ = rawR ss (cs.set i { c with left := v })
  | s :: ss, d :: cs, 0, t, v, c, h1, h2 => by cases h1; rfl
  | s :: ss, d :: cs, i + 1, t, v, c, h1, h2 => congrArg (RCho.mk d.left s :: ·) (rawR_set (ss := ss) (cs := cs) (i := i) (by simpa using h1) (by simpa using h2))
theorem rawR_app {s : Sv} {c : Cho} : ∀ {ss : List Sv} {cs : List Cho}, ss.length = cs.length → rawR (ss ++ [s]) (cs ++ [c]) = rawR ss cs ++ [⟨c.left, s⟩]
  | [], [], _ => rfl
  | t :: ss, d :: cs, h => congrArg (RCho.mk d.left t :: ·) (rawR_app (ss := ss) (cs := cs) (Nat.succ.inj h))
def bhs (cs : List Cho) : List (List Int) := cs.map fun c => c.bh.map bi
theorem bhs_get {cs : List Cho} {i : Nat} {c : Cho} (h : cs[i]? = some c) : (bhs cs)[i]? = some (c.bh.map bi) := by unfold bhs; rw [List.getElem?_map, h]; rfl
theorem bhs_set {cs : List Cho} {i : Nat} {c : Cho} {v : Int} (h : cs[i]? = some c) : bhs (cs.set i { c with left := v }) = bhs cs := by
  unfold bhs
  apply List.ext_getElem?
  intro j
  rw [List.getElem?_map, List.getElem?_map, List.getElem?_set]
  split
  · rename_i e; subst e
    split
    · rw [h]; rfl
    · rename_i hl; rw [h]; exact absurd (List.getElem?_eq_some_iff.1 h).1 hl
  · rfl
structure RHid where
  a : Option Addr
  c : Nat
  ss : List Sv
def refH (p : Nat) (cs : List Cho) : HP := repH (fun (x : RHid) => x.ss.length = cs.length) fun x => [blkH p #[.slice x.a cs.length x.c] 63, slH encRCho 2 73 x.a cs.length x.c (rawR x.ss cs), ssH encI 1 3 x.ss (bhs cs)]
theorem refH.open_ {w0 w : World} {S0 : Nat → Prop} {R L : List HP} {p : Nat} {cs : List Cho} (H : St w0 S0 R w L) (k : Nat) (hA : getH L k = refH p cs) (hlt : hasH L k = true) : ∃ x : RHid, (x.ss.length = cs.length) ∧ St w0 S0 R w (putsH L [k] [blkH p #[.slice x.a cs.length x.c] 63, slH encRCho 2 73 x.a cs.length x.c (rawR x.ss cs), ssH encI 1 3 x.ss (bhs cs)]) := H.open_ k hA hlt
theorem refH.openR {w0 w : World} {S0 : Nat → Prop} {R L : List HP} {p : Nat} {cs : List Cho} (H : St w0 S0 R w L) (k : Nat) (hA : getH R k = refH p cs) : ∃ x : RHid, (x.ss.length = cs.length) ∧ St w0 S0 (R ++ [blkH p #[.slice x.a cs.length x.c] 63, slH encRCho 2 73 x.a cs.length x.c (rawR x.ss cs), ssH encI 1 3 x.ss (bhs cs)]) w L := H.openR k hA
theorem refH.close_ {w0 w : World} {S0 : Nat → Prop} {R L : List HP} {p : Nat} {cs : List Cho} (H : St w0 S0 R w L) (is : List Nat) (x : RHid) (hx : x.ss.length = cs.length) (hM : pickH L is = [blkH p #[.slice x.a cs.length x.c] 63, slH encRCho 2 73 x.a cs.length x.c (rawR x.ss cs), ssH encI 1 3 x.ss (bhs cs)]) (hi : okI L is = true) : St w0 S0 R w (putsH L is [refH p cs]) := H.close_ is x hx hM hi
attribute [irreducible] refH
def rlH (q p : Nat) (ts : List (Option Nat)) (steps : Int) : HP := repH (fun (x : Sv) => True) fun x => [blkH q #[.pointer (some ⟨p, 0, none⟩), .slice x.a x.n x.c, .int .i64 steps] 70, slH encI 1 3 x.a x.n x.c (ts.map bi)]
theorem rlH.open_ {w0 w : World} {S0 : Nat → Prop} {R L : List HP} {q p : Nat} {ts : List (Option Nat)} {steps : Int} (H : St w0 S0 R w L) (k : Nat) (hA : getH L k = rlH q p ts steps) (hlt : hasH L k = true) : ∃ x : Sv, (True) ∧ St w0 S0 R w (putsH L [k] [blkH q #[.pointer (some ⟨p, 0, none⟩), .slice x.a x.n x.c, .int .i64 steps] 70, slH encI 1 3 x.a x.n x.c (ts.map bi)]) := H.open_ k hA hlt
theorem rlH.openR {w0 w : World} {S0 : Nat → Prop} {R L : List HP} {q p : Nat} {ts : List (Option Nat)} {steps : Int} (H : St w0 S0 R w L) (k : Nat) (hA : getH R k = rlH q p ts steps) : ∃ x : Sv, (True) ∧ St w0 S0 (R ++ [blkH q #[.pointer (some ⟨p, 0, none⟩), .slice x.a x.n x.c, .int .i64 steps] 70, slH encI 1 3 x.a x.n x.c (ts.map bi)]) w L := H.openR k hA
theorem rlH.close_ {w0 w : World} {S0 : Nat → Prop} {R L : List HP} {q p : Nat} {ts : List (Option Nat)} {steps : Int} (H : St w0 S0 R w L) (is : List Nat) (x : Sv) (hx : True) (hM : pickH L is = [blkH q #[.pointer (some ⟨p, 0, none⟩), .slice x.a x.n x.c, .int .i64 steps] 70, slH encI 1 3 x.a x.n x.c (ts.map bi)]) (hi : okI L is = true) : St w0 S0 R w (putsH L is [rlH q p ts steps]) := H.close_ is x hx hM hi
attribute [irreducible] rlH

theorem map_at {α β : Type} {f : α → β} {l : List α} {i : Nat} {y : β} (h : (l.map f)[i]? = some y) : ∃ x, l[i]? = some x ∧ y = f x := by
  rw [List.getElem?_map] at h
  cases hq : l[i]? with
  | none => rw [hq] at h; cases h
  | some x => rw [hq] at h; exact ⟨x, rfl, (Option.some.inj h).symm⟩
def rdyI (cs : List Cho) (n : Int) : Bool := if n < 0 then false else rdy cs n.toNat
theorem rdyI_bi (cs : List Cho) (o : Option Nat) : rdyI cs (bi o) = match o with | none => false | some j => rdy cs j := by
  cases o with
  | none => rfl
  | some j => show rdyI cs ((j : Nat) : Int) = rdy cs j; unfold rdyI; rw [if_neg (by omega)]; rfl
def stepI (cs : List Cho) (n : Int) : List Cho := if n < 0 then cs else stepC cs n.toNat
theorem stepI_not {cs : List Cho} {n : Int} (h : rdyI cs n = false) : stepI cs n = cs := by
  unfold stepI
  unfold rdyI at h
  split
  · rfl
  · rename_i hn
    rw [if_neg hn] at h
    unfold rdy at h
    unfold stepC
    cases hc : cs[n.toNat]? with
    | none => rfl
    | some c => rw [hc] at h; simp only at h; simp only [h]; rfl
theorem stepI_bi (cs : List Cho) (o : Option Nat) : stepI cs (bi o) = match o with | none => cs | some j => stepC cs j := by
  cases o with
  | none => rfl
  | some j => show stepI cs ((j : Nat) : Int) = stepC cs j; unfold stepI; rw [if_neg (by omega)]; rfl
theorem rready_tr {p : Nat} {cs : List Cho} (hok : OkB cs) (hbl : ∀ (i : Nat) (c : Cho), cs[i]? = some c → c.bh.length ≤ 4398046511104) (n : Int) (hn : n < ((cs.length : Nat) : Int)) : Tr Try.prog 36 [.pointer (some ⟨p, 0, none⟩), .int .i64 n] [refH p cs] [] (fun v m => v = .bool (rdyI cs n) ∧ m = []) := by
  intro w0 S0 H0
  obtain ⟨x, hxs, H1⟩ := refH.openR H0 0 rfl
  refine enterR Try.func36 rfl Try.ntmps36 rfl ?_
  intro g0
  refine seq_ ?_
  refine region_ ?_
  refine wl_valE (v := .bool false) rfl (rf_assign rfl) rfl ?_
  refine wl_nil ?_
  refine thn ?_
  refine seq_ ?_
  refine seq_ ?_
  refine region_ ?_
  refine wl_valE (v := .int .i64 n) rfl (rf_move rfl) rfl ?_
  refine wl_valE (v := .bool (decide (n < (0 : Int)))) rfl (rf_lss rfl rfl rfl rfl) rfl ?_
  refine wl_valE (v := .bool (decide (n < (0 : Int)))) rfl (rf_move rfl) rfl ?_
  refine wl_split (decide (n < (0 : Int))) (fun u1_2 => ?_) (fun u1_2 => ?_)
  · have u1_2p := of_decide_eq_true u1_2
    refine wl_guardF rfl rfl rfl u1_2 ?_
    refine wl_guardF rfl rfl rfl u1_2 ?_
    refine wl_guardF rfl rfl rfl u1_2 ?_
    refine wl_guardF rfl rfl rfl u1_2 ?_
    refine wl_guardF rfl rfl rfl u1_2 ?_
    refine wl_guardF rfl rfl rfl u1_2 ?_
    refine wl_guardF rfl rfl rfl u1_2 ?_
    refine wl_guardF rfl rfl rfl u1_2 ?_
    refine wl_guardF rfl rfl rfl u1_2 ?_
    refine wl_valE (v := .bool true) rfl (rf_pickT rfl rfl rfl u1_2) rfl ?_
    refine wl_nil ?_
    refine thn ?_
    refine condT rfl rfl ?_
    refine seq_ ?_
    refine region_ ?_
    refine wl_valE (v := .bool false) rfl (rf_assign rfl) rfl ?_
    refine wl_nil ?_
    refine thn ?_
    refine ret_ ?_
    refine thr ?_
    refine fin1 (v := .bool false) Try.results36 rfl rfl ?_
    exact ⟨_, ⟨by unfold rdyI; rw [if_pos u1_2p], rfl⟩, (H1.weakR 1 rfl).pick' [] rfl rfl⟩
  · have u1_2p := of_decide_eq_false u1_2
    obtain ⟨c, hc⟩ : ∃ c, cs[n.toNat]? = some c := ⟨_, List.getElem?_eq_getElem (by omega)⟩
    obtain ⟨s, hs0, hr0⟩ := rawR_get hxs hc
    have H2 := H1.ssR 3 n.toNat rfl hs0 (bhs_get hc)
    dsimp only [putsH, setH, List.cons_append, List.nil_append] at H2
    have hsl := (rd_len (H2.rdR 4 slH_rd))
    rw [List.length_map] at hsl
    have hcb := hbl _ c hc
    have hrI : rdyI cs n = rdyC cs c := by unfold rdyI rdy; rw [if_neg u1_2p, hc]
    refine wl_guardT rfl rfl rfl u1_2 ?_
    refine wl_valE (v := .pointer (some ⟨p, 0, none⟩)) rfl (rf_move rfl) rfl ?_
    refine wl_guardT rfl rfl rfl u1_2 ?_
    refine wl_valE (v := .pointer (some ⟨p, 0, none⟩)) rfl (rf_nilCheckP rfl rfl) rfl ?_
    refine wl_guardT rfl rfl rfl u1_2 ?_
    refine wl_valE (v := .pointer (some ⟨p, 0, none⟩)) rfl (rf_fieldAddr Try.underlying63 rfl ti61 rfl rfl) rfl ?_
    refine wl_guardT rfl rfl rfl u1_2 ?_
    refine wl_valE (v := .slice x.a cs.length x.c) rfl (rf_load Try.underlying61 rfl rfl rfl ((H2.blkR 1 rfl).cell rfl)) rfl ?_
    refine wl_guardT rfl rfl rfl u1_2 ?_
    refine wl_valE (v := .int .i64 n) rfl (rf_move rfl) rfl ?_
    refine wl_guardT rfl rfl rfl u1_2 ?_
    refine wl_valE (v := .pointer (some ⟨ab x.a, ao x.a + n.toNat * 2, none⟩)) rfl (rf_indexAddrH Try.underlying61 ti73 rfl rfl rfl rfl (by omega) (by omega) (H2.rdR 2 slH_rd)) rfl ?_
    refine wl_guardT rfl rfl rfl u1_2 ?_
    refine wl_valE (v := .pointer (some ⟨ab x.a, ao x.a + n.toNat * 2, none⟩)) rfl (rf_fieldAddr Try.underlying73 rfl ti3 rfl rfl) rfl ?_
    refine wl_guardT rfl rfl rfl u1_2 ?_
    refine wl_valE (v := .int .i64 c.left) rfl (rf_load Try.underlying3 rfl rfl rfl (rd_el (H2.rdR 2 slH_rd) hr0 0 _ rfl)) rfl ?_
    refine wl_guardT rfl rfl rfl u1_2 ?_
    refine wl_valE (v := .bool (decide (c.left = (0 : Int)))) rfl (rf_eql rfl rfl rfl rfl) rfl ?_
    refine wl_valE (v := .bool (decide (c.left = (0 : Int)))) rfl (rf_pickF rfl rfl rfl u1_2) rfl ?_
    refine wl_nil ?_
    refine thn ?_
    refine cond_ (t := decide (c.left = (0 : Int))) rfl rfl (fun c19 => ?_) (fun c19 => ?_)
    · have c19p := of_decide_eq_true c19
      refine seq_ ?_
      refine region_ ?_
      refine wl_valE (v := .bool false) rfl (rf_assign rfl) rfl ?_
      refine wl_nil ?_
      refine thn ?_
      refine ret_ ?_
      refine thr ?_
      refine fin1 (v := .bool false) Try.results36 rfl rfl ?_
      exact ⟨_, ⟨by rw [hrI]; unfold rdyC; rw [c19p]; rfl, rfl⟩, (H2.weakR 1 rfl).pick' [] rfl rfl⟩
    · have c19p := of_decide_eq_false c19
      refine skip_ ?_
      refine thn ?_
      refine seq_ ?_
      refine seq_ ?_
      refine region_ ?_
      refine wl_valE (v := .int .i64 (0 : Int)) rfl (rf_assign rfl) rfl ?_
      refine wl_nil ?_
      refine thn ?_
      refine block_ ?_
      refine loop_ (fun qk_ qf_ qw_ => ∃ (g : Nat → Value) (k : Nat), qf_ = upds g [(0, .pointer (some ⟨p, 0, none⟩)), (1, .int .i64 n), (5, .int .i64 ((k : Nat) : Int))] ∧ qk_ = s.n - k ∧ (k ≤ s.n) ∧ ((c.bh.drop k).all (okb cs) = c.bh.all (okb cs)) ∧ St w0 S0 [refH p cs, blkH p #[.slice x.a cs.length x.c] 63, slH encRCho 2 73 x.a cs.length x.c (rawR x.ss cs), ssH encI 1 3 x.ss (bhs cs), slH encI 1 3 s.a s.n s.c (c.bh.map bi)] qw_ []) (s.n - 0) ?_ ?_
      · refine ⟨_, 0, upds_self ⟨rfl, rfl, rfl, trivial⟩, rfl, Nat.zero_le _, rfl, H2.pick' [] rfl rfl⟩
      · rintro lk0 _ wl0 ⟨gl0, k, rfl, hlk0, hk, hal, HL0⟩
        refine seq_ ?_
        refine seq_ ?_
        refine region_ ?_
        refine wl_valE (v := .int .i64 ((k : Nat) : Int)) rfl (rf_move rfl) rfl ?_
        refine wl_valE (v := .pointer (some ⟨p, 0, none⟩)) rfl (rf_move rfl) rfl ?_
        refine wl_valE (v := .pointer (some ⟨p, 0, none⟩)) rfl (rf_nilCheckP rfl rfl) rfl ?_
        refine wl_valE (v := .pointer (some ⟨p, 0, none⟩)) rfl (rf_fieldAddr Try.underlying63 rfl ti61 rfl rfl) rfl ?_
        refine wl_valE (v := .slice x.a cs.length x.c) rfl (rf_load Try.underlying61 rfl rfl rfl ((HL0.blkR 1 rfl).cell rfl)) rfl ?_
        refine wl_valE (v := .int .i64 n) rfl (rf_move rfl) rfl ?_
        refine wl_valE (v := .pointer (some ⟨ab x.a, ao x.a + n.toNat * 2, none⟩)) rfl (rf_indexAddrH Try.underlying61 ti73 rfl rfl rfl rfl (by omega) (by omega) (HL0.rdR 2 slH_rd)) rfl ?_
        refine wl_valE (v := .pointer (some ⟨ab x.a, ao x.a + n.toNat * 2 + 1, none⟩)) rfl (rf_fieldAddr Try.underlying73 rfl ti23 rfl rfl) rfl ?_
        refine wl_valE (v := .slice s.a s.n s.c) rfl (rf_load Try.underlying23 rfl rfl rfl (rd_el (HL0.rdR 2 slH_rd) hr0 1 _ rfl)) rfl ?_
        refine wl_valE (v := .int .i64 ((s.n : Nat) : Int)) rfl (rf_len_slice Try.underlying23 rfl rfl) rfl ?_
        refine wl_valE (v := .bool (decide (((k : Nat) : Int) < ((s.n : Nat) : Int)))) rfl (rf_lss rfl rfl rfl rfl) rfl ?_
        refine wl_nil ?_
        refine thn ?_
        refine cond_ (t := decide (((k : Nat) : Int) < ((s.n : Nat) : Int))) rfl rfl (fun c30 => ?_) (fun c30 => ?_)
        · have c30p := of_decide_eq_true c30
          refine skip_ ?_
          refine thn ?_
          refine seq_ ?_
          refine block_ ?_
          refine seq_ ?_
          refine region_ ?_
          refine wl_valE (v := .pointer (some ⟨p, 0, none⟩)) rfl (rf_move rfl) rfl ?_
          refine wl_valE (v := .pointer (some ⟨p, 0, none⟩)) rfl (rf_nilCheckP rfl rfl) rfl ?_
          refine wl_valE (v := .pointer (some ⟨p, 0, none⟩)) rfl (rf_fieldAddr Try.underlying63 rfl ti61 rfl rfl) rfl ?_
          refine wl_valE (v := .slice x.a cs.length x.c) rfl (rf_load Try.underlying61 rfl rfl rfl ((HL0.blkR 1 rfl).cell rfl)) rfl ?_
          refine wl_valE (v := .int .i64 n) rfl (rf_move rfl) rfl ?_
          refine wl_valE (v := .pointer (some ⟨ab x.a, ao x.a + n.toNat * 2, none⟩)) rfl (rf_indexAddrH Try.underlying61 ti73 rfl rfl rfl rfl (by omega) (by omega) (HL0.rdR 2 slH_rd)) rfl ?_
          refine wl_valE (v := .pointer (some ⟨ab x.a, ao x.a + n.toNat * 2 + 1, none⟩)) rfl (rf_fieldAddr Try.underlying73 rfl ti23 rfl rfl) rfl ?_
          refine wl_valE (v := .slice s.a s.n s.c) rfl (rf_load Try.underlying23 rfl rfl rfl (rd_el (HL0.rdR 2 slH_rd) hr0 1 _ rfl)) rfl ?_
          refine wl_valE (v := .int .i64 ((k : Nat) : Int)) rfl (rf_move rfl) rfl ?_
          refine wl_valE (v := .pointer (some ⟨ab s.a, ao s.a + k * 1, none⟩)) rfl (rf_indexAddrH Try.underlying23 ti3 rfl rfl rfl rfl (by omega) (by omega) (HL0.rdR 4 slH_rd)) rfl ?_
          have hn4 := rd_len (HL0.rdR 4 slH_rd)
          obtain ⟨x3, hx3⟩ : ∃ q_, (c.bh.map bi)[k]? = some q_ := ⟨_, List.getElem?_eq_getElem (by omega)⟩
          refine wl_valE (v := .int .i64 x3) rfl (rf_load Try.underlying3 rfl rfl rfl (rd_el (HL0.rdR 4 slH_rd) hx3 0 _ rfl)) rfl ?_
          obtain ⟨o, ho, hoe⟩ := map_at hx3
          refine wl_valE (v := .int .i64 (bi o)) rfl (rf_assign rfl) (congrArg (Value.int .i64) hoe) ?_
          refine wl_nil ?_
          refine thn ?_
          refine seq_ ?_
          refine region_ ?_
          refine wl_valE (v := .int .i64 (bi o)) rfl (rf_move rfl) rfl ?_
          refine wl_valE (v := .bool (decide ((0 : Int) ≤ bi o))) rfl (rf_geq rfl rfl rfl rfl) rfl ?_
          refine wl_valE (v := .bool (decide ((0 : Int) ≤ bi o))) rfl (rf_move rfl) rfl ?_
          refine wl_split (decide ((0 : Int) ≤ bi o)) (fun u7_2 => ?_) (fun u7_2 => ?_)
          · have u7_2p := of_decide_eq_true u7_2
            obtain ⟨j, rfl⟩ : ∃ j, o = some j := by cases o with | none => exact absurd u7_2p (by decide) | some j => exact ⟨j, rfl⟩
            obtain ⟨d, hd⟩ : ∃ d, cs[j]? = some d := ⟨_, List.getElem?_eq_getElem ((hok _ c hc).2.2 j (List.mem_of_getElem? ho))⟩
            obtain ⟨t, hst, hrt⟩ := rawR_get hxs hd
            have hjl := (List.getElem?_eq_some_iff.1 hd).1
            refine wl_guardT rfl rfl rfl u7_2 ?_
            refine wl_valE (v := .pointer (some ⟨p, 0, none⟩)) rfl (rf_move rfl) rfl ?_
            refine wl_guardT rfl rfl rfl u7_2 ?_
            refine wl_valE (v := .pointer (some ⟨p, 0, none⟩)) rfl (rf_nilCheckP rfl rfl) rfl ?_
            refine wl_guardT rfl rfl rfl u7_2 ?_
            refine wl_valE (v := .pointer (some ⟨p, 0, none⟩)) rfl (rf_fieldAddr Try.underlying63 rfl ti61 rfl rfl) rfl ?_
            refine wl_guardT rfl rfl rfl u7_2 ?_
            refine wl_valE (v := .slice x.a cs.length x.c) rfl (rf_load Try.underlying61 rfl rfl rfl ((HL0.blkR 1 rfl).cell rfl)) rfl ?_
            refine wl_guardT rfl rfl rfl u7_2 ?_
            refine wl_valE (v := .int .i64 ((j : Nat) : Int)) rfl (rf_move rfl) rfl ?_
            refine wl_guardT rfl rfl rfl u7_2 ?_
            refine wl_valE (v := .pointer (some ⟨ab x.a, ao x.a + j * 2, none⟩)) rfl (rf_indexAddrH Try.underlying61 ti73 rfl rfl rfl rfl (by omega) (by omega) (HL0.rdR 2 slH_rd)) rfl ?_
            refine wl_guardT rfl rfl rfl u7_2 ?_
            refine wl_valE (v := .pointer (some ⟨ab x.a, ao x.a + j * 2, none⟩)) rfl (rf_fieldAddr Try.underlying73 rfl ti3 rfl rfl) rfl ?_
            refine wl_guardT rfl rfl rfl u7_2 ?_
            refine wl_valE (v := .int .i64 d.left) rfl (rf_load Try.underlying3 rfl rfl rfl (rd_el (HL0.rdR 2 slH_rd) hrt 0 _ rfl)) rfl ?_
            refine wl_guardT rfl rfl rfl u7_2 ?_
            refine wl_valE (v := .bool (decide ((0 : Int) < d.left))) rfl (rf_gtr rfl rfl rfl rfl) rfl ?_
            refine wl_valE (v := .bool (decide ((0 : Int) < d.left))) rfl (rf_pickT rfl rfl rfl u7_2) rfl ?_
            refine wl_nil ?_
            refine thn ?_
            refine cond_ (t := decide ((0 : Int) < d.left)) rfl rfl (fun c56 => ?_) (fun c56 => ?_)
            · have c56p := of_decide_eq_true c56
              refine seq_ ?_
              refine region_ ?_
              refine wl_valE (v := .bool false) rfl (rf_assign rfl) rfl ?_
              refine wl_nil ?_
              refine thn ?_
              refine ret_ ?_
              refine blr (thr (thr (blr (thr ?_))))
              refine fin1 (v := .bool false) Try.results36 rfl rfl ?_
              exact ⟨_, ⟨by rw [hrI]; unfold rdyC; rw [show c.bh.all (okb cs) = false from by rw [← hal, drop_at ho, List.all_cons, show okb cs (some j) = false from by simp only [okb, leftOf_at hd]; simp; omega, Bool.false_and], Bool.and_false], rfl⟩, (HL0.weakR 1 rfl).pick' [] rfl rfl⟩
            · have c56p := of_decide_eq_false c56
              have hob : okb cs (some j) = true := by simp only [okb, leftOf_at hd]; simp; omega
              refine skip_ ?_
              refine bln ?_
              refine thn ?_
              refine region_ ?_
              refine wl_valE (v := .int .i64 ((k : Nat) : Int)) rfl (rf_move rfl) rfl ?_
              refine wl_valE (v := .int .i64 ((k + 1 : Nat) : Int)) rfl (rf_add rfl rfl rfl rfl (IntWalk.i64_in _ (by omega))) rfl ?_
              refine wl_valE (v := .int .i64 ((k + 1 : Nat) : Int)) rfl (rf_assign rfl) rfl ?_
              refine wl_nil ?_
              refine thn ?_
              refine ⟨s.n - (k + 1), _, rfl, (by omega), _, k + 1, upds_self ⟨rfl, rfl, rfl, trivial⟩, rfl, by omega, by rw [← hal, drop_at ho, List.all_cons, hob]; rfl, HL0.pick' [] rfl rfl⟩
          · have u7_2p := of_decide_eq_false u7_2
            have hob : okb cs o = true := by cases o with | none => rfl | some j => exact absurd (show (0 : Int) ≤ bi (some j) from Int.natCast_nonneg j) u7_2p
            refine wl_guardF rfl rfl rfl u7_2 ?_
            refine wl_guardF rfl rfl rfl u7_2 ?_
            refine wl_guardF rfl rfl rfl u7_2 ?_
            refine wl_guardF rfl rfl rfl u7_2 ?_
            refine wl_guardF rfl rfl rfl u7_2 ?_
            refine wl_guardF rfl rfl rfl u7_2 ?_
            refine wl_guardF rfl rfl rfl u7_2 ?_
            refine wl_guardF rfl rfl rfl u7_2 ?_
            refine wl_guardF rfl rfl rfl u7_2 ?_
            refine wl_valE (v := .bool false) rfl (rf_pickF rfl rfl rfl u7_2) rfl ?_
            refine wl_nil ?_
            refine thn ?_
            refine condF rfl rfl ?_
            refine skip_ ?_
            refine bln ?_
            refine thn ?_
            refine region_ ?_
            refine wl_valE (v := .int .i64 ((k : Nat) : Int)) rfl (rf_move rfl) rfl ?_
            refine wl_valE (v := .int .i64 ((k + 1 : Nat) : Int)) rfl (rf_add rfl rfl rfl rfl (IntWalk.i64_in _ (by omega))) rfl ?_
            refine wl_valE (v := .int .i64 ((k + 1 : Nat) : Int)) rfl (rf_assign rfl) rfl ?_
            refine wl_nil ?_
            refine thn ?_
            refine ⟨s.n - (k + 1), _, rfl, (by omega), _, k + 1, upds_self ⟨rfl, rfl, rfl, trivial⟩, rfl, by omega, by rw [← hal, drop_at ho, List.all_cons, hob]; rfl, HL0.pick' [] rfl rfl⟩
        · have c30p := of_decide_eq_false c30
          refine exit_ ?_
          refine thx (thx (blx ?_))
          refine thn ?_
          refine seq_ ?_
          refine region_ ?_
          refine wl_valE (v := .bool true) rfl (rf_assign rfl) rfl ?_
          refine wl_nil ?_
          refine thn ?_
          refine ret_ ?_
          refine fin1 (v := .bool true) Try.results36 rfl rfl ?_
          exact ⟨_, ⟨by rw [hrI]; unfold rdyC; rw [← hal, drop_all (by omega)]; simp; omega, rfl⟩, (HL0.weakR 1 rfl).pick' [] rfl rfl⟩
theorem rstep_tr {p : Nat} {cs : List Cho} (hok : OkB cs) (hbl : ∀ (i : Nat) (c : Cho), cs[i]? = some c → c.bh.length ≤ 4398046511104) (n : Int) (hn : n < ((cs.length : Nat) : Int)) : Tr Try.prog 38 [.pointer (some ⟨p, 0, none⟩), .int .i64 n] [] [refH p cs] (fun v m => v = .tuple #[] ∧ m = [refH p (stepI cs n)]) := by
  intro w0 S0 H0
  refine enterR Try.func38 rfl Try.ntmps38 rfl ?_
  intro g0
  refine seq_ ?_
  refine region_ ?_
  refine wl_valE (v := .pointer (some ⟨p, 0, none⟩)) rfl (rf_move rfl) rfl ?_
  refine wl_valE (v := .int .i64 n) rfl (rf_move rfl) rfl ?_
  refine wl_tr H0 rfl [] (rready_tr hok hbl n (by omega)) rfl (.own 0 rfl Le.rfl .nil) (rf_call Try.call36 rfl rfl) rfl ?_
  rintro _ w1 _ ⟨rfl, rfl⟩ H1
  refine wl_valE (v := .bool (rdyI cs n)) rfl (rf_assign rfl) rfl ?_
  refine wl_nil ?_
  refine thn ?_
  refine seq_ ?_
  refine region_ ?_
  refine wl_valE (v := .bool (rdyI cs n)) rfl (rf_move rfl) rfl ?_
  refine wl_nil ?_
  refine thn ?_
  refine cond_ (t := rdyI cs n) rfl rfl (fun c8 => ?_) (fun c8 => ?_)
  · have hn0 : ¬ n < 0 := fun h => by unfold rdyI at c8; rw [if_pos h] at c8; cases c8
    obtain ⟨c, hc⟩ : ∃ c, cs[n.toNat]? = some c := ⟨_, List.getElem?_eq_getElem (by omega)⟩
    have hrc : rdyC cs c = true := by unfold rdyI rdy at c8; rw [if_neg hn0, hc] at c8; exact c8
    have hc0 := hok _ c hc
    obtain ⟨x, hxs, H2⟩ := refH.open_ H1 0 rfl rfl
    obtain ⟨s, hs0, hr0⟩ := rawR_get hxs hc
    refine region_ ?_
    refine wl_valE (v := .pointer (some ⟨p, 0, none⟩)) rfl (rf_move rfl) rfl ?_
    refine wl_valE (v := .pointer (some ⟨p, 0, none⟩)) rfl (rf_nilCheckP rfl rfl) rfl ?_
    refine wl_valE (v := .pointer (some ⟨p, 0, none⟩)) rfl (rf_fieldAddr Try.underlying63 rfl ti61 rfl rfl) rfl ?_
    refine wl_valE (v := .slice x.a cs.length x.c) rfl (rf_load Try.underlying61 rfl rfl rfl ((H2.blk 0 rfl).cell rfl)) rfl ?_
    refine wl_valE (v := .int .i64 n) rfl (rf_move rfl) rfl ?_
    refine wl_valE (v := .pointer (some ⟨ab x.a, ao x.a + n.toNat * 2, none⟩)) rfl (rf_indexAddrH Try.underlying61 ti73 rfl rfl rfl rfl (by omega) (by omega) (H2.rdO 1 slH_rd)) rfl ?_
    refine wl_valE (v := .pointer (some ⟨ab x.a, ao x.a + n.toNat * 2, none⟩)) rfl (rf_fieldAddr Try.underlying73 rfl ti3 rfl rfl) rfl ?_
    refine wl_valE (v := .int .i64 c.left) rfl (rf_load Try.underlying3 rfl rfl rfl (rd_el (H2.rdO 1 slH_rd) hr0 0 _ rfl)) rfl ?_
    refine wl_valE (v := .int .i64 (c.left - (1 : Int))) rfl (rf_sub rfl rfl rfl rfl (IntWalk.i64_in _ (by omega))) rfl ?_
    refine wl_valE (v := .pointer (some ⟨ab x.a, ao x.a + n.toNat * 2, none⟩)) rfl (rf_indexAddrH Try.underlying61 ti73 rfl rfl rfl rfl (by omega) (by omega) (H2.rdO 1 slH_rd)) rfl ?_
    refine wl_valE (v := .pointer (some ⟨ab x.a, ao x.a + n.toNat * 2, none⟩)) rfl (rf_fieldAddr Try.underlying73 rfl ti3 rfl rfl) rfl ?_
    refine wl_storeElH H2 1 (enc := encRCho) (i := n.toNat) (j := 0) (q := (⟨c.left - (1 : Int), s⟩ : RCho)) (u := .int .i64 (c.left - (1 : Int))) (cs := [.int .i64 (c.left - (1 : Int))]) rfl rfl encRCho_len ti3 rfl rfl rfl rfl rfl rfl oneAll hr0 (leb rfl) rfl ?_
    intro w3 H3
    have hx3 : ((rawR x.ss cs).set n.toNat (⟨c.left - (1 : Int), s⟩ : RCho))[n.toNat]? = some (⟨c.left - (1 : Int), s⟩ : RCho) := List.getElem?_set_self (List.getElem?_eq_some_iff.1 hr0).1
    refine wl_nil ?_
    refine fin_ ?_
    refine fin0 Try.results38 ?_
    have hst : stepI cs n = cs.set n.toNat { c with left := c.left - 1 } := by unfold stepI stepC; rw [if_neg hn0, hc]; simp only [hrc, if_true]
    have H4 := refH.close_ (p := p) (cs := cs.set n.toNat { c with left := c.left - 1 }) H3 [0, 1, 2] x (by rw [List.length_set]; exact hxs) (by rw [List.length_set, bhs_set hc, ← rawR_set hs0 hc]; rfl) rfl
    dsimp only [putsH, setH, List.cons_append, List.nil_append] at H4
    rw [hst]
    exact ⟨_, ⟨rfl, rfl⟩, H4.pick' [0] rfl rfl⟩
  · refine skip_ ?_
    refine fin_ ?_
    refine fin0 Try.results38 ?_
    have hst := stepI_not c8
    rw [hst]
    exact ⟨_, ⟨rfl, rfl⟩, H1.pick' [0] rfl rfl⟩
theorem rmake_tr {p : Nat} {cs : List Cho} (s : Int) (a : Option Addr) (n c : Nat) (bh : List (Option Nat)) (hl : cs.length ≤ 4194304) : Tr Try.prog 31 [.pointer (some ⟨p, 0, none⟩), .int .i64 s, .slice a n c] [] [refH p cs, slH encI 1 3 a n c (bh.map bi)] (fun v m => v = .int .i64 ((cs.length : Nat) : Int) ∧ m = [refH p (cs ++ [⟨clip s, bh⟩])]) := by
  intro w0 S0 H0
  refine enterR Try.func31 rfl Try.ntmps31 rfl ?_
  intro g0
  refine seq_ ?_
  refine region_ ?_
  refine wl_valE (v := .int .i64 (0 : Int)) rfl (rf_assign rfl) rfl ?_
  refine wl_nil ?_
  refine thn ?_
  refine seq_ ?_
  refine seq_ ?_
  refine region_ ?_
  refine wl_valE (v := .int .i64 s) rfl (rf_move rfl) rfl ?_
  refine wl_valE (v := .bool (decide (s < (0 : Int)))) rfl (rf_lss rfl rfl rfl rfl) rfl ?_
  refine wl_nil ?_
  refine thn ?_
  refine cut_ (fun qf_ qw_ => ∃ (g : Nat → Value) (y0 : Int), qf_ = upds g [(0, .pointer (some ⟨p, 0, none⟩)), (1, .int .i64 y0), (2, .slice a n c)] ∧ (y0 = max s 0) ∧ St w0 S0 [] qw_ [refH p cs, slH encI 1 3 a n c (bh.map bi)]) ?_ ?_
  · refine cond_ (t := decide (s < (0 : Int))) rfl rfl (fun c8 => ?_) (fun c8 => ?_)
    · have c8p := of_decide_eq_true c8
      refine region_ ?_
      refine wl_valE (v := .int .i64 (0 : Int)) rfl (rf_assign rfl) rfl ?_
      refine wl_nil ?_
      refine cxn ⟨_, (0 : Int), upds_self ⟨rfl, rfl, rfl, trivial⟩, by omega, H0.pick' [0, 1] rfl rfl⟩
    · have c8p := of_decide_eq_false c8
      refine skip_ ?_
      refine cxn ⟨_, s, upds_self ⟨rfl, rfl, rfl, trivial⟩, by omega, H0.pick' [0, 1] rfl rfl⟩
  · rintro _ wcutc8 ⟨glcutc8, y0, rfl, hy0, Hcutc8⟩
    refine thn ?_
    refine seq_ ?_
    refine seq_ ?_
    refine region_ ?_
    refine wl_valE (v := .int .i64 y0) rfl (rf_move rfl) rfl ?_
    refine wl_valE (v := .bool (decide ((65536 : Int) < y0))) rfl (rf_gtr rfl rfl rfl rfl) rfl ?_
    refine wl_nil ?_
    refine thn ?_
    refine cut_ (fun qf_ qw_ => ∃ (g : Nat → Value) (y1 : Int), qf_ = upds g [(0, .pointer (some ⟨p, 0, none⟩)), (1, .int .i64 y1), (2, .slice a n c)] ∧ (y1 = clip s) ∧ St w0 S0 [] qw_ [refH p cs, slH encI 1 3 a n c (bh.map bi)]) ?_ ?_
    · refine cond_ (t := decide ((65536 : Int) < y0)) rfl rfl (fun c10 => ?_) (fun c10 => ?_)
      · have c10p := of_decide_eq_true c10
        refine region_ ?_
        refine wl_valE (v := .int .i64 (65536 : Int)) rfl (rf_assign rfl) rfl ?_
        refine wl_nil ?_
        refine cxn ⟨_, (65536 : Int), upds_self ⟨rfl, rfl, rfl, trivial⟩, by unfold clip; omega, Hcutc8.pick' [0, 1] rfl rfl⟩
      · have c10p := of_decide_eq_false c10
        refine skip_ ?_
        refine cxn ⟨_, y0, upds_self ⟨rfl, rfl, rfl, trivial⟩, by unfold clip; omega, Hcutc8.pick' [0, 1] rfl rfl⟩
    · rintro _ wcutc10 ⟨glcutc10, y1, rfl, hy1, Hcutc10⟩
      refine thn ?_
      refine seq_ ?_
      obtain ⟨x, hxs, H1⟩ := refH.open_ Hcutc10 0 rfl rfl
      refine region_ ?_
      refine wl_valE (v := .pointer (some ⟨p, 0, none⟩)) rfl (rf_move rfl) rfl ?_
      refine wl_valE (v := .pointer (some ⟨p, 0, none⟩)) rfl (rf_move rfl) rfl ?_
      refine wl_valE (v := .pointer (some ⟨p, 0, none⟩)) rfl (rf_nilCheckP rfl rfl) rfl ?_
      refine wl_valE (v := .pointer (some ⟨p, 0, none⟩)) rfl (rf_fieldAddr Try.underlying63 rfl ti61 rfl rfl) rfl ?_
      refine wl_valE (v := .slice x.a cs.length x.c) rfl (rf_load Try.underlying61 rfl rfl rfl ((H1.blk 0 rfl).cell rfl)) rfl ?_
      refine wl_valE (v := .int .i64 y1) rfl (rf_move rfl) rfl ?_
      refine wl_valE (v := .slice a n c) rfl (rf_move rfl) rfl ?_
      refine wl_valE (v := .agg #[.int .i64 y1, .slice a n c]) rfl (rf_build (offs := [(0, [.int .i64 y1]), (1, [.slice a n c])]) (places := #[(0, 1), (1, 1)]) Try.underlying73 ti73 (fun w => by kernel_rfl) (.cons rfl rfl rfl rfl rfl rfl (.cons rfl rfl rfl rfl rfl rfl .nil))) rfl ?_
      refine wl_buildSliceH (enc := encRCho) H1 [(⟨y1, ⟨a, n, c⟩⟩ : RCho)] encRCho_len Try.underlying61 ti73 rfl rfl rfl (.cons rfl rfl rfl rfl rfl rfl .nil) ?_
      intro a2 w3 H3
      refine wl_appendH (enc := encRCho) (N := cs.length + 1) H3 2 rfl rfl encRCho_len encRCho_one Try.underlying61 ti73 rfl rfl rfl rfl rfl (H3.rdO 4 slH_rd) rfl (by omega) (by omega) ?_
      intro a4 c4 w4 hc4 hd4 H4
      dsimp only [putsH, setH, List.cons_append, List.nil_append] at H4
      refine wl_valE (v := .pointer (some ⟨p, 0, none⟩)) rfl (rf_nilCheckP rfl rfl) rfl ?_
      refine wl_valE (v := .pointer (some ⟨p, 0, none⟩)) rfl (rf_fieldAddr Try.underlying63 rfl ti61 rfl rfl) rfl ?_
      refine wl_storeH H4 0 (v := .slice a4 (cs.length + 1) c4) (A' := #[.slice a4 (cs.length + 1) c4]) rfl rfl ti61 rfl rfl rfl rfl rfl (ltb rfl) rfl ?_
      intro w5 H5
      refine wl_nil ?_
      refine thn ?_
      refine seq_ ?_
      refine region_ ?_
      refine wl_valE (v := .pointer (some ⟨p, 0, none⟩)) rfl (rf_move rfl) rfl ?_
      refine wl_valE (v := .pointer (some ⟨p, 0, none⟩)) rfl (rf_nilCheckP rfl rfl) rfl ?_
      refine wl_valE (v := .pointer (some ⟨p, 0, none⟩)) rfl (rf_fieldAddr Try.underlying63 rfl ti61 rfl rfl) rfl ?_
      refine wl_valE (v := .slice a4 (cs.length + 1) c4) rfl (rf_load Try.underlying61 rfl rfl rfl ((H5.blk 0 rfl).cell rfl)) rfl ?_
      refine wl_valE (v := .int .i64 ((cs.length + 1 : Nat) : Int)) rfl (rf_len_slice Try.underlying61 rfl rfl) rfl ?_
      refine wl_valE (v := .int .i64 ((cs.length : Nat) : Int)) rfl (rf_sub rfl rfl rfl rfl (by rw [IntWalk.i64_in _ (by omega)]; omega)) rfl ?_
      refine wl_valE (v := .int .i64 ((cs.length : Nat) : Int)) rfl (rf_assign rfl) rfl ?_
      refine wl_nil ?_
      refine thn ?_
      refine ret_ ?_
      refine fin1 (v := .int .i64 ((cs.length : Nat) : Int)) Try.results31 rfl rfl ?_
      subst hy1
      have H9 := St.ssPush (t := ⟨a, n, c⟩) H5 3 1 rfl rfl rfl (by unfold bhs; rw [List.length_map]; exact hxs)
      have H6 := refH.close_ (p := p) (cs := cs ++ [⟨clip s, bh⟩]) H9 [0, 2, 3] ⟨a4, c4, x.ss ++ [⟨a, n, c⟩]⟩ (by simp; exact hxs) (by rw [List.length_append, List.length_singleton, rawR_app hxs, show bhs (cs ++ [⟨clip s, bh⟩]) = bhs cs ++ [bh.map bi] from by simp [bhs]]; rfl) rfl
      dsimp only [putsH, setH, List.cons_append, List.nil_append] at H6
      exact ⟨_, ⟨rfl, rfl⟩, H6.pick' [0] rfl rfl⟩
theorem rlready_tr {q p : Nat} {ts : List (Option Nat)} {steps : Int} {cs : List Cho} (hwf : WfC cs ts) : Tr Try.prog 32 [.pointer (some ⟨q, 0, none⟩)] [rlH q p ts steps, refH p cs] [] (fun v m => ∃ a n c, v = .slice a n c ∧ m = [slH encI 1 3 a n c (rdyL cs 0 ts)]) := by
  intro w0 S0 H0
  obtain ⟨y, _, H1⟩ := rlH.openR H0 0 rfl
  have hyn := (rd_len (H1.rdR 3 slH_rd)).1
  rw [List.length_map] at hyn
  have htl := hwf.htl
  refine enterR Try.func32 rfl Try.ntmps32 rfl ?_
  intro g0
  refine seq_ ?_
  refine region_ ?_
  refine wl_valE (v := .slice none 0 0) rfl (rf_assign rfl) rfl ?_
  refine wl_nil ?_
  refine thn ?_
  refine seq_ ?_
  refine region_ ?_
  refine wl_valE (v := .slice none 0 0) rfl (rf_assign rfl) rfl ?_
  refine wl_nil ?_
  refine thn ?_
  refine seq_ ?_
  refine seq_ ?_
  refine region_ ?_
  refine wl_valE (v := .int .i64 (0 : Int)) rfl (rf_assign rfl) rfl ?_
  refine wl_nil ?_
  refine thn ?_
  refine block_ ?_
  have H2 := H1.addNil encI 1 3 (α := Int)
  dsimp only [putsH, setH, List.cons_append, List.nil_append] at H2
  refine loop_ (fun qk_ qf_ qw_ => ∃ (g : Nat → Value) (k : Nat) (a3 : Option Addr) (n3 c3 : Nat) (l : List Int), qf_ = upds g [(0, .pointer (some ⟨q, 0, none⟩)), (3, .slice a3 n3 c3), (4, .int .i64 ((k : Nat) : Int))] ∧ qk_ = y.n - k ∧ (k ≤ y.n ∧ n3 ≤ k) ∧ (l ++ rdyL cs k (ts.drop k) = rdyL cs 0 ts) ∧ St w0 S0 [rlH q p ts steps, refH p cs, blkH q #[.pointer (some ⟨p, 0, none⟩), .slice y.a y.n y.c, .int .i64 steps] 70, slH encI 1 3 y.a y.n y.c (ts.map bi)] qw_ [slH encI 1 3 a3 n3 c3 l]) (y.n - 0) ?_ ?_
  · refine ⟨_, 0, none, 0, 0, [], upds_self ⟨rfl, rfl, rfl, trivial⟩, rfl, ⟨Nat.zero_le _, Nat.le_refl _⟩, rfl, H2.pick' [0] rfl rfl⟩
  · rintro lk0 _ wl0 ⟨gl0, k, a3, n3, c3, l, rfl, hlk0, hk, hal, HL0⟩
    refine seq_ ?_
    refine seq_ ?_
    refine region_ ?_
    refine wl_valE (v := .int .i64 ((k : Nat) : Int)) rfl (rf_move rfl) rfl ?_
    refine wl_valE (v := .pointer (some ⟨q, 0, none⟩)) rfl (rf_move rfl) rfl ?_
    refine wl_valE (v := .pointer (some ⟨q, 0, none⟩)) rfl (rf_nilCheckP rfl rfl) rfl ?_
    refine wl_valE (v := .pointer (some ⟨q, 1, none⟩)) rfl (rf_fieldAddr Try.underlying70 rfl ti23 rfl rfl) rfl ?_
    refine wl_valE (v := .slice y.a y.n y.c) rfl (rf_load Try.underlying23 rfl rfl rfl ((HL0.blkR 2 rfl).cell rfl)) rfl ?_
    refine wl_valE (v := .int .i64 ((y.n : Nat) : Int)) rfl (rf_len_slice Try.underlying23 rfl rfl) rfl ?_
    refine wl_valE (v := .bool (decide (((k : Nat) : Int) < ((y.n : Nat) : Int)))) rfl (rf_lss rfl rfl rfl rfl) rfl ?_
    refine wl_nil ?_
    refine thn ?_
    refine cond_ (t := decide (((k : Nat) : Int) < ((y.n : Nat) : Int))) rfl rfl (fun c12 => ?_) (fun c12 => ?_)
    · have c12p := of_decide_eq_true c12
      refine skip_ ?_
      refine thn ?_
      refine seq_ ?_
      refine block_ ?_
      refine seq_ ?_
      refine region_h (S := (fun wq => St w0 S0 [rlH q p ts steps, refH p cs, blkH q #[.pointer (some ⟨p, 0, none⟩), .slice y.a y.n y.c, .int .i64 steps] 70, slH encI 1 3 y.a y.n y.c (ts.map bi)] wq [])) mixedP ?_
      intro w3 hk3
      have H3 := HL0.keep hk3
      have hS3 : St w0 S0 [rlH q p ts steps, refH p cs, blkH q #[.pointer (some ⟨p, 0, none⟩), .slice y.a y.n y.c, .int .i64 steps] 70, slH encI 1 3 y.a y.n y.c (ts.map bi)] w3 [] := H3.pick' [] rfl rfl
      refine wh_take (i := 0) (v := .pointer (some ⟨q, 0, none⟩)) rfl (by kernel_rfl) (by kernel_rfl) (by kernel_rfl) hS3 rfl (fun wq hq => rf_move rfl) rfl ?_
      refine wh_take (i := 1) (v := .pointer (some ⟨q, 0, none⟩)) rfl (by kernel_rfl) (by kernel_rfl) (by kernel_rfl) hS3 rfl (fun wq hq => rf_nilCheckP rfl rfl) rfl ?_
      refine wh_take (i := 2) (v := .pointer (some ⟨q, 0, none⟩)) rfl (by kernel_rfl) (by kernel_rfl) (by kernel_rfl) hS3 rfl (fun wq hq => rf_fieldAddr Try.underlying70 rfl ti60 rfl rfl) rfl ?_
      refine wh_take (i := 3) (v := .pointer (some ⟨p, 0, none⟩)) rfl (by kernel_rfl) (by kernel_rfl) (by kernel_rfl) hS3 rfl (fun wq hq => rf_load Try.underlying60 rfl rfl rfl ((hq.blkR 2 rfl).cell rfl)) rfl ?_
      refine wh_take (i := 4) (v := .pointer (some ⟨q, 0, none⟩)) rfl (by kernel_rfl) (by kernel_rfl) (by kernel_rfl) hS3 rfl (fun wq hq => rf_move rfl) rfl ?_
      refine wh_take (i := 5) (v := .pointer (some ⟨q, 0, none⟩)) rfl (by kernel_rfl) (by kernel_rfl) (by kernel_rfl) hS3 rfl (fun wq hq => rf_nilCheckP rfl rfl) rfl ?_
      refine wh_take (i := 6) (v := .pointer (some ⟨q, 1, none⟩)) rfl (by kernel_rfl) (by kernel_rfl) (by kernel_rfl) hS3 rfl (fun wq hq => rf_fieldAddr Try.underlying70 rfl ti23 rfl rfl) rfl ?_
      refine wh_take (i := 7) (v := .slice y.a y.n y.c) rfl (by kernel_rfl) (by kernel_rfl) (by kernel_rfl) hS3 rfl (fun wq hq => rf_load Try.underlying23 rfl rfl rfl ((hq.blkR 2 rfl).cell rfl)) rfl ?_
      refine wh_take (i := 8) (v := .int .i64 ((k : Nat) : Int)) rfl (by kernel_rfl) (by kernel_rfl) (by kernel_rfl) hS3 rfl (fun wq hq => rf_move rfl) rfl ?_
      refine wh_take (i := 9) (v := .pointer (some ⟨ab y.a, ao y.a + k * 1, none⟩)) rfl (by kernel_rfl) (by kernel_rfl) (by kernel_rfl) hS3 rfl (fun wq hq => rf_indexAddrH Try.underlying23 ti3 rfl rfl rfl rfl (by omega) (by omega) (hq.rdR 3 slH_rd)) rfl ?_
      have hn5 := rd_len (H3.rdR 3 slH_rd)
      obtain ⟨x4, hx4⟩ : ∃ q_, (ts.map bi)[k]? = some q_ := ⟨_, List.getElem?_eq_getElem (by omega)⟩
      refine wh_take (i := 10) (v := .int .i64 x4) rfl (by kernel_rfl) (by kernel_rfl) (by kernel_rfl) hS3 rfl (fun wq hq => rf_load Try.underlying3 rfl rfl rfl (rd_el (hq.rdR 3 slH_rd) hx4 0 _ rfl)) rfl ?_
      obtain ⟨o, ho, hoe⟩ := map_at hx4
      subst hoe
      have hob : bi o < ((cs.length : Nat) : Int) := by cases o with | none => (show (-1 : Int) < _; omega) | some j => (have := hwf.hts j (List.mem_of_getElem? ho); show ((j : Nat) : Int) < _; omega)
      refine wh_one (i := 11) (by kernel_rfl) rfl ?_
      refine wl_tr H3 rfl [] (rready_tr hwf.hok hwf.hbl (bi o) (by omega)) rfl (.ro 1 Le.rfl .nil) (rf_call Try.call36 rfl rfl) rfl ?_
      rintro _ w6 _ ⟨rfl, rfl⟩ H6
      refine wl_nil ?_
      have hS7 : St w0 S0 [rlH q p ts steps, refH p cs, blkH q #[.pointer (some ⟨p, 0, none⟩), .slice y.a y.n y.c, .int .i64 steps] 70, slH encI 1 3 y.a y.n y.c (ts.map bi)] w6 [] := H6.pick' [] rfl rfl
      refine wh_back hS7 ?_
      refine wh_take (i := 12) (v := .bool (rdyI cs (bi o))) rfl (by kernel_rfl) (by kernel_rfl) (by kernel_rfl) hS7 rfl (fun wq hq => rf_assign rfl) rfl ?_
      refine wh_done (by kernel_rfl) ?_
      refine thn ?_
      refine seq_ ?_
      refine region_ ?_
      refine wl_valE (v := .bool (rdyI cs (bi o))) rfl (rf_move rfl) rfl ?_
      refine wl_nil ?_
      refine thn ?_
      refine cond_ (t := rdyI cs (bi o)) rfl rfl (fun c27 => ?_) (fun c27 => ?_)
      · refine region_ ?_
        refine wl_valE (v := .slice a3 n3 c3) rfl (rf_move rfl) rfl ?_
        refine wl_valE (v := .int .i64 ((k : Nat) : Int)) rfl (rf_move rfl) rfl ?_
        refine wl_buildSliceH (enc := encI) H6 [((k : Nat) : Int)] encI_len Try.underlying23 ti3 rfl rfl rfl (.cons rfl rfl rfl rfl rfl rfl .nil) ?_
        intro a8 w9 H9
        refine wl_appendH (enc := encI) (N := n3 + 1) H9 0 rfl rfl encI_len encI_one Try.underlying23 ti3 rfl rfl rfl rfl rfl (H9.rdO 1 slH_rd) rfl (by omega) (by omega) ?_
        intro a10 c10 w10 hc10 hd10 H10
        refine wl_valE (v := .slice a10 (n3 + 1) c10) rfl (rf_assign rfl) rfl ?_
        refine wl_nil ?_
        refine bln ?_
        refine thn ?_
        refine region_ ?_
        refine wl_valE (v := .int .i64 ((k : Nat) : Int)) rfl (rf_move rfl) rfl ?_
        refine wl_valE (v := .int .i64 ((k + 1 : Nat) : Int)) rfl (rf_add rfl rfl rfl rfl (IntWalk.i64_in _ (by omega))) rfl ?_
        refine wl_valE (v := .int .i64 ((k + 1 : Nat) : Int)) rfl (rf_assign rfl) rfl ?_
        refine wl_nil ?_
        refine thn ?_
        refine ⟨y.n - (k + 1), _, rfl, (by omega), _, k + 1, a10, n3 + 1, c10, l ++ ([((k : Nat) : Int)]), upds_self ⟨rfl, rfl, rfl, trivial⟩, rfl, ⟨by omega, by omega⟩, by rw [← hal, drop_at ho]; rw [rdyI_bi] at c27; cases o <;> simp_all [rdyL], H10.pick' [0] rfl rfl⟩
      · refine skip_ ?_
        refine bln ?_
        refine thn ?_
        refine region_ ?_
        refine wl_valE (v := .int .i64 ((k : Nat) : Int)) rfl (rf_move rfl) rfl ?_
        refine wl_valE (v := .int .i64 ((k + 1 : Nat) : Int)) rfl (rf_add rfl rfl rfl rfl (IntWalk.i64_in _ (by omega))) rfl ?_
        refine wl_valE (v := .int .i64 ((k + 1 : Nat) : Int)) rfl (rf_assign rfl) rfl ?_
        refine wl_nil ?_
        refine thn ?_
        refine ⟨y.n - (k + 1), _, rfl, (by omega), _, k + 1, a3, n3, c3, l, upds_self ⟨rfl, rfl, rfl, trivial⟩, rfl, ⟨by omega, by omega⟩, by rw [← hal, drop_at ho]; rw [rdyI_bi] at c27; cases o <;> simp_all [rdyL], H6.pick' [0] rfl rfl⟩
    · have c12p := of_decide_eq_false c12
      refine exit_ ?_
      refine thx (thx (blx ?_))
      refine thn ?_
      refine seq_ ?_
      refine region_ ?_
      refine wl_valE (v := .slice a3 n3 c3) rfl (rf_move rfl) rfl ?_
      refine wl_valE (v := .slice a3 n3 c3) rfl (rf_assign rfl) rfl ?_
      refine wl_nil ?_
      refine thn ?_
      refine ret_ ?_
      refine fin1 (v := .slice a3 n3 c3) Try.results32 rfl rfl ?_
      rw [drop_all (by omega)] at hal
      simp only [rdyL, List.append_nil] at hal
      subst hal
      exact ⟨_, ⟨_, _, _, rfl, rfl⟩, (HL0.weakR 2 rfl).pick' [0] rfl rfl⟩
theorem rtake_tr {q p : Nat} {ts : List (Option Nat)} {steps : Int} {cs : List Cho} (hwf : WfC cs ts) (hst : 0 ≤ steps ∧ steps + ((totL cs : Nat) : Int) ≤ 1152921504606846976) (pick : Int) : Tr Try.prog 33 [.pointer (some ⟨q, 0, none⟩), .int .i64 pick] [] [rlH q p ts steps, refH p cs] (fun v m => v = .int .i64 (takeV cs ts pick) ∧ m = [rlH q p ts (steps + ((bn (takeI cs ts pick).isSome : Nat) : Int)), refH p (takeC cs ts pick)]) := by
  intro w0 S0 H0
  refine enterR Try.func33 rfl Try.ntmps33 rfl ?_
  intro g0
  refine seq_ ?_
  refine region_ ?_
  refine wl_valE (v := .int .i64 (0 : Int)) rfl (rf_assign rfl) rfl ?_
  refine wl_nil ?_
  refine thn ?_
  refine seq_ ?_
  refine region_ ?_
  refine wl_valE (v := .pointer (some ⟨q, 0, none⟩)) rfl (rf_move rfl) rfl ?_
  refine wl_tr H0 rfl [] (rlready_tr hwf) rfl (.own 0 rfl Le.rfl (.own 1 rfl Le.rfl .nil)) (rf_call Try.call32 rfl rfl) rfl ?_
  rintro _ w1 _ ⟨ar1, nr1, cr1, rfl, rfl⟩ H1
  have hrl := slH_len H1 2 rfl
  have hrn := rdyL_len (cs := cs) (ts := ts) (k := 0)
  have htl := hwf.htl
  have htot := takeC_tot hwf pick
  refine wl_valE (v := .slice ar1 nr1 cr1) rfl (rf_assign rfl) rfl ?_
  refine wl_nil ?_
  refine thn ?_
  refine seq_ ?_
  refine seq_ ?_
  refine region_ ?_
  refine wl_valE (v := .slice ar1 nr1 cr1) rfl (rf_move rfl) rfl ?_
  refine wl_valE (v := .int .i64 ((nr1 : Nat) : Int)) rfl (rf_len_slice Try.underlying23 rfl rfl) rfl ?_
  refine wl_valE (v := .bool (decide (((nr1 : Nat) : Int) = (0 : Int)))) rfl (rf_eql rfl rfl rfl rfl) rfl ?_
  refine wl_nil ?_
  refine thn ?_
  refine cond_ (t := decide (((nr1 : Nat) : Int) = (0 : Int))) rfl rfl (fun c11 => ?_) (fun c11 => ?_)
  · have c11p := of_decide_eq_true c11
    have hr0 : rdyL cs 0 ts = [] := List.eq_nil_of_length_eq_zero (by omega)
    refine seq_ ?_
    refine region_ ?_
    refine wl_valE (v := .int .i64 (-1 : Int)) rfl (rf_assign rfl) rfl ?_
    refine wl_nil ?_
    refine thn ?_
    refine ret_ ?_
    refine thr ?_
    refine fin1 (v := .int .i64 (-1 : Int)) Try.results33 rfl rfl ?_
    have e1 := takeI_none (pick := pick) hr0
    have e2 : takeC cs ts pick = cs := by unfold takeC; rw [e1]
    have e3 : takeV cs ts pick = -1 := by unfold takeV; rw [e1]; rfl
    have e4 : steps + ((bn (none : Option Int).isSome : Nat) : Int) = steps := Int.add_zero _
    rw [e1, e2, e3, e4]
    exact ⟨_, ⟨rfl, rfl⟩, H1.pick' [0, 1] rfl rfl⟩
  · have c11p := of_decide_eq_false c11
    have hpi := withinF_in (n := pick) (m := ((nr1 : Nat) : Int)) (by omega)
    have htm := tmod_in (n := pick) (m := ((nr1 : Nat) : Int)) (by omega)
    have hwe := within_eq (n := pick) (m := ((nr1 : Nat) : Int)) (by omega)
    refine skip_ ?_
    refine thn ?_
    refine seq_ ?_
    refine region_ ?_
    refine wl_valE (v := .int .i64 pick) rfl (rf_move rfl) rfl ?_
    refine wl_valE (v := .slice ar1 nr1 cr1) rfl (rf_move rfl) rfl ?_
    refine wl_valE (v := .int .i64 ((nr1 : Nat) : Int)) rfl (rf_len_slice Try.underlying23 rfl rfl) rfl ?_
    refine wl_valE (v := .int .i64 (pick.tmod ((nr1 : Nat) : Int))) rfl (rf_rem rfl rfl rfl rfl (by omega) rfl) rfl ?_
    refine wl_valE (v := .int .i64 (pick.tmod ((nr1 : Nat) : Int))) rfl (rf_assign rfl) rfl ?_
    refine wl_nil ?_
    refine thn ?_
    refine seq_ ?_
    refine seq_ ?_
    refine region_ ?_
    refine wl_valE (v := .int .i64 (pick.tmod ((nr1 : Nat) : Int))) rfl (rf_move rfl) rfl ?_
    refine wl_valE (v := .bool (decide (pick.tmod ((nr1 : Nat) : Int) < (0 : Int)))) rfl (rf_lss rfl rfl rfl rfl) rfl ?_
    refine wl_nil ?_
    refine thn ?_
    refine cut_ (fun qf_ qw_ => ∃ (g : Nat → Value) (y1 : Int), qf_ = upds g [(0, .pointer (some ⟨q, 0, none⟩)), (5, .slice ar1 nr1 cr1), (6, .int .i64 y1)] ∧ (y1 = withinF pick ((nr1 : Nat) : Int)) ∧ St w0 S0 [] qw_ [rlH q p ts steps, refH p cs, slH encI 1 3 ar1 nr1 cr1 (rdyL cs 0 ts)]) ?_ ?_
    · refine cond_ (t := decide (pick.tmod ((nr1 : Nat) : Int) < (0 : Int))) rfl rfl (fun c17 => ?_) (fun c17 => ?_)
      · have c17p := of_decide_eq_true c17
        refine region_ ?_
        refine wl_valE (v := .int .i64 (pick.tmod ((nr1 : Nat) : Int))) rfl (rf_move rfl) rfl ?_
        refine wl_valE (v := .slice ar1 nr1 cr1) rfl (rf_move rfl) rfl ?_
        refine wl_valE (v := .int .i64 ((nr1 : Nat) : Int)) rfl (rf_len_slice Try.underlying23 rfl rfl) rfl ?_
        refine wl_valE (v := .int .i64 ((pick.tmod ((nr1 : Nat) : Int)) + ((nr1 : Nat) : Int))) rfl (rf_add rfl rfl rfl rfl (IntWalk.i64_in _ (by omega))) rfl ?_
        refine wl_valE (v := .int .i64 ((pick.tmod ((nr1 : Nat) : Int)) + ((nr1 : Nat) : Int))) rfl (rf_assign rfl) rfl ?_
        refine wl_nil ?_
        refine cxn ⟨_, (pick.tmod ((nr1 : Nat) : Int)) + ((nr1 : Nat) : Int), upds_self ⟨rfl, rfl, rfl, trivial⟩, by rw [← hwe, if_pos c17p], H1.pick' [0, 1, 2] rfl rfl⟩
      · have c17p := of_decide_eq_false c17
        refine skip_ ?_
        refine cxn ⟨_, pick.tmod ((nr1 : Nat) : Int), upds_self ⟨rfl, rfl, rfl, trivial⟩, by rw [← hwe, if_neg c17p], H1.pick' [0, 1, 2] rfl rfl⟩
    · rintro _ wcutc17 ⟨glcutc17, y1, rfl, hy1, Hcutc17⟩
      refine thn ?_
      refine seq_ ?_
      obtain ⟨y, _, H2⟩ := rlH.open_ Hcutc17 0 rfl rfl
      have hn3 := slH_len H2 2 rfl
      obtain ⟨xr, hxr⟩ : ∃ q_, (rdyL cs 0 ts)[y1.toNat]? = some q_ := ⟨_, List.getElem?_eq_getElem (by omega)⟩
      obtain ⟨i, j, hij, hti, hrj⟩ := rdyL_mem (List.mem_of_getElem? hxr)
      rw [Nat.zero_add] at hij
      have hxi : takeI cs ts pick = some ((i : Nat) : Int) := by rw [takeI_some (by omega), ← hrl.1, ← hy1, hxr, hij]
      subst hij
      have htC : takeC cs ts pick = stepC cs j := by unfold takeC; rw [hxi]; simp [hti]
      have hyl := slH_len H2 3 rfl
      rw [List.length_map] at hyl
      have hil := (List.getElem?_eq_some_iff.1 hti).1
      have hyj : (ts.map bi)[i]? = some (((j : Nat) : Int)) := by rw [List.getElem?_map, hti]; rfl
      have hjl := hwf.hts j (List.mem_of_getElem? hti)
      refine region_h (S := (fun wq => St w0 S0 [] wq [blkH q #[.pointer (some ⟨p, 0, none⟩), .slice y.a y.n y.c, .int .i64 steps] 70, slH encI 1 3 ar1 nr1 cr1 (rdyL cs 0 ts), slH encI 1 3 y.a y.n y.c (ts.map bi)])) mixedP ?_
      intro w4 hk4
      have H4 := H2.keep hk4
      have hS4 : St w0 S0 [] w4 [blkH q #[.pointer (some ⟨p, 0, none⟩), .slice y.a y.n y.c, .int .i64 steps] 70, slH encI 1 3 ar1 nr1 cr1 (rdyL cs 0 ts), slH encI 1 3 y.a y.n y.c (ts.map bi)] := H4.pick' [0, 2, 3] rfl rfl
      refine wh_take (i := 0) (v := .pointer (some ⟨q, 0, none⟩)) rfl (by kernel_rfl) (by kernel_rfl) (by kernel_rfl) hS4 rfl (fun wq hq => rf_move rfl) rfl ?_
      refine wh_take (i := 1) (v := .pointer (some ⟨q, 0, none⟩)) rfl (by kernel_rfl) (by kernel_rfl) (by kernel_rfl) hS4 rfl (fun wq hq => rf_nilCheckP rfl rfl) rfl ?_
      refine wh_take (i := 2) (v := .pointer (some ⟨q, 0, none⟩)) rfl (by kernel_rfl) (by kernel_rfl) (by kernel_rfl) hS4 rfl (fun wq hq => rf_fieldAddr Try.underlying70 rfl ti60 rfl rfl) rfl ?_
      refine wh_take (i := 3) (v := .pointer (some ⟨p, 0, none⟩)) rfl (by kernel_rfl) (by kernel_rfl) (by kernel_rfl) hS4 rfl (fun wq hq => rf_load Try.underlying60 rfl rfl rfl ((hq.blk 0 rfl).cell rfl)) rfl ?_
      refine wh_take (i := 4) (v := .pointer (some ⟨q, 0, none⟩)) rfl (by kernel_rfl) (by kernel_rfl) (by kernel_rfl) hS4 rfl (fun wq hq => rf_move rfl) rfl ?_
      refine wh_take (i := 5) (v := .pointer (some ⟨q, 0, none⟩)) rfl (by kernel_rfl) (by kernel_rfl) (by kernel_rfl) hS4 rfl (fun wq hq => rf_nilCheckP rfl rfl) rfl ?_
      refine wh_take (i := 6) (v := .pointer (some ⟨q, 1, none⟩)) rfl (by kernel_rfl) (by kernel_rfl) (by kernel_rfl) hS4 rfl (fun wq hq => rf_fieldAddr Try.underlying70 rfl ti23 rfl rfl) rfl ?_
      refine wh_take (i := 7) (v := .slice y.a y.n y.c) rfl (by kernel_rfl) (by kernel_rfl) (by kernel_rfl) hS4 rfl (fun wq hq => rf_load Try.underlying23 rfl rfl rfl ((hq.blk 0 rfl).cell rfl)) rfl ?_
      refine wh_take (i := 8) (v := .slice ar1 nr1 cr1) rfl (by kernel_rfl) (by kernel_rfl) (by kernel_rfl) hS4 rfl (fun wq hq => rf_move rfl) rfl ?_
      refine wh_take (i := 9) (v := .int .i64 y1) rfl (by kernel_rfl) (by kernel_rfl) (by kernel_rfl) hS4 rfl (fun wq hq => rf_move rfl) rfl ?_
      refine wh_take (i := 10) (v := .pointer (some ⟨ab ar1, ao ar1 + y1.toNat * 1, none⟩)) rfl (by kernel_rfl) (by kernel_rfl) (by kernel_rfl) hS4 rfl (fun wq hq => rf_indexAddrH Try.underlying23 ti3 rfl rfl rfl rfl (by omega) (by omega) (hq.rdO 1 slH_rd)) rfl ?_
      refine wh_take (i := 11) (v := .int .i64 ((i : Nat) : Int)) rfl (by kernel_rfl) (by kernel_rfl) (by kernel_rfl) hS4 rfl (fun wq hq => rf_load Try.underlying3 rfl rfl rfl (rd_el (hq.rdO 1 slH_rd) hxr 0 _ rfl)) rfl ?_
      refine wh_take (i := 12) (v := .pointer (some ⟨ab y.a, ao y.a + i * 1, none⟩)) rfl (by kernel_rfl) (by kernel_rfl) (by kernel_rfl) hS4 rfl (fun wq hq => rf_indexAddrH Try.underlying23 ti3 rfl rfl rfl rfl (by omega) (by omega) (hq.rdO 2 slH_rd)) rfl ?_
      refine wh_take (i := 13) (v := .int .i64 ((j : Nat) : Int)) rfl (by kernel_rfl) (by kernel_rfl) (by kernel_rfl) hS4 rfl (fun wq hq => rf_load Try.underlying3 rfl rfl rfl (rd_el (hq.rdO 2 slH_rd) hyj 0 _ rfl)) rfl ?_
      refine wh_one (i := 14) (by kernel_rfl) rfl ?_
      refine wl_tr H4 rfl [1] (rstep_tr hwf.hok hwf.hbl ((j : Nat) : Int) (by omega)) rfl .nil (rf_call Try.call38 rfl rfl) rfl ?_
      rintro _ w5 _ ⟨rfl, rfl⟩ H5
      refine wl_nil ?_
      have hS6 : St w0 S0 [] w5 [blkH q #[.pointer (some ⟨p, 0, none⟩), .slice y.a y.n y.c, .int .i64 steps] 70, slH encI 1 3 ar1 nr1 cr1 (rdyL cs 0 ts), slH encI 1 3 y.a y.n y.c (ts.map bi)] := H5.pick' [0, 2, 3] rfl rfl
      refine wh_back hS6 ?_
      refine wh_done (by kernel_rfl) ?_
      refine thn ?_
      refine seq_ ?_
      refine region_ ?_
      refine wl_valE (v := .pointer (some ⟨q, 0, none⟩)) rfl (rf_move rfl) rfl ?_
      refine wl_valE (v := .pointer (some ⟨q, 0, none⟩)) rfl (rf_nilCheckP rfl rfl) rfl ?_
      refine wl_valE (v := .pointer (some ⟨q, 2, none⟩)) rfl (rf_fieldAddr Try.underlying70 rfl ti3 rfl rfl) rfl ?_
      refine wl_valE (v := .int .i64 steps) rfl (rf_load Try.underlying3 rfl rfl rfl ((H5.blk 0 rfl).cell rfl)) rfl ?_
      refine wl_valE (v := .int .i64 (steps + (1 : Int))) rfl (rf_add rfl rfl rfl rfl (IntWalk.i64_in _ (by omega))) rfl ?_
      refine wl_valE (v := .pointer (some ⟨q, 0, none⟩)) rfl (rf_nilCheckP rfl rfl) rfl ?_
      refine wl_valE (v := .pointer (some ⟨q, 2, none⟩)) rfl (rf_fieldAddr Try.underlying70 rfl ti3 rfl rfl) rfl ?_
      refine wl_storeH H5 0 (v := .int .i64 (steps + (1 : Int))) (A' := #[.pointer (some ⟨p, 0, none⟩), .slice y.a y.n y.c, .int .i64 (steps + (1 : Int))]) rfl rfl ti3 rfl rfl rfl rfl rfl (ltb rfl) rfl ?_
      intro w7 H7
      dsimp only [putsH, setH, List.cons_append, List.nil_append] at H7
      refine wl_nil ?_
      refine thn ?_
      refine seq_ ?_
      refine region_ ?_
      refine wl_valE (v := .slice ar1 nr1 cr1) rfl (rf_move rfl) rfl ?_
      refine wl_valE (v := .int .i64 y1) rfl (rf_move rfl) rfl ?_
      have H8 := rlH.close_ (q := q) (p := p) (ts := ts) (steps := (steps + (1 : Int))) H7 [0, 3] y trivial rfl rfl
      refine wl_valE (v := .pointer (some ⟨ab ar1, ao ar1 + y1.toNat * 1, none⟩)) rfl (rf_indexAddrH Try.underlying23 ti3 rfl rfl rfl rfl (by omega) (by omega) (H8.rdO 2 slH_rd)) rfl ?_
      refine wl_valE (v := .int .i64 ((i : Nat) : Int)) rfl (rf_load Try.underlying3 rfl rfl rfl (rd_el (H8.rdO 2 slH_rd) hxr 0 _ rfl)) rfl ?_
      refine wl_valE (v := .int .i64 ((i : Nat) : Int)) rfl (rf_assign rfl) rfl ?_
      refine wl_nil ?_
      refine thn ?_
      refine ret_ ?_
      refine fin1 (v := .int .i64 ((i : Nat) : Int)) Try.results33 rfl rfl ?_
      have e3 : takeV cs ts pick = ((i : Nat) : Int) := by unfold takeV; rw [hxi]; rfl
      have e5 : stepI cs ((j : Nat) : Int) = stepC cs j := stepI_bi cs (some j)
      rw [e5] at H8
      rw [e3, htC, hxi]
      exact ⟨_, ⟨rfl, rfl⟩, H8.pick' [0, 1] rfl rfl⟩
theorem rplay_tr {q p : Nat} {ts : List (Option Nat)} {steps : Int} {cs : List Cho} (hwf : WfC cs ts) (hst : 0 ≤ steps ∧ steps + ((totL cs : Nat) : Int) ≤ 1152921504606846976) (a : Option Addr) (n c : Nat) (l : List Int) (hn : n ≤ 9223372036854775806) : Tr Try.prog 34 [.pointer (some ⟨q, 0, none⟩), .slice a n c] [rdH encI 1 a n c l] [rlH q p ts steps, refH p cs] (fun v m => v = .int .i64 ((playN ts cs l : Nat) : Int) ∧ m = [rlH q p ts (steps + ((playN ts cs l : Nat) : Int)), refH p (playC ts cs l)]) := by
  intro w0 S0 H0
  have hl1 := (rd_len (H0.rdR 0 Le.rfl)).1
  have hp0 := playN_le (l := l) hwf
  refine enterR Try.func34 rfl Try.ntmps34 rfl ?_
  intro g0
  refine seq_ ?_
  refine region_ ?_
  refine wl_valE (v := .int .i64 (0 : Int)) rfl (rf_assign rfl) rfl ?_
  refine wl_nil ?_
  refine thn ?_
  refine seq_ ?_
  refine region_ ?_
  refine wl_valE (v := .int .i64 (0 : Int)) rfl (rf_assign rfl) rfl ?_
  refine wl_nil ?_
  refine thn ?_
  refine seq_ ?_
  refine seq_ ?_
  refine region_ ?_
  refine wl_valE (v := .int .i64 (0 : Int)) rfl (rf_assign rfl) rfl ?_
  refine wl_nil ?_
  refine thn ?_
  refine block_ ?_
  refine loop_ (fun qk_ qf_ qw_ => ∃ (g : Nat → Value) (k d : Nat) (s : Int) (ds : List Cho), qf_ = upds g [(0, .pointer (some ⟨q, 0, none⟩)), (1, .slice a n c), (5, .int .i64 ((d : Nat) : Int)), (6, .int .i64 ((k : Nat) : Int))] ∧ qk_ = n - k ∧ (k ≤ n ∧ WfC ds ts ∧ 0 ≤ s ∧ s + ((totL ds : Nat) : Int) = steps + ((totL cs : Nat) : Int) ∧ s = steps + ((d : Nat) : Int)) ∧ (playC ts ds (l.drop k) = playC ts cs l ∧ s + ((playN ts ds (l.drop k) : Nat) : Int) = steps + ((playN ts cs l : Nat) : Int)) ∧ St w0 S0 [rdH encI 1 a n c l] qw_ [rlH q p ts s, refH p ds]) (n - 0) ?_ ?_
  · refine ⟨_, 0, 0, steps, cs, upds_self ⟨rfl, rfl, rfl, rfl, trivial⟩, rfl, ⟨Nat.zero_le _, hwf, hst.1, rfl, by omega⟩, ⟨rfl, rfl⟩, H0.pick' [0, 1] rfl rfl⟩
  · rintro lk0 _ wl0 ⟨gl0, k, d, s, ds, rfl, hlk0, ⟨hk, hwf2, hs0, hs1, hsd⟩, ⟨hp1, hp2⟩, HL0⟩
    refine seq_ ?_
    refine seq_ ?_
    refine region_ ?_
    refine wl_valE (v := .int .i64 ((k : Nat) : Int)) rfl (rf_move rfl) rfl ?_
    refine wl_valE (v := .slice a n c) rfl (rf_move rfl) rfl ?_
    refine wl_valE (v := .int .i64 ((n : Nat) : Int)) rfl (rf_len_slice Try.underlying23 rfl rfl) rfl ?_
    refine wl_valE (v := .bool (decide (((k : Nat) : Int) < ((n : Nat) : Int)))) rfl (rf_lss rfl rfl rfl rfl) rfl ?_
    refine wl_nil ?_
    refine thn ?_
    refine cond_ (t := decide (((k : Nat) : Int) < ((n : Nat) : Int))) rfl rfl (fun c10 => ?_) (fun c10 => ?_)
    · have c10p := of_decide_eq_true c10
      refine skip_ ?_
      refine thn ?_
      refine seq_ ?_
      refine block_ ?_
      refine seq_ ?_
      refine region_ ?_
      refine wl_valE (v := .pointer (some ⟨q, 0, none⟩)) rfl (rf_move rfl) rfl ?_
      refine wl_valE (v := .slice a n c) rfl (rf_move rfl) rfl ?_
      refine wl_valE (v := .int .i64 ((k : Nat) : Int)) rfl (rf_move rfl) rfl ?_
      refine wl_valE (v := .pointer (some ⟨ab a, ao a + k * 1, none⟩)) rfl (rf_indexAddrH Try.underlying23 ti3 rfl rfl rfl rfl (by omega) (by omega) (HL0.rdR 0 Le.rfl)) rfl ?_
      have hn2 := rd_len (HL0.rdR 0 Le.rfl)
      obtain ⟨x1, hx1⟩ : ∃ q_, l[k]? = some q_ := ⟨_, List.getElem?_eq_getElem (by omega)⟩
      refine wl_valE (v := .int .i64 x1) rfl (rf_load Try.underlying3 rfl rfl rfl (rd_el (HL0.rdR 0 Le.rfl) hx1 0 _ rfl)) rfl ?_
      refine wl_tr HL0 rfl [0, 1] (rtake_tr hwf2 ⟨hs0, by omega⟩ x1) rfl .nil (rf_call Try.call33 rfl rfl) rfl ?_
      rintro _ w3 _ ⟨rfl, rfl⟩ H3
      have htt := takeC_tot hwf2 x1
      have hq2 : 0 ≤ takeV ds ts x1 → (bn (takeI ds ts x1).isSome = 1) := fun h => by obtain ⟨i, hi⟩ := takeV_pos h; rw [hi]; rfl
      have hq3 : ¬ 0 ≤ takeV ds ts x1 → (bn (takeI ds ts x1).isSome = 0) := fun h => by rw [takeV_neg h]; rfl
      refine wl_valE (v := .bool (decide ((0 : Int) ≤ takeV ds ts x1))) rfl (rf_geq rfl rfl rfl rfl) rfl ?_
      refine wl_nil ?_
      refine thn ?_
      refine cond_ (t := decide ((0 : Int) ≤ takeV ds ts x1)) rfl rfl (fun c19 => ?_) (fun c19 => ?_)
      · have c19p := of_decide_eq_true c19
        refine region_ ?_
        refine wl_valE (v := .int .i64 ((d : Nat) : Int)) rfl (rf_move rfl) rfl ?_
        refine wl_valE (v := .int .i64 ((d + 1 : Nat) : Int)) rfl (rf_add rfl rfl rfl rfl (IntWalk.i64_in _ (by omega))) rfl ?_
        refine wl_valE (v := .int .i64 ((d + 1 : Nat) : Int)) rfl (rf_assign rfl) rfl ?_
        refine wl_nil ?_
        refine bln ?_
        refine thn ?_
        refine region_ ?_
        refine wl_valE (v := .int .i64 ((k : Nat) : Int)) rfl (rf_move rfl) rfl ?_
        refine wl_valE (v := .int .i64 ((k + 1 : Nat) : Int)) rfl (rf_add rfl rfl rfl rfl (IntWalk.i64_in _ (by omega))) rfl ?_
        refine wl_valE (v := .int .i64 ((k + 1 : Nat) : Int)) rfl (rf_assign rfl) rfl ?_
        refine wl_nil ?_
        refine thn ?_
        refine ⟨n - (k + 1), _, rfl, (by omega), _, k + 1, d + 1, s + ((bn (takeI ds ts x1).isSome : Nat) : Int), takeC ds ts x1, upds_self ⟨rfl, rfl, rfl, rfl, trivial⟩, rfl, ⟨by omega, hwf2.take _, by omega, by omega, by omega⟩, by rw [drop_at hx1] at hp1 hp2; simp only [playC, playN] at hp1 hp2; exact ⟨hp1, by omega⟩, H3.pick' [0, 1] rfl rfl⟩
      · have c19p := of_decide_eq_false c19
        refine skip_ ?_
        refine bln ?_
        refine thn ?_
        refine region_ ?_
        refine wl_valE (v := .int .i64 ((k : Nat) : Int)) rfl (rf_move rfl) rfl ?_
        refine wl_valE (v := .int .i64 ((k + 1 : Nat) : Int)) rfl (rf_add rfl rfl rfl rfl (IntWalk.i64_in _ (by omega))) rfl ?_
        refine wl_valE (v := .int .i64 ((k + 1 : Nat) : Int)) rfl (rf_assign rfl) rfl ?_
        refine wl_nil ?_
        refine thn ?_
        refine ⟨n - (k + 1), _, rfl, (by omega), _, k + 1, d, s + ((bn (takeI ds ts x1).isSome : Nat) : Int), takeC ds ts x1, upds_self ⟨rfl, rfl, rfl, rfl, trivial⟩, rfl, ⟨by omega, hwf2.take _, by omega, by omega, by omega⟩, by rw [drop_at hx1] at hp1 hp2; simp only [playC, playN] at hp1 hp2; exact ⟨hp1, by omega⟩, H3.pick' [0, 1] rfl rfl⟩
    · have c10p := of_decide_eq_false c10
      refine exit_ ?_
      refine thx (thx (blx ?_))
      refine thn ?_
      refine seq_ ?_
      rw [drop_all (by omega)] at hp1 hp2
      simp only [playC, playN] at hp1 hp2
      subst hp1
      obtain rfl : d = playN ts cs l := by omega
      refine region_ ?_
      refine wl_valE (v := .int .i64 (((playN ts cs l) : Nat) : Int)) rfl (rf_move rfl) rfl ?_
      refine wl_valE (v := .int .i64 (((playN ts cs l) : Nat) : Int)) rfl (rf_assign rfl) rfl ?_
      refine wl_nil ?_
      refine thn ?_
      refine ret_ ?_
      refine fin1 (v := .int .i64 (((playN ts cs l) : Nat) : Int)) Try.results34 rfl rfl ?_
      subst hsd
      exact ⟨_, ⟨rfl, rfl⟩, HL0.pick' [0, 1] rfl rfl⟩
theorem rdrain_tr {q p : Nat} {ts : List (Option Nat)} {steps : Int} {cs : List Cho} (hwf : WfC cs ts) (hst : 0 ≤ steps ∧ steps + ((totL cs : Nat) : Int) ≤ 1152921504606846976) (most : Int) : Tr Try.prog 35 [.pointer (some ⟨q, 0, none⟩), .int .i64 most] [] [rlH q p ts steps, refH p cs] (fun v m => v = .int .i64 (((drainS ts (totL cs + 1) cs most).2 : Nat) : Int) ∧ m = [rlH q p ts (steps + (((drainS ts (totL cs + 1) cs most).2 : Nat) : Int)), refH p (drainS ts (totL cs + 1) cs most).1]) := by
  intro w0 S0 H0
  refine enterR Try.func35 rfl Try.ntmps35 rfl ?_
  intro g0
  refine seq_ ?_
  refine region_ ?_
  refine wl_valE (v := .int .i64 (0 : Int)) rfl (rf_assign rfl) rfl ?_
  refine wl_nil ?_
  refine thn ?_
  refine seq_ ?_
  refine region_ ?_
  refine wl_valE (v := .int .i64 (0 : Int)) rfl (rf_assign rfl) rfl ?_
  refine wl_nil ?_
  refine thn ?_
  refine seq_ ?_
  refine block_ ?_
  refine loop_ (fun qk_ qf_ qw_ => ∃ (g : Nat → Value) (k : Nat) (s : Int) (ds : List Cho), qf_ = upds g [(0, .pointer (some ⟨q, 0, none⟩)), (1, .int .i64 most), (5, .int .i64 ((k : Nat) : Int))] ∧ qk_ = totL ds ∧ (WfC ds ts ∧ 0 ≤ s ∧ s + ((totL ds : Nat) : Int) = steps + ((totL cs : Nat) : Int) ∧ s = steps + ((k : Nat) : Int)) ∧ ((drainS ts (totL ds + 1) ds (most - ((k : Nat) : Int))).1 = (drainS ts (totL cs + 1) cs most).1 ∧ k + (drainS ts (totL ds + 1) ds (most - ((k : Nat) : Int))).2 = (drainS ts (totL cs + 1) cs most).2) ∧ St w0 S0 [] qw_ [rlH q p ts s, refH p ds]) (totL cs) ?_ ?_
  · refine ⟨_, 0, steps, cs, upds_self ⟨rfl, rfl, rfl, trivial⟩, rfl, ⟨hwf, hst.1, rfl, by omega⟩, (by simp), H0.pick' [0, 1] rfl rfl⟩
  · rintro lk0 _ wl0 ⟨gl0, k, s, ds, rfl, hlk0, ⟨hwf2, hs0, hs1, hsk⟩, ⟨hp1, hp2⟩, HL0⟩
    refine seq_ ?_
    refine seq_ ?_
    refine region_ ?_
    refine wl_valE (v := .int .i64 ((k : Nat) : Int)) rfl (rf_move rfl) rfl ?_
    refine wl_valE (v := .int .i64 most) rfl (rf_move rfl) rfl ?_
    refine wl_valE (v := .bool (decide (((k : Nat) : Int) < most))) rfl (rf_lss rfl rfl rfl rfl) rfl ?_
    refine wl_valE (v := .bool (decide (((k : Nat) : Int) < most))) rfl (rf_move rfl) rfl ?_
    refine wl_split (decide (((k : Nat) : Int) < most)) (fun u2_3 => ?_) (fun u2_3 => ?_)
    · have u2_3p := of_decide_eq_true u2_3
      refine wl_guardT rfl rfl rfl u2_3 ?_
      refine wl_valE (v := .pointer (some ⟨q, 0, none⟩)) rfl (rf_move rfl) rfl ?_
      refine wl_guardT rfl rfl rfl u2_3 ?_
      refine wl_tr HL0 rfl [0, 1] (rtake_tr hwf2 ⟨hs0, by omega⟩ (0 : Int)) rfl .nil (rf_call Try.call33 rfl rfl) rfl ?_
      rintro _ w1 _ ⟨rfl, rfl⟩ H1
      refine wl_guardT rfl rfl rfl u2_3 ?_
      refine wl_valE (v := .bool (decide ((0 : Int) ≤ takeV ds ts (0 : Int)))) rfl (rf_geq rfl rfl rfl rfl) rfl ?_
      refine wl_valE (v := .bool (decide ((0 : Int) ≤ takeV ds ts (0 : Int)))) rfl (rf_pickT rfl rfl rfl u2_3) rfl ?_
      refine wl_nil ?_
      refine thn ?_
      refine cond_ (t := decide ((0 : Int) ≤ takeV ds ts (0 : Int))) rfl rfl (fun c13 => ?_) (fun c13 => ?_)
      · have c13p := of_decide_eq_true c13
        obtain ⟨i, hti⟩ := takeV_pos c13p
        refine skip_ ?_
        refine thn ?_
        refine block_ ?_
        refine region_ ?_
        refine wl_valE (v := .int .i64 ((k : Nat) : Int)) rfl (rf_move rfl) rfl ?_
        refine wl_valE (v := .int .i64 ((k + 1 : Nat) : Int)) rfl (rf_add rfl rfl rfl rfl (IntWalk.i64_in _ (by omega))) rfl ?_
        refine wl_valE (v := .int .i64 ((k + 1 : Nat) : Int)) rfl (rf_assign rfl) rfl ?_
        refine wl_nil ?_
        refine bln ?_
        refine thn ?_
        have e9 : most - ((k + 1 : Nat) : Int) = most - ((k : Nat) : Int) - 1 := by omega
        have htt := takeC_tot hwf2 (0 : Int)
        have hb1 : bn (takeI ds ts (0 : Int)).isSome = 1 := by rw [hti]; rfl
        rw [drain_some hwf2 (by omega) hti] at hp1 hp2
        refine ⟨totL (takeC ds ts (0 : Int)), _, rfl, (by omega), _, k + 1, (s + ((bn (takeI ds ts (0 : Int)).isSome : Nat) : Int)), takeC ds ts (0 : Int), upds_self ⟨rfl, rfl, rfl, trivial⟩, rfl, ⟨hwf2.take _, by omega, by omega, by omega⟩, ⟨by rw [e9]; exact hp1, by rw [e9, ← hp2]; simp only []; omega⟩, H1.pick' [0, 1] rfl rfl⟩
      · have c13p := of_decide_eq_false c13
        have hti := takeV_neg c13p
        have hb1 : bn (takeI ds ts (0 : Int)).isSome = 0 := by rw [hti]; rfl
        have hb2 : takeC ds ts (0 : Int) = ds := by unfold takeC; rw [hti]
        rw [hb1, hb2, show s + ((0 : Nat) : Int) = s from Int.add_zero _] at H1
        rw [drain_none (.inr hti)] at hp1 hp2
        rw [Nat.add_zero] at hp2
        refine exit_ ?_
        refine thx (thx (blx ?_))
        refine thn ?_
        refine seq_ ?_
        refine region_ ?_
        refine wl_valE (v := .int .i64 ((k : Nat) : Int)) rfl (rf_move rfl) rfl ?_
        refine wl_valE (v := .int .i64 ((k : Nat) : Int)) rfl (rf_assign rfl) rfl ?_
        refine wl_nil ?_
        refine thn ?_
        refine ret_ ?_
        refine fin1 (v := .int .i64 ((k : Nat) : Int)) Try.results35 rfl rfl ?_
        subst hsk
        rw [← hp1, ← hp2]
        exact ⟨_, ⟨rfl, rfl⟩, H1.pick' [0, 1] rfl rfl⟩
    · have u2_3p := of_decide_eq_false u2_3
      refine wl_guardF rfl rfl rfl u2_3 ?_
      refine wl_guardF rfl rfl rfl u2_3 ?_
      refine wl_guardF rfl rfl rfl u2_3 ?_
      refine wl_valE (v := .bool false) rfl (rf_pickF rfl rfl rfl u2_3) rfl ?_
      refine wl_nil ?_
      refine thn ?_
      refine condF rfl rfl ?_
      refine exit_ ?_
      refine thx (thx (blx ?_))
      refine thn ?_
      refine seq_ ?_
      refine region_ ?_
      refine wl_valE (v := .int .i64 ((k : Nat) : Int)) rfl (rf_move rfl) rfl ?_
      refine wl_valE (v := .int .i64 ((k : Nat) : Int)) rfl (rf_assign rfl) rfl ?_
      refine wl_nil ?_
      refine thn ?_
      refine ret_ ?_
      refine fin1 (v := .int .i64 ((k : Nat) : Int)) Try.results35 rfl rfl ?_
      rw [drain_none (.inl (by omega))] at hp1 hp2
      rw [Nat.add_zero] at hp2
      subst hsk
      rw [← hp1, ← hp2]
      exact ⟨_, ⟨rfl, rfl⟩, HL0.pick' [0, 1] rfl rfl⟩
end Go.Proofs.Ytiidihgimcebgaa.W
