import Derived.Test.YtiidihgimcebgaaR8
import Derived.KernelRfl
namespace Go.Proofs.Ytiidihgimcebgaa.W
open Go Go.Wk
set_option linter.unusedVariables false
set_option linter.unusedSimpArgs false

def mdB (i : Nat) (b : Int) : Option Nat := if b < 0 ∨ i = 0 then none else some (b % (i : Int)).toNat
def mdCs : Nat → List MakeR → List Cho
  | _, [] => []
  | k, x :: r => ⟨clip x.steps, x.bl.map (mdB k)⟩ :: mdCs (k + 1) r
def mdTs (n : Nat) (l : List Int) : List (Option Nat) := l.map (mdB n)
theorem mdCs_len : ∀ (l : List MakeR) (k : Nat), (mdCs k l).length = l.length
  | [], _ => rfl
  | _ :: r, k => congrArg (· + 1) (mdCs_len r (k + 1))
theorem mdB_lt {i : Nat} {b : Int} {j : Nat} (h : mdB i b = some j) : j < i := by
  unfold mdB at h
  split at h
  · cases h
  · rename_i h0
    have h1 := Int.emod_nonneg b (show ((i : Nat) : Int) ≠ 0 by omega)
    have h2 := Int.emod_lt_of_pos b (show 0 < ((i : Nat) : Int) by omega)
    have h3 := Option.some.inj h
    omega
theorem mdB_none {i : Nat} {b : Int} (h : b < 0 ∨ i = 0) : mdB i b = none := by unfold mdB; rw [if_pos h]
theorem mdB_some {i : Nat} {b : Int} (h : ¬ b < 0) (h2 : ¬ ((i : Nat) : Int) = 0) : mdB i b = some (b.tmod (i : Int)).toNat ∧ 0 ≤ b.tmod (i : Int) ∧ b.tmod (i : Int) < (i : Int) := by
  have e : b.tmod (i : Int) = b % (i : Int) := Int.tmod_eq_emod_of_nonneg (by omega)
  unfold mdB
  rw [if_neg (by omega), e]
  exact ⟨rfl, Int.emod_nonneg b h2, Int.emod_lt_of_pos b (by omega)⟩
structure PHid where
  ps : List Nat
  ac : Option Addr
  cc : Nat
  pl : Nat
  pr : Nat
  pq : Nat
  al : Option Addr
  cl : Nat
  aw : Option Addr
  cw : Nat
  hs : List Sv
  ws : List Sv
structure PS where
  cs : List Cho
  ts : List (Option Nat)
  steps : Int
  lists : List (List Int)
def pairH (b : Nat) (s : PS) : HP := repH (fun (x : PHid) => x.ps.length = s.cs.length ∧ x.hs.length = s.lists.length ∧ x.ws.length = s.lists.length) fun x => [blkH b #[.slice x.ac s.cs.length x.cc, .pointer (some ⟨x.pl, 0, none⟩), .pointer (some ⟨x.pr, 0, none⟩), .pointer (some ⟨x.pq, 0, none⟩), .slice x.al s.lists.length x.cl, .slice x.aw s.lists.length x.cw] 67, slH encOP 1 30 x.ac s.cs.length x.cc (x.ps.map some), ChH x.ps s.cs, lineH x.pl x.ps s.ts s.steps, refH x.pr s.cs, rlH x.pq x.pr s.ts s.steps, slH encSv 1 23 x.al s.lists.length x.cl x.hs, slH encSv 1 23 x.aw s.lists.length x.cw x.ws, ssH encI 1 3 x.hs s.lists, ssH encI 1 3 x.ws s.lists]
theorem pairH.open_ {w0 w : World} {S0 : Nat → Prop} {R L : List HP} {b : Nat} {s : PS} (H : St w0 S0 R w L) (k : Nat) (hA : getH L k = pairH b s) (hlt : hasH L k = true) : ∃ x : PHid, (x.ps.length = s.cs.length ∧ x.hs.length = s.lists.length ∧ x.ws.length = s.lists.length) ∧ St w0 S0 R w (putsH L [k] [blkH b #[.slice x.ac s.cs.length x.cc, .pointer (some ⟨x.pl, 0, none⟩), .pointer (some ⟨x.pr, 0, none⟩), .pointer (some ⟨x.pq, 0, none⟩), .slice x.al s.lists.length x.cl, .slice x.aw s.lists.length x.cw] 67, slH encOP 1 30 x.ac s.cs.length x.cc (x.ps.map some), ChH x.ps s.cs, lineH x.pl x.ps s.ts s.steps, refH x.pr s.cs, rlH x.pq x.pr s.ts s.steps, slH encSv 1 23 x.al s.lists.length x.cl x.hs, slH encSv 1 23 x.aw s.lists.length x.cw x.ws, ssH encI 1 3 x.hs s.lists, ssH encI 1 3 x.ws s.lists]) := H.open_ k hA hlt
theorem pairH.openR {w0 w : World} {S0 : Nat → Prop} {R L : List HP} {b : Nat} {s : PS} (H : St w0 S0 R w L) (k : Nat) (hA : getH R k = pairH b s) : ∃ x : PHid, (x.ps.length = s.cs.length ∧ x.hs.length = s.lists.length ∧ x.ws.length = s.lists.length) ∧ St w0 S0 (R ++ [blkH b #[.slice x.ac s.cs.length x.cc, .pointer (some ⟨x.pl, 0, none⟩), .pointer (some ⟨x.pr, 0, none⟩), .pointer (some ⟨x.pq, 0, none⟩), .slice x.al s.lists.length x.cl, .slice x.aw s.lists.length x.cw] 67, slH encOP 1 30 x.ac s.cs.length x.cc (x.ps.map some), ChH x.ps s.cs, lineH x.pl x.ps s.ts s.steps, refH x.pr s.cs, rlH x.pq x.pr s.ts s.steps, slH encSv 1 23 x.al s.lists.length x.cl x.hs, slH encSv 1 23 x.aw s.lists.length x.cw x.ws, ssH encI 1 3 x.hs s.lists, ssH encI 1 3 x.ws s.lists]) w L := H.openR k hA
theorem pairH.close_ {w0 w : World} {S0 : Nat → Prop} {R L : List HP} {b : Nat} {s : PS} (H : St w0 S0 R w L) (is : List Nat) (x : PHid) (hx : x.ps.length = s.cs.length ∧ x.hs.length = s.lists.length ∧ x.ws.length = s.lists.length) (hM : pickH L is = [blkH b #[.slice x.ac s.cs.length x.cc, .pointer (some ⟨x.pl, 0, none⟩), .pointer (some ⟨x.pr, 0, none⟩), .pointer (some ⟨x.pq, 0, none⟩), .slice x.al s.lists.length x.cl, .slice x.aw s.lists.length x.cw] 67, slH encOP 1 30 x.ac s.cs.length x.cc (x.ps.map some), ChH x.ps s.cs, lineH x.pl x.ps s.ts s.steps, refH x.pr s.cs, rlH x.pq x.pr s.ts s.steps, slH encSv 1 23 x.al s.lists.length x.cl x.hs, slH encSv 1 23 x.aw s.lists.length x.cw x.ws, ssH encI 1 3 x.hs s.lists, ssH encI 1 3 x.ws s.lists]) (hi : okI L is = true) : St w0 S0 R w (putsH L is [pairH b s]) := H.close_ is x hx hM hi
attribute [irreducible] pairH

structure WfS (s : PS) : Prop where
  hwf : WfC s.cs s.ts
  hst : 0 ≤ s.steps ∧ s.steps + ((totL s.cs : Nat) : Int) ≤ 1152921504606846976
  lists_ : s.lists.length ≤ 4194304
  len : s.cs.length ≤ 4194304
def opS (s : PS) (o : OpR) : PS :=
  if o.kind = 0 then ⟨s.cs, s.ts, s.steps, s.lists ++ [rdyL s.cs 0 s.ts]⟩ else
  if o.kind = 1 then ⟨takeC s.cs s.ts o.n, s.ts, s.steps + ((bn (takeI s.cs s.ts o.n).isSome : Nat) : Int), s.lists⟩ else
  if o.kind = 2 then ⟨playC s.ts s.cs o.pl, s.ts, s.steps + ((playN s.ts s.cs o.pl : Nat) : Int), s.lists⟩ else
  if o.kind = 3 then ⟨(drainS s.ts (totL s.cs + 1) s.cs o.n).1, s.ts, s.steps + (((drainS s.ts (totL s.cs + 1) s.cs o.n).2 : Nat) : Int), s.lists⟩ else
  if o.kind = 5 then ⟨s.cs, s.ts, s.steps, s.lists⟩ else
  if o.kind = 6 then (if s.cs.length = 0 then ⟨s.cs, s.ts, s.steps, s.lists⟩ else ⟨stepC s.cs (withinF o.n ((s.cs.length : Nat) : Int)).toNat, s.ts, s.steps, s.lists⟩) else ⟨s.cs, s.ts, s.steps, s.lists⟩
theorem playC_len {ts : List (Option Nat)} : ∀ (l : List Int) (cs : List Cho), (playC ts cs l).length = cs.length
  | [], _ => rfl
  | p :: r, cs => (playC_len r (takeC cs ts p)).trans (takeC_len cs ts p)
set_option maxHeartbeats 1000000 in
theorem made_tr (a : Option Addr) (n c : Nat) (l : List MakeR) (a2 : Option Addr) (n2 c2 : Nat) (tk : List Int) (hn : n ≤ 4194304) (hn2 : n2 ≤ 4398046511104) (hb : ∀ x ∈ l, x.behind.n ≤ 4398046511104) : Tr Try.prog 22 [.slice a n c, .slice a2 n2 c2] [rdH encMake 2 a n c l, shH (l.map mkB), rdH encI 1 a2 n2 c2 tk] [] (fun v m => ∃ b, v = .pointer (some ⟨b, 0, none⟩) ∧ m = [pairH b ⟨mdCs 0 l, mdTs n tk, 0, []⟩]) := by
  intro w0 S0 H0
  have hl1 := (rd_len (H0.rdR 0 Le.rfl)).1
  have hl2 := (rd_len (H0.rdR 2 Le.rfl)).1
  refine enterR Try.func22 rfl Try.ntmps22 rfl ?_
  intro g0
  refine seq_ ?_
  refine region_ ?_
  refine wl_valE (v := .pointer none) rfl (rf_assign rfl) rfl ?_
  refine wl_nil ?_
  refine thn ?_
  refine seq_ ?_
  refine region_ ?_
  refine wl_valE (v := .agg #[.slice none 0 0]) rfl (rf_build (offs := []) (places := #[(0, 1)]) Try.underlying63 ti63 (fun w => by kernel_rfl) .nil) rfl ?_
  refine wl_boxH H0 (v := .agg #[.slice none 0 0]) rfl rfl ?_
  intro pr w2 H2
  refine wl_valE (v := .agg #[.slice none 0 0, .pointer none, .pointer (some ⟨pr, 0, none⟩), .pointer none, .slice none 0 0, .slice none 0 0]) rfl (rf_build (offs := [(2, [.pointer (some ⟨pr, 0, none⟩)])]) (places := #[(0, 1), (1, 1), (2, 1), (3, 1), (4, 1), (5, 1)]) Try.underlying67 ti67 (fun w => by kernel_rfl) (.cons rfl rfl rfl rfl rfl rfl .nil)) rfl ?_
  refine wl_boxH H2 (v := .agg #[.slice none 0 0, .pointer none, .pointer (some ⟨pr, 0, none⟩), .pointer none, .slice none 0 0, .slice none 0 0]) rfl rfl ?_
  intro b5 w4 H4
  refine wl_valE (v := .pointer (some ⟨b5, 0, none⟩)) rfl (rf_assign rfl) rfl ?_
  refine wl_nil ?_
  refine thn ?_
  refine seq_ ?_
  refine seq_ ?_
  have H5 := H4.addNil encRCho 2 73 (α := RCho)
  dsimp only [putsH, setH, List.cons_append, List.nil_append] at H5
  have Hss := H5.ssNil encI 1 3
  have H6 := refH.close_ (p := pr) (cs := []) Hss [0, 2, 3] ⟨none, 0, []⟩ rfl rfl rfl
  dsimp only [putsH, setH, List.cons_append, List.nil_append] at H6
  have H7 := ChH.nil H6
  refine region_ ?_
  refine wl_valE (v := .int .i64 (0 : Int)) rfl (rf_assign rfl) rfl ?_
  refine wl_nil ?_
  refine thn ?_
  refine block_ ?_
  have H8 := H7.addNil encOP 1 30 (α := Option Nat)
  refine loop_ (fun qk_ qf_ qw_ => ∃ (g : Nat → Value) (i : Nat) (ac : Option Addr) (cc : Nat) (ps : List Nat) (cs : List Cho), qf_ = upds g [(0, .slice a n c), (1, .slice a2 n2 c2), (5, .pointer (some ⟨b5, 0, none⟩)), (6, .int .i64 ((i : Nat) : Int))] ∧ qk_ = n - i ∧ (i ≤ n ∧ ps.length = i ∧ cs.length = i) ∧ (cs ++ mdCs i (l.drop i) = mdCs 0 l ∧ OkB cs) ∧ St w0 S0 [rdH encMake 2 a n c l, shH (l.map mkB), rdH encI 1 a2 n2 c2 tk] qw_ [refH pr cs, blkH b5 #[.slice ac i cc, .pointer none, .pointer (some ⟨pr, 0, none⟩), .pointer none, .slice none 0 0, .slice none 0 0] 67, ChH ps cs, slH encOP 1 30 ac i cc (ps.map some)]) (n - 0) ?_ ?_
  · refine ⟨_, 0, none, 0, [], [], upds_self ⟨rfl, rfl, rfl, rfl, trivial⟩, rfl, ⟨Nat.zero_le _, rfl, rfl⟩, ⟨rfl, OkB.nil⟩, H8.pick' [0, 1, 4, 5] rfl rfl⟩
  · rintro lk0 _ wl0 ⟨gl0, i, ac, cc, ps, cs, rfl, hlk0, ⟨hr0, hps, hcs⟩, ⟨hr1, hok⟩, HL0⟩
    refine seq_ ?_
    refine seq_ ?_
    refine region_ ?_
    refine wl_valE (v := .int .i64 ((i : Nat) : Int)) rfl (rf_move rfl) rfl ?_
    refine wl_valE (v := .slice a n c) rfl (rf_move rfl) rfl ?_
    refine wl_valE (v := .int .i64 ((n : Nat) : Int)) rfl (rf_len_slice Try.underlying22 rfl rfl) rfl ?_
    refine wl_valE (v := .bool (decide (((i : Nat) : Int) < ((n : Nat) : Int)))) rfl (rf_lss rfl rfl rfl rfl) rfl ?_
    refine wl_nil ?_
    refine thn ?_
    refine cond_ (t := decide (((i : Nat) : Int) < ((n : Nat) : Int))) rfl rfl (fun c23 => ?_) (fun c23 => ?_)
    · have c23p := of_decide_eq_true c23
      refine skip_ ?_
      refine thn ?_
      refine seq_ ?_
      refine block_ ?_
      refine seq_ ?_
      have hn9 := rd_len (HL0.rdR 0 Le.rfl)
      obtain ⟨xb, hxb⟩ : ∃ q_, l[i]? = some q_ := ⟨_, List.getElem?_eq_getElem (by omega)⟩
      have H10 := HL0.shR 1 i rfl (getH_map mkB hxb)
      have hbl := (rd_len (H10.rdR 3 Le.rfl)).1
      have hxbb := hb xb (List.mem_of_getElem? hxb)
      refine region_ ?_
      refine wl_valE (v := .slice none 0 0) rfl (rf_assign rfl) rfl ?_
      refine wl_nil ?_
      refine thn ?_
      refine seq_ ?_
      refine region_ ?_
      refine wl_valE (v := .slice none 0 0) rfl (rf_assign rfl) rfl ?_
      refine wl_nil ?_
      refine thn ?_
      refine seq_ ?_
      refine seq_ ?_
      refine region_ ?_
      refine wl_valE (v := .int .i64 (0 : Int)) rfl (rf_assign rfl) rfl ?_
      refine wl_nil ?_
      refine thn ?_
      refine block_ ?_
      have H11 := H10.addNil encOP 1 30 (α := Option Nat)
      have H12 := H11.addNil encI 1 3 (α := Int)
      refine loop_ (fun qk_ qf_ qw_ => ∃ (g : Nat → Value) (k : Nat) (a7 : Option Addr) (c7 : Nat) (a8 : Option Addr) (c8 : Nat) (bs : List (Option Nat)), qf_ = upds g [(0, .slice a n c), (1, .slice a2 n2 c2), (5, .pointer (some ⟨b5, 0, none⟩)), (6, .int .i64 ((i : Nat) : Int)), (7, .slice a7 k c7), (8, .slice a8 k c8), (9, .int .i64 ((k : Nat) : Int))] ∧ qk_ = xb.behind.n - k ∧ (k ≤ xb.behind.n) ∧ (bs ++ (xb.bl.drop k).map (mdB i) = xb.bl.map (mdB i)) ∧ St w0 S0 [rdH encMake 2 a n c l, shH (l.map mkB), rdH encI 1 a2 n2 c2 tk, rdH encI 1 xb.behind.a xb.behind.n xb.behind.c xb.bl] qw_ [refH pr cs, blkH b5 #[.slice ac i cc, .pointer none, .pointer (some ⟨pr, 0, none⟩), .pointer none, .slice none 0 0, .slice none 0 0] 67, ChH ps cs, slH encOP 1 30 ac i cc (ps.map some), slH encOP 1 30 a7 k c7 (bs.map (ppf ps)), slH encI 1 3 a8 k c8 (bs.map bi)]) (xb.behind.n - 0) ?_ ?_
      · refine ⟨_, 0, none, 0, none, 0, [], upds_self ⟨rfl, rfl, rfl, rfl, rfl, rfl, rfl, trivial⟩, rfl, Nat.zero_le _, rfl, H12.pick' [0, 1, 2, 3, 4, 5] rfl rfl⟩
      · rintro lk1 _ wl1 ⟨gl1, k, a7, c7, a8, c8, bs, rfl, hlk1, hr3, hr4, HL1⟩
        refine seq_ ?_
        refine seq_ ?_
        refine region_ ?_
        refine wl_valE (v := .int .i64 ((k : Nat) : Int)) rfl (rf_move rfl) rfl ?_
        refine wl_valE (v := .slice a n c) rfl (rf_move rfl) rfl ?_
        refine wl_valE (v := .int .i64 ((i : Nat) : Int)) rfl (rf_move rfl) rfl ?_
        refine wl_valE (v := .pointer (some ⟨ab a, ao a + i * 2, none⟩)) rfl (rf_indexAddrH Try.underlying22 ti35 rfl rfl rfl rfl (by omega) (by omega) (HL1.rdR 0 Le.rfl)) rfl ?_
        refine wl_valE (v := .pointer (some ⟨ab a, ao a + i * 2 + 1, none⟩)) rfl (rf_fieldAddr Try.underlying35 rfl ti23 rfl rfl) rfl ?_
        refine wl_valE (v := .slice xb.behind.a xb.behind.n xb.behind.c) rfl (rf_load Try.underlying23 rfl rfl rfl (rd_el (HL1.rdR 0 Le.rfl) hxb 1 _ rfl)) rfl ?_
        refine wl_valE (v := .int .i64 ((xb.behind.n : Nat) : Int)) rfl (rf_len_slice Try.underlying23 rfl rfl) rfl ?_
        refine wl_valE (v := .bool (decide (((k : Nat) : Int) < ((xb.behind.n : Nat) : Int)))) rfl (rf_lss rfl rfl rfl rfl) rfl ?_
        refine wl_nil ?_
        refine thn ?_
        refine cond_ (t := decide (((k : Nat) : Int) < ((xb.behind.n : Nat) : Int))) rfl rfl (fun c33 => ?_) (fun c33 => ?_)
        · have c33p := of_decide_eq_true c33
          refine skip_ ?_
          refine thn ?_
          refine seq_ ?_
          refine block_ ?_
          refine seq_ ?_
          refine region_ ?_
          refine wl_valE (v := .slice a n c) rfl (rf_move rfl) rfl ?_
          refine wl_valE (v := .int .i64 ((i : Nat) : Int)) rfl (rf_move rfl) rfl ?_
          refine wl_valE (v := .pointer (some ⟨ab a, ao a + i * 2, none⟩)) rfl (rf_indexAddrH Try.underlying22 ti35 rfl rfl rfl rfl (by omega) (by omega) (HL1.rdR 0 Le.rfl)) rfl ?_
          refine wl_valE (v := .pointer (some ⟨ab a, ao a + i * 2 + 1, none⟩)) rfl (rf_fieldAddr Try.underlying35 rfl ti23 rfl rfl) rfl ?_
          refine wl_valE (v := .slice xb.behind.a xb.behind.n xb.behind.c) rfl (rf_load Try.underlying23 rfl rfl rfl (rd_el (HL1.rdR 0 Le.rfl) hxb 1 _ rfl)) rfl ?_
          refine wl_valE (v := .int .i64 ((k : Nat) : Int)) rfl (rf_move rfl) rfl ?_
          refine wl_valE (v := .pointer (some ⟨ab xb.behind.a, ao xb.behind.a + k * 1, none⟩)) rfl (rf_indexAddrH Try.underlying23 ti3 rfl rfl rfl rfl (by omega) (by omega) (HL1.rdR 3 Le.rfl)) rfl ?_
          have hn14 := rd_len (HL1.rdR 3 Le.rfl)
          obtain ⟨x13, hx13⟩ : ∃ q_, xb.bl[k]? = some q_ := ⟨_, List.getElem?_eq_getElem (by omega)⟩
          refine wl_valE (v := .int .i64 x13) rfl (rf_load Try.underlying3 rfl rfl rfl (rd_el (HL1.rdR 3 Le.rfl) hx13 0 _ rfl)) rfl ?_
          refine wl_valE (v := .int .i64 x13) rfl (rf_assign rfl) rfl ?_
          refine wl_nil ?_
          refine thn ?_
          refine seq_ ?_
          refine region_ ?_
          refine wl_valE (v := .int .i64 x13) rfl (rf_move rfl) rfl ?_
          refine wl_valE (v := .bool (decide (x13 < (0 : Int)))) rfl (rf_lss rfl rfl rfl rfl) rfl ?_
          refine wl_valE (v := .bool (decide (x13 < (0 : Int)))) rfl (rf_move rfl) rfl ?_
          refine wl_split (decide (x13 < (0 : Int))) (fun u11_2 => ?_) (fun u11_2 => ?_)
          · have u11_2p := of_decide_eq_true u11_2
            have hmd := mdB_none (i := i) (b := x13) (.inl u11_2p)
            refine wl_guardF rfl rfl rfl u11_2 ?_
            refine wl_guardF rfl rfl rfl u11_2 ?_
            refine wl_valE (v := .bool true) rfl (rf_pickT rfl rfl rfl u11_2) rfl ?_
            refine wl_nil ?_
            refine thn ?_
            refine condT rfl rfl ?_
            refine seq_ ?_
            refine region_ ?_
            refine wl_valE (v := .slice a7 k c7) rfl (rf_move rfl) rfl ?_
            refine wl_buildSliceH (enc := encOP) HL1 [none] encOP_len Try.underlying26 ti30 rfl rfl rfl (.cons rfl rfl rfl rfl rfl rfl .nil) ?_
            intro a15 w16 H16
            refine wl_appendH (enc := encOP) (N := k + 1) H16 4 rfl rfl encOP_len encOP_one Try.underlying26 ti30 rfl rfl rfl rfl rfl (H16.rdO 6 slH_rd) rfl (by omega) (by omega) ?_
            intro a17 c17 w17 hc17 hd17 H17
            have hrw18 : (bs.map (ppf ps)) ++ ([none]) = (bs ++ [mdB i x13]).map (ppf ps) := by rw [hmd]; simp [ppf]
            rw [hrw18] at H17
            refine wl_valE (v := .slice a17 (k + 1) c17) rfl (rf_assign rfl) rfl ?_
            refine wl_nil ?_
            refine thn ?_
            refine region_ ?_
            refine wl_valE (v := .slice a8 k c8) rfl (rf_move rfl) rfl ?_
            refine wl_buildSliceH (enc := encI) H17 [(-1 : Int)] encI_len Try.underlying23 ti3 rfl rfl rfl (.cons rfl rfl rfl rfl rfl rfl .nil) ?_
            intro a19 w20 H20
            refine wl_appendH (enc := encI) (N := k + 1) H20 5 rfl rfl encI_len encI_one Try.underlying23 ti3 rfl rfl rfl rfl rfl (H20.rdO 7 slH_rd) rfl (by omega) (by omega) ?_
            intro a21 c21 w21 hc21 hd21 H21
            dsimp only [putsH, setH, List.cons_append, List.nil_append] at H21
            have hrw22 : (bs.map bi) ++ ([(-1 : Int)]) = (bs ++ [mdB i x13]).map bi := by rw [hmd]; simp [bi]
            rw [hrw22] at H21
            refine wl_valE (v := .slice a21 (k + 1) c21) rfl (rf_assign rfl) rfl ?_
            refine wl_nil ?_
            refine bln ?_
            refine thn ?_
            refine region_ ?_
            refine wl_valE (v := .int .i64 ((k : Nat) : Int)) rfl (rf_move rfl) rfl ?_
            refine wl_valE (v := .int .i64 ((k + 1 : Nat) : Int)) rfl (rf_add rfl rfl rfl rfl (IntWalk.i64_in _ (by omega))) rfl ?_
            refine wl_valE (v := .int .i64 ((k + 1 : Nat) : Int)) rfl (rf_assign rfl) rfl ?_
            refine wl_nil ?_
            refine thn ?_
            refine ⟨xb.behind.n - (k + 1), _, rfl, (by omega), _, k + 1, a17, c17, a21, c21, (bs ++ [mdB i x13]), upds_self ⟨rfl, rfl, rfl, rfl, rfl, rfl, rfl, trivial⟩, rfl, by omega, by rw [← hr4, drop_at hx13]; simp, H21.pick' [0, 1, 2, 3, 4, 5] rfl rfl⟩
          · have u11_2p := of_decide_eq_false u11_2
            refine wl_guardT rfl rfl rfl u11_2 ?_
            refine wl_valE (v := .int .i64 ((i : Nat) : Int)) rfl (rf_move rfl) rfl ?_
            refine wl_guardT rfl rfl rfl u11_2 ?_
            refine wl_valE (v := .bool (decide (((i : Nat) : Int) = (0 : Int)))) rfl (rf_eql rfl rfl rfl rfl) rfl ?_
            refine wl_valE (v := .bool (decide (((i : Nat) : Int) = (0 : Int)))) rfl (rf_pickF rfl rfl rfl u11_2) rfl ?_
            refine wl_nil ?_
            refine thn ?_
            refine cond_ (t := decide (((i : Nat) : Int) = (0 : Int))) rfl rfl (fun c49 => ?_) (fun c49 => ?_)
            · have c49p := of_decide_eq_true c49
              have hmd := mdB_none (i := i) (b := x13) (by omega)
              refine seq_ ?_
              refine region_ ?_
              refine wl_valE (v := .slice a7 k c7) rfl (rf_move rfl) rfl ?_
              refine wl_buildSliceH (enc := encOP) HL1 [none] encOP_len Try.underlying26 ti30 rfl rfl rfl (.cons rfl rfl rfl rfl rfl rfl .nil) ?_
              intro a23 w24 H24
              refine wl_appendH (enc := encOP) (N := k + 1) H24 4 rfl rfl encOP_len encOP_one Try.underlying26 ti30 rfl rfl rfl rfl rfl (H24.rdO 6 slH_rd) rfl (by omega) (by omega) ?_
              intro a25 c25 w25 hc25 hd25 H25
              have hrw26 : (bs.map (ppf ps)) ++ ([none]) = (bs ++ [mdB i x13]).map (ppf ps) := by rw [hmd]; simp [ppf]
              rw [hrw26] at H25
              refine wl_valE (v := .slice a25 (k + 1) c25) rfl (rf_assign rfl) rfl ?_
              refine wl_nil ?_
              refine thn ?_
              refine region_ ?_
              refine wl_valE (v := .slice a8 k c8) rfl (rf_move rfl) rfl ?_
              refine wl_buildSliceH (enc := encI) H25 [(-1 : Int)] encI_len Try.underlying23 ti3 rfl rfl rfl (.cons rfl rfl rfl rfl rfl rfl .nil) ?_
              intro a27 w28 H28
              refine wl_appendH (enc := encI) (N := k + 1) H28 5 rfl rfl encI_len encI_one Try.underlying23 ti3 rfl rfl rfl rfl rfl (H28.rdO 7 slH_rd) rfl (by omega) (by omega) ?_
              intro a29 c29 w29 hc29 hd29 H29
              dsimp only [putsH, setH, List.cons_append, List.nil_append] at H29
              have hrw30 : (bs.map bi) ++ ([(-1 : Int)]) = (bs ++ [mdB i x13]).map bi := by rw [hmd]; simp [bi]
              rw [hrw30] at H29
              refine wl_valE (v := .slice a29 (k + 1) c29) rfl (rf_assign rfl) rfl ?_
              refine wl_nil ?_
              refine bln ?_
              refine thn ?_
              refine region_ ?_
              refine wl_valE (v := .int .i64 ((k : Nat) : Int)) rfl (rf_move rfl) rfl ?_
              refine wl_valE (v := .int .i64 ((k + 1 : Nat) : Int)) rfl (rf_add rfl rfl rfl rfl (IntWalk.i64_in _ (by omega))) rfl ?_
              refine wl_valE (v := .int .i64 ((k + 1 : Nat) : Int)) rfl (rf_assign rfl) rfl ?_
              refine wl_nil ?_
              refine thn ?_
              refine ⟨xb.behind.n - (k + 1), _, rfl, (by omega), _, k + 1, a25, c25, a29, c29, (bs ++ [mdB i x13]), upds_self ⟨rfl, rfl, rfl, rfl, rfl, rfl, rfl, trivial⟩, rfl, by omega, by rw [← hr4, drop_at hx13]; simp, H29.pick' [0, 1, 2, 3, 4, 5] rfl rfl⟩
            · have c49p := of_decide_eq_false c49
              obtain ⟨hmd, hm1, hm2⟩ := mdB_some u11_2p c49p
              refine seq_ ?_
              refine region_h (S := (fun wq => St w0 S0 [rdH encMake 2 a n c l, shH (l.map mkB), rdH encI 1 a2 n2 c2 tk, rdH encI 1 xb.behind.a xb.behind.n xb.behind.c xb.bl] wq [blkH b5 #[.slice ac i cc, .pointer none, .pointer (some ⟨pr, 0, none⟩), .pointer none, .slice none 0 0, .slice none 0 0] 67, slH encOP 1 30 ac i cc (ps.map some)])) mixedP ?_
              intro w31 hk31
              have H31 := HL1.keep hk31
              have hS31 : St w0 S0 [rdH encMake 2 a n c l, shH (l.map mkB), rdH encI 1 a2 n2 c2 tk, rdH encI 1 xb.behind.a xb.behind.n xb.behind.c xb.bl] w31 [blkH b5 #[.slice ac i cc, .pointer none, .pointer (some ⟨pr, 0, none⟩), .pointer none, .slice none 0 0, .slice none 0 0] 67, slH encOP 1 30 ac i cc (ps.map some)] := H31.pick' [1, 3] rfl rfl
              refine wh_take (i := 0) (v := .slice a7 k c7) rfl (by kernel_rfl) (by kernel_rfl) (by kernel_rfl) hS31 rfl (fun wq hq => rf_move rfl) rfl ?_
              refine wh_take (i := 1) (v := .pointer (some ⟨b5, 0, none⟩)) rfl (by kernel_rfl) (by kernel_rfl) (by kernel_rfl) hS31 rfl (fun wq hq => rf_move rfl) rfl ?_
              refine wh_take (i := 2) (v := .pointer (some ⟨b5, 0, none⟩)) rfl (by kernel_rfl) (by kernel_rfl) (by kernel_rfl) hS31 rfl (fun wq hq => rf_nilCheckP rfl rfl) rfl ?_
              refine wh_take (i := 3) (v := .pointer (some ⟨b5, 0, none⟩)) rfl (by kernel_rfl) (by kernel_rfl) (by kernel_rfl) hS31 rfl (fun wq hq => rf_fieldAddr Try.underlying67 rfl ti26 rfl rfl) rfl ?_
              refine wh_take (i := 4) (v := .slice ac i cc) rfl (by kernel_rfl) (by kernel_rfl) (by kernel_rfl) hS31 rfl (fun wq hq => rf_load Try.underlying26 rfl rfl rfl ((hq.blk 0 rfl).cell rfl)) rfl ?_
              refine wh_take (i := 5) (v := .int .i64 x13) rfl (by kernel_rfl) (by kernel_rfl) (by kernel_rfl) hS31 rfl (fun wq hq => rf_move rfl) rfl ?_
              refine wh_take (i := 6) (v := .int .i64 ((i : Nat) : Int)) rfl (by kernel_rfl) (by kernel_rfl) (by kernel_rfl) hS31 rfl (fun wq hq => rf_move rfl) rfl ?_
              refine wh_take (i := 7) (v := .int .i64 ((x13).tmod ((i : Nat) : Int))) rfl (by kernel_rfl) (by kernel_rfl) (by kernel_rfl) hS31 rfl (fun wq hq => rf_rem rfl rfl rfl rfl (by omega) rfl) rfl ?_
              refine wh_take (i := 8) (v := .pointer (some ⟨ab ac, ao ac + (((x13).tmod ((i : Nat) : Int)).toNat) * 1, none⟩)) rfl (by kernel_rfl) (by kernel_rfl) (by kernel_rfl) hS31 rfl (fun wq hq => rf_indexAddrH Try.underlying26 ti30 rfl rfl rfl rfl (by omega) (by omega) (hq.rdO 1 slH_rd)) rfl ?_
              have hn33 := slH_len H31 3 rfl
              obtain ⟨x32, hx32⟩ : ∃ q_, (ps.map some)[((x13).tmod ((i : Nat) : Int)).toNat]? = some q_ := ⟨_, List.getElem?_eq_getElem (by omega)⟩
              refine wh_take (i := 9) (v := .pointer (x32.map fun b => ⟨b, 0, none⟩)) rfl (by kernel_rfl) (by kernel_rfl) (by kernel_rfl) hS31 rfl (fun wq hq => rf_load Try.underlying30 rfl rfl rfl (rd_el (hq.rdO 1 slH_rd) hx32 0 _ rfl)) rfl ?_
              obtain ⟨hpy, hip⟩ := map_some_at hx32
              subst hpy
              refine wh_one (i := 10) (by kernel_rfl) rfl ?_
              refine wl_buildSliceH (enc := encOP) H31 [(some (pof ps ((x13).tmod ((i : Nat) : Int)).toNat))] encOP_len Try.underlying26 ti30 rfl rfl rfl (.cons rfl rfl rfl rfl rfl rfl .nil) ?_
              intro a34 w35 H35
              refine wl_nil ?_
              have hS36 : St w0 S0 [rdH encMake 2 a n c l, shH (l.map mkB), rdH encI 1 a2 n2 c2 tk, rdH encI 1 xb.behind.a xb.behind.n xb.behind.c xb.bl] w35 [blkH b5 #[.slice ac i cc, .pointer none, .pointer (some ⟨pr, 0, none⟩), .pointer none, .slice none 0 0, .slice none 0 0] 67, slH encOP 1 30 ac i cc (ps.map some)] := H35.pick' [1, 3] rfl rfl
              refine wh_back hS36 ?_
              refine wh_one (i := 11) (by kernel_rfl) rfl ?_
              refine wl_appendH (enc := encOP) (N := k + 1) H35 4 rfl rfl encOP_len encOP_one Try.underlying26 ti30 rfl rfl rfl rfl rfl (H35.rdO 6 slH_rd) rfl (by omega) (by omega) ?_
              intro a37 c37 w37 hc37 hd37 H37
              have hrw38 : (bs.map (ppf ps)) ++ ([(some (pof ps ((x13).tmod ((i : Nat) : Int)).toNat))]) = (bs ++ [mdB i x13]).map (ppf ps) := by rw [hmd]; simp [ppf]
              rw [hrw38] at H37
              refine wl_nil ?_
              have hS39 : St w0 S0 [rdH encMake 2 a n c l, shH (l.map mkB), rdH encI 1 a2 n2 c2 tk, rdH encI 1 xb.behind.a xb.behind.n xb.behind.c xb.bl] w37 [blkH b5 #[.slice ac i cc, .pointer none, .pointer (some ⟨pr, 0, none⟩), .pointer none, .slice none 0 0, .slice none 0 0] 67, slH encOP 1 30 ac i cc (ps.map some)] := H37.pick' [1, 3] rfl rfl
              refine wh_back hS39 ?_
              refine wh_take (i := 12) (v := .slice a37 (k + 1) c37) rfl (by kernel_rfl) (by kernel_rfl) (by kernel_rfl) hS39 rfl (fun wq hq => rf_assign rfl) rfl ?_
              refine wh_done (by kernel_rfl) ?_
              refine thn ?_
              refine region_ ?_
              refine wl_valE (v := .slice a8 k c8) rfl (rf_move rfl) rfl ?_
              refine wl_valE (v := .int .i64 x13) rfl (rf_move rfl) rfl ?_
              refine wl_valE (v := .int .i64 ((i : Nat) : Int)) rfl (rf_move rfl) rfl ?_
              refine wl_valE (v := .int .i64 ((x13).tmod ((i : Nat) : Int))) rfl (rf_rem rfl rfl rfl rfl (by omega) rfl) rfl ?_
              refine wl_buildSliceH (enc := encI) H37 [(x13).tmod ((i : Nat) : Int)] encI_len Try.underlying23 ti3 rfl rfl rfl (.cons rfl rfl rfl rfl rfl rfl .nil) ?_
              intro a40 w41 H41
              refine wl_appendH (enc := encI) (N := k + 1) H41 5 rfl rfl encI_len encI_one Try.underlying23 ti3 rfl rfl rfl rfl rfl (H41.rdO 7 slH_rd) rfl (by omega) (by omega) ?_
              intro a42 c42 w42 hc42 hd42 H42
              dsimp only [putsH, setH, List.cons_append, List.nil_append] at H42
              have hrw43 : (bs.map bi) ++ ([(x13).tmod ((i : Nat) : Int)]) = (bs ++ [mdB i x13]).map bi := by rw [hmd]; simp [bi]; omega
              rw [hrw43] at H42
              refine wl_valE (v := .slice a42 (k + 1) c42) rfl (rf_assign rfl) rfl ?_
              refine wl_nil ?_
              refine bln ?_
              refine thn ?_
              refine region_ ?_
              refine wl_valE (v := .int .i64 ((k : Nat) : Int)) rfl (rf_move rfl) rfl ?_
              refine wl_valE (v := .int .i64 ((k + 1 : Nat) : Int)) rfl (rf_add rfl rfl rfl rfl (IntWalk.i64_in _ (by omega))) rfl ?_
              refine wl_valE (v := .int .i64 ((k + 1 : Nat) : Int)) rfl (rf_assign rfl) rfl ?_
              refine wl_nil ?_
              refine thn ?_
              refine ⟨xb.behind.n - (k + 1), _, rfl, (by omega), _, k + 1, a37, c37, a42, c42, (bs ++ [mdB i x13]), upds_self ⟨rfl, rfl, rfl, rfl, rfl, rfl, rfl, trivial⟩, rfl, by omega, by rw [← hr4, drop_at hx13]; simp, H42.pick' [0, 1, 2, 3, 4, 5] rfl rfl⟩
        · have c33p := of_decide_eq_false c33
          refine exit_ ?_
          refine thx (thx (blx ?_))
          refine thn ?_
          refine seq_ ?_
          have hbs : bs = xb.bl.map (mdB i) := by rw [← hr4, drop_all (by omega)]; simp
          subst hbs
          refine region_v 16 (fun wq => St w0 S0 [rdH encMake 2 a n c l, shH (l.map mkB), rdH encI 1 a2 n2 c2 tk, rdH encI 1 xb.behind.a xb.behind.n xb.behind.c xb.bl] wq [blkH b5 #[.slice ac i cc, .pointer none, .pointer (some ⟨pr, 0, none⟩), .pointer none, .slice none 0 0, .slice none 0 0] 67]) mixedP (by kernel_rfl) ?_
          intro w44 hk44
          have H44 := HL1.keep hk44
          have hS44 : St w0 S0 [rdH encMake 2 a n c l, shH (l.map mkB), rdH encI 1 a2 n2 c2 tk, rdH encI 1 xb.behind.a xb.behind.n xb.behind.c xb.bl] w44 [blkH b5 #[.slice ac i cc, .pointer none, .pointer (some ⟨pr, 0, none⟩), .pointer none, .slice none 0 0, .slice none 0 0] 67] := H44.pick' [1] rfl rfl
          refine vh_take (i := 0) (v := .pointer (some ⟨b5, 0, none⟩)) rfl rfl (by kernel_rfl) (by kernel_rfl) (by kernel_rfl) hS44 rfl (fun wq hq => rf_move rfl) rfl ?_
          refine vh_take (i := 1) (v := .pointer (some ⟨b5, 0, none⟩)) rfl rfl (by kernel_rfl) (by kernel_rfl) (by kernel_rfl) hS44 rfl (fun wq hq => rf_move rfl) rfl ?_
          refine vh_take (i := 2) (v := .pointer (some ⟨b5, 0, none⟩)) rfl rfl (by kernel_rfl) (by kernel_rfl) (by kernel_rfl) hS44 rfl (fun wq hq => rf_nilCheckP rfl rfl) rfl ?_
          refine vh_take (i := 3) (v := .pointer (some ⟨b5, 0, none⟩)) rfl rfl (by kernel_rfl) (by kernel_rfl) (by kernel_rfl) hS44 rfl (fun wq hq => rf_fieldAddr Try.underlying67 rfl ti26 rfl rfl) rfl ?_
          refine vh_take (i := 4) (v := .slice ac i cc) rfl rfl (by kernel_rfl) (by kernel_rfl) (by kernel_rfl) hS44 rfl (fun wq hq => rf_load Try.underlying26 rfl rfl rfl ((hq.blk 0 rfl).cell rfl)) rfl ?_
          refine vh_take (i := 5) (v := .slice a n c) rfl rfl (by kernel_rfl) (by kernel_rfl) (by kernel_rfl) hS44 rfl (fun wq hq => rf_move rfl) rfl ?_
          refine vh_take (i := 6) (v := .int .i64 ((i : Nat) : Int)) rfl rfl (by kernel_rfl) (by kernel_rfl) (by kernel_rfl) hS44 rfl (fun wq hq => rf_move rfl) rfl ?_
          refine vh_take (i := 7) (v := .pointer (some ⟨ab a, ao a + i * 2, none⟩)) rfl rfl (by kernel_rfl) (by kernel_rfl) (by kernel_rfl) hS44 rfl (fun wq hq => rf_indexAddrH Try.underlying22 ti35 rfl rfl rfl rfl (by omega) (by omega) (hq.rdR 0 Le.rfl)) rfl ?_
          refine vh_take (i := 8) (v := .pointer (some ⟨ab a, ao a + i * 2, none⟩)) rfl rfl (by kernel_rfl) (by kernel_rfl) (by kernel_rfl) hS44 rfl (fun wq hq => rf_fieldAddr Try.underlying35 rfl ti3 rfl rfl) rfl ?_
          refine vh_take (i := 9) (v := .int .i64 xb.steps) rfl rfl (by kernel_rfl) (by kernel_rfl) (by kernel_rfl) hS44 rfl (fun wq hq => rf_load Try.underlying3 rfl rfl rfl (rd_el (hq.rdR 0 Le.rfl) hxb 0 _ rfl)) rfl ?_
          refine vh_take (i := 10) (v := .slice a7 k c7) rfl rfl (by kernel_rfl) (by kernel_rfl) (by kernel_rfl) hS44 rfl (fun wq hq => rf_move rfl) rfl ?_
          refine vh_one (i := 11) (by kernel_rfl) rfl rfl ?_
          refine wl_tr H44 rfl [] (newChore_tr xb.steps a7 k c7 ((xb.bl.map (mdB i)).map (ppf ps)) (by omega)) rfl (.own 4 rfl slH_rd .nil) (rf_call Try.call28 rfl rfl) rfl ?_
          rintro _ w45 _ ⟨p85, ac45, cc45, rfl, rfl⟩ H45
          refine wl_nil ?_
          have hS46 : St w0 S0 [rdH encMake 2 a n c l, shH (l.map mkB), rdH encI 1 a2 n2 c2 tk, rdH encI 1 xb.behind.a xb.behind.n xb.behind.c xb.bl] w45 [blkH b5 #[.slice ac i cc, .pointer none, .pointer (some ⟨pr, 0, none⟩), .pointer none, .slice none 0 0, .slice none 0 0] 67] := H45.pick' [1] rfl rfl
          refine vh_back hS46 ?_
          refine vh_one (i := 12) (by kernel_rfl) rfl rfl ?_
          refine wl_buildSliceH (enc := encOP) H45 [(some p85)] encOP_len Try.underlying26 ti30 rfl rfl rfl (.cons rfl rfl rfl rfl rfl rfl .nil) ?_
          intro a47 w48 H48
          refine wl_nil ?_
          have hS49 : St w0 S0 [rdH encMake 2 a n c l, shH (l.map mkB), rdH encI 1 a2 n2 c2 tk, rdH encI 1 xb.behind.a xb.behind.n xb.behind.c xb.bl] w48 [blkH b5 #[.slice ac i cc, .pointer none, .pointer (some ⟨pr, 0, none⟩), .pointer none, .slice none 0 0, .slice none 0 0] 67] := H48.pick' [1] rfl rfl
          refine vh_back hS49 ?_
          refine vh_one (i := 13) (by kernel_rfl) rfl rfl ?_
          refine wl_appendH (enc := encOP) (N := i + 1) H48 3 rfl rfl encOP_len encOP_one Try.underlying26 ti30 rfl rfl rfl rfl rfl (H48.rdO 8 slH_rd) rfl (by omega) (by omega) ?_
          intro a50 c50 w50 hc50 hd50 H50
          have hrw51 : (ps.map some) ++ ([(some p85)]) = (ps ++ [p85]).map some := by simp
          rw [hrw51] at H50
          refine wl_nil ?_
          have hS52 : St w0 S0 [rdH encMake 2 a n c l, shH (l.map mkB), rdH encI 1 a2 n2 c2 tk, rdH encI 1 xb.behind.a xb.behind.n xb.behind.c xb.bl] w50 [blkH b5 #[.slice ac i cc, .pointer none, .pointer (some ⟨pr, 0, none⟩), .pointer none, .slice none 0 0, .slice none 0 0] 67] := H50.pick' [1] rfl rfl
          refine vh_back hS52 ?_
          refine vh_take (i := 14) (v := .pointer (some ⟨b5, 0, none⟩)) rfl rfl (by kernel_rfl) (by kernel_rfl) (by kernel_rfl) hS52 rfl (fun wq hq => rf_nilCheckP rfl rfl) rfl ?_
          refine vh_take (i := 15) (v := .pointer (some ⟨b5, 0, none⟩)) rfl rfl (by kernel_rfl) (by kernel_rfl) (by kernel_rfl) hS52 rfl (fun wq hq => rf_fieldAddr Try.underlying67 rfl ti26 rfl rfl) rfl ?_
          refine vh_last (by kernel_rfl) (by kernel_rfl) rfl ?_
          refine wl_storeH H50 1 (v := .slice a50 (i + 1) c50) (A' := #[.slice a50 (i + 1) c50, .pointer none, .pointer (some ⟨pr, 0, none⟩), .pointer none, .slice none 0 0, .slice none 0 0]) rfl rfl ti26 rfl rfl rfl rfl rfl (ltb rfl) rfl ?_
          intro w53 H53
          dsimp only [putsH, setH, List.cons_append, List.nil_append] at H53
          have H54 := ChH.push (bh := (xb.bl.map (mdB i))) H53 2 7 6 rfl rfl rfl rfl rfl rfl rfl (by omega) hok (fun j hj => by obtain ⟨b, _, hbj⟩ := List.mem_map.1 hj; rw [hcs]; exact mdB_lt hbj)
          refine wl_nil ?_
          refine vh_end ?_
          refine thn ?_
          refine seq_ ?_
          refine seq_ ?_
          refine region_ ?_
          refine wl_valE (v := .int .i64 (0 : Int)) rfl (rf_assign rfl) rfl ?_
          refine wl_nil ?_
          refine thn ?_
          refine block_ ?_
          refine loop_ (fun qk_ qf_ qw_ => ∃ (g : Nat → Value) (j : Nat) (ml : List (Option Nat)), qf_ = upds g [(0, .slice a n c), (1, .slice a2 n2 c2), (5, .pointer (some ⟨b5, 0, none⟩)), (6, .int .i64 ((i : Nat) : Int)), (7, .slice a7 k c7), (8, .slice a8 k c8), (11, .int .i64 ((j : Nat) : Int))] ∧ qk_ = k - j ∧ (j ≤ k) ∧ St w0 S0 [rdH encMake 2 a n c l, shH (l.map mkB), rdH encI 1 a2 n2 c2 tk, rdH encI 1 xb.behind.a xb.behind.n xb.behind.c xb.bl] qw_ [refH pr cs, blkH b5 #[.slice a50 (i + 1) c50, .pointer none, .pointer (some ⟨pr, 0, none⟩), .pointer none, .slice none 0 0, .slice none 0 0] 67, ChH (ps ++ [p85]) (cs ++ [⟨clip xb.steps, (xb.bl.map (mdB i))⟩]), slH encOP 1 30 a50 (i + 1) c50 ((ps ++ [p85]).map some), slH encOP 1 30 a7 k c7 ml, slH encI 1 3 a8 k c8 ((xb.bl.map (mdB i)).map bi), slH encOP 1 30 a47 1 1 ([(some p85)])]) (k - 0) ?_ ?_
          · refine ⟨_, 0, ((xb.bl.map (mdB i)).map (ppf ps)), upds_self ⟨rfl, rfl, rfl, rfl, rfl, rfl, rfl, trivial⟩, rfl, Nat.zero_le _, H54.pick' [0, 1, 2, 3, 4, 5, 8] rfl rfl⟩
          · rintro lk2 _ wl2 ⟨gl2, j, ml, rfl, hlk2, hr5, HL2⟩
            refine seq_ ?_
            refine seq_ ?_
            refine region_ ?_
            refine wl_valE (v := .int .i64 ((j : Nat) : Int)) rfl (rf_move rfl) rfl ?_
            refine wl_valE (v := .slice a7 k c7) rfl (rf_move rfl) rfl ?_
            refine wl_valE (v := .int .i64 ((k : Nat) : Int)) rfl (rf_len_slice Try.underlying26 rfl rfl) rfl ?_
            refine wl_valE (v := .bool (decide (((j : Nat) : Int) < ((k : Nat) : Int)))) rfl (rf_lss rfl rfl rfl rfl) rfl ?_
            refine wl_nil ?_
            refine thn ?_
            refine cond_ (t := decide (((j : Nat) : Int) < ((k : Nat) : Int))) rfl rfl (fun c93 => ?_) (fun c93 => ?_)
            · have c93p := of_decide_eq_true c93
              refine skip_ ?_
              refine thn ?_
              refine seq_ ?_
              refine block_ ?_
              refine region_ ?_
              refine wl_valE (v := .slice a7 k c7) rfl (rf_move rfl) rfl ?_
              refine wl_valE (v := .int .i64 ((j : Nat) : Int)) rfl (rf_move rfl) rfl ?_
              refine wl_valE (v := .pointer (some ⟨ab a7, ao a7 + j * 1, none⟩)) rfl (rf_indexAddrH Try.underlying26 ti30 rfl rfl rfl rfl (by omega) (by omega) (HL2.rdO 4 slH_rd)) rfl ?_
              have hn56 := slH_len HL2 4 rfl
              obtain ⟨x55, hx55⟩ : ∃ q_, ml[j]? = some q_ := ⟨_, List.getElem?_eq_getElem (by omega)⟩
              refine wl_storeElH HL2 4 (enc := encOP) (i := j) (j := 0) (q := none) (u := .pointer none) (cs := [.pointer none]) rfl rfl encOP_len ti30 rfl rfl rfl rfl rfl rfl oneAll hx55 (leb rfl) rfl ?_
              intro w57 H57
              have hx57 : (ml.set j none)[j]? = some none := List.getElem?_set_self (List.getElem?_eq_some_iff.1 hx55).1
              have hn57 := slH_len H57 4 rfl
              refine wl_nil ?_
              refine bln ?_
              refine thn ?_
              refine region_ ?_
              refine wl_valE (v := .int .i64 ((j : Nat) : Int)) rfl (rf_move rfl) rfl ?_
              refine wl_valE (v := .int .i64 ((j + 1 : Nat) : Int)) rfl (rf_add rfl rfl rfl rfl (IntWalk.i64_in _ (by omega))) rfl ?_
              refine wl_valE (v := .int .i64 ((j + 1 : Nat) : Int)) rfl (rf_assign rfl) rfl ?_
              refine wl_nil ?_
              refine thn ?_
              refine ⟨k - (j + 1), _, rfl, (by omega), _, j + 1, ml.set j none, upds_self ⟨rfl, rfl, rfl, rfl, rfl, rfl, rfl, trivial⟩, rfl, by omega, H57.pick' [0, 1, 2, 3, 4, 5, 6] rfl rfl⟩
            · have c93p := of_decide_eq_false c93
              refine exit_ ?_
              refine thx (thx (blx ?_))
              refine thn ?_
              refine region_h (S := (fun wq => St w0 S0 [rdH encMake 2 a n c l, shH (l.map mkB), rdH encI 1 a2 n2 c2 tk, rdH encI 1 xb.behind.a xb.behind.n xb.behind.c xb.bl] wq [blkH b5 #[.slice a50 (i + 1) c50, .pointer none, .pointer (some ⟨pr, 0, none⟩), .pointer none, .slice none 0 0, .slice none 0 0] 67])) mixedP ?_
              intro w58 hk58
              have H58 := HL2.keep hk58
              have hS58 : St w0 S0 [rdH encMake 2 a n c l, shH (l.map mkB), rdH encI 1 a2 n2 c2 tk, rdH encI 1 xb.behind.a xb.behind.n xb.behind.c xb.bl] w58 [blkH b5 #[.slice a50 (i + 1) c50, .pointer none, .pointer (some ⟨pr, 0, none⟩), .pointer none, .slice none 0 0, .slice none 0 0] 67] := H58.pick' [1] rfl rfl
              refine wh_take (i := 0) (v := .pointer (some ⟨b5, 0, none⟩)) rfl (by kernel_rfl) (by kernel_rfl) (by kernel_rfl) hS58 rfl (fun wq hq => rf_move rfl) rfl ?_
              refine wh_take (i := 1) (v := .pointer (some ⟨b5, 0, none⟩)) rfl (by kernel_rfl) (by kernel_rfl) (by kernel_rfl) hS58 rfl (fun wq hq => rf_nilCheckP rfl rfl) rfl ?_
              refine wh_take (i := 2) (v := .pointer (some ⟨b5, 2, none⟩)) rfl (by kernel_rfl) (by kernel_rfl) (by kernel_rfl) hS58 rfl (fun wq hq => rf_fieldAddr Try.underlying67 rfl ti60 rfl rfl) rfl ?_
              refine wh_take (i := 3) (v := .pointer (some ⟨pr, 0, none⟩)) rfl (by kernel_rfl) (by kernel_rfl) (by kernel_rfl) hS58 rfl (fun wq hq => rf_load Try.underlying60 rfl rfl rfl ((hq.blk 0 rfl).cell rfl)) rfl ?_
              refine wh_take (i := 4) (v := .slice a n c) rfl (by kernel_rfl) (by kernel_rfl) (by kernel_rfl) hS58 rfl (fun wq hq => rf_move rfl) rfl ?_
              refine wh_take (i := 5) (v := .int .i64 ((i : Nat) : Int)) rfl (by kernel_rfl) (by kernel_rfl) (by kernel_rfl) hS58 rfl (fun wq hq => rf_move rfl) rfl ?_
              refine wh_take (i := 6) (v := .pointer (some ⟨ab a, ao a + i * 2, none⟩)) rfl (by kernel_rfl) (by kernel_rfl) (by kernel_rfl) hS58 rfl (fun wq hq => rf_indexAddrH Try.underlying22 ti35 rfl rfl rfl rfl (by omega) (by omega) (hq.rdR 0 Le.rfl)) rfl ?_
              refine wh_take (i := 7) (v := .pointer (some ⟨ab a, ao a + i * 2, none⟩)) rfl (by kernel_rfl) (by kernel_rfl) (by kernel_rfl) hS58 rfl (fun wq hq => rf_fieldAddr Try.underlying35 rfl ti3 rfl rfl) rfl ?_
              refine wh_take (i := 8) (v := .int .i64 xb.steps) rfl (by kernel_rfl) (by kernel_rfl) (by kernel_rfl) hS58 rfl (fun wq hq => rf_load Try.underlying3 rfl rfl rfl (rd_el (hq.rdR 0 Le.rfl) hxb 0 _ rfl)) rfl ?_
              refine wh_take (i := 9) (v := .slice a8 k c8) rfl (by kernel_rfl) (by kernel_rfl) (by kernel_rfl) hS58 rfl (fun wq hq => rf_move rfl) rfl ?_
              refine wh_one (i := 10) (by kernel_rfl) rfl ?_
              refine wl_tr H58 rfl [0, 5] (rmake_tr xb.steps a8 k c8 (xb.bl.map (mdB i)) (by omega)) rfl .nil (rf_call Try.call31 rfl rfl) rfl ?_
              rintro _ w59 _ ⟨rfl, rfl⟩ H59
              refine wl_nil ?_
              have hS60 : St w0 S0 [rdH encMake 2 a n c l, shH (l.map mkB), rdH encI 1 a2 n2 c2 tk, rdH encI 1 xb.behind.a xb.behind.n xb.behind.c xb.bl] w59 [blkH b5 #[.slice a50 (i + 1) c50, .pointer none, .pointer (some ⟨pr, 0, none⟩), .pointer none, .slice none 0 0, .slice none 0 0] 67] := H59.pick' [1] rfl rfl
              refine wh_back hS60 ?_
              refine wh_done (by kernel_rfl) ?_
              refine bln ?_
              refine thn ?_
              refine region_ ?_
              refine wl_valE (v := .int .i64 ((i : Nat) : Int)) rfl (rf_move rfl) rfl ?_
              refine wl_valE (v := .int .i64 ((i + 1 : Nat) : Int)) rfl (rf_add rfl rfl rfl rfl (IntWalk.i64_in _ (by omega))) rfl ?_
              refine wl_valE (v := .int .i64 ((i + 1 : Nat) : Int)) rfl (rf_assign rfl) rfl ?_
              refine wl_nil ?_
              refine thn ?_
              refine ⟨n - (i + 1), _, rfl, (by omega), _, i + 1, a50, c50, (ps ++ [p85]), (cs ++ [⟨clip xb.steps, xb.bl.map (mdB i)⟩]), upds_self ⟨rfl, rfl, rfl, rfl, trivial⟩, rfl, ⟨by omega, by simp; omega, by simp; omega⟩, ⟨by rw [← hr1, drop_at hxb]; simp [mdCs], hok.push (clip_in _) (fun j hj => by obtain ⟨b, _, hbj⟩ := List.mem_map.1 hj; rw [hcs]; exact mdB_lt hbj)⟩, (H59.weakR 3 rfl).pick' [0, 1, 2, 3] rfl rfl⟩
    · have c23p := of_decide_eq_false c23
      refine exit_ ?_
      refine thx (thx (blx ?_))
      refine thn ?_
      refine seq_ ?_
      refine region_ ?_
      refine wl_valE (v := .slice none 0 0) rfl (rf_assign rfl) rfl ?_
      refine wl_nil ?_
      refine thn ?_
      refine seq_ ?_
      refine region_ ?_
      refine wl_valE (v := .slice none 0 0) rfl (rf_assign rfl) rfl ?_
      refine wl_nil ?_
      refine thn ?_
      refine seq_ ?_
      refine seq_ ?_
      refine region_ ?_
      refine wl_valE (v := .int .i64 (0 : Int)) rfl (rf_assign rfl) rfl ?_
      refine wl_nil ?_
      refine thn ?_
      refine block_ ?_
      obtain rfl : n = i := by omega
      rw [drop_all (by omega)] at hr1
      simp only [mdCs, List.append_nil] at hr1
      subst hr1
      have H61 := HL0.addNil encT 1 57 (α := Option Nat)
      have H62 := H61.addNil encI 1 3 (α := Int)
      refine loop_ (fun qk_ qf_ qw_ => ∃ (g : Nat → Value) (j : Nat) (a12 : Option Addr) (c12 : Nat) (a13 : Option Addr) (c13 : Nat) (ts : List (Option Nat)), qf_ = upds g [(0, .slice a n c), (1, .slice a2 n2 c2), (5, .pointer (some ⟨b5, 0, none⟩)), (12, .slice a12 j c12), (13, .slice a13 j c13), (14, .int .i64 ((j : Nat) : Int))] ∧ qk_ = n2 - j ∧ (j ≤ n2) ∧ (ts ++ (tk.drop j).map (mdB n) = mdTs n tk) ∧ St w0 S0 [rdH encMake 2 a n c l, shH (l.map mkB), rdH encI 1 a2 n2 c2 tk] qw_ [refH pr (mdCs 0 l), blkH b5 #[.slice ac n cc, .pointer none, .pointer (some ⟨pr, 0, none⟩), .pointer none, .slice none 0 0, .slice none 0 0] 67, ChH ps (mdCs 0 l), slH encOP 1 30 ac n cc (ps.map some), slH encT 1 57 a12 j c12 (ts.map (ppf ps)), slH encI 1 3 a13 j c13 (ts.map bi)]) (n2 - 0) ?_ ?_
      · refine ⟨_, 0, none, 0, none, 0, [], upds_self ⟨rfl, rfl, rfl, rfl, rfl, rfl, trivial⟩, rfl, Nat.zero_le _, rfl, H62.pick' [0, 1, 2, 3, 4, 5] rfl rfl⟩
      · rintro lk3 _ wl3 ⟨gl3, j, a12, c12, a13, c13, ts, rfl, hlk3, hr5, hr6, HL3⟩
        refine seq_ ?_
        refine seq_ ?_
        refine region_ ?_
        refine wl_valE (v := .int .i64 ((j : Nat) : Int)) rfl (rf_move rfl) rfl ?_
        refine wl_valE (v := .slice a2 n2 c2) rfl (rf_move rfl) rfl ?_
        refine wl_valE (v := .int .i64 ((n2 : Nat) : Int)) rfl (rf_len_slice Try.underlying23 rfl rfl) rfl ?_
        refine wl_valE (v := .bool (decide (((j : Nat) : Int) < ((n2 : Nat) : Int)))) rfl (rf_lss rfl rfl rfl rfl) rfl ?_
        refine wl_nil ?_
        refine thn ?_
        refine cond_ (t := decide (((j : Nat) : Int) < ((n2 : Nat) : Int))) rfl rfl (fun c113 => ?_) (fun c113 => ?_)
        · have c113p := of_decide_eq_true c113
          refine skip_ ?_
          refine thn ?_
          refine seq_ ?_
          refine block_ ?_
          refine seq_ ?_
          have hn63 := rd_len (HL3.rdR 2 Le.rfl)
          obtain ⟨xt, hxt⟩ : ∃ q_, tk[j]? = some q_ := ⟨_, List.getElem?_eq_getElem (by omega)⟩
          refine region_ ?_
          refine wl_valE (v := .slice a2 n2 c2) rfl (rf_move rfl) rfl ?_
          refine wl_valE (v := .int .i64 ((j : Nat) : Int)) rfl (rf_move rfl) rfl ?_
          refine wl_valE (v := .pointer (some ⟨ab a2, ao a2 + j * 1, none⟩)) rfl (rf_indexAddrH Try.underlying23 ti3 rfl rfl rfl rfl (by omega) (by omega) (HL3.rdR 2 Le.rfl)) rfl ?_
          refine wl_valE (v := .int .i64 xt) rfl (rf_load Try.underlying3 rfl rfl rfl (rd_el (HL3.rdR 2 Le.rfl) hxt 0 _ rfl)) rfl ?_
          refine wl_valE (v := .bool (decide (xt < (0 : Int)))) rfl (rf_lss rfl rfl rfl rfl) rfl ?_
          refine wl_valE (v := .bool (decide (xt < (0 : Int)))) rfl (rf_move rfl) rfl ?_
          refine wl_split (decide (xt < (0 : Int))) (fun u27_5 => ?_) (fun u27_5 => ?_)
          · have u27_5p := of_decide_eq_true u27_5
            have hmd := mdB_none (i := n) (b := xt) (.inl u27_5p)
            refine wl_guardF rfl rfl rfl u27_5 ?_
            refine wl_guardF rfl rfl rfl u27_5 ?_
            refine wl_guardF rfl rfl rfl u27_5 ?_
            refine wl_valE (v := .bool true) rfl (rf_pickT rfl rfl rfl u27_5) rfl ?_
            refine wl_nil ?_
            refine thn ?_
            refine condT rfl rfl ?_
            refine seq_ ?_
            refine region_ ?_
            refine wl_valE (v := .slice a12 j c12) rfl (rf_move rfl) rfl ?_
            refine wl_buildSliceH (enc := encT) HL3 [none] encT_len Try.underlying53 ti57 rfl rfl rfl (.cons rfl rfl rfl rfl rfl rfl .nil) ?_
            intro a64 w65 H65
            refine wl_appendH (enc := encT) (N := j + 1) H65 4 rfl rfl encT_len encT_one Try.underlying53 ti57 rfl rfl rfl rfl rfl (H65.rdO 6 slH_rd) rfl (by omega) (by omega) ?_
            intro a66 c66 w66 hc66 hd66 H66
            have hrw67 : (ts.map (ppf ps)) ++ ([none]) = (ts ++ [mdB n xt]).map (ppf ps) := by rw [hmd]; simp [ppf]
            rw [hrw67] at H66
            refine wl_valE (v := .slice a66 (j + 1) c66) rfl (rf_assign rfl) rfl ?_
            refine wl_nil ?_
            refine thn ?_
            refine region_ ?_
            refine wl_valE (v := .slice a13 j c13) rfl (rf_move rfl) rfl ?_
            refine wl_buildSliceH (enc := encI) H66 [(-1 : Int)] encI_len Try.underlying23 ti3 rfl rfl rfl (.cons rfl rfl rfl rfl rfl rfl .nil) ?_
            intro a68 w69 H69
            refine wl_appendH (enc := encI) (N := j + 1) H69 5 rfl rfl encI_len encI_one Try.underlying23 ti3 rfl rfl rfl rfl rfl (H69.rdO 7 slH_rd) rfl (by omega) (by omega) ?_
            intro a70 c70 w70 hc70 hd70 H70
            dsimp only [putsH, setH, List.cons_append, List.nil_append] at H70
            have hrw71 : (ts.map bi) ++ ([(-1 : Int)]) = (ts ++ [mdB n xt]).map bi := by rw [hmd]; simp [bi]
            rw [hrw71] at H70
            refine wl_valE (v := .slice a70 (j + 1) c70) rfl (rf_assign rfl) rfl ?_
            refine wl_nil ?_
            refine bln ?_
            refine thn ?_
            refine region_ ?_
            refine wl_valE (v := .int .i64 ((j : Nat) : Int)) rfl (rf_move rfl) rfl ?_
            refine wl_valE (v := .int .i64 ((j + 1 : Nat) : Int)) rfl (rf_add rfl rfl rfl rfl (IntWalk.i64_in _ (by omega))) rfl ?_
            refine wl_valE (v := .int .i64 ((j + 1 : Nat) : Int)) rfl (rf_assign rfl) rfl ?_
            refine wl_nil ?_
            refine thn ?_
            refine ⟨n2 - (j + 1), _, rfl, (by omega), _, j + 1, a66, c66, a70, c70, (ts ++ [mdB n xt]), upds_self ⟨rfl, rfl, rfl, rfl, rfl, rfl, trivial⟩, rfl, by omega, by rw [← hr6, drop_at hxt]; simp, H70.pick' [0, 1, 2, 3, 4, 5] rfl rfl⟩
          · have u27_5p := of_decide_eq_false u27_5
            refine wl_guardT rfl rfl rfl u27_5 ?_
            refine wl_valE (v := .slice a n c) rfl (rf_move rfl) rfl ?_
            refine wl_guardT rfl rfl rfl u27_5 ?_
            refine wl_valE (v := .int .i64 ((n : Nat) : Int)) rfl (rf_len_slice Try.underlying22 rfl rfl) rfl ?_
            refine wl_guardT rfl rfl rfl u27_5 ?_
            refine wl_valE (v := .bool (decide (((n : Nat) : Int) = (0 : Int)))) rfl (rf_eql rfl rfl rfl rfl) rfl ?_
            refine wl_valE (v := .bool (decide (((n : Nat) : Int) = (0 : Int)))) rfl (rf_pickF rfl rfl rfl u27_5) rfl ?_
            refine wl_nil ?_
            refine thn ?_
            refine cond_ (t := decide (((n : Nat) : Int) = (0 : Int))) rfl rfl (fun c125 => ?_) (fun c125 => ?_)
            · have c125p := of_decide_eq_true c125
              have hmd := mdB_none (i := n) (b := xt) (by omega)
              refine seq_ ?_
              refine region_ ?_
              refine wl_valE (v := .slice a12 j c12) rfl (rf_move rfl) rfl ?_
              refine wl_buildSliceH (enc := encT) HL3 [none] encT_len Try.underlying53 ti57 rfl rfl rfl (.cons rfl rfl rfl rfl rfl rfl .nil) ?_
              intro a72 w73 H73
              refine wl_appendH (enc := encT) (N := j + 1) H73 4 rfl rfl encT_len encT_one Try.underlying53 ti57 rfl rfl rfl rfl rfl (H73.rdO 6 slH_rd) rfl (by omega) (by omega) ?_
              intro a74 c74 w74 hc74 hd74 H74
              have hrw75 : (ts.map (ppf ps)) ++ ([none]) = (ts ++ [mdB n xt]).map (ppf ps) := by rw [hmd]; simp [ppf]
              rw [hrw75] at H74
              refine wl_valE (v := .slice a74 (j + 1) c74) rfl (rf_assign rfl) rfl ?_
              refine wl_nil ?_
              refine thn ?_
              refine region_ ?_
              refine wl_valE (v := .slice a13 j c13) rfl (rf_move rfl) rfl ?_
              refine wl_buildSliceH (enc := encI) H74 [(-1 : Int)] encI_len Try.underlying23 ti3 rfl rfl rfl (.cons rfl rfl rfl rfl rfl rfl .nil) ?_
              intro a76 w77 H77
              refine wl_appendH (enc := encI) (N := j + 1) H77 5 rfl rfl encI_len encI_one Try.underlying23 ti3 rfl rfl rfl rfl rfl (H77.rdO 7 slH_rd) rfl (by omega) (by omega) ?_
              intro a78 c78 w78 hc78 hd78 H78
              dsimp only [putsH, setH, List.cons_append, List.nil_append] at H78
              have hrw79 : (ts.map bi) ++ ([(-1 : Int)]) = (ts ++ [mdB n xt]).map bi := by rw [hmd]; simp [bi]
              rw [hrw79] at H78
              refine wl_valE (v := .slice a78 (j + 1) c78) rfl (rf_assign rfl) rfl ?_
              refine wl_nil ?_
              refine bln ?_
              refine thn ?_
              refine region_ ?_
              refine wl_valE (v := .int .i64 ((j : Nat) : Int)) rfl (rf_move rfl) rfl ?_
              refine wl_valE (v := .int .i64 ((j + 1 : Nat) : Int)) rfl (rf_add rfl rfl rfl rfl (IntWalk.i64_in _ (by omega))) rfl ?_
              refine wl_valE (v := .int .i64 ((j + 1 : Nat) : Int)) rfl (rf_assign rfl) rfl ?_
              refine wl_nil ?_
              refine thn ?_
              refine ⟨n2 - (j + 1), _, rfl, (by omega), _, j + 1, a74, c74, a78, c78, (ts ++ [mdB n xt]), upds_self ⟨rfl, rfl, rfl, rfl, rfl, rfl, trivial⟩, rfl, by omega, by rw [← hr6, drop_at hxt]; simp, H78.pick' [0, 1, 2, 3, 4, 5] rfl rfl⟩
            · have c125p := of_decide_eq_false c125
              obtain ⟨hmd, hm1, hm2⟩ := mdB_some u27_5p c125p
              refine seq_ ?_
              refine region_h (S := (fun wq => St w0 S0 [rdH encMake 2 a n c l, shH (l.map mkB), rdH encI 1 a2 n2 c2 tk] wq [blkH b5 #[.slice ac n cc, .pointer none, .pointer (some ⟨pr, 0, none⟩), .pointer none, .slice none 0 0, .slice none 0 0] 67, slH encOP 1 30 ac n cc (ps.map some)])) mixedP ?_
              intro w80 hk80
              have H80 := HL3.keep hk80
              have hS80 : St w0 S0 [rdH encMake 2 a n c l, shH (l.map mkB), rdH encI 1 a2 n2 c2 tk] w80 [blkH b5 #[.slice ac n cc, .pointer none, .pointer (some ⟨pr, 0, none⟩), .pointer none, .slice none 0 0, .slice none 0 0] 67, slH encOP 1 30 ac n cc (ps.map some)] := H80.pick' [1, 3] rfl rfl
              refine wh_take (i := 0) (v := .slice a12 j c12) rfl (by kernel_rfl) (by kernel_rfl) (by kernel_rfl) hS80 rfl (fun wq hq => rf_move rfl) rfl ?_
              refine wh_take (i := 1) (v := .pointer (some ⟨b5, 0, none⟩)) rfl (by kernel_rfl) (by kernel_rfl) (by kernel_rfl) hS80 rfl (fun wq hq => rf_move rfl) rfl ?_
              refine wh_take (i := 2) (v := .pointer (some ⟨b5, 0, none⟩)) rfl (by kernel_rfl) (by kernel_rfl) (by kernel_rfl) hS80 rfl (fun wq hq => rf_nilCheckP rfl rfl) rfl ?_
              refine wh_take (i := 3) (v := .pointer (some ⟨b5, 0, none⟩)) rfl (by kernel_rfl) (by kernel_rfl) (by kernel_rfl) hS80 rfl (fun wq hq => rf_fieldAddr Try.underlying67 rfl ti26 rfl rfl) rfl ?_
              refine wh_take (i := 4) (v := .slice ac n cc) rfl (by kernel_rfl) (by kernel_rfl) (by kernel_rfl) hS80 rfl (fun wq hq => rf_load Try.underlying26 rfl rfl rfl ((hq.blk 0 rfl).cell rfl)) rfl ?_
              refine wh_take (i := 5) (v := .slice a2 n2 c2) rfl (by kernel_rfl) (by kernel_rfl) (by kernel_rfl) hS80 rfl (fun wq hq => rf_move rfl) rfl ?_
              refine wh_take (i := 6) (v := .int .i64 ((j : Nat) : Int)) rfl (by kernel_rfl) (by kernel_rfl) (by kernel_rfl) hS80 rfl (fun wq hq => rf_move rfl) rfl ?_
              refine wh_take (i := 7) (v := .pointer (some ⟨ab a2, ao a2 + j * 1, none⟩)) rfl (by kernel_rfl) (by kernel_rfl) (by kernel_rfl) hS80 rfl (fun wq hq => rf_indexAddrH Try.underlying23 ti3 rfl rfl rfl rfl (by omega) (by omega) (hq.rdR 2 Le.rfl)) rfl ?_
              refine wh_take (i := 8) (v := .int .i64 xt) rfl (by kernel_rfl) (by kernel_rfl) (by kernel_rfl) hS80 rfl (fun wq hq => rf_load Try.underlying3 rfl rfl rfl (rd_el (hq.rdR 2 Le.rfl) hxt 0 _ rfl)) rfl ?_
              refine wh_take (i := 9) (v := .slice a n c) rfl (by kernel_rfl) (by kernel_rfl) (by kernel_rfl) hS80 rfl (fun wq hq => rf_move rfl) rfl ?_
              refine wh_take (i := 10) (v := .int .i64 ((n : Nat) : Int)) rfl (by kernel_rfl) (by kernel_rfl) (by kernel_rfl) hS80 rfl (fun wq hq => rf_len_slice Try.underlying22 rfl rfl) rfl ?_
              refine wh_take (i := 11) (v := .int .i64 (xt.tmod ((n : Nat) : Int))) rfl (by kernel_rfl) (by kernel_rfl) (by kernel_rfl) hS80 rfl (fun wq hq => rf_rem rfl rfl rfl rfl (by omega) rfl) rfl ?_
              refine wh_take (i := 12) (v := .pointer (some ⟨ab ac, ao ac + ((xt.tmod ((n : Nat) : Int)).toNat) * 1, none⟩)) rfl (by kernel_rfl) (by kernel_rfl) (by kernel_rfl) hS80 rfl (fun wq hq => rf_indexAddrH Try.underlying26 ti30 rfl rfl rfl rfl (by omega) (by omega) (hq.rdO 1 slH_rd)) rfl ?_
              have hn82 := slH_len H80 3 rfl
              obtain ⟨x81, hx81⟩ : ∃ q_, (ps.map some)[(xt.tmod ((n : Nat) : Int)).toNat]? = some q_ := ⟨_, List.getElem?_eq_getElem (by omega)⟩
              refine wh_take (i := 13) (v := .pointer (x81.map fun b => ⟨b, 0, none⟩)) rfl (by kernel_rfl) (by kernel_rfl) (by kernel_rfl) hS80 rfl (fun wq hq => rf_load Try.underlying30 rfl rfl rfl (rd_el (hq.rdO 1 slH_rd) hx81 0 _ rfl)) rfl ?_
              obtain ⟨hpy, hip⟩ := map_some_at hx81
              subst hpy
              refine wh_take (i := 14) (v := .iface 30 (.pointer (some ⟨pof ps (xt.tmod ((n : Nat) : Int)).toNat, 0, none⟩))) rfl (by kernel_rfl) (by kernel_rfl) (by kernel_rfl) hS80 rfl (fun wq hq => rf_makeInterface Try.underlying30 rfl rfl) rfl ?_
              refine wh_one (i := 15) (by kernel_rfl) rfl ?_
              refine wl_buildSliceH (enc := encT) H80 [(some (pof ps (xt.tmod ((n : Nat) : Int)).toNat))] encT_len Try.underlying53 ti57 rfl rfl rfl (.cons rfl rfl rfl rfl rfl rfl .nil) ?_
              intro a83 w84 H84
              refine wl_nil ?_
              have hS85 : St w0 S0 [rdH encMake 2 a n c l, shH (l.map mkB), rdH encI 1 a2 n2 c2 tk] w84 [blkH b5 #[.slice ac n cc, .pointer none, .pointer (some ⟨pr, 0, none⟩), .pointer none, .slice none 0 0, .slice none 0 0] 67, slH encOP 1 30 ac n cc (ps.map some)] := H84.pick' [1, 3] rfl rfl
              refine wh_back hS85 ?_
              refine wh_one (i := 16) (by kernel_rfl) rfl ?_
              refine wl_appendH (enc := encT) (N := j + 1) H84 4 rfl rfl encT_len encT_one Try.underlying53 ti57 rfl rfl rfl rfl rfl (H84.rdO 6 slH_rd) rfl (by omega) (by omega) ?_
              intro a86 c86 w86 hc86 hd86 H86
              have hrw87 : (ts.map (ppf ps)) ++ ([(some (pof ps (xt.tmod ((n : Nat) : Int)).toNat))]) = (ts ++ [mdB n xt]).map (ppf ps) := by rw [hmd]; simp [ppf]
              rw [hrw87] at H86
              refine wl_nil ?_
              have hS88 : St w0 S0 [rdH encMake 2 a n c l, shH (l.map mkB), rdH encI 1 a2 n2 c2 tk] w86 [blkH b5 #[.slice ac n cc, .pointer none, .pointer (some ⟨pr, 0, none⟩), .pointer none, .slice none 0 0, .slice none 0 0] 67, slH encOP 1 30 ac n cc (ps.map some)] := H86.pick' [1, 3] rfl rfl
              refine wh_back hS88 ?_
              refine wh_take (i := 17) (v := .slice a86 (j + 1) c86) rfl (by kernel_rfl) (by kernel_rfl) (by kernel_rfl) hS88 rfl (fun wq hq => rf_assign rfl) rfl ?_
              refine wh_done (by kernel_rfl) ?_
              refine thn ?_
              refine region_ ?_
              refine wl_valE (v := .slice a13 j c13) rfl (rf_move rfl) rfl ?_
              refine wl_valE (v := .slice a2 n2 c2) rfl (rf_move rfl) rfl ?_
              refine wl_valE (v := .int .i64 ((j : Nat) : Int)) rfl (rf_move rfl) rfl ?_
              refine wl_valE (v := .pointer (some ⟨ab a2, ao a2 + j * 1, none⟩)) rfl (rf_indexAddrH Try.underlying23 ti3 rfl rfl rfl rfl (by omega) (by omega) (H86.rdR 2 Le.rfl)) rfl ?_
              refine wl_valE (v := .int .i64 xt) rfl (rf_load Try.underlying3 rfl rfl rfl (rd_el (H86.rdR 2 Le.rfl) hxt 0 _ rfl)) rfl ?_
              refine wl_valE (v := .slice a n c) rfl (rf_move rfl) rfl ?_
              refine wl_valE (v := .int .i64 ((n : Nat) : Int)) rfl (rf_len_slice Try.underlying22 rfl rfl) rfl ?_
              refine wl_valE (v := .int .i64 (xt.tmod ((n : Nat) : Int))) rfl (rf_rem rfl rfl rfl rfl (by omega) rfl) rfl ?_
              refine wl_buildSliceH (enc := encI) H86 [xt.tmod ((n : Nat) : Int)] encI_len Try.underlying23 ti3 rfl rfl rfl (.cons rfl rfl rfl rfl rfl rfl .nil) ?_
              intro a89 w90 H90
              refine wl_appendH (enc := encI) (N := j + 1) H90 5 rfl rfl encI_len encI_one Try.underlying23 ti3 rfl rfl rfl rfl rfl (H90.rdO 7 slH_rd) rfl (by omega) (by omega) ?_
              intro a91 c91 w91 hc91 hd91 H91
              dsimp only [putsH, setH, List.cons_append, List.nil_append] at H91
              have hrw92 : (ts.map bi) ++ ([xt.tmod ((n : Nat) : Int)]) = (ts ++ [mdB n xt]).map bi := by rw [hmd]; simp [bi]; omega
              rw [hrw92] at H91
              refine wl_valE (v := .slice a91 (j + 1) c91) rfl (rf_assign rfl) rfl ?_
              refine wl_nil ?_
              refine bln ?_
              refine thn ?_
              refine region_ ?_
              refine wl_valE (v := .int .i64 ((j : Nat) : Int)) rfl (rf_move rfl) rfl ?_
              refine wl_valE (v := .int .i64 ((j + 1 : Nat) : Int)) rfl (rf_add rfl rfl rfl rfl (IntWalk.i64_in _ (by omega))) rfl ?_
              refine wl_valE (v := .int .i64 ((j + 1 : Nat) : Int)) rfl (rf_assign rfl) rfl ?_
              refine wl_nil ?_
              refine thn ?_
              refine ⟨n2 - (j + 1), _, rfl, (by omega), _, j + 1, a86, c86, a91, c91, (ts ++ [mdB n xt]), upds_self ⟨rfl, rfl, rfl, rfl, rfl, rfl, trivial⟩, rfl, by omega, by rw [← hr6, drop_at hxt]; simp, H91.pick' [0, 1, 2, 3, 4, 5] rfl rfl⟩
        · have c113p := of_decide_eq_false c113
          refine exit_ ?_
          refine thx (thx (blx ?_))
          refine thn ?_
          refine seq_ ?_
          refine region_ ?_
          refine wl_valE (v := .pointer (some ⟨b5, 0, none⟩)) rfl (rf_move rfl) rfl ?_
          refine wl_valE (v := .slice a12 j c12) rfl (rf_move rfl) rfl ?_
          obtain rfl : n2 = j := by omega
          rw [drop_all (by omega)] at hr6
          simp only [List.map_nil, List.append_nil] at hr6
          subst hr6
          refine wl_tr HL3 rfl [] (newLine_tr a12 n2 c12 ((mdTs n tk).map (ppf ps)) (by omega)) rfl (.own 4 rfl slH_rd .nil) (rf_call Try.call30 rfl rfl) rfl ?_
          rintro _ w93 _ ⟨pl, ac93, cc93, rfl, rfl⟩ H93
          refine wl_valE (v := .pointer (some ⟨b5, 0, none⟩)) rfl (rf_nilCheckP rfl rfl) rfl ?_
          refine wl_valE (v := .pointer (some ⟨b5, 1, none⟩)) rfl (rf_fieldAddr Try.underlying67 rfl ti27 rfl rfl) rfl ?_
          refine wl_storeH H93 1 (v := .pointer (some ⟨pl, 0, none⟩)) (A' := #[.slice ac n cc, .pointer (some ⟨pl, 0, none⟩), .pointer (some ⟨pr, 0, none⟩), .pointer none, .slice none 0 0, .slice none 0 0]) rfl rfl ti27 rfl rfl rfl rfl rfl (ltb rfl) rfl ?_
          intro w94 H94
          refine wl_nil ?_
          refine thn ?_
          refine seq_ ?_
          refine seq_ ?_
          have H95 := lineH.close_ (p := pl) (ps := ps) (ts := mdTs n tk) (steps := (0 : Int)) H94 [7, 6] ⟨ac93, n2, cc93⟩ trivial rfl rfl
          dsimp only [putsH, setH, List.cons_append, List.nil_append] at H95
          refine region_ ?_
          refine wl_valE (v := .int .i64 (0 : Int)) rfl (rf_assign rfl) rfl ?_
          refine wl_nil ?_
          refine thn ?_
          refine block_ ?_
          refine loop_ (fun qk_ qf_ qw_ => ∃ (g : Nat → Value) (j : Nat) (ml : List (Option Nat)), qf_ = upds g [(5, .pointer (some ⟨b5, 0, none⟩)), (12, .slice a12 n2 c12), (13, .slice a13 n2 c13), (15, .int .i64 ((j : Nat) : Int))] ∧ qk_ = n2 - j ∧ (j ≤ n2) ∧ St w0 S0 [rdH encMake 2 a n c l, shH (l.map mkB), rdH encI 1 a2 n2 c2 tk] qw_ [refH pr (mdCs 0 l), blkH b5 #[.slice ac n cc, .pointer (some ⟨pl, 0, none⟩), .pointer (some ⟨pr, 0, none⟩), .pointer none, .slice none 0 0, .slice none 0 0] 67, ChH ps (mdCs 0 l), slH encOP 1 30 ac n cc (ps.map some), slH encT 1 57 a12 n2 c12 ml, slH encI 1 3 a13 n2 c13 ((mdTs n tk).map bi), lineH pl ps (mdTs n tk) (0 : Int)]) (n2 - 0) ?_ ?_
          · refine ⟨_, 0, ((mdTs n tk).map (ppf ps)), upds_self ⟨rfl, rfl, rfl, rfl, trivial⟩, rfl, Nat.zero_le _, H95.pick' [0, 1, 2, 3, 4, 5, 7] rfl rfl⟩
          · rintro lk4 _ wl4 ⟨gl4, j, ml, rfl, hlk4, hr7, HL4⟩
            refine seq_ ?_
            refine seq_ ?_
            refine region_ ?_
            refine wl_valE (v := .int .i64 ((j : Nat) : Int)) rfl (rf_move rfl) rfl ?_
            refine wl_valE (v := .slice a12 n2 c12) rfl (rf_move rfl) rfl ?_
            refine wl_valE (v := .int .i64 ((n2 : Nat) : Int)) rfl (rf_len_slice Try.underlying53 rfl rfl) rfl ?_
            refine wl_valE (v := .bool (decide (((j : Nat) : Int) < ((n2 : Nat) : Int)))) rfl (rf_lss rfl rfl rfl rfl) rfl ?_
            refine wl_nil ?_
            refine thn ?_
            refine cond_ (t := decide (((j : Nat) : Int) < ((n2 : Nat) : Int))) rfl rfl (fun c167 => ?_) (fun c167 => ?_)
            · have c167p := of_decide_eq_true c167
              refine skip_ ?_
              refine thn ?_
              refine seq_ ?_
              refine block_ ?_
              refine region_ ?_
              refine wl_valE (v := .slice a12 n2 c12) rfl (rf_move rfl) rfl ?_
              refine wl_valE (v := .int .i64 ((j : Nat) : Int)) rfl (rf_move rfl) rfl ?_
              refine wl_valE (v := .pointer (some ⟨ab a12, ao a12 + j * 1, none⟩)) rfl (rf_indexAddrH Try.underlying53 ti57 rfl rfl rfl rfl (by omega) (by omega) (HL4.rdO 4 slH_rd)) rfl ?_
              have hn97 := slH_len HL4 4 rfl
              obtain ⟨x96, hx96⟩ : ∃ q_, ml[j]? = some q_ := ⟨_, List.getElem?_eq_getElem (by omega)⟩
              refine wl_storeElH HL4 4 (enc := encT) (i := j) (j := 0) (q := (none : Option Nat)) (u := .nilIface) (cs := [.nilIface]) rfl rfl encT_len ti57 rfl rfl rfl rfl rfl rfl oneAll hx96 (leb rfl) rfl ?_
              intro w98 H98
              have hx98 : (ml.set j (none : Option Nat))[j]? = some (none : Option Nat) := List.getElem?_set_self (List.getElem?_eq_some_iff.1 hx96).1
              have hn98 := slH_len H98 4 rfl
              refine wl_nil ?_
              refine bln ?_
              refine thn ?_
              refine region_ ?_
              refine wl_valE (v := .int .i64 ((j : Nat) : Int)) rfl (rf_move rfl) rfl ?_
              refine wl_valE (v := .int .i64 ((j + 1 : Nat) : Int)) rfl (rf_add rfl rfl rfl rfl (IntWalk.i64_in _ (by omega))) rfl ?_
              refine wl_valE (v := .int .i64 ((j + 1 : Nat) : Int)) rfl (rf_assign rfl) rfl ?_
              refine wl_nil ?_
              refine thn ?_
              refine ⟨n2 - (j + 1), _, rfl, (by omega), _, j + 1, ml.set j (none : Option Nat), upds_self ⟨rfl, rfl, rfl, rfl, trivial⟩, rfl, by omega, H98.pick' [0, 1, 2, 3, 4, 5, 6] rfl rfl⟩
            · have c167p := of_decide_eq_false c167
              refine exit_ ?_
              refine thx (thx (blx ?_))
              refine thn ?_
              refine seq_ ?_
              refine region_ ?_
              refine wl_valE (v := .pointer (some ⟨b5, 0, none⟩)) rfl (rf_move rfl) rfl ?_
              refine wl_valE (v := .pointer (some ⟨b5, 0, none⟩)) rfl (rf_move rfl) rfl ?_
              refine wl_valE (v := .pointer (some ⟨b5, 0, none⟩)) rfl (rf_nilCheckP rfl rfl) rfl ?_
              refine wl_valE (v := .pointer (some ⟨b5, 2, none⟩)) rfl (rf_fieldAddr Try.underlying67 rfl ti60 rfl rfl) rfl ?_
              refine wl_valE (v := .pointer (some ⟨pr, 0, none⟩)) rfl (rf_load Try.underlying60 rfl rfl rfl ((HL4.blk 1 rfl).cell rfl)) rfl ?_
              refine wl_valE (v := .slice a13 n2 c13) rfl (rf_move rfl) rfl ?_
              refine wl_valE (v := .agg #[.pointer (some ⟨pr, 0, none⟩), .slice a13 n2 c13, .int .i64 (0 : Int)]) rfl (rf_build (offs := [(0, [.pointer (some ⟨pr, 0, none⟩)]), (1, [.slice a13 n2 c13])]) (places := #[(0, 1), (1, 1), (2, 1)]) Try.underlying70 ti70 (fun w => by kernel_rfl) (.cons rfl rfl rfl rfl rfl rfl (.cons rfl rfl rfl rfl rfl rfl .nil))) rfl ?_
              refine wl_boxH HL4 (v := .agg #[.pointer (some ⟨pr, 0, none⟩), .slice a13 n2 c13, .int .i64 (0 : Int)]) rfl rfl ?_
              intro pq w100 H100
              refine wl_valE (v := .pointer (some ⟨b5, 0, none⟩)) rfl (rf_nilCheckP rfl rfl) rfl ?_
              refine wl_valE (v := .pointer (some ⟨b5, 3, none⟩)) rfl (rf_fieldAddr Try.underlying67 rfl ti64 rfl rfl) rfl ?_
              refine wl_storeH H100 1 (v := .pointer (some ⟨pq, 0, none⟩)) (A' := #[.slice ac n cc, .pointer (some ⟨pl, 0, none⟩), .pointer (some ⟨pr, 0, none⟩), .pointer (some ⟨pq, 0, none⟩), .slice none 0 0, .slice none 0 0]) rfl rfl ti64 rfl rfl rfl rfl rfl (ltb rfl) rfl ?_
              intro w101 H101
              refine wl_nil ?_
              refine thn ?_
              refine seq_ ?_
              refine region_ ?_
              refine wl_valE (v := .pointer (some ⟨b5, 0, none⟩)) rfl (rf_move rfl) rfl ?_
              refine wl_valE (v := .pointer (some ⟨b5, 0, none⟩)) rfl (rf_assign rfl) rfl ?_
              refine wl_nil ?_
              refine thn ?_
              refine ret_ ?_
              refine fin1 (v := .pointer (some ⟨b5, 0, none⟩)) Try.results22 rfl rfl ?_
              have H102 := rlH.close_ (q := pq) (p := pr) (ts := mdTs n tk) (steps := (0 : Int)) H101 [7, 5] ⟨a13, n2, c13⟩ trivial rfl rfl
              dsimp only [putsH, setH, List.cons_append, List.nil_append] at H102
              have hcl : (mdCs 0 l).length = n := (mdCs_len l 0).trans hl1.symm
              have Hz := (((H102.addNil encSv 1 23).addNil encSv 1 23).ssNil encI 1 3).ssNil encI 1 3
              have H103 := pairH.close_ (b := b5) (s := ⟨mdCs 0 l, mdTs n tk, 0, []⟩) Hz [1, 3, 2, 6, 0, 7, 8, 9, 10, 11] ⟨ps, ac, cc, pl, pr, pq, none, 0, none, 0, [], []⟩ ⟨by rw [hcl]; exact hps, rfl, rfl⟩ (by simp only [hcl]; rfl) rfl
              dsimp only [putsH, setH, List.cons_append, List.nil_append] at H103
              exact ⟨_, ⟨_, rfl, rfl⟩, H103.pick' [1] rfl rfl⟩
theorem there_tr {b : Nat} {s : PS} (hl : s.cs.length ≤ 4194304) : Tr Try.prog 23 [.pointer (some ⟨b, 0, none⟩)] [pairH b s] [] (fun v m => v = .bool true ∧ m = []) := by
  intro w0 S0 H0
  obtain ⟨x, ⟨hxp, hxl, hxw⟩, H1⟩ := pairH.openR H0 0 rfl
  refine enterR Try.func23 rfl Try.ntmps23 rfl ?_
  intro g0
  refine seq_ ?_
  refine region_ ?_
  refine wl_valE (v := .bool false) rfl (rf_assign rfl) rfl ?_
  refine wl_nil ?_
  refine thn ?_
  refine seq_ ?_
  refine seq_ ?_
  refine region_ ?_
  refine wl_valE (v := .int .i64 (0 : Int)) rfl (rf_assign rfl) rfl ?_
  refine wl_nil ?_
  refine thn ?_
  refine block_ ?_
  refine loop_ (fun qk_ qf_ qw_ => ∃ (g : Nat → Value) (i : Nat), qf_ = upds g [(0, .pointer (some ⟨b, 0, none⟩)), (3, .int .i64 ((i : Nat) : Int))] ∧ qk_ = s.cs.length - i ∧ (i ≤ s.cs.length) ∧ St w0 S0 [pairH b s, blkH b #[.slice x.ac s.cs.length x.cc, .pointer (some ⟨x.pl, 0, none⟩), .pointer (some ⟨x.pr, 0, none⟩), .pointer (some ⟨x.pq, 0, none⟩), .slice x.al s.lists.length x.cl, .slice x.aw s.lists.length x.cw] 67, slH encOP 1 30 x.ac s.cs.length x.cc (x.ps.map some), ChH x.ps s.cs, lineH x.pl x.ps s.ts s.steps, refH x.pr s.cs, rlH x.pq x.pr s.ts s.steps, slH encSv 1 23 x.al s.lists.length x.cl x.hs, slH encSv 1 23 x.aw s.lists.length x.cw x.ws, ssH encI 1 3 x.hs s.lists, ssH encI 1 3 x.ws s.lists] qw_ []) (s.cs.length - 0) ?_ ?_
  · refine ⟨_, 0, upds_self ⟨rfl, rfl, trivial⟩, rfl, Nat.zero_le _, H1.pick' [] rfl rfl⟩
  · rintro lk0 _ wl0 ⟨gl0, i, rfl, hlk0, hr0, HL0⟩
    refine seq_ ?_
    refine seq_ ?_
    refine region_ ?_
    refine wl_valE (v := .int .i64 ((i : Nat) : Int)) rfl (rf_move rfl) rfl ?_
    refine wl_valE (v := .pointer (some ⟨b, 0, none⟩)) rfl (rf_move rfl) rfl ?_
    refine wl_valE (v := .pointer (some ⟨b, 0, none⟩)) rfl (rf_nilCheckP rfl rfl) rfl ?_
    refine wl_valE (v := .pointer (some ⟨b, 0, none⟩)) rfl (rf_fieldAddr Try.underlying67 rfl ti26 rfl rfl) rfl ?_
    refine wl_valE (v := .slice x.ac s.cs.length x.cc) rfl (rf_load Try.underlying26 rfl rfl rfl ((HL0.blkR 1 rfl).cell rfl)) rfl ?_
    refine wl_valE (v := .int .i64 ((s.cs.length : Nat) : Int)) rfl (rf_len_slice Try.underlying26 rfl rfl) rfl ?_
    refine wl_valE (v := .bool (decide (((i : Nat) : Int) < ((s.cs.length : Nat) : Int)))) rfl (rf_lss rfl rfl rfl rfl) rfl ?_
    refine wl_nil ?_
    refine thn ?_
    refine cond_ (t := decide (((i : Nat) : Int) < ((s.cs.length : Nat) : Int))) rfl rfl (fun c10 => ?_) (fun c10 => ?_)
    · have c10p := of_decide_eq_true c10
      refine skip_ ?_
      refine thn ?_
      refine seq_ ?_
      refine block_ ?_
      refine seq_ ?_
      refine region_ ?_
      refine wl_valE (v := .pointer (some ⟨b, 0, none⟩)) rfl (rf_move rfl) rfl ?_
      refine wl_valE (v := .pointer (some ⟨b, 0, none⟩)) rfl (rf_nilCheckP rfl rfl) rfl ?_
      refine wl_valE (v := .pointer (some ⟨b, 0, none⟩)) rfl (rf_fieldAddr Try.underlying67 rfl ti26 rfl rfl) rfl ?_
      refine wl_valE (v := .slice x.ac s.cs.length x.cc) rfl (rf_load Try.underlying26 rfl rfl rfl ((HL0.blkR 1 rfl).cell rfl)) rfl ?_
      refine wl_valE (v := .int .i64 ((i : Nat) : Int)) rfl (rf_move rfl) rfl ?_
      refine wl_valE (v := .pointer (some ⟨ab x.ac, ao x.ac + i * 1, none⟩)) rfl (rf_indexAddrH Try.underlying26 ti30 rfl rfl rfl rfl (by omega) (by omega) (HL0.rdR 2 slH_rd)) rfl ?_
      have hn2 := rd_len (HL0.rdR 2 slH_rd)
      obtain ⟨x1, hx1⟩ : ∃ q_, (x.ps.map some)[i]? = some q_ := ⟨_, List.getElem?_eq_getElem (by omega)⟩
      refine wl_valE (v := .pointer (x1.map fun b => ⟨b, 0, none⟩)) rfl (rf_load Try.underlying30 rfl rfl rfl (rd_el (HL0.rdR 2 slH_rd) hx1 0 _ rfl)) rfl ?_
      obtain ⟨hpy, hip⟩ := map_some_at hx1
      subst hpy
      refine wl_valE (v := .bool false) rfl (rf_eqlPN Try.underlying30 rfl rfl rfl rfl) rfl ?_
      refine wl_nil ?_
      refine thn ?_
      refine condF rfl rfl ?_
      refine skip_ ?_
      refine bln ?_
      refine thn ?_
      refine region_ ?_
      refine wl_valE (v := .int .i64 ((i : Nat) : Int)) rfl (rf_move rfl) rfl ?_
      refine wl_valE (v := .int .i64 ((i + 1 : Nat) : Int)) rfl (rf_add rfl rfl rfl rfl (IntWalk.i64_in _ (by omega))) rfl ?_
      refine wl_valE (v := .int .i64 ((i + 1 : Nat) : Int)) rfl (rf_assign rfl) rfl ?_
      refine wl_nil ?_
      refine thn ?_
      refine ⟨s.cs.length - (i + 1), _, rfl, (by omega), _, i + 1, upds_self ⟨rfl, rfl, trivial⟩, rfl, by omega, HL0.pick' [] rfl rfl⟩
    · have c10p := of_decide_eq_false c10
      refine exit_ ?_
      refine thx (thx (blx ?_))
      refine thn ?_
      refine seq_ ?_
      refine region_ ?_
      refine wl_valE (v := .pointer (some ⟨b, 0, none⟩)) rfl (rf_move rfl) rfl ?_
      refine wl_valE (v := .pointer (some ⟨b, 0, none⟩)) rfl (rf_nilCheckP rfl rfl) rfl ?_
      refine wl_valE (v := .pointer (some ⟨b, 1, none⟩)) rfl (rf_fieldAddr Try.underlying67 rfl ti27 rfl rfl) rfl ?_
      refine wl_valE (v := .pointer (some ⟨x.pl, 0, none⟩)) rfl (rf_load Try.underlying27 rfl rfl rfl ((HL0.blkR 1 rfl).cell rfl)) rfl ?_
      refine wl_valE (v := .bool true) rfl (rf_neqPN Try.underlying27 rfl rfl rfl rfl) rfl ?_
      refine wl_valE (v := .bool true) rfl (rf_assign rfl) rfl ?_
      refine wl_nil ?_
      refine thn ?_
      refine ret_ ?_
      refine fin1 (v := .bool true) Try.results23 rfl rfl ?_
      exact ⟨_, ⟨rfl, rfl⟩, (HL0.weakR 1 rfl).pick' [] rfl rfl⟩
set_option maxHeartbeats 4000000 in
theorem pstep_tr {b : Nat} {s : PS} (hw : WfS s) (o : OpR) (hpn : o.picks.n ≤ 1048576) : Tr Try.prog 24 [.pointer (some ⟨b, 0, none⟩), .agg #[.int .i64 o.kind, .int .i64 o.n, .slice o.picks.a o.picks.n o.picks.c]] [rdH encI 1 o.picks.a o.picks.n o.picks.c o.pl] [pairH b s] (fun v m => v = .bool true ∧ m = [pairH b (opS s o)]) := by
  intro w0 S0 H0
  obtain ⟨x, ⟨hxp, hxl, hxw⟩, H1⟩ := pairH.open_ H0 0 rfl rfl
  have hwl := hw.lists_
  have hwc := hw.len
  have hpl := (rd_len (H1.rdR 0 Le.rfl)).1
  have hwi : ¬ s.cs.length = 0 → 0 ≤ (withinF o.n ((s.cs.length : Nat) : Int)) ∧ (withinF o.n ((s.cs.length : Nat) : Int)) < ((s.cs.length : Nat) : Int) := fun h => withinF_in (by omega)
  have hwt := hw.hwf.htl
  refine enterR Try.func24 rfl Try.ntmps24 rfl ?_
  intro g0
  refine seq_ ?_
  refine region_ ?_
  refine wl_boxH H1 (v := .agg #[.int .i64 o.kind, .int .i64 o.n, .slice o.picks.a o.picks.n o.picks.c]) rfl rfl ?_
  intro b2 w3 H3
  refine wl_valE (v := .bool false) rfl (rf_assign rfl) rfl ?_
  refine wl_nil ?_
  refine thn ?_
  refine seq_ ?_
  have HQ4 := H3.asRead
  dsimp only [List.cons_append, List.nil_append, putsH, setH] at HQ4
  refine region_q mixedP (by kernel_rfl) ?_
  refine qt_valE (v := .pointer (some ⟨b2, 1, none⟩)) rfl (fun wq hq => rf_fieldAddr Try.underlying47 rfl ti3 rfl rfl) rfl ?_
  refine qt_valE (v := .int .i64 o.n) rfl (fun wq hq => rf_load Try.underlying3 rfl rfl rfl (((HQ4.keep hq).blkR 11 rfl).cell rfl)) rfl ?_
  refine qt_valE (v := .pointer (some ⟨b, 0, none⟩)) rfl (fun wq hq => rf_move rfl) rfl ?_
  refine qt_valE (v := .pointer (some ⟨b, 0, none⟩)) rfl (fun wq hq => rf_nilCheckP rfl rfl) rfl ?_
  refine qt_valE (v := .pointer (some ⟨b, 0, none⟩)) rfl (fun wq hq => rf_fieldAddr Try.underlying67 rfl ti26 rfl rfl) rfl ?_
  refine qt_valE (v := .slice x.ac s.cs.length x.cc) rfl (fun wq hq => rf_load Try.underlying26 rfl rfl rfl (((HQ4.keep hq).blkR 1 rfl).cell rfl)) rfl ?_
  refine qt_valE (v := .int .i64 ((s.cs.length : Nat) : Int)) rfl (fun wq hq => rf_len_slice Try.underlying26 rfl rfl) rfl ?_
  refine qt_ret (v := .int .i64 (withinF o.n ((s.cs.length : Nat) : Int))) rfl (fun wq hq => ((within_tr o.n ((s.cs.length : Nat) : Int) (by omega)).quiet (HQ4.keep hq) .nil (by rintro _ _ ⟨rfl, rfl⟩; exact rfl)).mono (fun _ _ h => ⟨h.1, hq.trans h.2⟩)) (fun wq hq => rf_call Try.call15 rfl rfl) ?_
  refine qt_valE (v := .int .i64 (withinF o.n ((s.cs.length : Nat) : Int))) rfl (fun wq hq => rf_assign rfl) rfl ?_
  refine qt_nil ?_
  intro w5 hk5
  have H5 := H3.keep hk5
  refine thn ?_
  refine seq_ ?_
  refine seq_ ?_
  refine region_ ?_
  refine wl_valE (v := .pointer (some ⟨b2, 0, none⟩)) rfl (rf_fieldAddr Try.underlying47 rfl ti3 rfl rfl) rfl ?_
  refine wl_valE (v := .int .i64 o.kind) rfl (rf_load Try.underlying3 rfl rfl rfl ((H5.blk 10 rfl).cell rfl)) rfl ?_
  refine wl_nil ?_
  refine thn ?_
  refine block_ ?_
  refine seq_ ?_
  refine region_ ?_
  refine wl_valE (v := .bool (decide (o.kind = (0 : Int)))) rfl (rf_eql rfl rfl rfl rfl) rfl ?_
  refine wl_valE (v := .bool (decide (o.kind = (0 : Int)))) rfl (rf_assign rfl) rfl ?_
  refine wl_nil ?_
  refine thn ?_
  refine cond_ (t := decide (o.kind = (0 : Int))) rfl rfl (fun c20 => ?_) (fun c20 => ?_)
  · have c20p := of_decide_eq_true c20
    refine seq_ ?_
    refine region_ ?_
    refine wl_valE (v := .pointer (some ⟨b, 0, none⟩)) rfl (rf_move rfl) rfl ?_
    refine wl_valE (v := .pointer (some ⟨b, 0, none⟩)) rfl (rf_nilCheckP rfl rfl) rfl ?_
    refine wl_valE (v := .pointer (some ⟨b, 1, none⟩)) rfl (rf_fieldAddr Try.underlying67 rfl ti27 rfl rfl) rfl ?_
    refine wl_valE (v := .pointer (some ⟨x.pl, 0, none⟩)) rfl (rf_load Try.underlying27 rfl rfl rfl ((H5.blk 0 rfl).cell rfl)) rfl ?_
    refine wl_tr H5 rfl [] (lready_tr hw.hwf.hok hw.hwf.hbl hw.hwf.hts hw.hwf.htl) rfl (.own 3 rfl Le.rfl (.own 2 rfl Le.rfl .nil)) (rf_call Try.call17 rfl rfl) rfl ?_
    rintro _ w6 _ ⟨ar6, nr6, cr6, rfl, rfl⟩ H6
    dsimp only [putsH, setH, List.cons_append, List.nil_append] at H6
    refine wl_valE (v := .slice ar6 nr6 cr6) rfl (rf_assign rfl) rfl ?_
    refine wl_nil ?_
    refine thn ?_
    refine seq_ ?_
    refine region_ ?_
    refine wl_valE (v := .pointer (some ⟨b, 0, none⟩)) rfl (rf_move rfl) rfl ?_
    refine wl_valE (v := .pointer (some ⟨b, 0, none⟩)) rfl (rf_nilCheckP rfl rfl) rfl ?_
    refine wl_valE (v := .pointer (some ⟨b, 3, none⟩)) rfl (rf_fieldAddr Try.underlying67 rfl ti64 rfl rfl) rfl ?_
    refine wl_valE (v := .pointer (some ⟨x.pq, 0, none⟩)) rfl (rf_load Try.underlying64 rfl rfl rfl ((H6.blk 0 rfl).cell rfl)) rfl ?_
    refine wl_tr H6 rfl [] (rlready_tr hw.hwf) rfl (.own 5 rfl Le.rfl (.own 4 rfl Le.rfl .nil)) (rf_call Try.call32 rfl rfl) rfl ?_
    rintro _ w7 _ ⟨ar7, nr7, cr7, rfl, rfl⟩ H7
    refine wl_valE (v := .slice ar7 nr7 cr7) rfl (rf_assign rfl) rfl ?_
    refine wl_nil ?_
    refine thn ?_
    refine seq_ ?_
    have hrn := rdyL_len (cs := s.cs) (ts := s.ts) (k := 0)
    have hrl1 := (slH_len H7 11 rfl).1
    have hrl2 := (slH_len H7 12 rfl).1
    refine region_ ?_
    refine wl_valE (v := .pointer (some ⟨b, 0, none⟩)) rfl (rf_move rfl) rfl ?_
    refine wl_valE (v := .pointer (some ⟨b, 0, none⟩)) rfl (rf_move rfl) rfl ?_
    refine wl_valE (v := .pointer (some ⟨b, 0, none⟩)) rfl (rf_nilCheckP rfl rfl) rfl ?_
    refine wl_valE (v := .pointer (some ⟨b, 4, none⟩)) rfl (rf_fieldAddr Try.underlying67 rfl ti65 rfl rfl) rfl ?_
    refine wl_valE (v := .slice x.al s.lists.length x.cl) rfl (rf_load Try.underlying65 rfl rfl rfl ((H7.blk 0 rfl).cell rfl)) rfl ?_
    refine wl_valE (v := .slice ar6 nr6 cr6) rfl (rf_move rfl) rfl ?_
    refine wl_buildSliceH (enc := encSv) H7 [(⟨ar6, nr6, cr6⟩ : Sv)] encSv_len Try.underlying65 ti23 rfl rfl rfl (.cons rfl rfl rfl rfl rfl rfl .nil) ?_
    intro a8 w9 H9
    refine wl_appendH (enc := encSv) (N := s.lists.length + 1) H9 6 rfl rfl encSv_len encSv_one Try.underlying65 ti23 rfl rfl rfl rfl rfl (H9.rdO 13 slH_rd) rfl (by omega) (by omega) ?_
    intro a10 c10 w10 hc10 hd10 H10
    refine wl_valE (v := .pointer (some ⟨b, 0, none⟩)) rfl (rf_nilCheckP rfl rfl) rfl ?_
    refine wl_valE (v := .pointer (some ⟨b, 4, none⟩)) rfl (rf_fieldAddr Try.underlying67 rfl ti65 rfl rfl) rfl ?_
    refine wl_storeH H10 0 (v := .slice a10 (s.lists.length + 1) c10) (A' := #[.slice x.ac s.cs.length x.cc, .pointer (some ⟨x.pl, 0, none⟩), .pointer (some ⟨x.pr, 0, none⟩), .pointer (some ⟨x.pq, 0, none⟩), .slice a10 (s.lists.length + 1) c10, .slice x.aw s.lists.length x.cw]) rfl rfl ti65 rfl rfl rfl rfl rfl (ltb rfl) rfl ?_
    intro w11 H11
    dsimp only [putsH, setH, List.cons_append, List.nil_append] at H11
    refine wl_nil ?_
    refine thn ?_
    refine seq_ ?_
    refine region_ ?_
    refine wl_valE (v := .pointer (some ⟨b, 0, none⟩)) rfl (rf_move rfl) rfl ?_
    refine wl_valE (v := .pointer (some ⟨b, 0, none⟩)) rfl (rf_move rfl) rfl ?_
    refine wl_valE (v := .pointer (some ⟨b, 0, none⟩)) rfl (rf_nilCheckP rfl rfl) rfl ?_
    refine wl_valE (v := .pointer (some ⟨b, 5, none⟩)) rfl (rf_fieldAddr Try.underlying67 rfl ti65 rfl rfl) rfl ?_
    refine wl_valE (v := .slice x.aw s.lists.length x.cw) rfl (rf_load Try.underlying65 rfl rfl rfl ((H11.blk 0 rfl).cell rfl)) rfl ?_
    refine wl_valE (v := .slice ar7 nr7 cr7) rfl (rf_move rfl) rfl ?_
    refine wl_buildSliceH (enc := encSv) H11 [(⟨ar7, nr7, cr7⟩ : Sv)] encSv_len Try.underlying65 ti23 rfl rfl rfl (.cons rfl rfl rfl rfl rfl rfl .nil) ?_
    intro a12 w13 H13
    refine wl_appendH (enc := encSv) (N := s.lists.length + 1) H13 7 rfl rfl encSv_len encSv_one Try.underlying65 ti23 rfl rfl rfl rfl rfl (H13.rdO 14 slH_rd) rfl (by omega) (by omega) ?_
    intro a14 c14 w14 hc14 hd14 H14
    refine wl_valE (v := .pointer (some ⟨b, 0, none⟩)) rfl (rf_nilCheckP rfl rfl) rfl ?_
    refine wl_valE (v := .pointer (some ⟨b, 5, none⟩)) rfl (rf_fieldAddr Try.underlying67 rfl ti65 rfl rfl) rfl ?_
    refine wl_storeH H14 0 (v := .slice a14 (s.lists.length + 1) c14) (A' := #[.slice x.ac s.cs.length x.cc, .pointer (some ⟨x.pl, 0, none⟩), .pointer (some ⟨x.pr, 0, none⟩), .pointer (some ⟨x.pq, 0, none⟩), .slice a10 (s.lists.length + 1) c10, .slice a14 (s.lists.length + 1) c14]) rfl rfl ti65 rfl rfl rfl rfl rfl (ltb rfl) rfl ?_
    intro w15 H15
    refine wl_nil ?_
    refine thn ?_
    refine seq_ ?_
    refine region_ ?_
    refine wl_valE (v := .slice ar6 nr6 cr6) rfl (rf_move rfl) rfl ?_
    refine wl_valE (v := .slice ar7 nr7 cr7) rfl (rf_move rfl) rfl ?_
    refine wl_tr H15 rfl [] (same_tr ar6 nr6 cr6 (rdyL s.cs 0 s.ts) ar7 nr7 cr7 (rdyL s.cs 0 s.ts) (by omega)) rfl (.own 11 rfl slH_rd (.own 12 rfl slH_rd .nil)) (rf_call Try.call27 rfl rfl) rfl ?_
    rintro _ w16 _ ⟨rfl, rfl⟩ H16
    have H17 := St.ssPush (t := ⟨ar6, nr6, cr6⟩) H16 8 11 rfl rfl rfl hxl
    dsimp only [putsH, setH, List.cons_append, List.nil_append] at H17
    have H18 := St.ssPush (t := ⟨ar7, nr7, cr7⟩) H17 9 12 rfl rfl rfl hxw
    refine wl_valE (v := .bool (decide (rdyL s.cs 0 s.ts = rdyL s.cs 0 s.ts))) rfl (rf_assign rfl) rfl ?_
    refine wl_nil ?_
    refine thn ?_
    refine ret_ ?_
    refine blr (thr ?_)
    refine fin1 (v := .bool (decide (rdyL s.cs 0 s.ts = rdyL s.cs 0 s.ts))) Try.results24 rfl rfl ?_
    have hs9 : opS s o = ⟨s.cs, s.ts, s.steps, s.lists ++ [rdyL s.cs 0 s.ts]⟩ := by unfold opS; rw [if_pos c20p]
    rw [hs9]
    have hlen9 : (s.cs).length = s.cs.length := rfl
    have H19 := pairH.close_ (b := b) (s := ⟨s.cs, s.ts, s.steps, s.lists ++ [rdyL s.cs 0 s.ts]⟩) H18 [0, 1, 2, 3, 4, 5, 6, 7, 8, 9] ⟨x.ps, x.ac, x.cc, x.pl, x.pr, x.pq, a10, c10, a14, c14, x.hs ++ [⟨ar6, nr6, cr6⟩], x.ws ++ [⟨ar7, nr7, cr7⟩]⟩ ⟨by rw [show (PS.cs _) = s.cs from rfl, hlen9]; exact hxp, by simp [hxl], by simp [hxw]⟩ (by simp only [hlen9, List.length_append, List.length_singleton]; rfl) rfl
    exact ⟨_, ⟨congrArg Value.bool (by simp), rfl⟩, H19.pick' [0] rfl rfl⟩
  · have c20p := of_decide_eq_false c20
    refine seq_ ?_
    refine region_ ?_
    refine wl_valE (v := .bool (decide (o.kind = (1 : Int)))) rfl (rf_eql rfl rfl rfl rfl) rfl ?_
    refine wl_valE (v := .bool (decide (o.kind = (1 : Int)))) rfl (rf_assign rfl) rfl ?_
    refine wl_nil ?_
    refine thn ?_
    refine cond_ (t := decide (o.kind = (1 : Int))) rfl rfl (fun c55 => ?_) (fun c55 => ?_)
    · have c55p := of_decide_eq_true c55
      refine seq_ ?_
      refine region_h (S := (fun wq => St w0 S0 [rdH encI 1 o.picks.a o.picks.n o.picks.c o.pl] wq [blkH b #[.slice x.ac s.cs.length x.cc, .pointer (some ⟨x.pl, 0, none⟩), .pointer (some ⟨x.pr, 0, none⟩), .pointer (some ⟨x.pq, 0, none⟩), .slice x.al s.lists.length x.cl, .slice x.aw s.lists.length x.cw] 67, blkH b2 #[.int .i64 o.kind, .int .i64 o.n, .slice o.picks.a o.picks.n o.picks.c] 47])) mixedP ?_
      intro w20 hk20
      have H20 := H5.keep hk20
      have hS20 : St w0 S0 [rdH encI 1 o.picks.a o.picks.n o.picks.c o.pl] w20 [blkH b #[.slice x.ac s.cs.length x.cc, .pointer (some ⟨x.pl, 0, none⟩), .pointer (some ⟨x.pr, 0, none⟩), .pointer (some ⟨x.pq, 0, none⟩), .slice x.al s.lists.length x.cl, .slice x.aw s.lists.length x.cw] 67, blkH b2 #[.int .i64 o.kind, .int .i64 o.n, .slice o.picks.a o.picks.n o.picks.c] 47] := H20.pick' [0, 10] rfl rfl
      refine wh_take (i := 0) (v := .pointer (some ⟨b, 0, none⟩)) rfl (by kernel_rfl) (by kernel_rfl) (by kernel_rfl) hS20 rfl (fun wq hq => rf_move rfl) rfl ?_
      refine wh_take (i := 1) (v := .pointer (some ⟨b, 0, none⟩)) rfl (by kernel_rfl) (by kernel_rfl) (by kernel_rfl) hS20 rfl (fun wq hq => rf_nilCheckP rfl rfl) rfl ?_
      refine wh_take (i := 2) (v := .pointer (some ⟨b, 1, none⟩)) rfl (by kernel_rfl) (by kernel_rfl) (by kernel_rfl) hS20 rfl (fun wq hq => rf_fieldAddr Try.underlying67 rfl ti27 rfl rfl) rfl ?_
      refine wh_take (i := 3) (v := .pointer (some ⟨x.pl, 0, none⟩)) rfl (by kernel_rfl) (by kernel_rfl) (by kernel_rfl) hS20 rfl (fun wq hq => rf_load Try.underlying27 rfl rfl rfl ((hq.blk 0 rfl).cell rfl)) rfl ?_
      refine wh_take (i := 4) (v := .pointer (some ⟨b2, 1, none⟩)) rfl (by kernel_rfl) (by kernel_rfl) (by kernel_rfl) hS20 rfl (fun wq hq => rf_fieldAddr Try.underlying47 rfl ti3 rfl rfl) rfl ?_
      refine wh_take (i := 5) (v := .int .i64 o.n) rfl (by kernel_rfl) (by kernel_rfl) (by kernel_rfl) hS20 rfl (fun wq hq => rf_load Try.underlying3 rfl rfl rfl ((hq.blk 1 rfl).cell rfl)) rfl ?_
      refine wh_take (i := 7) (v := .pointer (some ⟨b, 0, none⟩)) rfl (by kernel_rfl) (by kernel_rfl) (by kernel_rfl) hS20 rfl (fun wq hq => rf_move rfl) rfl ?_
      refine wh_take (i := 8) (v := .pointer (some ⟨b, 0, none⟩)) rfl (by kernel_rfl) (by kernel_rfl) (by kernel_rfl) hS20 rfl (fun wq hq => rf_nilCheckP rfl rfl) rfl ?_
      refine wh_take (i := 9) (v := .pointer (some ⟨b, 3, none⟩)) rfl (by kernel_rfl) (by kernel_rfl) (by kernel_rfl) hS20 rfl (fun wq hq => rf_fieldAddr Try.underlying67 rfl ti64 rfl rfl) rfl ?_
      refine wh_take (i := 10) (v := .pointer (some ⟨x.pq, 0, none⟩)) rfl (by kernel_rfl) (by kernel_rfl) (by kernel_rfl) hS20 rfl (fun wq hq => rf_load Try.underlying64 rfl rfl rfl ((hq.blk 0 rfl).cell rfl)) rfl ?_
      refine wh_take (i := 11) (v := .pointer (some ⟨b2, 1, none⟩)) rfl (by kernel_rfl) (by kernel_rfl) (by kernel_rfl) hS20 rfl (fun wq hq => rf_fieldAddr Try.underlying47 rfl ti3 rfl rfl) rfl ?_
      refine wh_take (i := 12) (v := .int .i64 o.n) rfl (by kernel_rfl) (by kernel_rfl) (by kernel_rfl) hS20 rfl (fun wq hq => rf_load Try.underlying3 rfl rfl rfl ((hq.blk 1 rfl).cell rfl)) rfl ?_
      refine wh_one (i := 6) (by kernel_rfl) rfl ?_
      refine wl_tr H20 rfl [3, 2] (take_tr hw.hwf hw.hst o.n) rfl .nil (rf_call Try.call14 rfl rfl) rfl ?_
      rintro _ w21 _ ⟨rfl, rfl⟩ H21
      dsimp only [putsH, setH, List.cons_append, List.nil_append] at H21
      refine wl_nil ?_
      have hS22 : St w0 S0 [rdH encI 1 o.picks.a o.picks.n o.picks.c o.pl] w21 [blkH b #[.slice x.ac s.cs.length x.cc, .pointer (some ⟨x.pl, 0, none⟩), .pointer (some ⟨x.pr, 0, none⟩), .pointer (some ⟨x.pq, 0, none⟩), .slice x.al s.lists.length x.cl, .slice x.aw s.lists.length x.cw] 67, blkH b2 #[.int .i64 o.kind, .int .i64 o.n, .slice o.picks.a o.picks.n o.picks.c] 47] := H21.pick' [0, 10] rfl rfl
      refine wh_back hS22 ?_
      refine wh_one (i := 13) (by kernel_rfl) rfl ?_
      refine wl_tr H21 rfl [5, 4] (rtake_tr hw.hwf hw.hst o.n) rfl .nil (rf_call Try.call33 rfl rfl) rfl ?_
      rintro _ w23 _ ⟨rfl, rfl⟩ H23
      refine wl_nil ?_
      have hS24 : St w0 S0 [rdH encI 1 o.picks.a o.picks.n o.picks.c o.pl] w23 [blkH b #[.slice x.ac s.cs.length x.cc, .pointer (some ⟨x.pl, 0, none⟩), .pointer (some ⟨x.pr, 0, none⟩), .pointer (some ⟨x.pq, 0, none⟩), .slice x.al s.lists.length x.cl, .slice x.aw s.lists.length x.cw] 67, blkH b2 #[.int .i64 o.kind, .int .i64 o.n, .slice o.picks.a o.picks.n o.picks.c] 47] := H23.pick' [0, 10] rfl rfl
      refine wh_back hS24 ?_
      refine wh_take (i := 14) (v := .bool (decide (takeV s.cs s.ts o.n = takeV s.cs s.ts o.n))) rfl (by kernel_rfl) (by kernel_rfl) (by kernel_rfl) hS24 rfl (fun wq hq => rf_eql rfl rfl rfl rfl) rfl ?_
      refine wh_take (i := 15) (v := .bool (decide (takeV s.cs s.ts o.n = takeV s.cs s.ts o.n))) rfl (by kernel_rfl) (by kernel_rfl) (by kernel_rfl) hS24 rfl (fun wq hq => rf_assign rfl) rfl ?_
      refine wh_done (by kernel_rfl) ?_
      refine thn ?_
      refine ret_ ?_
      refine blr (thr ?_)
      refine fin1 (v := .bool (decide (takeV s.cs s.ts o.n = takeV s.cs s.ts o.n))) Try.results24 rfl rfl ?_
      have hs9 : opS s o = ⟨takeC s.cs s.ts o.n, s.ts, (s.steps + ((bn (takeI s.cs s.ts o.n).isSome : Nat) : Int)), s.lists⟩ := by unfold opS; rw [if_neg c20p, if_pos c55p]
      rw [hs9]
      have hlen9 : (takeC s.cs s.ts o.n).length = s.cs.length := takeC_len _ _ _
      have H25 := pairH.close_ (b := b) (s := ⟨takeC s.cs s.ts o.n, s.ts, (s.steps + ((bn (takeI s.cs s.ts o.n).isSome : Nat) : Int)), s.lists⟩) H23 [0, 1, 2, 3, 4, 5, 6, 7, 8, 9] x ⟨by rw [show (PS.cs _) = takeC s.cs s.ts o.n from rfl, hlen9]; exact hxp, by simp [hxl], by simp [hxw]⟩ (by simp only [hlen9, List.length_append, List.length_singleton]; rfl) rfl
      exact ⟨_, ⟨congrArg Value.bool (by simp), rfl⟩, H25.pick' [0] rfl rfl⟩
    · have c55p := of_decide_eq_false c55
      refine seq_ ?_
      refine region_ ?_
      refine wl_valE (v := .bool (decide (o.kind = (2 : Int)))) rfl (rf_eql rfl rfl rfl rfl) rfl ?_
      refine wl_valE (v := .bool (decide (o.kind = (2 : Int)))) rfl (rf_assign rfl) rfl ?_
      refine wl_nil ?_
      refine thn ?_
      refine cond_ (t := decide (o.kind = (2 : Int))) rfl rfl (fun c72 => ?_) (fun c72 => ?_)
      · have c72p := of_decide_eq_true c72
        refine seq_ ?_
        refine region_ ?_
        refine wl_valE (v := .slice none 0 0) rfl (rf_assign rfl) rfl ?_
        refine wl_nil ?_
        refine thn ?_
        refine seq_ ?_
        refine region_ ?_
        refine wl_valE (v := .slice none 0 0) rfl (rf_move rfl) rfl ?_
        refine wl_valE (v := .pointer (some ⟨b2, 2, none⟩)) rfl (rf_fieldAddr Try.underlying47 rfl ti23 rfl rfl) rfl ?_
        refine wl_valE (v := .slice o.picks.a o.picks.n o.picks.c) rfl (rf_load Try.underlying23 rfl rfl rfl ((H5.blk 10 rfl).cell rfl)) rfl ?_
        have Hn26 := H5.addNil encI 1 3
        refine wl_appendH (enc := encI) (N := o.picks.n) Hn26 11 rfl rfl encI_len encI_one Try.underlying23 ti3 rfl rfl rfl rfl rfl (Hn26.rdR 0 Le.rfl) (Nat.zero_add _) (by omega) (by omega) ?_
        intro a27 c27 w27 hc27 hd27 H27
        dsimp only [putsH, setH, List.cons_append, List.nil_append] at H27
        refine wl_valE (v := .slice a27 o.picks.n c27) rfl (rf_assign rfl) rfl ?_
        refine wl_nil ?_
        refine thn ?_
        refine seq_ ?_
        refine region_ ?_
        refine wl_valE (v := .slice a27 o.picks.n c27) rfl (rf_move rfl) rfl ?_
        refine wl_buildSliceH (enc := encI) H27 [(-9 : Int)] encI_len Try.underlying23 ti3 rfl rfl rfl (.cons rfl rfl rfl rfl rfl rfl .nil) ?_
        intro a28 w29 H29
        refine wl_appendH (enc := encI) (N := o.picks.n + 1) H29 11 rfl rfl encI_len encI_one Try.underlying23 ti3 rfl rfl rfl rfl rfl (H29.rdO 12 slH_rd) rfl (by omega) (by omega) ?_
        intro a30 c30 w30 hc30 hd30 H30
        have htk : (o.pl ++ [(-9 : Int)]).take o.picks.n = o.pl := by rw [hpl]; simp
        refine wl_valE (v := .slice a30 (o.picks.n + 1) c30) rfl (rf_assign rfl) rfl ?_
        refine wl_nil ?_
        refine thn ?_
        refine seq_ ?_
        refine region_h (S := (fun wq => St w0 S0 [rdH encI 1 o.picks.a o.picks.n o.picks.c o.pl] wq [blkH b #[.slice x.ac s.cs.length x.cc, .pointer (some ⟨x.pl, 0, none⟩), .pointer (some ⟨x.pr, 0, none⟩), .pointer (some ⟨x.pq, 0, none⟩), .slice x.al s.lists.length x.cl, .slice x.aw s.lists.length x.cw] 67, blkH b2 #[.int .i64 o.kind, .int .i64 o.n, .slice o.picks.a o.picks.n o.picks.c] 47])) mixedP ?_
        intro w31 hk31
        have H31 := H30.keep hk31
        have hS31 : St w0 S0 [rdH encI 1 o.picks.a o.picks.n o.picks.c o.pl] w31 [blkH b #[.slice x.ac s.cs.length x.cc, .pointer (some ⟨x.pl, 0, none⟩), .pointer (some ⟨x.pr, 0, none⟩), .pointer (some ⟨x.pq, 0, none⟩), .slice x.al s.lists.length x.cl, .slice x.aw s.lists.length x.cw] 67, blkH b2 #[.int .i64 o.kind, .int .i64 o.n, .slice o.picks.a o.picks.n o.picks.c] 47] := H31.pick' [0, 10] rfl rfl
        refine wh_take (i := 0) (v := .pointer (some ⟨b, 0, none⟩)) rfl (by kernel_rfl) (by kernel_rfl) (by kernel_rfl) hS31 rfl (fun wq hq => rf_move rfl) rfl ?_
        refine wh_take (i := 1) (v := .pointer (some ⟨b, 0, none⟩)) rfl (by kernel_rfl) (by kernel_rfl) (by kernel_rfl) hS31 rfl (fun wq hq => rf_nilCheckP rfl rfl) rfl ?_
        refine wh_take (i := 2) (v := .pointer (some ⟨b, 1, none⟩)) rfl (by kernel_rfl) (by kernel_rfl) (by kernel_rfl) hS31 rfl (fun wq hq => rf_fieldAddr Try.underlying67 rfl ti27 rfl rfl) rfl ?_
        refine wh_take (i := 3) (v := .pointer (some ⟨x.pl, 0, none⟩)) rfl (by kernel_rfl) (by kernel_rfl) (by kernel_rfl) hS31 rfl (fun wq hq => rf_load Try.underlying27 rfl rfl rfl ((hq.blk 0 rfl).cell rfl)) rfl ?_
        refine wh_take (i := 4) (v := .slice a30 (o.picks.n + 1) c30) rfl (by kernel_rfl) (by kernel_rfl) (by kernel_rfl) hS31 rfl (fun wq hq => rf_move rfl) rfl ?_
        refine wh_take (i := 5) (v := .pointer (some ⟨b2, 2, none⟩)) rfl (by kernel_rfl) (by kernel_rfl) (by kernel_rfl) hS31 rfl (fun wq hq => rf_fieldAddr Try.underlying47 rfl ti23 rfl rfl) rfl ?_
        refine wh_take (i := 6) (v := .slice o.picks.a o.picks.n o.picks.c) rfl (by kernel_rfl) (by kernel_rfl) (by kernel_rfl) hS31 rfl (fun wq hq => rf_load Try.underlying23 rfl rfl rfl ((hq.blk 1 rfl).cell rfl)) rfl ?_
        refine wh_take (i := 7) (v := .int .i64 ((o.picks.n : Nat) : Int)) rfl (by kernel_rfl) (by kernel_rfl) (by kernel_rfl) hS31 rfl (fun wq hq => rf_len_slice Try.underlying23 rfl rfl) rfl ?_
        refine wh_take (i := 8) (v := .slice a30 o.picks.n c30) rfl (by kernel_rfl) (by kernel_rfl) (by kernel_rfl) hS31 rfl (fun wq hq => rf_sliceTo (h := o.picks.n) Try.underlying23 ti3 rfl rfl rfl rfl (by omega)) rfl ?_
        refine wh_one (i := 9) (by kernel_rfl) rfl ?_
        refine wl_tr H31 rfl [3, 2] (play_tr hw.hwf hw.hst a30 o.picks.n c30 o.pl (by omega)) rfl (.own 11 rfl (slH_rd.trans ((rdH_take o.picks.n (by omega)).trans (Le.of_eq (by rw [htk])))) .nil) (rf_call Try.call26 rfl rfl) rfl ?_
        rintro _ w32 _ ⟨rfl, rfl⟩ H32
        refine wl_nil ?_
        have hS33 : St w0 S0 [rdH encI 1 o.picks.a o.picks.n o.picks.c o.pl] w32 [blkH b #[.slice x.ac s.cs.length x.cc, .pointer (some ⟨x.pl, 0, none⟩), .pointer (some ⟨x.pr, 0, none⟩), .pointer (some ⟨x.pq, 0, none⟩), .slice x.al s.lists.length x.cl, .slice x.aw s.lists.length x.cw] 67, blkH b2 #[.int .i64 o.kind, .int .i64 o.n, .slice o.picks.a o.picks.n o.picks.c] 47] := H32.pick' [0, 10] rfl rfl
        refine wh_back hS33 ?_
        refine wh_take (i := 10) (v := .int .i64 ((playN s.ts s.cs o.pl : Nat) : Int)) rfl (by kernel_rfl) (by kernel_rfl) (by kernel_rfl) hS33 rfl (fun wq hq => rf_assign rfl) rfl ?_
        refine wh_done (by kernel_rfl) ?_
        refine thn ?_
        refine seq_ ?_
        refine region_h (S := (fun wq => St w0 S0 [rdH encI 1 o.picks.a o.picks.n o.picks.c o.pl] wq [blkH b #[.slice x.ac s.cs.length x.cc, .pointer (some ⟨x.pl, 0, none⟩), .pointer (some ⟨x.pr, 0, none⟩), .pointer (some ⟨x.pq, 0, none⟩), .slice x.al s.lists.length x.cl, .slice x.aw s.lists.length x.cw] 67, blkH b2 #[.int .i64 o.kind, .int .i64 o.n, .slice o.picks.a o.picks.n o.picks.c] 47, slH encI 1 3 a30 (o.picks.n + 1) c30 (o.pl ++ [(-9 : Int)])])) mixedP ?_
        intro w34 hk34
        have H34 := H32.keep hk34
        have hS34 : St w0 S0 [rdH encI 1 o.picks.a o.picks.n o.picks.c o.pl] w34 [blkH b #[.slice x.ac s.cs.length x.cc, .pointer (some ⟨x.pl, 0, none⟩), .pointer (some ⟨x.pr, 0, none⟩), .pointer (some ⟨x.pq, 0, none⟩), .slice x.al s.lists.length x.cl, .slice x.aw s.lists.length x.cw] 67, blkH b2 #[.int .i64 o.kind, .int .i64 o.n, .slice o.picks.a o.picks.n o.picks.c] 47, slH encI 1 3 a30 (o.picks.n + 1) c30 (o.pl ++ [(-9 : Int)])] := H34.pick' [0, 10, 11] rfl rfl
        refine wh_take (i := 0) (v := .int .i64 ((playN s.ts s.cs o.pl : Nat) : Int)) rfl (by kernel_rfl) (by kernel_rfl) (by kernel_rfl) hS34 rfl (fun wq hq => rf_move rfl) rfl ?_
        refine wh_take (i := 1) (v := .pointer (some ⟨b, 0, none⟩)) rfl (by kernel_rfl) (by kernel_rfl) (by kernel_rfl) hS34 rfl (fun wq hq => rf_move rfl) rfl ?_
        refine wh_take (i := 2) (v := .pointer (some ⟨b, 0, none⟩)) rfl (by kernel_rfl) (by kernel_rfl) (by kernel_rfl) hS34 rfl (fun wq hq => rf_nilCheckP rfl rfl) rfl ?_
        refine wh_take (i := 3) (v := .pointer (some ⟨b, 3, none⟩)) rfl (by kernel_rfl) (by kernel_rfl) (by kernel_rfl) hS34 rfl (fun wq hq => rf_fieldAddr Try.underlying67 rfl ti64 rfl rfl) rfl ?_
        refine wh_take (i := 4) (v := .pointer (some ⟨x.pq, 0, none⟩)) rfl (by kernel_rfl) (by kernel_rfl) (by kernel_rfl) hS34 rfl (fun wq hq => rf_load Try.underlying64 rfl rfl rfl ((hq.blk 0 rfl).cell rfl)) rfl ?_
        refine wh_take (i := 5) (v := .pointer (some ⟨b2, 2, none⟩)) rfl (by kernel_rfl) (by kernel_rfl) (by kernel_rfl) hS34 rfl (fun wq hq => rf_fieldAddr Try.underlying47 rfl ti23 rfl rfl) rfl ?_
        refine wh_take (i := 6) (v := .slice o.picks.a o.picks.n o.picks.c) rfl (by kernel_rfl) (by kernel_rfl) (by kernel_rfl) hS34 rfl (fun wq hq => rf_load Try.underlying23 rfl rfl rfl ((hq.blk 1 rfl).cell rfl)) rfl ?_
        refine wh_one (i := 7) (by kernel_rfl) rfl ?_
        refine wl_tr H34 rfl [5, 4] (rplay_tr hw.hwf hw.hst o.picks.a o.picks.n o.picks.c o.pl (by omega)) rfl (.ro 0 Le.rfl .nil) (rf_call Try.call34 rfl rfl) rfl ?_
        rintro _ w35 _ ⟨rfl, rfl⟩ H35
        dsimp only [putsH, setH, List.cons_append, List.nil_append] at H35
        refine wl_nil ?_
        have hS36 : St w0 S0 [rdH encI 1 o.picks.a o.picks.n o.picks.c o.pl] w35 [blkH b #[.slice x.ac s.cs.length x.cc, .pointer (some ⟨x.pl, 0, none⟩), .pointer (some ⟨x.pr, 0, none⟩), .pointer (some ⟨x.pq, 0, none⟩), .slice x.al s.lists.length x.cl, .slice x.aw s.lists.length x.cw] 67, blkH b2 #[.int .i64 o.kind, .int .i64 o.n, .slice o.picks.a o.picks.n o.picks.c] 47, slH encI 1 3 a30 (o.picks.n + 1) c30 (o.pl ++ [(-9 : Int)])] := H35.pick' [0, 10, 11] rfl rfl
        refine wh_back hS36 ?_
        refine wh_take (i := 8) (v := .bool (decide (((playN s.ts s.cs o.pl : Nat) : Int) = ((playN s.ts s.cs o.pl : Nat) : Int)))) rfl (by kernel_rfl) (by kernel_rfl) (by kernel_rfl) hS36 rfl (fun wq hq => rf_eql rfl rfl rfl rfl) rfl ?_
        refine wh_take (i := 9) (v := .bool (decide (((playN s.ts s.cs o.pl : Nat) : Int) = ((playN s.ts s.cs o.pl : Nat) : Int)))) rfl (by kernel_rfl) (by kernel_rfl) (by kernel_rfl) hS36 rfl (fun wq hq => rf_move rfl) rfl ?_
        refine wh_takeG (i := 10) (v := .slice a30 (o.picks.n + 1) c30) rfl (by kernel_rfl) (by kernel_rfl) (by kernel_rfl) hS36 rfl rfl rfl rfl (by simp) (fun wq hq => rf_move rfl) rfl ?_
        refine wh_takeG (i := 11) (v := .pointer (some ⟨b2, 2, none⟩)) rfl (by kernel_rfl) (by kernel_rfl) (by kernel_rfl) hS36 rfl rfl rfl rfl (by simp) (fun wq hq => rf_fieldAddr Try.underlying47 rfl ti23 rfl rfl) rfl ?_
        refine wh_takeG (i := 12) (v := .slice o.picks.a o.picks.n o.picks.c) rfl (by kernel_rfl) (by kernel_rfl) (by kernel_rfl) hS36 rfl rfl rfl rfl (by simp) (fun wq hq => rf_load Try.underlying23 rfl rfl rfl ((hq.blk 1 rfl).cell rfl)) rfl ?_
        refine wh_takeG (i := 13) (v := .int .i64 ((o.picks.n : Nat) : Int)) rfl (by kernel_rfl) (by kernel_rfl) (by kernel_rfl) hS36 rfl rfl rfl rfl (by simp) (fun wq hq => rf_len_slice Try.underlying23 rfl rfl) rfl ?_
        refine wh_takeG (i := 14) (v := .slice a30 o.picks.n c30) rfl (by kernel_rfl) (by kernel_rfl) (by kernel_rfl) hS36 rfl rfl rfl rfl (by simp) (fun wq hq => rf_sliceTo (h := o.picks.n) Try.underlying23 ti3 rfl rfl rfl rfl (by omega)) rfl ?_
        refine wh_takeG (i := 15) (v := .pointer (some ⟨b2, 2, none⟩)) rfl (by kernel_rfl) (by kernel_rfl) (by kernel_rfl) hS36 rfl rfl rfl rfl (by simp) (fun wq hq => rf_fieldAddr Try.underlying47 rfl ti23 rfl rfl) rfl ?_
        refine wh_takeG (i := 16) (v := .slice o.picks.a o.picks.n o.picks.c) rfl (by kernel_rfl) (by kernel_rfl) (by kernel_rfl) hS36 rfl rfl rfl rfl (by simp) (fun wq hq => rf_load Try.underlying23 rfl rfl rfl ((hq.blk 1 rfl).cell rfl)) rfl ?_
        refine wh_one (i := 17) (by kernel_rfl) rfl ?_
        refine wl_guardT rfl rfl rfl (by simp) ?_
        refine wl_tr H35 rfl [] (same_tr a30 o.picks.n c30 o.pl o.picks.a o.picks.n o.picks.c o.pl (by omega)) rfl (.own 11 rfl (slH_rd.trans ((rdH_take o.picks.n (by omega)).trans (Le.of_eq (by rw [htk])))) (.ro 0 Le.rfl .nil)) (rf_call Try.call27 rfl rfl) rfl ?_
        rintro _ w37 _ ⟨rfl, rfl⟩ H37
        refine wl_nil ?_
        have hS38 : St w0 S0 [rdH encI 1 o.picks.a o.picks.n o.picks.c o.pl] w37 [blkH b #[.slice x.ac s.cs.length x.cc, .pointer (some ⟨x.pl, 0, none⟩), .pointer (some ⟨x.pr, 0, none⟩), .pointer (some ⟨x.pq, 0, none⟩), .slice x.al s.lists.length x.cl, .slice x.aw s.lists.length x.cw] 67, blkH b2 #[.int .i64 o.kind, .int .i64 o.n, .slice o.picks.a o.picks.n o.picks.c] 47, slH encI 1 3 a30 (o.picks.n + 1) c30 (o.pl ++ [(-9 : Int)])] := H37.pick' [0, 10, 11] rfl rfl
        refine wh_back hS38 ?_
        refine wh_take (i := 18) (v := .bool (decide (o.pl = o.pl))) rfl (by kernel_rfl) (by kernel_rfl) (by kernel_rfl) hS38 rfl (fun wq hq => rf_pickT rfl rfl rfl (by simp)) rfl ?_
        refine wh_take (i := 19) (v := .bool (decide (o.pl = o.pl))) rfl (by kernel_rfl) (by kernel_rfl) (by kernel_rfl) hS38 rfl (fun wq hq => rf_move rfl) rfl ?_
        refine wh_takeG (i := 20) (v := .slice a30 (o.picks.n + 1) c30) rfl (by kernel_rfl) (by kernel_rfl) (by kernel_rfl) hS38 rfl rfl rfl rfl (by simp) (fun wq hq => rf_move rfl) rfl ?_
        refine wh_takeG (i := 21) (v := .pointer (some ⟨b2, 2, none⟩)) rfl (by kernel_rfl) (by kernel_rfl) (by kernel_rfl) hS38 rfl rfl rfl rfl (by simp) (fun wq hq => rf_fieldAddr Try.underlying47 rfl ti23 rfl rfl) rfl ?_
        refine wh_takeG (i := 22) (v := .slice o.picks.a o.picks.n o.picks.c) rfl (by kernel_rfl) (by kernel_rfl) (by kernel_rfl) hS38 rfl rfl rfl rfl (by simp) (fun wq hq => rf_load Try.underlying23 rfl rfl rfl ((hq.blk 1 rfl).cell rfl)) rfl ?_
        refine wh_takeG (i := 23) (v := .int .i64 ((o.picks.n : Nat) : Int)) rfl (by kernel_rfl) (by kernel_rfl) (by kernel_rfl) hS38 rfl rfl rfl rfl (by simp) (fun wq hq => rf_len_slice Try.underlying23 rfl rfl) rfl ?_
        have h99 : (o.pl ++ [(-9 : Int)])[o.picks.n]? = some (-9) := by rw [hpl]; simp
        refine wh_takeG (i := 24) (v := .pointer (some ⟨ab a30, ao a30 + o.picks.n * 1, none⟩)) rfl (by kernel_rfl) (by kernel_rfl) (by kernel_rfl) hS38 rfl rfl rfl rfl (by simp) (fun wq hq => rf_indexAddrH Try.underlying23 ti3 rfl rfl rfl rfl (by omega) (by omega) (hq.rdO 2 slH_rd)) rfl ?_
        refine wh_takeG (i := 25) (v := .int .i64 (-9 : Int)) rfl (by kernel_rfl) (by kernel_rfl) (by kernel_rfl) hS38 rfl rfl rfl rfl (by simp) (fun wq hq => rf_load Try.underlying3 rfl rfl rfl (rd_el (hq.rdO 2 slH_rd) h99 0 _ rfl)) rfl ?_
        refine wh_takeG (i := 26) (v := .bool true) rfl (by kernel_rfl) (by kernel_rfl) (by kernel_rfl) hS38 rfl rfl rfl rfl (by simp) (fun wq hq => rf_eql rfl rfl rfl rfl) (congrArg Value.bool (by decide)) ?_
        refine wh_take (i := 27) (v := .bool true) rfl (by kernel_rfl) (by kernel_rfl) (by kernel_rfl) hS38 rfl (fun wq hq => rf_pickT rfl rfl rfl (by simp)) rfl ?_
        refine wh_take (i := 28) (v := .bool true) rfl (by kernel_rfl) (by kernel_rfl) (by kernel_rfl) hS38 rfl (fun wq hq => rf_assign rfl) rfl ?_
        refine wh_done (by kernel_rfl) ?_
        refine thn ?_
        refine ret_ ?_
        refine blr (thr ?_)
        refine fin1 (v := .bool true) Try.results24 rfl rfl ?_
        have hs9 : opS s o = ⟨playC s.ts s.cs o.pl, s.ts, (s.steps + ((playN s.ts s.cs o.pl : Nat) : Int)), s.lists⟩ := by unfold opS; rw [if_neg c20p, if_neg c55p, if_pos c72p]
        rw [hs9]
        have hlen9 : (playC s.ts s.cs o.pl).length = s.cs.length := playC_len _ _
        have H39 := pairH.close_ (b := b) (s := ⟨playC s.ts s.cs o.pl, s.ts, (s.steps + ((playN s.ts s.cs o.pl : Nat) : Int)), s.lists⟩) H37 [0, 1, 2, 3, 4, 5, 6, 7, 8, 9] x ⟨by rw [show (PS.cs _) = playC s.ts s.cs o.pl from rfl, hlen9]; exact hxp, by simp [hxl], by simp [hxw]⟩ (by simp only [hlen9, List.length_append, List.length_singleton]; rfl) rfl
        exact ⟨_, ⟨rfl, rfl⟩, H39.pick' [0] rfl rfl⟩
      · have c72p := of_decide_eq_false c72
        refine seq_ ?_
        refine region_ ?_
        refine wl_valE (v := .bool (decide (o.kind = (3 : Int)))) rfl (rf_eql rfl rfl rfl rfl) rfl ?_
        refine wl_valE (v := .bool (decide (o.kind = (3 : Int)))) rfl (rf_assign rfl) rfl ?_
        refine wl_nil ?_
        refine thn ?_
        refine cond_ (t := decide (o.kind = (3 : Int))) rfl rfl (fun c119 => ?_) (fun c119 => ?_)
        · have c119p := of_decide_eq_true c119
          refine seq_ ?_
          refine region_h (S := (fun wq => St w0 S0 [rdH encI 1 o.picks.a o.picks.n o.picks.c o.pl] wq [blkH b #[.slice x.ac s.cs.length x.cc, .pointer (some ⟨x.pl, 0, none⟩), .pointer (some ⟨x.pr, 0, none⟩), .pointer (some ⟨x.pq, 0, none⟩), .slice x.al s.lists.length x.cl, .slice x.aw s.lists.length x.cw] 67, blkH b2 #[.int .i64 o.kind, .int .i64 o.n, .slice o.picks.a o.picks.n o.picks.c] 47])) mixedP ?_
          intro w40 hk40
          have H40 := H5.keep hk40
          have hS40 : St w0 S0 [rdH encI 1 o.picks.a o.picks.n o.picks.c o.pl] w40 [blkH b #[.slice x.ac s.cs.length x.cc, .pointer (some ⟨x.pl, 0, none⟩), .pointer (some ⟨x.pr, 0, none⟩), .pointer (some ⟨x.pq, 0, none⟩), .slice x.al s.lists.length x.cl, .slice x.aw s.lists.length x.cw] 67, blkH b2 #[.int .i64 o.kind, .int .i64 o.n, .slice o.picks.a o.picks.n o.picks.c] 47] := H40.pick' [0, 10] rfl rfl
          refine wh_take (i := 0) (v := .pointer (some ⟨b, 0, none⟩)) rfl (by kernel_rfl) (by kernel_rfl) (by kernel_rfl) hS40 rfl (fun wq hq => rf_move rfl) rfl ?_
          refine wh_take (i := 1) (v := .pointer (some ⟨b, 0, none⟩)) rfl (by kernel_rfl) (by kernel_rfl) (by kernel_rfl) hS40 rfl (fun wq hq => rf_nilCheckP rfl rfl) rfl ?_
          refine wh_take (i := 2) (v := .pointer (some ⟨b, 1, none⟩)) rfl (by kernel_rfl) (by kernel_rfl) (by kernel_rfl) hS40 rfl (fun wq hq => rf_fieldAddr Try.underlying67 rfl ti27 rfl rfl) rfl ?_
          refine wh_take (i := 3) (v := .pointer (some ⟨x.pl, 0, none⟩)) rfl (by kernel_rfl) (by kernel_rfl) (by kernel_rfl) hS40 rfl (fun wq hq => rf_load Try.underlying27 rfl rfl rfl ((hq.blk 0 rfl).cell rfl)) rfl ?_
          refine wh_take (i := 4) (v := .pointer (some ⟨b2, 1, none⟩)) rfl (by kernel_rfl) (by kernel_rfl) (by kernel_rfl) hS40 rfl (fun wq hq => rf_fieldAddr Try.underlying47 rfl ti3 rfl rfl) rfl ?_
          refine wh_take (i := 5) (v := .int .i64 o.n) rfl (by kernel_rfl) (by kernel_rfl) (by kernel_rfl) hS40 rfl (fun wq hq => rf_load Try.underlying3 rfl rfl rfl ((hq.blk 1 rfl).cell rfl)) rfl ?_
          refine wh_take (i := 7) (v := .pointer (some ⟨b, 0, none⟩)) rfl (by kernel_rfl) (by kernel_rfl) (by kernel_rfl) hS40 rfl (fun wq hq => rf_move rfl) rfl ?_
          refine wh_take (i := 8) (v := .pointer (some ⟨b, 0, none⟩)) rfl (by kernel_rfl) (by kernel_rfl) (by kernel_rfl) hS40 rfl (fun wq hq => rf_nilCheckP rfl rfl) rfl ?_
          refine wh_take (i := 9) (v := .pointer (some ⟨b, 3, none⟩)) rfl (by kernel_rfl) (by kernel_rfl) (by kernel_rfl) hS40 rfl (fun wq hq => rf_fieldAddr Try.underlying67 rfl ti64 rfl rfl) rfl ?_
          refine wh_take (i := 10) (v := .pointer (some ⟨x.pq, 0, none⟩)) rfl (by kernel_rfl) (by kernel_rfl) (by kernel_rfl) hS40 rfl (fun wq hq => rf_load Try.underlying64 rfl rfl rfl ((hq.blk 0 rfl).cell rfl)) rfl ?_
          refine wh_take (i := 11) (v := .pointer (some ⟨b2, 1, none⟩)) rfl (by kernel_rfl) (by kernel_rfl) (by kernel_rfl) hS40 rfl (fun wq hq => rf_fieldAddr Try.underlying47 rfl ti3 rfl rfl) rfl ?_
          refine wh_take (i := 12) (v := .int .i64 o.n) rfl (by kernel_rfl) (by kernel_rfl) (by kernel_rfl) hS40 rfl (fun wq hq => rf_load Try.underlying3 rfl rfl rfl ((hq.blk 1 rfl).cell rfl)) rfl ?_
          refine wh_one (i := 6) (by kernel_rfl) rfl ?_
          refine wl_tr H40 rfl [3, 2] (drain_tr hw.hwf hw.hst o.n) rfl .nil (rf_call Try.call18 rfl rfl) rfl ?_
          rintro _ w41 _ ⟨rfl, rfl⟩ H41
          dsimp only [putsH, setH, List.cons_append, List.nil_append] at H41
          refine wl_nil ?_
          have hS42 : St w0 S0 [rdH encI 1 o.picks.a o.picks.n o.picks.c o.pl] w41 [blkH b #[.slice x.ac s.cs.length x.cc, .pointer (some ⟨x.pl, 0, none⟩), .pointer (some ⟨x.pr, 0, none⟩), .pointer (some ⟨x.pq, 0, none⟩), .slice x.al s.lists.length x.cl, .slice x.aw s.lists.length x.cw] 67, blkH b2 #[.int .i64 o.kind, .int .i64 o.n, .slice o.picks.a o.picks.n o.picks.c] 47] := H41.pick' [0, 10] rfl rfl
          refine wh_back hS42 ?_
          refine wh_one (i := 13) (by kernel_rfl) rfl ?_
          refine wl_tr H41 rfl [5, 4] (rdrain_tr hw.hwf hw.hst o.n) rfl .nil (rf_call Try.call35 rfl rfl) rfl ?_
          rintro _ w43 _ ⟨rfl, rfl⟩ H43
          refine wl_nil ?_
          have hS44 : St w0 S0 [rdH encI 1 o.picks.a o.picks.n o.picks.c o.pl] w43 [blkH b #[.slice x.ac s.cs.length x.cc, .pointer (some ⟨x.pl, 0, none⟩), .pointer (some ⟨x.pr, 0, none⟩), .pointer (some ⟨x.pq, 0, none⟩), .slice x.al s.lists.length x.cl, .slice x.aw s.lists.length x.cw] 67, blkH b2 #[.int .i64 o.kind, .int .i64 o.n, .slice o.picks.a o.picks.n o.picks.c] 47] := H43.pick' [0, 10] rfl rfl
          refine wh_back hS44 ?_
          refine wh_take (i := 14) (v := .bool (decide ((((drainS s.ts (totL s.cs + 1) s.cs o.n).2 : Nat) : Int) = (((drainS s.ts (totL s.cs + 1) s.cs o.n).2 : Nat) : Int)))) rfl (by kernel_rfl) (by kernel_rfl) (by kernel_rfl) hS44 rfl (fun wq hq => rf_eql rfl rfl rfl rfl) rfl ?_
          refine wh_take (i := 15) (v := .bool (decide ((((drainS s.ts (totL s.cs + 1) s.cs o.n).2 : Nat) : Int) = (((drainS s.ts (totL s.cs + 1) s.cs o.n).2 : Nat) : Int)))) rfl (by kernel_rfl) (by kernel_rfl) (by kernel_rfl) hS44 rfl (fun wq hq => rf_assign rfl) rfl ?_
          refine wh_done (by kernel_rfl) ?_
          refine thn ?_
          refine ret_ ?_
          refine blr (thr ?_)
          refine fin1 (v := .bool (decide ((((drainS s.ts (totL s.cs + 1) s.cs o.n).2 : Nat) : Int) = (((drainS s.ts (totL s.cs + 1) s.cs o.n).2 : Nat) : Int)))) Try.results24 rfl rfl ?_
          have hs9 : opS s o = ⟨(drainS s.ts (totL s.cs + 1) s.cs o.n).1, s.ts, (s.steps + (((drainS s.ts (totL s.cs + 1) s.cs o.n).2 : Nat) : Int)), s.lists⟩ := by unfold opS; rw [if_neg c20p, if_neg c55p, if_neg c72p, if_pos c119p]
          rw [hs9]
          have hlen9 : ((drainS s.ts (totL s.cs + 1) s.cs o.n).1).length = s.cs.length := (drain_tot hw.hwf).2.2
          have H45 := pairH.close_ (b := b) (s := ⟨(drainS s.ts (totL s.cs + 1) s.cs o.n).1, s.ts, (s.steps + (((drainS s.ts (totL s.cs + 1) s.cs o.n).2 : Nat) : Int)), s.lists⟩) H43 [0, 1, 2, 3, 4, 5, 6, 7, 8, 9] x ⟨by rw [show (PS.cs _) = (drainS s.ts (totL s.cs + 1) s.cs o.n).1 from rfl, hlen9]; exact hxp, by simp [hxl], by simp [hxw]⟩ (by simp only [hlen9, List.length_append, List.length_singleton]; rfl) rfl
          exact ⟨_, ⟨congrArg Value.bool (by simp), rfl⟩, H45.pick' [0] rfl rfl⟩
        · have c119p := of_decide_eq_false c119
          refine seq_ ?_
          refine region_ ?_
          refine wl_valE (v := .bool (decide (o.kind = (5 : Int)))) rfl (rf_eql rfl rfl rfl rfl) rfl ?_
          refine wl_valE (v := .bool (decide (o.kind = (5 : Int)))) rfl (rf_assign rfl) rfl ?_
          refine wl_nil ?_
          refine thn ?_
          refine cond_ (t := decide (o.kind = (5 : Int))) rfl rfl (fun c136 => ?_) (fun c136 => ?_)
          · have c136p := of_decide_eq_true c136
            refine seq_ ?_
            have HQ46 := H5.asRead
            dsimp only [List.cons_append, List.nil_append, putsH, setH] at HQ46
            obtain ⟨z, hzs, H47⟩ := refH.openR HQ46 5 rfl
            dsimp only [putsH, setH, List.cons_append, List.nil_append] at H47
            refine region_q mixedP (by kernel_rfl) ?_
            refine qt_valE (v := .pointer (some ⟨b, 0, none⟩)) rfl (fun wq hq => rf_move rfl) rfl ?_
            refine qt_valE (v := .pointer (some ⟨b, 0, none⟩)) rfl (fun wq hq => rf_nilCheckP rfl rfl) rfl ?_
            refine qt_valE (v := .pointer (some ⟨b, 0, none⟩)) rfl (fun wq hq => rf_fieldAddr Try.underlying67 rfl ti26 rfl rfl) rfl ?_
            refine qt_valE (v := .slice x.ac s.cs.length x.cc) rfl (fun wq hq => rf_load Try.underlying26 rfl rfl rfl (((H47.keep hq).blkR 1 rfl).cell rfl)) rfl ?_
            refine qt_valE (v := .int .i64 ((s.cs.length : Nat) : Int)) rfl (fun wq hq => rf_len_slice Try.underlying26 rfl rfl) rfl ?_
            refine qt_valE (v := .bool (decide (((s.cs.length : Nat) : Int) = (0 : Int)))) rfl (fun wq hq => rf_eql rfl rfl rfl rfl) rfl ?_
            refine qt_valE (v := .bool (decide (((s.cs.length : Nat) : Int) = (0 : Int)))) rfl (fun wq hq => rf_move rfl) rfl ?_
            refine qt_split (decide (((s.cs.length : Nat) : Int) = (0 : Int))) (fun u20_6 => ?_) (fun u20_6 => ?_)
            · have u20_6p := of_decide_eq_true u20_6
              refine qt_guardF rfl rfl rfl u20_6 ?_
              refine qt_guardF rfl rfl rfl u20_6 ?_
              refine qt_guardF rfl rfl rfl u20_6 ?_
              refine qt_guardF rfl rfl rfl u20_6 ?_
              refine qt_guardF rfl rfl rfl u20_6 ?_
              refine qt_guardF rfl rfl rfl u20_6 ?_
              refine qt_guardF rfl rfl rfl u20_6 ?_
              refine qt_guardF rfl rfl rfl u20_6 ?_
              refine qt_guardF rfl rfl rfl u20_6 ?_
              refine qt_guardF rfl rfl rfl u20_6 ?_
              refine qt_guardF rfl rfl rfl u20_6 ?_
              refine qt_guardF rfl rfl rfl u20_6 ?_
              refine qt_guardF rfl rfl rfl u20_6 ?_
              refine qt_guardF rfl rfl rfl u20_6 ?_
              refine qt_guardF rfl rfl rfl u20_6 ?_
              refine qt_guardF rfl rfl rfl u20_6 ?_
              refine qt_guardS rfl rfl rfl ?_
              refine qt_guardS rfl rfl rfl ?_
              refine qt_guardS rfl rfl rfl ?_
              refine qt_guardS rfl rfl rfl ?_
              refine qt_guardS rfl rfl rfl ?_
              refine qt_guardS rfl rfl rfl ?_
              refine qt_guardS rfl rfl rfl ?_
              refine qt_guardS rfl rfl rfl ?_
              refine qt_guardS rfl rfl rfl ?_
              refine qt_guardS rfl rfl rfl ?_
              refine qt_guardS rfl rfl rfl ?_
              refine qt_guardS rfl rfl rfl ?_
              refine qt_guardS rfl rfl rfl ?_
              refine qt_guardS rfl rfl rfl ?_
              refine qt_guardS rfl rfl rfl ?_
              refine qt_guardS rfl rfl rfl ?_
              refine qt_guardS rfl rfl rfl ?_
              refine qt_guardS rfl rfl rfl ?_
              refine qt_guardS rfl rfl rfl ?_
              refine qt_guardS rfl rfl rfl ?_
              refine qt_guardF rfl rfl rfl u20_6 ?_
              refine qt_valE (v := .bool true) rfl (fun wq hq => rf_pickT rfl rfl rfl u20_6) rfl ?_
              refine qt_valE (v := .bool true) rfl (fun wq hq => rf_assign rfl) rfl ?_
              refine qt_nil ?_
              intro w48 hk48
              have H48 := H5.keep hk48
              refine thn ?_
              refine ret_ ?_
              refine blr (thr ?_)
              refine fin1 (v := .bool true) Try.results24 rfl rfl ?_
              have hs9 : opS s o = ⟨s.cs, s.ts, s.steps, s.lists⟩ := by unfold opS; rw [if_neg c20p, if_neg c55p, if_neg c72p, if_neg c119p, if_pos c136p]
              rw [hs9]
              have hlen9 : (s.cs).length = s.cs.length := rfl
              have H49 := pairH.close_ (b := b) (s := ⟨s.cs, s.ts, s.steps, s.lists⟩) H48 [0, 1, 2, 3, 4, 5, 6, 7, 8, 9] x ⟨by rw [show (PS.cs _) = s.cs from rfl, hlen9]; exact hxp, by simp [hxl], by simp [hxw]⟩ (by simp only [hlen9, List.length_append, List.length_singleton]; rfl) rfl
              exact ⟨_, ⟨rfl, rfl⟩, H49.pick' [0] rfl rfl⟩
            · have u20_6p := of_decide_eq_false u20_6
              obtain ⟨d, hd⟩ : ∃ d, s.cs[(withinF o.n ((s.cs.length : Nat) : Int)).toNat]? = some d := ⟨_, List.getElem?_eq_getElem (by omega)⟩
              have hwi2 := hwi (by omega)
              obtain ⟨t, hst, hrt⟩ := rawR_get hzs hd
              have hrI : rdyI s.cs (withinF o.n ((s.cs.length : Nat) : Int)) = rdyC s.cs d := by unfold rdyI rdy; rw [if_neg (by omega), hd]
              refine qt_guardT rfl rfl rfl u20_6 ?_
              refine qt_valE (v := .pointer (some ⟨b, 0, none⟩)) rfl (fun wq hq => rf_move rfl) rfl ?_
              refine qt_guardT rfl rfl rfl u20_6 ?_
              refine qt_valE (v := .pointer (some ⟨b, 0, none⟩)) rfl (fun wq hq => rf_nilCheckP rfl rfl) rfl ?_
              refine qt_guardT rfl rfl rfl u20_6 ?_
              refine qt_valE (v := .pointer (some ⟨b, 0, none⟩)) rfl (fun wq hq => rf_fieldAddr Try.underlying67 rfl ti26 rfl rfl) rfl ?_
              refine qt_guardT rfl rfl rfl u20_6 ?_
              refine qt_valE (v := .slice x.ac s.cs.length x.cc) rfl (fun wq hq => rf_load Try.underlying26 rfl rfl rfl (((H47.keep hq).blkR 1 rfl).cell rfl)) rfl ?_
              refine qt_guardT rfl rfl rfl u20_6 ?_
              refine qt_valE (v := .int .i64 (withinF o.n ((s.cs.length : Nat) : Int))) rfl (fun wq hq => rf_move rfl) rfl ?_
              refine qt_guardT rfl rfl rfl u20_6 ?_
              refine qt_valE (v := .pointer (some ⟨ab x.ac, ao x.ac + ((withinF o.n ((s.cs.length : Nat) : Int)).toNat) * 1, none⟩)) rfl (fun wq hq => rf_indexAddrH Try.underlying26 ti30 rfl rfl rfl rfl (by omega) (by omega) ((H47.keep hq).rdR 2 slH_rd)) rfl ?_
              refine qt_guardT rfl rfl rfl u20_6 ?_
              have hn51 := rd_len (H47.rdR 2 slH_rd)
              obtain ⟨x50, hx50⟩ : ∃ q_, (x.ps.map some)[(withinF o.n ((s.cs.length : Nat) : Int)).toNat]? = some q_ := ⟨_, List.getElem?_eq_getElem (by omega)⟩
              refine qt_valE (v := .pointer (x50.map fun b => ⟨b, 0, none⟩)) rfl (fun wq hq => rf_load Try.underlying30 rfl rfl rfl (rd_el ((H47.keep hq).rdR 2 slH_rd) hx50 0 _ rfl)) rfl ?_
              obtain ⟨hpy, hip⟩ := map_some_at hx50
              subst hpy
              refine qt_guardT rfl rfl rfl u20_6 ?_
              refine qt_ret (v := .bool (rdyC s.cs d)) rfl (fun wq hq => ((ready_tr hw.hwf.hok hw.hwf.hbl ((withinF o.n ((s.cs.length : Nat) : Int)).toNat) d hd).quiet (H47.keep hq) (.ro 3 Le.rfl .nil) (by rintro _ _ ⟨rfl, rfl⟩; exact rfl)).mono (fun _ _ h => ⟨h.1, hq.trans h.2⟩)) (fun wq hq => rf_call Try.call29 rfl rfl) ?_
              refine qt_guardT rfl rfl rfl u20_6 ?_
              refine qt_valE (v := .pointer (some ⟨b, 0, none⟩)) rfl (fun wq hq => rf_move rfl) rfl ?_
              refine qt_guardT rfl rfl rfl u20_6 ?_
              refine qt_valE (v := .pointer (some ⟨b, 0, none⟩)) rfl (fun wq hq => rf_nilCheckP rfl rfl) rfl ?_
              refine qt_guardT rfl rfl rfl u20_6 ?_
              refine qt_valE (v := .pointer (some ⟨b, 2, none⟩)) rfl (fun wq hq => rf_fieldAddr Try.underlying67 rfl ti60 rfl rfl) rfl ?_
              refine qt_guardT rfl rfl rfl u20_6 ?_
              refine qt_valE (v := .pointer (some ⟨x.pr, 0, none⟩)) rfl (fun wq hq => rf_load Try.underlying60 rfl rfl rfl (((H47.keep hq).blkR 1 rfl).cell rfl)) rfl ?_
              refine qt_guardT rfl rfl rfl u20_6 ?_
              refine qt_valE (v := .int .i64 (withinF o.n ((s.cs.length : Nat) : Int))) rfl (fun wq hq => rf_move rfl) rfl ?_
              refine qt_guardT rfl rfl rfl u20_6 ?_
              refine qt_ret (v := .bool (rdyI s.cs (withinF o.n ((s.cs.length : Nat) : Int)))) rfl (fun wq hq => ((rready_tr hw.hwf.hok hw.hwf.hbl (withinF o.n ((s.cs.length : Nat) : Int)) (by omega)).quiet (H47.keep hq) (.ro 5 Le.rfl .nil) (by rintro _ _ ⟨rfl, rfl⟩; exact rfl)).mono (fun _ _ h => ⟨h.1, hq.trans h.2⟩)) (fun wq hq => rf_call Try.call36 rfl rfl) ?_
              refine qt_guardT rfl rfl rfl u20_6 ?_
              refine qt_valE (v := .bool (decide ((rdyC s.cs d) = (rdyI s.cs (withinF o.n ((s.cs.length : Nat) : Int)))))) rfl (fun wq hq => rf_eqlB Try.underlying4 rfl rfl rfl rfl) rfl ?_
              refine qt_guardT rfl rfl rfl u20_6 ?_
              refine qt_valE (v := .bool (decide ((rdyC s.cs d) = (rdyI s.cs (withinF o.n ((s.cs.length : Nat) : Int)))))) rfl (fun wq hq => rf_move rfl) rfl ?_
              refine qt_guardT rfl rfl rfl (by simp [hrI]) ?_
              refine qt_valE (v := .pointer (some ⟨b, 0, none⟩)) rfl (fun wq hq => rf_move rfl) rfl ?_
              refine qt_guardT rfl rfl rfl (by simp [hrI]) ?_
              refine qt_valE (v := .pointer (some ⟨b, 0, none⟩)) rfl (fun wq hq => rf_nilCheckP rfl rfl) rfl ?_
              refine qt_guardT rfl rfl rfl (by simp [hrI]) ?_
              refine qt_valE (v := .pointer (some ⟨b, 0, none⟩)) rfl (fun wq hq => rf_fieldAddr Try.underlying67 rfl ti26 rfl rfl) rfl ?_
              refine qt_guardT rfl rfl rfl (by simp [hrI]) ?_
              refine qt_valE (v := .slice x.ac s.cs.length x.cc) rfl (fun wq hq => rf_load Try.underlying26 rfl rfl rfl (((H47.keep hq).blkR 1 rfl).cell rfl)) rfl ?_
              refine qt_guardT rfl rfl rfl (by simp [hrI]) ?_
              refine qt_valE (v := .int .i64 (withinF o.n ((s.cs.length : Nat) : Int))) rfl (fun wq hq => rf_move rfl) rfl ?_
              refine qt_guardT rfl rfl rfl (by simp [hrI]) ?_
              refine qt_valE (v := .pointer (some ⟨ab x.ac, ao x.ac + ((withinF o.n ((s.cs.length : Nat) : Int)).toNat) * 1, none⟩)) rfl (fun wq hq => rf_indexAddrH Try.underlying26 ti30 rfl rfl rfl rfl (by omega) (by omega) ((H47.keep hq).rdR 2 slH_rd)) rfl ?_
              refine qt_guardT rfl rfl rfl (by simp [hrI]) ?_
              refine qt_valE (v := .pointer ((some (pof x.ps (withinF o.n ((s.cs.length : Nat) : Int)).toNat)).map fun b => ⟨b, 0, none⟩)) rfl (fun wq hq => rf_load Try.underlying30 rfl rfl rfl (rd_el ((H47.keep hq).rdR 2 slH_rd) hx50 0 _ rfl)) rfl ?_
              refine qt_guardT rfl rfl rfl (by simp [hrI]) ?_
              refine qt_ret (v := .int .i64 d.left) rfl (fun wq hq => ((left_tr ((withinF o.n ((s.cs.length : Nat) : Int)).toNat) d hd).quiet (H47.keep hq) (.ro 3 Le.rfl .nil) (by rintro _ _ ⟨rfl, rfl⟩; exact rfl)).mono (fun _ _ h => ⟨h.1, hq.trans h.2⟩)) (fun wq hq => rf_call Try.call13 rfl rfl) ?_
              refine qt_guardT rfl rfl rfl (by simp [hrI]) ?_
              refine qt_valE (v := .pointer (some ⟨b, 0, none⟩)) rfl (fun wq hq => rf_move rfl) rfl ?_
              refine qt_guardT rfl rfl rfl (by simp [hrI]) ?_
              refine qt_valE (v := .pointer (some ⟨b, 0, none⟩)) rfl (fun wq hq => rf_nilCheckP rfl rfl) rfl ?_
              refine qt_guardT rfl rfl rfl (by simp [hrI]) ?_
              refine qt_valE (v := .pointer (some ⟨b, 2, none⟩)) rfl (fun wq hq => rf_fieldAddr Try.underlying67 rfl ti60 rfl rfl) rfl ?_
              refine qt_guardT rfl rfl rfl (by simp [hrI]) ?_
              refine qt_valE (v := .pointer (some ⟨x.pr, 0, none⟩)) rfl (fun wq hq => rf_load Try.underlying60 rfl rfl rfl (((H47.keep hq).blkR 1 rfl).cell rfl)) rfl ?_
              refine qt_guardT rfl rfl rfl (by simp [hrI]) ?_
              refine qt_valE (v := .pointer (some ⟨x.pr, 0, none⟩)) rfl (fun wq hq => rf_nilCheckP rfl rfl) rfl ?_
              refine qt_guardT rfl rfl rfl (by simp [hrI]) ?_
              refine qt_valE (v := .pointer (some ⟨x.pr, 0, none⟩)) rfl (fun wq hq => rf_fieldAddr Try.underlying63 rfl ti61 rfl rfl) rfl ?_
              refine qt_guardT rfl rfl rfl (by simp [hrI]) ?_
              refine qt_valE (v := .slice z.a s.cs.length z.c) rfl (fun wq hq => rf_load Try.underlying61 rfl rfl rfl (((H47.keep hq).blkR 12 rfl).cell rfl)) rfl ?_
              refine qt_guardT rfl rfl rfl (by simp [hrI]) ?_
              refine qt_valE (v := .int .i64 (withinF o.n ((s.cs.length : Nat) : Int))) rfl (fun wq hq => rf_move rfl) rfl ?_
              refine qt_guardT rfl rfl rfl (by simp [hrI]) ?_
              refine qt_valE (v := .pointer (some ⟨ab z.a, ao z.a + ((withinF o.n ((s.cs.length : Nat) : Int)).toNat) * 2, none⟩)) rfl (fun wq hq => rf_indexAddrH Try.underlying61 ti73 rfl rfl rfl rfl (by omega) (by omega) ((H47.keep hq).rdR 13 slH_rd)) rfl ?_
              refine qt_guardT rfl rfl rfl (by simp [hrI]) ?_
              refine qt_valE (v := .pointer (some ⟨ab z.a, ao z.a + ((withinF o.n ((s.cs.length : Nat) : Int)).toNat) * 2, none⟩)) rfl (fun wq hq => rf_fieldAddr Try.underlying73 rfl ti3 rfl rfl) rfl ?_
              refine qt_guardT rfl rfl rfl (by simp [hrI]) ?_
              refine qt_valE (v := .int .i64 d.left) rfl (fun wq hq => rf_load Try.underlying3 rfl rfl rfl (rd_el ((H47.keep hq).rdR 13 slH_rd) hrt 0 _ rfl)) rfl ?_
              refine qt_guardT rfl rfl rfl (by simp [hrI]) ?_
              refine qt_valE (v := .bool (decide (d.left = d.left))) rfl (fun wq hq => rf_eql rfl rfl rfl rfl) rfl ?_
              refine qt_guardT rfl rfl rfl u20_6 ?_
              refine qt_valE (v := .bool (decide (d.left = d.left))) rfl (fun wq hq => rf_pickT rfl rfl rfl (by simp [hrI])) rfl ?_
              refine qt_valE (v := .bool (decide (d.left = d.left))) rfl (fun wq hq => rf_pickF rfl rfl rfl u20_6) rfl ?_
              refine qt_valE (v := .bool (decide (d.left = d.left))) rfl (fun wq hq => rf_assign rfl) rfl ?_
              refine qt_nil ?_
              intro w52 hk52
              have H52 := H5.keep hk52
              refine thn ?_
              refine ret_ ?_
              refine blr (thr ?_)
              refine fin1 (v := .bool (decide (d.left = d.left))) Try.results24 rfl rfl ?_
              have hs9 : opS s o = ⟨s.cs, s.ts, s.steps, s.lists⟩ := by unfold opS; rw [if_neg c20p, if_neg c55p, if_neg c72p, if_neg c119p, if_pos c136p]
              rw [hs9]
              have hlen9 : (s.cs).length = s.cs.length := rfl
              have H53 := pairH.close_ (b := b) (s := ⟨s.cs, s.ts, s.steps, s.lists⟩) H52 [0, 1, 2, 3, 4, 5, 6, 7, 8, 9] x ⟨by rw [show (PS.cs _) = s.cs from rfl, hlen9]; exact hxp, by simp [hxl], by simp [hxw]⟩ (by simp only [hlen9, List.length_append, List.length_singleton]; rfl) rfl
              exact ⟨_, ⟨congrArg Value.bool (by simp), rfl⟩, H53.pick' [0] rfl rfl⟩
          · have c136p := of_decide_eq_false c136
            refine seq_ ?_
            refine region_ ?_
            refine wl_valE (v := .bool (decide (o.kind = (6 : Int)))) rfl (rf_eql rfl rfl rfl rfl) rfl ?_
            refine wl_valE (v := .bool (decide (o.kind = (6 : Int)))) rfl (rf_assign rfl) rfl ?_
            refine wl_nil ?_
            refine thn ?_
            refine cond_ (t := decide (o.kind = (6 : Int))) rfl rfl (fun c183 => ?_) (fun c183 => ?_)
            · have c183p := of_decide_eq_true c183
              refine seq_ ?_
              refine seq_ ?_
              refine region_ ?_
              refine wl_valE (v := .pointer (some ⟨b, 0, none⟩)) rfl (rf_move rfl) rfl ?_
              refine wl_valE (v := .pointer (some ⟨b, 0, none⟩)) rfl (rf_nilCheckP rfl rfl) rfl ?_
              refine wl_valE (v := .pointer (some ⟨b, 0, none⟩)) rfl (rf_fieldAddr Try.underlying67 rfl ti26 rfl rfl) rfl ?_
              refine wl_valE (v := .slice x.ac s.cs.length x.cc) rfl (rf_load Try.underlying26 rfl rfl rfl ((H5.blk 0 rfl).cell rfl)) rfl ?_
              refine wl_valE (v := .int .i64 ((s.cs.length : Nat) : Int)) rfl (rf_len_slice Try.underlying26 rfl rfl) rfl ?_
              refine wl_valE (v := .bool (decide ((0 : Int) < ((s.cs.length : Nat) : Int)))) rfl (rf_gtr rfl rfl rfl rfl) rfl ?_
              refine wl_nil ?_
              refine thn ?_
              refine cond_ (t := decide ((0 : Int) < ((s.cs.length : Nat) : Int))) rfl rfl (fun c190 => ?_) (fun c190 => ?_)
              · have c190p := of_decide_eq_true c190
                obtain ⟨d, hd⟩ : ∃ d, s.cs[(withinF o.n ((s.cs.length : Nat) : Int)).toNat]? = some d := ⟨_, List.getElem?_eq_getElem (by omega)⟩
                have hwi2 := hwi (by omega)
                refine seq_ ?_
                refine region_ ?_
                refine wl_valE (v := .pointer (some ⟨b, 0, none⟩)) rfl (rf_move rfl) rfl ?_
                refine wl_valE (v := .pointer (some ⟨b, 0, none⟩)) rfl (rf_nilCheckP rfl rfl) rfl ?_
                refine wl_valE (v := .pointer (some ⟨b, 0, none⟩)) rfl (rf_fieldAddr Try.underlying67 rfl ti26 rfl rfl) rfl ?_
                refine wl_valE (v := .slice x.ac s.cs.length x.cc) rfl (rf_load Try.underlying26 rfl rfl rfl ((H5.blk 0 rfl).cell rfl)) rfl ?_
                refine wl_valE (v := .int .i64 (withinF o.n ((s.cs.length : Nat) : Int))) rfl (rf_move rfl) rfl ?_
                refine wl_valE (v := .pointer (some ⟨ab x.ac, ao x.ac + ((withinF o.n ((s.cs.length : Nat) : Int)).toNat) * 1, none⟩)) rfl (rf_indexAddrH Try.underlying26 ti30 rfl rfl rfl rfl (by omega) (by omega) (H5.rdO 1 slH_rd)) rfl ?_
                have hn55 := slH_len H5 1 rfl
                obtain ⟨x54, hx54⟩ : ∃ q_, (x.ps.map some)[(withinF o.n ((s.cs.length : Nat) : Int)).toNat]? = some q_ := ⟨_, List.getElem?_eq_getElem (by omega)⟩
                refine wl_valE (v := .pointer (x54.map fun b => ⟨b, 0, none⟩)) rfl (rf_load Try.underlying30 rfl rfl rfl (rd_el (H5.rdO 1 slH_rd) hx54 0 _ rfl)) rfl ?_
                obtain ⟨hpy, hip⟩ := map_some_at hx54
                subst hpy
                refine wl_tr H5 rfl [2] (step_tr hw.hwf.hok hw.hwf.hbl ((withinF o.n ((s.cs.length : Nat) : Int)).toNat) d hd) rfl .nil (rf_call Try.call37 rfl rfl) rfl ?_
                rintro _ w56 _ ⟨rfl, rfl⟩ H56
                dsimp only [putsH, setH, List.cons_append, List.nil_append] at H56
                refine wl_nil ?_
                refine thn ?_
                refine region_ ?_
                refine wl_valE (v := .pointer (some ⟨b, 0, none⟩)) rfl (rf_move rfl) rfl ?_
                refine wl_valE (v := .pointer (some ⟨b, 0, none⟩)) rfl (rf_nilCheckP rfl rfl) rfl ?_
                refine wl_valE (v := .pointer (some ⟨b, 2, none⟩)) rfl (rf_fieldAddr Try.underlying67 rfl ti60 rfl rfl) rfl ?_
                refine wl_valE (v := .pointer (some ⟨x.pr, 0, none⟩)) rfl (rf_load Try.underlying60 rfl rfl rfl ((H56.blk 0 rfl).cell rfl)) rfl ?_
                refine wl_valE (v := .int .i64 (withinF o.n ((s.cs.length : Nat) : Int))) rfl (rf_move rfl) rfl ?_
                refine wl_tr H56 rfl [4] (rstep_tr hw.hwf.hok hw.hwf.hbl (withinF o.n ((s.cs.length : Nat) : Int)) (by omega)) rfl .nil (rf_call Try.call38 rfl rfl) rfl ?_
                rintro _ w57 _ ⟨rfl, rfl⟩ H57
                have hsI : stepI s.cs (withinF o.n ((s.cs.length : Nat) : Int)) = stepC s.cs (withinF o.n ((s.cs.length : Nat) : Int)).toNat := by unfold stepI; rw [if_neg (by omega)]
                rw [hsI] at H57
                refine wl_nil ?_
                refine thn ?_
                refine seq_ ?_
                refine region_ ?_
                refine wl_valE (v := .bool true) rfl (rf_assign rfl) rfl ?_
                refine wl_nil ?_
                refine thn ?_
                refine ret_ ?_
                refine blr (thr ?_)
                refine fin1 (v := .bool true) Try.results24 rfl rfl ?_
                have hs9 : opS s o = ⟨stepC s.cs ((withinF o.n ((s.cs.length : Nat) : Int)).toNat), s.ts, s.steps, s.lists⟩ := by unfold opS; rw [if_neg c20p, if_neg c55p, if_neg c72p, if_neg c119p, if_neg c136p, if_pos c183p, if_neg (by omega)]
                rw [hs9]
                have hlen9 : (stepC s.cs ((withinF o.n ((s.cs.length : Nat) : Int)).toNat)).length = s.cs.length := stepC_len _ _
                have H58 := pairH.close_ (b := b) (s := ⟨stepC s.cs ((withinF o.n ((s.cs.length : Nat) : Int)).toNat), s.ts, s.steps, s.lists⟩) H57 [0, 1, 2, 3, 4, 5, 6, 7, 8, 9] x ⟨by rw [show (PS.cs _) = stepC s.cs ((withinF o.n ((s.cs.length : Nat) : Int)).toNat) from rfl, hlen9]; exact hxp, by simp [hxl], by simp [hxw]⟩ (by simp only [hlen9, List.length_append, List.length_singleton]; rfl) rfl
                exact ⟨_, ⟨rfl, rfl⟩, H58.pick' [0] rfl rfl⟩
              · have c190p := of_decide_eq_false c190
                refine skip_ ?_
                refine thn ?_
                refine seq_ ?_
                refine region_ ?_
                refine wl_valE (v := .bool true) rfl (rf_assign rfl) rfl ?_
                refine wl_nil ?_
                refine thn ?_
                refine ret_ ?_
                refine blr (thr ?_)
                refine fin1 (v := .bool true) Try.results24 rfl rfl ?_
                have hs9 : opS s o = ⟨s.cs, s.ts, s.steps, s.lists⟩ := by unfold opS; rw [if_neg c20p, if_neg c55p, if_neg c72p, if_neg c119p, if_neg c136p, if_pos c183p, if_pos (by omega)]
                rw [hs9]
                have hlen9 : (s.cs).length = s.cs.length := rfl
                have H59 := pairH.close_ (b := b) (s := ⟨s.cs, s.ts, s.steps, s.lists⟩) H5 [0, 1, 2, 3, 4, 5, 6, 7, 8, 9] x ⟨by rw [show (PS.cs _) = s.cs from rfl, hlen9]; exact hxp, by simp [hxl], by simp [hxw]⟩ (by simp only [hlen9, List.length_append, List.length_singleton]; rfl) rfl
                exact ⟨_, ⟨rfl, rfl⟩, H59.pick' [0] rfl rfl⟩
            · have c183p := of_decide_eq_false c183
              refine skip_ ?_
              refine bln ?_
              refine thn ?_
              refine seq_ ?_
              have HQ60 := H5.asRead
              dsimp only [List.cons_append, List.nil_append, putsH, setH] at HQ60
              obtain ⟨z, _, H61⟩ := rlH.openR HQ60 6 rfl
              dsimp only [putsH, setH, List.cons_append, List.nil_append] at H61
              refine region_q mixedP (by kernel_rfl) ?_
              refine qt_valE (v := .pointer (some ⟨b, 0, none⟩)) rfl (fun wq hq => rf_move rfl) rfl ?_
              refine qt_valE (v := .pointer (some ⟨b, 0, none⟩)) rfl (fun wq hq => rf_nilCheckP rfl rfl) rfl ?_
              refine qt_valE (v := .pointer (some ⟨b, 1, none⟩)) rfl (fun wq hq => rf_fieldAddr Try.underlying67 rfl ti27 rfl rfl) rfl ?_
              refine qt_valE (v := .pointer (some ⟨x.pl, 0, none⟩)) rfl (fun wq hq => rf_load Try.underlying27 rfl rfl rfl (((H61.keep hq).blkR 1 rfl).cell rfl)) rfl ?_
              refine qt_ret (v := .int .i64 s.steps) rfl (fun wq hq => ((steps_tr).quiet (H61.keep hq) (.ro 4 Le.rfl .nil) (by rintro _ _ ⟨rfl, rfl⟩; exact rfl)).mono (fun _ _ h => ⟨h.1, hq.trans h.2⟩)) (fun wq hq => rf_call Try.call19 rfl rfl) ?_
              refine qt_valE (v := .pointer (some ⟨b, 0, none⟩)) rfl (fun wq hq => rf_move rfl) rfl ?_
              refine qt_valE (v := .pointer (some ⟨b, 0, none⟩)) rfl (fun wq hq => rf_nilCheckP rfl rfl) rfl ?_
              refine qt_valE (v := .pointer (some ⟨b, 3, none⟩)) rfl (fun wq hq => rf_fieldAddr Try.underlying67 rfl ti64 rfl rfl) rfl ?_
              refine qt_valE (v := .pointer (some ⟨x.pq, 0, none⟩)) rfl (fun wq hq => rf_load Try.underlying64 rfl rfl rfl (((H61.keep hq).blkR 1 rfl).cell rfl)) rfl ?_
              refine qt_valE (v := .pointer (some ⟨x.pq, 0, none⟩)) rfl (fun wq hq => rf_nilCheckP rfl rfl) rfl ?_
              refine qt_valE (v := .pointer (some ⟨x.pq, 2, none⟩)) rfl (fun wq hq => rf_fieldAddr Try.underlying70 rfl ti3 rfl rfl) rfl ?_
              refine qt_valE (v := .int .i64 s.steps) rfl (fun wq hq => rf_load Try.underlying3 rfl rfl rfl (((H61.keep hq).blkR 12 rfl).cell rfl)) rfl ?_
              refine qt_valE (v := .bool (decide (s.steps = s.steps))) rfl (fun wq hq => rf_eql rfl rfl rfl rfl) rfl ?_
              refine qt_valE (v := .bool (decide (s.steps = s.steps))) rfl (fun wq hq => rf_assign rfl) rfl ?_
              refine qt_nil ?_
              intro w62 hk62
              have H62 := H5.keep hk62
              refine thn ?_
              refine ret_ ?_
              refine fin1 (v := .bool (decide (s.steps = s.steps))) Try.results24 rfl rfl ?_
              have hs9 : opS s o = ⟨s.cs, s.ts, s.steps, s.lists⟩ := by unfold opS; rw [if_neg c20p, if_neg c55p, if_neg c72p, if_neg c119p, if_neg c136p, if_neg c183p]
              rw [hs9]
              have hlen9 : (s.cs).length = s.cs.length := rfl
              have H63 := pairH.close_ (b := b) (s := ⟨s.cs, s.ts, s.steps, s.lists⟩) H62 [0, 1, 2, 3, 4, 5, 6, 7, 8, 9] x ⟨by rw [show (PS.cs _) = s.cs from rfl, hlen9]; exact hxp, by simp [hxl], by simp [hxw]⟩ (by simp only [hlen9, List.length_append, List.length_singleton]; rfl) rfl
              exact ⟨_, ⟨congrArg Value.bool (by simp), rfl⟩, H63.pick' [0] rfl rfl⟩
end Go.Proofs.Ytiidihgimcebgaa.W
