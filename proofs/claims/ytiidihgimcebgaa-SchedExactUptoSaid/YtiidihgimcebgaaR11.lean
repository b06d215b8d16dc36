import Derived.Test.YtiidihgimcebgaaR10
import Derived.KernelRfl
namespace Go.Proofs.Ytiidihgimcebgaa.W
open Go Go.Wk
set_option linter.unusedVariables false
set_option linter.unusedSimpArgs false

theorem set_self {α : Type} {l : List α} {i : Nat} {x : α} (h : l[i]? = some x) : l.set i x = l := by
  apply List.ext_getElem?
  intro j
  rw [List.getElem?_set]
  split
  · rename_i e; subst e
    split
    · exact h.symm
    · rename_i hl; exact absurd (List.getElem?_eq_some_iff.1 h).1 hl
  · rfl
/-- all lists are as long as they were, those ahead of i with their own mark -/
def Mk (hs : List Sv) (kl : List (List Int)) (i : Nat) : Prop := hs.length = kl.length ∧ ∀ (j : Nat) (h : Sv) (l : List Int), hs[j]? = some h → kl[j]? = some l → h.n = l.length ∧ (j < i → ∀ y ∈ l, y = -20 - ((j : Nat) : Int))
theorem Mk.next {hs : List Sv} {kl : List (List Int)} {i : Nat} {h : Sv} {l : List Int} (hm : Mk hs kl i) (hi : hs[i]? = some h) (hn : h.n = l.length) (hl : ∀ y ∈ l, y = -20 - ((i : Nat) : Int)) : Mk hs (kl.set i l) (i + 1) := by
  refine ⟨by rw [List.length_set]; exact hm.1, fun j g m hg hk => ?_⟩
  rw [List.getElem?_set] at hk
  split at hk
  · rename_i e; subst e
    split at hk
    · cases hk; rw [hi] at hg; cases hg; exact ⟨hn, fun _ => hl⟩
    · cases hk
  · have := hm.2 j g m hg hk
    exact ⟨this.1, fun hj => this.2 (by omega)⟩
theorem set_mark {l : List Int} {k : Nat} {v : Int} (hk : k < l.length) (h : ∀ y ∈ l.take k, y = v) : ∀ y ∈ (l.set k v).take (k + 1), y = v := by
  intro y hy
  have e : (l.set k v)[k]? = some v := List.getElem?_set_self hk
  rw [take_at e] at hy
  rcases List.mem_append.1 hy with hy | hy
  · rw [List.take_set_of_le (Nat.le_refl _)] at hy; exact h y hy
  · simpa using hy
set_option maxHeartbeats 2000000 in
theorem kept_tr {b : Nat} {s : PS} (hl : s.lists.length ≤ 4194304) (hb : ∀ l ∈ s.lists, l.length ≤ 4398046511104) : Tr Try.prog 25 [.pointer (some ⟨b, 0, none⟩)] [] [pairH b s] (fun v m => v = .bool true ∧ m = []) := by
  intro w0 S0 H0
  obtain ⟨x, ⟨hxp, hxl, hxw⟩, H1⟩ := pairH.open_ H0 0 rfl rfl
  refine enterR Try.func25 rfl Try.ntmps25 rfl ?_
  intro g0
  refine seq_ ?_
  refine region_ ?_
  refine wl_valE (v := .bool false) rfl (rf_assign rfl) rfl ?_
  refine wl_nil ?_
  refine thn ?_
  refine seq_ ?_
  refine seq_ ?_
  refine region_ ?_
  refine wl_valE (v := .int .i64 (0 : Int)) rfl (rf_assign rfl) rfl ?_
  refine wl_nil ?_
  refine thn ?_
  refine block_ ?_
  refine loop_ (fun qk_ qf_ qw_ => ∃ (g : Nat → Value) (i : Nat), qf_ = upds g [(0, .pointer (some ⟨b, 0, none⟩)), (3, .int .i64 ((i : Nat) : Int))] ∧ qk_ = s.lists.length - i ∧ (i ≤ s.lists.length) ∧ St w0 S0 [] qw_ [blkH b #[.slice x.ac s.cs.length x.cc, .pointer (some ⟨x.pl, 0, none⟩), .pointer (some ⟨x.pr, 0, none⟩), .pointer (some ⟨x.pq, 0, none⟩), .slice x.al s.lists.length x.cl, .slice x.aw s.lists.length x.cw] 67, slH encOP 1 30 x.ac s.cs.length x.cc (x.ps.map some), ChH x.ps s.cs, lineH x.pl x.ps s.ts s.steps, refH x.pr s.cs, rlH x.pq x.pr s.ts s.steps, slH encSv 1 23 x.al s.lists.length x.cl x.hs, slH encSv 1 23 x.aw s.lists.length x.cw x.ws, ssH encI 1 3 x.hs s.lists, ssH encI 1 3 x.ws s.lists]) (s.lists.length - 0) ?_ ?_
  · refine ⟨_, 0, upds_self ⟨rfl, rfl, trivial⟩, rfl, Nat.zero_le _, H1.pick' [0, 1, 2, 3, 4, 5, 6, 7, 8, 9] rfl rfl⟩
  · rintro lk0 _ wl0 ⟨gl0, i, rfl, hlk0, hr0, HL0⟩
    refine seq_ ?_
    refine seq_ ?_
    refine region_ ?_
    refine wl_valE (v := .int .i64 ((i : Nat) : Int)) rfl (rf_move rfl) rfl ?_
    refine wl_valE (v := .pointer (some ⟨b, 0, none⟩)) rfl (rf_move rfl) rfl ?_
    refine wl_valE (v := .pointer (some ⟨b, 0, none⟩)) rfl (rf_nilCheckP rfl rfl) rfl ?_
    refine wl_valE (v := .pointer (some ⟨b, 4, none⟩)) rfl (rf_fieldAddr Try.underlying67 rfl ti65 rfl rfl) rfl ?_
    refine wl_valE (v := .slice x.al s.lists.length x.cl) rfl (rf_load Try.underlying65 rfl rfl rfl ((HL0.blk 0 rfl).cell rfl)) rfl ?_
    refine wl_valE (v := .int .i64 ((s.lists.length : Nat) : Int)) rfl (rf_len_slice Try.underlying65 rfl rfl) rfl ?_
    refine wl_valE (v := .bool (decide (((i : Nat) : Int) < ((s.lists.length : Nat) : Int)))) rfl (rf_lss rfl rfl rfl rfl) rfl ?_
    refine wl_nil ?_
    refine thn ?_
    refine cond_ (t := decide (((i : Nat) : Int) < ((s.lists.length : Nat) : Int))) rfl rfl (fun c19 => ?_) (fun c19 => ?_)
    · have c19p := of_decide_eq_true c19
      refine skip_ ?_
      refine thn ?_
      refine seq_ ?_
      refine block_ ?_
      refine seq_ ?_
      obtain ⟨hi_, hxi⟩ : ∃ q, x.hs[i]? = some q := ⟨_, List.getElem?_eq_getElem (by omega)⟩
      obtain ⟨wi_, hwi⟩ : ∃ q, x.ws[i]? = some q := ⟨_, List.getElem?_eq_getElem (by omega)⟩
      obtain ⟨li_, hli⟩ : ∃ q, s.lists[i]? = some q := ⟨_, List.getElem?_eq_getElem (by omega)⟩
      have hlb := hb _ (List.mem_of_getElem? hli)
      have hln := (rd_len (HL0.rdO 8 (ss_rd hxi hli))).1
      refine region_q mixedP (by kernel_rfl) ?_
      refine qt_valE (v := .pointer (some ⟨b, 0, none⟩)) rfl (fun wq hq => rf_move rfl) rfl ?_
      refine qt_valE (v := .pointer (some ⟨b, 0, none⟩)) rfl (fun wq hq => rf_nilCheckP rfl rfl) rfl ?_
      refine qt_valE (v := .pointer (some ⟨b, 4, none⟩)) rfl (fun wq hq => rf_fieldAddr Try.underlying67 rfl ti65 rfl rfl) rfl ?_
      refine qt_valE (v := .slice x.al s.lists.length x.cl) rfl (fun wq hq => rf_load Try.underlying65 rfl rfl rfl (((HL0.keep hq).blk 0 rfl).cell rfl)) rfl ?_
      refine qt_valE (v := .int .i64 ((i : Nat) : Int)) rfl (fun wq hq => rf_move rfl) rfl ?_
      refine qt_valE (v := .pointer (some ⟨ab x.al, ao x.al + i * 1, none⟩)) rfl (fun wq hq => rf_indexAddrH Try.underlying65 ti23 rfl rfl rfl rfl (by omega) (by omega) ((HL0.keep hq).rdO 6 slH_rd)) rfl ?_
      refine qt_valE (v := .slice hi_.a hi_.n hi_.c) rfl (fun wq hq => rf_load Try.underlying23 rfl rfl rfl (rd_el ((HL0.keep hq).rdO 6 slH_rd) hxi 0 _ rfl)) rfl ?_
      refine qt_valE (v := .pointer (some ⟨b, 0, none⟩)) rfl (fun wq hq => rf_move rfl) rfl ?_
      refine qt_valE (v := .pointer (some ⟨b, 0, none⟩)) rfl (fun wq hq => rf_nilCheckP rfl rfl) rfl ?_
      refine qt_valE (v := .pointer (some ⟨b, 5, none⟩)) rfl (fun wq hq => rf_fieldAddr Try.underlying67 rfl ti65 rfl rfl) rfl ?_
      refine qt_valE (v := .slice x.aw s.lists.length x.cw) rfl (fun wq hq => rf_load Try.underlying65 rfl rfl rfl (((HL0.keep hq).blk 0 rfl).cell rfl)) rfl ?_
      refine qt_valE (v := .int .i64 ((i : Nat) : Int)) rfl (fun wq hq => rf_move rfl) rfl ?_
      refine qt_valE (v := .pointer (some ⟨ab x.aw, ao x.aw + i * 1, none⟩)) rfl (fun wq hq => rf_indexAddrH Try.underlying65 ti23 rfl rfl rfl rfl (by omega) (by omega) ((HL0.keep hq).rdO 7 slH_rd)) rfl ?_
      refine qt_valE (v := .slice wi_.a wi_.n wi_.c) rfl (fun wq hq => rf_load Try.underlying23 rfl rfl rfl (rd_el ((HL0.keep hq).rdO 7 slH_rd) hwi 0 _ rfl)) rfl ?_
      refine qt_ret (v := .bool (decide (li_ = li_))) rfl (fun wq hq => ((same_tr hi_.a hi_.n hi_.c li_ wi_.a wi_.n wi_.c li_ (by omega)).quiet (HL0.keep hq) (.own 8 rfl (ss_rd hxi hli) (.own 9 rfl (ss_rd hwi hli) .nil)) (by rintro _ _ ⟨rfl, rfl⟩; exact rfl)).mono (fun _ _ h => ⟨h.1, hq.trans h.2⟩)) (fun wq hq => rf_call Try.call27 rfl rfl) ?_
      refine qt_valE (v := .bool (decide (li_ = li_))) rfl (fun wq hq => rf_assign rfl) rfl ?_
      refine qt_nil ?_
      intro w2 hk2
      have H2 := HL0.keep hk2
      refine thn ?_
      refine seq_ ?_
      refine region_ ?_
      refine wl_valE (v := .bool (decide (li_ = li_))) rfl (rf_move rfl) rfl ?_
      refine wl_valE (v := .bool (!(decide (li_ = li_)))) rfl (rf_not rfl rfl) rfl ?_
      refine wl_nil ?_
      refine thn ?_
      refine condF' rfl rfl (t := !(decide (li_ = li_))) ((by simp)) ?_
      refine skip_ ?_
      refine bln ?_
      refine thn ?_
      refine region_ ?_
      refine wl_valE (v := .int .i64 ((i : Nat) : Int)) rfl (rf_move rfl) rfl ?_
      refine wl_valE (v := .int .i64 ((i + 1 : Nat) : Int)) rfl (rf_add rfl rfl rfl rfl (IntWalk.i64_in _ (by omega))) rfl ?_
      refine wl_valE (v := .int .i64 ((i + 1 : Nat) : Int)) rfl (rf_assign rfl) rfl ?_
      refine wl_nil ?_
      refine thn ?_
      refine ⟨s.lists.length - (i + 1), _, rfl, (by omega), _, i + 1, upds_self ⟨rfl, rfl, trivial⟩, rfl, by omega, H2.pick' [0, 1, 2, 3, 4, 5, 6, 7, 8, 9] rfl rfl⟩
    · have c19p := of_decide_eq_false c19
      refine exit_ ?_
      refine thx (thx (blx ?_))
      refine thn ?_
      refine seq_ ?_
      refine seq_ ?_
      refine region_ ?_
      refine wl_valE (v := .int .i64 (0 : Int)) rfl (rf_assign rfl) rfl ?_
      refine wl_nil ?_
      refine thn ?_
      refine block_ ?_
      have hmk0 : Mk x.hs s.lists 0 := ⟨hxl, fun j h l h1 h2 => ⟨(rd_len (HL0.rdO 8 (ss_rd h1 h2))).1, fun hj => by omega⟩⟩
      refine loop_ (fun qk_ qf_ qw_ => ∃ (g : Nat → Value) (i : Nat) (kl : List (List Int)), qf_ = upds g [(0, .pointer (some ⟨b, 0, none⟩)), (5, .int .i64 ((i : Nat) : Int))] ∧ qk_ = s.lists.length - i ∧ (i ≤ s.lists.length) ∧ (Mk x.hs kl i ∧ (∀ l ∈ kl, l.length ≤ 4398046511104)) ∧ St w0 S0 [] qw_ [blkH b #[.slice x.ac s.cs.length x.cc, .pointer (some ⟨x.pl, 0, none⟩), .pointer (some ⟨x.pr, 0, none⟩), .pointer (some ⟨x.pq, 0, none⟩), .slice x.al s.lists.length x.cl, .slice x.aw s.lists.length x.cw] 67, slH encSv 1 23 x.al s.lists.length x.cl x.hs, ssH encI 1 3 x.hs kl]) (s.lists.length - 0) ?_ ?_
      · refine ⟨_, 0, s.lists, upds_self ⟨rfl, rfl, trivial⟩, rfl, Nat.zero_le _, ⟨hmk0, hb⟩, HL0.pick' [0, 6, 8] rfl rfl⟩
      · rintro lk1 _ wl1 ⟨gl1, i, kl, rfl, hlk1, hr0, ⟨hmk, hkb⟩, HL1⟩
        refine seq_ ?_
        refine seq_ ?_
        refine region_ ?_
        refine wl_valE (v := .int .i64 ((i : Nat) : Int)) rfl (rf_move rfl) rfl ?_
        refine wl_valE (v := .pointer (some ⟨b, 0, none⟩)) rfl (rf_move rfl) rfl ?_
        refine wl_valE (v := .pointer (some ⟨b, 0, none⟩)) rfl (rf_nilCheckP rfl rfl) rfl ?_
        refine wl_valE (v := .pointer (some ⟨b, 4, none⟩)) rfl (rf_fieldAddr Try.underlying67 rfl ti65 rfl rfl) rfl ?_
        refine wl_valE (v := .slice x.al s.lists.length x.cl) rfl (rf_load Try.underlying65 rfl rfl rfl ((HL1.blk 0 rfl).cell rfl)) rfl ?_
        refine wl_valE (v := .int .i64 ((s.lists.length : Nat) : Int)) rfl (rf_len_slice Try.underlying65 rfl rfl) rfl ?_
        refine wl_valE (v := .bool (decide (((i : Nat) : Int) < ((s.lists.length : Nat) : Int)))) rfl (rf_lss rfl rfl rfl rfl) rfl ?_
        refine wl_nil ?_
        refine thn ?_
        refine cond_ (t := decide (((i : Nat) : Int) < ((s.lists.length : Nat) : Int))) rfl rfl (fun c45 => ?_) (fun c45 => ?_)
        · have c45p := of_decide_eq_true c45
          refine skip_ ?_
          refine thn ?_
          refine seq_ ?_
          refine block_ ?_
          refine seq_ ?_
          obtain ⟨hi_, hxi⟩ : ∃ q, x.hs[i]? = some q := ⟨_, List.getElem?_eq_getElem (by omega)⟩
          have hkl := hmk.1
          obtain ⟨li_, hli⟩ : ∃ q, kl[i]? = some q := ⟨_, List.getElem?_eq_getElem (by omega)⟩
          have hlb := hkb _ (List.mem_of_getElem? hli)
          have hln := (hmk.2 i hi_ li_ hxi hli).1
          have H3 := HL1.ssTake 2 rfl rfl hxi hli
          refine region_ ?_
          refine wl_valE (v := .int .i64 (0 : Int)) rfl (rf_assign rfl) rfl ?_
          refine wl_nil ?_
          refine thn ?_
          refine block_ ?_
          refine loop_ (fun qk_ qf_ qw_ => ∃ (g : Nat → Value) (k : Nat) (ml : List Int), qf_ = upds g [(0, .pointer (some ⟨b, 0, none⟩)), (5, .int .i64 ((i : Nat) : Int)), (6, .int .i64 ((k : Nat) : Int))] ∧ qk_ = hi_.n - k ∧ (k ≤ hi_.n ∧ ml.length = hi_.n) ∧ (∀ y ∈ ml.take k, y = -20 - ((i : Nat) : Int)) ∧ St w0 S0 [] qw_ [blkH b #[.slice x.ac s.cs.length x.cc, .pointer (some ⟨x.pl, 0, none⟩), .pointer (some ⟨x.pr, 0, none⟩), .pointer (some ⟨x.pq, 0, none⟩), .slice x.al s.lists.length x.cl, .slice x.aw s.lists.length x.cw] 67, slH encSv 1 23 x.al s.lists.length x.cl x.hs, ssO encI 1 3 x.hs kl i, slH encI 1 3 hi_.a hi_.n hi_.c ml]) (hi_.n - 0) ?_ ?_
          · refine ⟨_, 0, li_, upds_self ⟨rfl, rfl, rfl, trivial⟩, rfl, ⟨Nat.zero_le _, hln.symm⟩, (fun y hy => by simp at hy), H3.pick' [0, 1, 2, 3] rfl rfl⟩
          · rintro lk2 _ wl2 ⟨gl2, k, ml, rfl, hlk2, ⟨hk0, hml⟩, hm1, HL2⟩
            refine seq_ ?_
            refine seq_ ?_
            refine region_ ?_
            refine wl_valE (v := .int .i64 ((k : Nat) : Int)) rfl (rf_move rfl) rfl ?_
            refine wl_valE (v := .pointer (some ⟨b, 0, none⟩)) rfl (rf_move rfl) rfl ?_
            refine wl_valE (v := .pointer (some ⟨b, 0, none⟩)) rfl (rf_nilCheckP rfl rfl) rfl ?_
            refine wl_valE (v := .pointer (some ⟨b, 4, none⟩)) rfl (rf_fieldAddr Try.underlying67 rfl ti65 rfl rfl) rfl ?_
            refine wl_valE (v := .slice x.al s.lists.length x.cl) rfl (rf_load Try.underlying65 rfl rfl rfl ((HL2.blk 0 rfl).cell rfl)) rfl ?_
            refine wl_valE (v := .int .i64 ((i : Nat) : Int)) rfl (rf_move rfl) rfl ?_
            refine wl_valE (v := .pointer (some ⟨ab x.al, ao x.al + i * 1, none⟩)) rfl (rf_indexAddrH Try.underlying65 ti23 rfl rfl rfl rfl (by omega) (by omega) (HL2.rdO 1 slH_rd)) rfl ?_
            refine wl_valE (v := .slice hi_.a hi_.n hi_.c) rfl (rf_load Try.underlying23 rfl rfl rfl (rd_el (HL2.rdO 1 slH_rd) hxi 0 _ rfl)) rfl ?_
            refine wl_valE (v := .int .i64 ((hi_.n : Nat) : Int)) rfl (rf_len_slice Try.underlying23 rfl rfl) rfl ?_
            refine wl_valE (v := .bool (decide (((k : Nat) : Int) < ((hi_.n : Nat) : Int)))) rfl (rf_lss rfl rfl rfl rfl) rfl ?_
            refine wl_nil ?_
            refine thn ?_
            refine cond_ (t := decide (((k : Nat) : Int) < ((hi_.n : Nat) : Int))) rfl rfl (fun c57 => ?_) (fun c57 => ?_)
            · have c57p := of_decide_eq_true c57
              refine skip_ ?_
              refine thn ?_
              refine seq_ ?_
              refine block_ ?_
              refine region_ ?_
              refine wl_valE (v := .pointer (some ⟨b, 0, none⟩)) rfl (rf_move rfl) rfl ?_
              refine wl_valE (v := .pointer (some ⟨b, 0, none⟩)) rfl (rf_nilCheckP rfl rfl) rfl ?_
              refine wl_valE (v := .pointer (some ⟨b, 4, none⟩)) rfl (rf_fieldAddr Try.underlying67 rfl ti65 rfl rfl) rfl ?_
              refine wl_valE (v := .slice x.al s.lists.length x.cl) rfl (rf_load Try.underlying65 rfl rfl rfl ((HL2.blk 0 rfl).cell rfl)) rfl ?_
              refine wl_valE (v := .int .i64 ((i : Nat) : Int)) rfl (rf_move rfl) rfl ?_
              refine wl_valE (v := .pointer (some ⟨ab x.al, ao x.al + i * 1, none⟩)) rfl (rf_indexAddrH Try.underlying65 ti23 rfl rfl rfl rfl (by omega) (by omega) (HL2.rdO 1 slH_rd)) rfl ?_
              refine wl_valE (v := .slice hi_.a hi_.n hi_.c) rfl (rf_load Try.underlying23 rfl rfl rfl (rd_el (HL2.rdO 1 slH_rd) hxi 0 _ rfl)) rfl ?_
              refine wl_valE (v := .int .i64 ((k : Nat) : Int)) rfl (rf_move rfl) rfl ?_
              refine wl_valE (v := .int .i64 ((i : Nat) : Int)) rfl (rf_move rfl) rfl ?_
              refine wl_valE (v := .int .i64 ((-20 : Int) - ((i : Nat) : Int))) rfl (rf_sub rfl rfl rfl rfl (IntWalk.i64_in _ (by omega))) rfl ?_
              refine wl_valE (v := .pointer (some ⟨ab hi_.a, ao hi_.a + k * 1, none⟩)) rfl (rf_indexAddrH Try.underlying23 ti3 rfl rfl rfl rfl (by omega) (by omega) (HL2.rdO 3 slH_rd)) rfl ?_
              have hn5 := slH_len HL2 3 rfl
              obtain ⟨x4, hx4⟩ : ∃ q_, ml[k]? = some q_ := ⟨_, List.getElem?_eq_getElem (by omega)⟩
              refine wl_storeElH HL2 3 (enc := encI) (i := k) (j := 0) (q := ((-20 : Int) - ((i : Nat) : Int))) (u := .int .i64 ((-20 : Int) - ((i : Nat) : Int))) (cs := [.int .i64 ((-20 : Int) - ((i : Nat) : Int))]) rfl rfl encI_len ti3 rfl rfl rfl rfl rfl rfl oneAll hx4 (leb rfl) rfl ?_
              intro w6 H6
              have hx6 : (ml.set k ((-20 : Int) - ((i : Nat) : Int)))[k]? = some ((-20 : Int) - ((i : Nat) : Int)) := List.getElem?_set_self (List.getElem?_eq_some_iff.1 hx4).1
              have hn6 := slH_len H6 3 rfl
              refine wl_nil ?_
              refine bln ?_
              refine thn ?_
              refine region_ ?_
              refine wl_valE (v := .int .i64 ((k : Nat) : Int)) rfl (rf_move rfl) rfl ?_
              refine wl_valE (v := .int .i64 ((k + 1 : Nat) : Int)) rfl (rf_add rfl rfl rfl rfl (IntWalk.i64_in _ (by omega))) rfl ?_
              refine wl_valE (v := .int .i64 ((k + 1 : Nat) : Int)) rfl (rf_assign rfl) rfl ?_
              refine wl_nil ?_
              refine thn ?_
              refine ⟨hi_.n - (k + 1), _, rfl, (by omega), _, k + 1, (ml.set k ((-20 : Int) - ((i : Nat) : Int))), upds_self ⟨rfl, rfl, rfl, trivial⟩, rfl, ⟨by omega, by simp; exact hml⟩, set_mark (by omega) hm1, H6.pick' [0, 1, 2, 3] rfl rfl⟩
            · have c57p := of_decide_eq_false c57
              refine exit_ ?_
              refine thx (thx (blx ?_))
              refine bln ?_
              refine thn ?_
              refine region_ ?_
              refine wl_valE (v := .int .i64 ((i : Nat) : Int)) rfl (rf_move rfl) rfl ?_
              refine wl_valE (v := .int .i64 ((i + 1 : Nat) : Int)) rfl (rf_add rfl rfl rfl rfl (IntWalk.i64_in _ (by omega))) rfl ?_
              refine wl_valE (v := .int .i64 ((i + 1 : Nat) : Int)) rfl (rf_assign rfl) rfl ?_
              refine wl_nil ?_
              refine thn ?_
              have H7 := St.ssGive (t := hi_) (m := ml) HL2 2 3 rfl rfl rfl hmk.1 (by omega)
              rw [set_self hxi] at H7
              refine ⟨s.lists.length - (i + 1), _, rfl, (by omega), _, i + 1, (kl.set i ml), upds_self ⟨rfl, rfl, trivial⟩, rfl, by omega, ⟨hmk.next hxi (by omega) (by have := hm1; rw [List.take_of_length_le (by omega)] at this; exact this), fun l hl => (List.mem_or_eq_of_mem_set hl).elim (hkb l) (fun h => by subst h; omega)⟩, H7.pick' [0, 1, 2] rfl rfl⟩
        · have c45p := of_decide_eq_false c45
          refine exit_ ?_
          refine thx (thx (blx ?_))
          refine thn ?_
          refine seq_ ?_
          refine region_ ?_
          refine wl_allocH HL1 ti75 ?_
          intro b7 w9 H9
          refine wl_nil ?_
          refine thn ?_
          refine seq_ ?_
          refine seq_ ?_
          refine region_ ?_
          refine wl_valE (v := .int .i64 (0 : Int)) rfl (rf_assign rfl) rfl ?_
          refine wl_nil ?_
          refine thn ?_
          refine block_ ?_
          have hkl := hmk.1
          refine loop_ (fun qk_ qf_ qw_ => ∃ (g : Nat → Value) (i : Nat), qf_ = upds g [(0, .pointer (some ⟨b, 0, none⟩)), (7, .pointer (some ⟨b7, 0, none⟩)), (8, .int .i64 ((i : Nat) : Int))] ∧ qk_ = s.lists.length - i ∧ (i ≤ s.lists.length) ∧ St w0 S0 [] qw_ [blkH b #[.slice x.ac s.cs.length x.cc, .pointer (some ⟨x.pl, 0, none⟩), .pointer (some ⟨x.pr, 0, none⟩), .pointer (some ⟨x.pq, 0, none⟩), .slice x.al s.lists.length x.cl, .slice x.aw s.lists.length x.cw] 67, slH encSv 1 23 x.al s.lists.length x.cl x.hs, ssH encI 1 3 x.hs kl, blkH b7 #[.int .i64 (0 : Int), .int .i64 (0 : Int), .int .i64 (0 : Int), .int .i64 (0 : Int), .int .i64 (0 : Int), .int .i64 (0 : Int), .int .i64 (0 : Int), .int .i64 (0 : Int), .int .i64 (0 : Int), .int .i64 (0 : Int), .int .i64 (0 : Int), .int .i64 (0 : Int), .int .i64 (0 : Int), .int .i64 (0 : Int), .int .i64 (0 : Int), .int .i64 (0 : Int), .int .i64 (0 : Int), .int .i64 (0 : Int), .int .i64 (0 : Int), .int .i64 (0 : Int), .int .i64 (0 : Int), .int .i64 (0 : Int), .int .i64 (0 : Int), .int .i64 (0 : Int), .int .i64 (0 : Int), .int .i64 (0 : Int), .int .i64 (0 : Int), .int .i64 (0 : Int), .int .i64 (0 : Int), .int .i64 (0 : Int), .int .i64 (0 : Int), .int .i64 (0 : Int), .int .i64 (0 : Int), .int .i64 (0 : Int), .int .i64 (0 : Int), .int .i64 (0 : Int), .int .i64 (0 : Int), .int .i64 (0 : Int), .int .i64 (0 : Int), .int .i64 (0 : Int), .int .i64 (0 : Int), .int .i64 (0 : Int), .int .i64 (0 : Int), .int .i64 (0 : Int), .int .i64 (0 : Int), .int .i64 (0 : Int), .int .i64 (0 : Int), .int .i64 (0 : Int), .int .i64 (0 : Int), .int .i64 (0 : Int), .int .i64 (0 : Int), .int .i64 (0 : Int), .int .i64 (0 : Int), .int .i64 (0 : Int), .int .i64 (0 : Int), .int .i64 (0 : Int), .int .i64 (0 : Int), .int .i64 (0 : Int), .int .i64 (0 : Int), .int .i64 (0 : Int), .int .i64 (0 : Int), .int .i64 (0 : Int), .int .i64 (0 : Int), .int .i64 (0 : Int)] 75]) (s.lists.length - 0) ?_ ?_
          · refine ⟨_, 0, upds_self ⟨rfl, rfl, rfl, trivial⟩, rfl, Nat.zero_le _, H9.pick' [0, 1, 2, 3] rfl rfl⟩
          · rintro lk3 _ wl3 ⟨gl3, i, rfl, hlk3, hr1, HL3⟩
            refine seq_ ?_
            refine seq_ ?_
            refine region_ ?_
            refine wl_valE (v := .int .i64 ((i : Nat) : Int)) rfl (rf_move rfl) rfl ?_
            refine wl_valE (v := .pointer (some ⟨b, 0, none⟩)) rfl (rf_move rfl) rfl ?_
            refine wl_valE (v := .pointer (some ⟨b, 0, none⟩)) rfl (rf_nilCheckP rfl rfl) rfl ?_
            refine wl_valE (v := .pointer (some ⟨b, 4, none⟩)) rfl (rf_fieldAddr Try.underlying67 rfl ti65 rfl rfl) rfl ?_
            refine wl_valE (v := .slice x.al s.lists.length x.cl) rfl (rf_load Try.underlying65 rfl rfl rfl ((HL3.blk 0 rfl).cell rfl)) rfl ?_
            refine wl_valE (v := .int .i64 ((s.lists.length : Nat) : Int)) rfl (rf_len_slice Try.underlying65 rfl rfl) rfl ?_
            refine wl_valE (v := .bool (decide (((i : Nat) : Int) < ((s.lists.length : Nat) : Int)))) rfl (rf_lss rfl rfl rfl rfl) rfl ?_
            refine wl_nil ?_
            refine thn ?_
            refine cond_ (t := decide (((i : Nat) : Int) < ((s.lists.length : Nat) : Int))) rfl rfl (fun c77 => ?_) (fun c77 => ?_)
            · have c77p := of_decide_eq_true c77
              refine skip_ ?_
              refine thn ?_
              refine seq_ ?_
              refine block_ ?_
              refine seq_ ?_
              obtain ⟨hi_, hxi⟩ : ∃ q, x.hs[i]? = some q := ⟨_, List.getElem?_eq_getElem (by omega)⟩
              obtain ⟨li_, hli⟩ : ∃ q, kl[i]? = some q := ⟨_, List.getElem?_eq_getElem (by omega)⟩
              have hlb := hkb _ (List.mem_of_getElem? hli)
              have hln := (hmk.2 i hi_ li_ hxi hli).1
              have H10 := HL3.ssTake 2 rfl rfl hxi hli
              have H11 : St w0 S0 [] wl3 (setH _ 4 (growH encI 1 3 hi_.a hi_.n hi_.c li_ hi_.a hi_.n hi_.c li_)) := H10.le 4 (slH_grow hln) rfl
              dsimp only [putsH, setH, List.cons_append, List.nil_append] at H11
              refine region_ ?_
              refine wl_valE (v := .pointer (some ⟨b, 0, none⟩)) rfl (rf_move rfl) rfl ?_
              refine wl_valE (v := .pointer (some ⟨b, 0, none⟩)) rfl (rf_nilCheckP rfl rfl) rfl ?_
              refine wl_valE (v := .pointer (some ⟨b, 4, none⟩)) rfl (rf_fieldAddr Try.underlying67 rfl ti65 rfl rfl) rfl ?_
              refine wl_valE (v := .slice x.al s.lists.length x.cl) rfl (rf_load Try.underlying65 rfl rfl rfl ((H11.blk 0 rfl).cell rfl)) rfl ?_
              refine wl_valE (v := .int .i64 ((i : Nat) : Int)) rfl (rf_move rfl) rfl ?_
              refine wl_valE (v := .pointer (some ⟨ab x.al, ao x.al + i * 1, none⟩)) rfl (rf_indexAddrH Try.underlying65 ti23 rfl rfl rfl rfl (by omega) (by omega) (H11.rdO 1 slH_rd)) rfl ?_
              refine wl_valE (v := .slice hi_.a hi_.n hi_.c) rfl (rf_load Try.underlying23 rfl rfl rfl (rd_el (H11.rdO 1 slH_rd) hxi 0 _ rfl)) rfl ?_
              refine wl_valE (v := .slice hi_.a hi_.n hi_.c) rfl (rf_assign rfl) rfl ?_
              refine wl_nil ?_
              refine thn ?_
              refine seq_ ?_
              refine seq_ ?_
              refine region_ ?_
              refine wl_valE (v := .int .i64 (0 : Int)) rfl (rf_assign rfl) rfl ?_
              refine wl_nil ?_
              refine thn ?_
              refine block_ ?_
              refine loop_ (fun qk_ qf_ qw_ => ∃ (g : Nat → Value) (k : Nat) (ag : Option Addr) (cg : Nat) (lg : List Int), qf_ = upds g [(0, .pointer (some ⟨b, 0, none⟩)), (7, .pointer (some ⟨b7, 0, none⟩)), (8, .int .i64 ((i : Nat) : Int)), (9, .slice ag (hi_.n + k) cg), (10, .int .i64 ((k : Nat) : Int))] ∧ qk_ = 24 - k ∧ (k ≤ 24) ∧ St w0 S0 [] qw_ [blkH b #[.slice x.ac s.cs.length x.cc, .pointer (some ⟨x.pl, 0, none⟩), .pointer (some ⟨x.pr, 0, none⟩), .pointer (some ⟨x.pq, 0, none⟩), .slice x.al s.lists.length x.cl, .slice x.aw s.lists.length x.cw] 67, slH encSv 1 23 x.al s.lists.length x.cl x.hs, ssO encI 1 3 x.hs kl i, blkH b7 #[.int .i64 (0 : Int), .int .i64 (0 : Int), .int .i64 (0 : Int), .int .i64 (0 : Int), .int .i64 (0 : Int), .int .i64 (0 : Int), .int .i64 (0 : Int), .int .i64 (0 : Int), .int .i64 (0 : Int), .int .i64 (0 : Int), .int .i64 (0 : Int), .int .i64 (0 : Int), .int .i64 (0 : Int), .int .i64 (0 : Int), .int .i64 (0 : Int), .int .i64 (0 : Int), .int .i64 (0 : Int), .int .i64 (0 : Int), .int .i64 (0 : Int), .int .i64 (0 : Int), .int .i64 (0 : Int), .int .i64 (0 : Int), .int .i64 (0 : Int), .int .i64 (0 : Int), .int .i64 (0 : Int), .int .i64 (0 : Int), .int .i64 (0 : Int), .int .i64 (0 : Int), .int .i64 (0 : Int), .int .i64 (0 : Int), .int .i64 (0 : Int), .int .i64 (0 : Int), .int .i64 (0 : Int), .int .i64 (0 : Int), .int .i64 (0 : Int), .int .i64 (0 : Int), .int .i64 (0 : Int), .int .i64 (0 : Int), .int .i64 (0 : Int), .int .i64 (0 : Int), .int .i64 (0 : Int), .int .i64 (0 : Int), .int .i64 (0 : Int), .int .i64 (0 : Int), .int .i64 (0 : Int), .int .i64 (0 : Int), .int .i64 (0 : Int), .int .i64 (0 : Int), .int .i64 (0 : Int), .int .i64 (0 : Int), .int .i64 (0 : Int), .int .i64 (0 : Int), .int .i64 (0 : Int), .int .i64 (0 : Int), .int .i64 (0 : Int), .int .i64 (0 : Int), .int .i64 (0 : Int), .int .i64 (0 : Int), .int .i64 (0 : Int), .int .i64 (0 : Int), .int .i64 (0 : Int), .int .i64 (0 : Int), .int .i64 (0 : Int), .int .i64 (0 : Int)] 75, growH encI 1 3 hi_.a hi_.n hi_.c li_ ag (hi_.n + k) cg lg]) (24 - 0) ?_ ?_
              · refine ⟨_, 0, hi_.a, hi_.c, li_, upds_self ⟨rfl, rfl, rfl, rfl, rfl, trivial⟩, rfl, Nat.zero_le _, H11.pick' [0, 1, 2, 3, 4] rfl rfl⟩
              · rintro lk4 _ wl4 ⟨gl4, k, ag, cg, lg, rfl, hlk4, hk2, HL4⟩
                refine seq_ ?_
                refine seq_ ?_
                refine region_ ?_
                refine wl_valE (v := .int .i64 ((k : Nat) : Int)) rfl (rf_move rfl) rfl ?_
                refine wl_valE (v := .bool (decide (((k : Nat) : Int) < (24 : Int)))) rfl (rf_lss rfl rfl rfl rfl) rfl ?_
                refine wl_nil ?_
                refine thn ?_
                refine cond_ (t := decide (((k : Nat) : Int) < (24 : Int))) rfl rfl (fun c88 => ?_) (fun c88 => ?_)
                · have c88p := of_decide_eq_true c88
                  refine skip_ ?_
                  refine thn ?_
                  refine seq_ ?_
                  refine block_ ?_
                  refine region_ ?_
                  refine wl_valE (v := .slice ag (hi_.n + k) cg) rfl (rf_move rfl) rfl ?_
                  refine wl_buildSliceH (enc := encI) HL4 [(1 : Int)] encI_len Try.underlying23 ti3 rfl rfl rfl (.cons rfl rfl rfl rfl rfl rfl .nil) ?_
                  intro a12 w13 H13
                  refine wl_appendGH (enc := encI) (N := hi_.n + (k + 1)) H13 4 rfl rfl encI_len encI_one Try.underlying23 ti3 rfl rfl rfl rfl rfl (H13.rdO 5 slH_rd) rfl (by omega) (by omega) ?_
                  intro a14 c14 w14 H14
                  refine wl_valE (v := .slice a14 (hi_.n + (k + 1)) c14) rfl (rf_assign rfl) rfl ?_
                  refine wl_nil ?_
                  refine bln ?_
                  refine thn ?_
                  refine region_ ?_
                  refine wl_valE (v := .int .i64 ((k : Nat) : Int)) rfl (rf_move rfl) rfl ?_
                  refine wl_valE (v := .int .i64 ((k + 1 : Nat) : Int)) rfl (rf_add rfl rfl rfl rfl (IntWalk.i64_in _ (by omega))) rfl ?_
                  refine wl_valE (v := .int .i64 ((k + 1 : Nat) : Int)) rfl (rf_assign rfl) rfl ?_
                  refine wl_nil ?_
                  refine thn ?_
                  refine ⟨24 - (k + 1), _, rfl, (by omega), _, k + 1, a14, c14, (lg ++ ([(1 : Int)])), upds_self ⟨rfl, rfl, rfl, rfl, rfl, trivial⟩, rfl, by omega, H14.pick' [0, 1, 2, 3, 4] rfl rfl⟩
                · have c88p := of_decide_eq_false c88
                  refine exit_ ?_
                  refine thx (thx (blx ?_))
                  refine thn ?_
                  have H15 : St w0 S0 [] wl4 (setH _ 4 (slH encI 1 3 hi_.a hi_.n hi_.c li_)) := HL4.le 4 growH_old rfl
                  have H16 : St w0 S0 [] wl4 (setH _ 4 (growH encI 1 3 hi_.a hi_.n hi_.c li_ hi_.a hi_.n hi_.c li_)) := H15.le 4 (slH_grow hln) rfl
                  dsimp only [putsH, setH, List.cons_append, List.nil_append] at H16
                  refine region_h (S := (fun wq => St w0 S0 [] wq [blkH b #[.slice x.ac s.cs.length x.cc, .pointer (some ⟨x.pl, 0, none⟩), .pointer (some ⟨x.pr, 0, none⟩), .pointer (some ⟨x.pq, 0, none⟩), .slice x.al s.lists.length x.cl, .slice x.aw s.lists.length x.cw] 67, slH encSv 1 23 x.al s.lists.length x.cl x.hs])) mixedP ?_
                  intro w17 hk17
                  have H17 := H16.keep hk17
                  have hS17 : St w0 S0 [] w17 [blkH b #[.slice x.ac s.cs.length x.cc, .pointer (some ⟨x.pl, 0, none⟩), .pointer (some ⟨x.pr, 0, none⟩), .pointer (some ⟨x.pq, 0, none⟩), .slice x.al s.lists.length x.cl, .slice x.aw s.lists.length x.cw] 67, slH encSv 1 23 x.al s.lists.length x.cl x.hs] := H17.pick' [0, 1] rfl rfl
                  refine wh_take (i := 0) (v := .pointer (some ⟨b, 0, none⟩)) rfl (by kernel_rfl) (by kernel_rfl) (by kernel_rfl) hS17 rfl (fun wq hq => rf_move rfl) rfl ?_
                  refine wh_take (i := 1) (v := .pointer (some ⟨b, 0, none⟩)) rfl (by kernel_rfl) (by kernel_rfl) (by kernel_rfl) hS17 rfl (fun wq hq => rf_nilCheckP rfl rfl) rfl ?_
                  refine wh_take (i := 2) (v := .pointer (some ⟨b, 4, none⟩)) rfl (by kernel_rfl) (by kernel_rfl) (by kernel_rfl) hS17 rfl (fun wq hq => rf_fieldAddr Try.underlying67 rfl ti65 rfl rfl) rfl ?_
                  refine wh_take (i := 3) (v := .slice x.al s.lists.length x.cl) rfl (by kernel_rfl) (by kernel_rfl) (by kernel_rfl) hS17 rfl (fun wq hq => rf_load Try.underlying65 rfl rfl rfl ((hq.blk 0 rfl).cell rfl)) rfl ?_
                  refine wh_take (i := 4) (v := .int .i64 ((i : Nat) : Int)) rfl (by kernel_rfl) (by kernel_rfl) (by kernel_rfl) hS17 rfl (fun wq hq => rf_move rfl) rfl ?_
                  refine wh_take (i := 5) (v := .pointer (some ⟨ab x.al, ao x.al + i * 1, none⟩)) rfl (by kernel_rfl) (by kernel_rfl) (by kernel_rfl) hS17 rfl (fun wq hq => rf_indexAddrH Try.underlying65 ti23 rfl rfl rfl rfl (by omega) (by omega) (hq.rdO 1 slH_rd)) rfl ?_
                  refine wh_take (i := 6) (v := .slice hi_.a hi_.n hi_.c) rfl (by kernel_rfl) (by kernel_rfl) (by kernel_rfl) hS17 rfl (fun wq hq => rf_load Try.underlying23 rfl rfl rfl (rd_el (hq.rdO 1 slH_rd) hxi 0 _ rfl)) rfl ?_
                  refine wh_take (i := 7) (v := .slice (some ⟨b7, 0, none⟩) 64 64) rfl (by kernel_rfl) (by kernel_rfl) (by kernel_rfl) hS17 rfl (fun wq hq => rf_sliceArr (ta := 0) Try.underlying75 ti3 rfl rfl) rfl ?_
                  refine wh_one (i := 8) (by kernel_rfl) rfl ?_
                  refine wl_appendGH (enc := encI) (N := hi_.n + 64) H17 4 rfl rfl encI_len encI_one Try.underlying23 ti3 rfl rfl rfl rfl rfl (H17.rdO 3 (blk_rd (l := List.replicate 64 (0 : Int)) encI_len (by decide) rfl)) rfl (by omega) (by omega) ?_
                  intro a18 c18 w18 H18
                  refine wl_nil ?_
                  have hS19 : St w0 S0 [] w18 [blkH b #[.slice x.ac s.cs.length x.cc, .pointer (some ⟨x.pl, 0, none⟩), .pointer (some ⟨x.pr, 0, none⟩), .pointer (some ⟨x.pq, 0, none⟩), .slice x.al s.lists.length x.cl, .slice x.aw s.lists.length x.cw] 67, slH encSv 1 23 x.al s.lists.length x.cl x.hs] := H18.pick' [0, 1] rfl rfl
                  refine wh_back hS19 ?_
                  refine wh_take (i := 9) (v := .slice a18 (hi_.n + 64) c18) rfl (by kernel_rfl) (by kernel_rfl) (by kernel_rfl) hS19 rfl (fun wq hq => rf_assign rfl) rfl ?_
                  refine wh_done (by kernel_rfl) ?_
                  refine bln ?_
                  refine thn ?_
                  refine region_ ?_
                  refine wl_valE (v := .int .i64 ((i : Nat) : Int)) rfl (rf_move rfl) rfl ?_
                  refine wl_valE (v := .int .i64 ((i + 1 : Nat) : Int)) rfl (rf_add rfl rfl rfl rfl (IntWalk.i64_in _ (by omega))) rfl ?_
                  refine wl_valE (v := .int .i64 ((i + 1 : Nat) : Int)) rfl (rf_assign rfl) rfl ?_
                  refine wl_nil ?_
                  refine thn ?_
                  have H20 : St w0 S0 [] w18 (setH _ 4 (slH encI 1 3 hi_.a hi_.n hi_.c li_)) := H18.le 4 growH_old rfl
                  have H21 := St.ssGive (t := hi_) (m := li_) H20 2 4 rfl rfl rfl hmk.1 (by omega)
                  rw [set_self hxi] at H21
                  dsimp only [putsH, setH, List.cons_append, List.nil_append] at H21
                  rw [set_self hli] at H21
                  refine ⟨s.lists.length - (i + 1), _, rfl, (by omega), _, i + 1, upds_self ⟨rfl, rfl, rfl, trivial⟩, rfl, by omega, H21.pick' [0, 1, 2, 3] rfl rfl⟩
            · have c77p := of_decide_eq_false c77
              refine exit_ ?_
              refine thx (thx (blx ?_))
              refine thn ?_
              refine seq_ ?_
              refine seq_ ?_
              refine region_ ?_
              refine wl_valE (v := .int .i64 (0 : Int)) rfl (rf_assign rfl) rfl ?_
              refine wl_nil ?_
              refine thn ?_
              refine block_ ?_
              refine loop_ (fun qk_ qf_ qw_ => ∃ (g : Nat → Value) (i : Nat), qf_ = upds g [(0, .pointer (some ⟨b, 0, none⟩)), (11, .int .i64 ((i : Nat) : Int))] ∧ qk_ = s.lists.length - i ∧ (i ≤ s.lists.length) ∧ St w0 S0 [] qw_ [blkH b #[.slice x.ac s.cs.length x.cc, .pointer (some ⟨x.pl, 0, none⟩), .pointer (some ⟨x.pr, 0, none⟩), .pointer (some ⟨x.pq, 0, none⟩), .slice x.al s.lists.length x.cl, .slice x.aw s.lists.length x.cw] 67, slH encSv 1 23 x.al s.lists.length x.cl x.hs, ssH encI 1 3 x.hs kl, blkH b7 #[.int .i64 (0 : Int), .int .i64 (0 : Int), .int .i64 (0 : Int), .int .i64 (0 : Int), .int .i64 (0 : Int), .int .i64 (0 : Int), .int .i64 (0 : Int), .int .i64 (0 : Int), .int .i64 (0 : Int), .int .i64 (0 : Int), .int .i64 (0 : Int), .int .i64 (0 : Int), .int .i64 (0 : Int), .int .i64 (0 : Int), .int .i64 (0 : Int), .int .i64 (0 : Int), .int .i64 (0 : Int), .int .i64 (0 : Int), .int .i64 (0 : Int), .int .i64 (0 : Int), .int .i64 (0 : Int), .int .i64 (0 : Int), .int .i64 (0 : Int), .int .i64 (0 : Int), .int .i64 (0 : Int), .int .i64 (0 : Int), .int .i64 (0 : Int), .int .i64 (0 : Int), .int .i64 (0 : Int), .int .i64 (0 : Int), .int .i64 (0 : Int), .int .i64 (0 : Int), .int .i64 (0 : Int), .int .i64 (0 : Int), .int .i64 (0 : Int), .int .i64 (0 : Int), .int .i64 (0 : Int), .int .i64 (0 : Int), .int .i64 (0 : Int), .int .i64 (0 : Int), .int .i64 (0 : Int), .int .i64 (0 : Int), .int .i64 (0 : Int), .int .i64 (0 : Int), .int .i64 (0 : Int), .int .i64 (0 : Int), .int .i64 (0 : Int), .int .i64 (0 : Int), .int .i64 (0 : Int), .int .i64 (0 : Int), .int .i64 (0 : Int), .int .i64 (0 : Int), .int .i64 (0 : Int), .int .i64 (0 : Int), .int .i64 (0 : Int), .int .i64 (0 : Int), .int .i64 (0 : Int), .int .i64 (0 : Int), .int .i64 (0 : Int), .int .i64 (0 : Int), .int .i64 (0 : Int), .int .i64 (0 : Int), .int .i64 (0 : Int), .int .i64 (0 : Int)] 75]) (s.lists.length - 0) ?_ ?_
              · refine ⟨_, 0, upds_self ⟨rfl, rfl, trivial⟩, rfl, Nat.zero_le _, HL3.pick' [0, 1, 2, 3] rfl rfl⟩
              · rintro lk5 _ wl5 ⟨gl5, i, rfl, hlk5, hr2, HL5⟩
                refine seq_ ?_
                refine seq_ ?_
                refine region_ ?_
                refine wl_valE (v := .int .i64 ((i : Nat) : Int)) rfl (rf_move rfl) rfl ?_
                refine wl_valE (v := .pointer (some ⟨b, 0, none⟩)) rfl (rf_move rfl) rfl ?_
                refine wl_valE (v := .pointer (some ⟨b, 0, none⟩)) rfl (rf_nilCheckP rfl rfl) rfl ?_
                refine wl_valE (v := .pointer (some ⟨b, 4, none⟩)) rfl (rf_fieldAddr Try.underlying67 rfl ti65 rfl rfl) rfl ?_
                refine wl_valE (v := .slice x.al s.lists.length x.cl) rfl (rf_load Try.underlying65 rfl rfl rfl ((HL5.blk 0 rfl).cell rfl)) rfl ?_
                refine wl_valE (v := .int .i64 ((s.lists.length : Nat) : Int)) rfl (rf_len_slice Try.underlying65 rfl rfl) rfl ?_
                refine wl_valE (v := .bool (decide (((i : Nat) : Int) < ((s.lists.length : Nat) : Int)))) rfl (rf_lss rfl rfl rfl rfl) rfl ?_
                refine wl_nil ?_
                refine thn ?_
                refine cond_ (t := decide (((i : Nat) : Int) < ((s.lists.length : Nat) : Int))) rfl rfl (fun c109 => ?_) (fun c109 => ?_)
                · have c109p := of_decide_eq_true c109
                  refine skip_ ?_
                  refine thn ?_
                  refine seq_ ?_
                  refine block_ ?_
                  refine seq_ ?_
                  obtain ⟨hi_, hxi⟩ : ∃ q, x.hs[i]? = some q := ⟨_, List.getElem?_eq_getElem (by omega)⟩
                  obtain ⟨li_, hli⟩ : ∃ q, kl[i]? = some q := ⟨_, List.getElem?_eq_getElem (by omega)⟩
                  have hlb := hkb _ (List.mem_of_getElem? hli)
                  obtain ⟨hln, hlm⟩ := hmk.2 i hi_ li_ hxi hli
                  have H22 := HL5.ssTake 2 rfl rfl hxi hli
                  refine region_ ?_
                  refine wl_valE (v := .int .i64 (0 : Int)) rfl (rf_assign rfl) rfl ?_
                  refine wl_nil ?_
                  refine thn ?_
                  refine block_ ?_
                  refine loop_ (fun qk_ qf_ qw_ => ∃ (g : Nat → Value) (k : Nat), qf_ = upds g [(0, .pointer (some ⟨b, 0, none⟩)), (11, .int .i64 ((i : Nat) : Int)), (12, .int .i64 ((k : Nat) : Int))] ∧ qk_ = hi_.n - k ∧ (k ≤ hi_.n) ∧ St w0 S0 [] qw_ [blkH b #[.slice x.ac s.cs.length x.cc, .pointer (some ⟨x.pl, 0, none⟩), .pointer (some ⟨x.pr, 0, none⟩), .pointer (some ⟨x.pq, 0, none⟩), .slice x.al s.lists.length x.cl, .slice x.aw s.lists.length x.cw] 67, slH encSv 1 23 x.al s.lists.length x.cl x.hs, ssO encI 1 3 x.hs kl i, blkH b7 #[.int .i64 (0 : Int), .int .i64 (0 : Int), .int .i64 (0 : Int), .int .i64 (0 : Int), .int .i64 (0 : Int), .int .i64 (0 : Int), .int .i64 (0 : Int), .int .i64 (0 : Int), .int .i64 (0 : Int), .int .i64 (0 : Int), .int .i64 (0 : Int), .int .i64 (0 : Int), .int .i64 (0 : Int), .int .i64 (0 : Int), .int .i64 (0 : Int), .int .i64 (0 : Int), .int .i64 (0 : Int), .int .i64 (0 : Int), .int .i64 (0 : Int), .int .i64 (0 : Int), .int .i64 (0 : Int), .int .i64 (0 : Int), .int .i64 (0 : Int), .int .i64 (0 : Int), .int .i64 (0 : Int), .int .i64 (0 : Int), .int .i64 (0 : Int), .int .i64 (0 : Int), .int .i64 (0 : Int), .int .i64 (0 : Int), .int .i64 (0 : Int), .int .i64 (0 : Int), .int .i64 (0 : Int), .int .i64 (0 : Int), .int .i64 (0 : Int), .int .i64 (0 : Int), .int .i64 (0 : Int), .int .i64 (0 : Int), .int .i64 (0 : Int), .int .i64 (0 : Int), .int .i64 (0 : Int), .int .i64 (0 : Int), .int .i64 (0 : Int), .int .i64 (0 : Int), .int .i64 (0 : Int), .int .i64 (0 : Int), .int .i64 (0 : Int), .int .i64 (0 : Int), .int .i64 (0 : Int), .int .i64 (0 : Int), .int .i64 (0 : Int), .int .i64 (0 : Int), .int .i64 (0 : Int), .int .i64 (0 : Int), .int .i64 (0 : Int), .int .i64 (0 : Int), .int .i64 (0 : Int), .int .i64 (0 : Int), .int .i64 (0 : Int), .int .i64 (0 : Int), .int .i64 (0 : Int), .int .i64 (0 : Int), .int .i64 (0 : Int), .int .i64 (0 : Int)] 75, slH encI 1 3 hi_.a hi_.n hi_.c li_]) (hi_.n - 0) ?_ ?_
                  · refine ⟨_, 0, upds_self ⟨rfl, rfl, rfl, trivial⟩, rfl, Nat.zero_le _, H22.pick' [0, 1, 2, 3, 4] rfl rfl⟩
                  · rintro lk6 _ wl6 ⟨gl6, k, rfl, hlk6, hk3, HL6⟩
                    refine seq_ ?_
                    refine seq_ ?_
                    refine region_ ?_
                    refine wl_valE (v := .int .i64 ((k : Nat) : Int)) rfl (rf_move rfl) rfl ?_
                    refine wl_valE (v := .pointer (some ⟨b, 0, none⟩)) rfl (rf_move rfl) rfl ?_
                    refine wl_valE (v := .pointer (some ⟨b, 0, none⟩)) rfl (rf_nilCheckP rfl rfl) rfl ?_
                    refine wl_valE (v := .pointer (some ⟨b, 4, none⟩)) rfl (rf_fieldAddr Try.underlying67 rfl ti65 rfl rfl) rfl ?_
                    refine wl_valE (v := .slice x.al s.lists.length x.cl) rfl (rf_load Try.underlying65 rfl rfl rfl ((HL6.blk 0 rfl).cell rfl)) rfl ?_
                    refine wl_valE (v := .int .i64 ((i : Nat) : Int)) rfl (rf_move rfl) rfl ?_
                    refine wl_valE (v := .pointer (some ⟨ab x.al, ao x.al + i * 1, none⟩)) rfl (rf_indexAddrH Try.underlying65 ti23 rfl rfl rfl rfl (by omega) (by omega) (HL6.rdO 1 slH_rd)) rfl ?_
                    refine wl_valE (v := .slice hi_.a hi_.n hi_.c) rfl (rf_load Try.underlying23 rfl rfl rfl (rd_el (HL6.rdO 1 slH_rd) hxi 0 _ rfl)) rfl ?_
                    refine wl_valE (v := .int .i64 ((hi_.n : Nat) : Int)) rfl (rf_len_slice Try.underlying23 rfl rfl) rfl ?_
                    refine wl_valE (v := .bool (decide (((k : Nat) : Int) < ((hi_.n : Nat) : Int)))) rfl (rf_lss rfl rfl rfl rfl) rfl ?_
                    refine wl_nil ?_
                    refine thn ?_
                    refine cond_ (t := decide (((k : Nat) : Int) < ((hi_.n : Nat) : Int))) rfl rfl (fun c121 => ?_) (fun c121 => ?_)
                    · have c121p := of_decide_eq_true c121
                      refine skip_ ?_
                      refine thn ?_
                      refine seq_ ?_
                      refine block_ ?_
                      refine seq_ ?_
                      refine region_ ?_
                      refine wl_valE (v := .pointer (some ⟨b, 0, none⟩)) rfl (rf_move rfl) rfl ?_
                      refine wl_valE (v := .pointer (some ⟨b, 0, none⟩)) rfl (rf_nilCheckP rfl rfl) rfl ?_
                      refine wl_valE (v := .pointer (some ⟨b, 4, none⟩)) rfl (rf_fieldAddr Try.underlying67 rfl ti65 rfl rfl) rfl ?_
                      refine wl_valE (v := .slice x.al s.lists.length x.cl) rfl (rf_load Try.underlying65 rfl rfl rfl ((HL6.blk 0 rfl).cell rfl)) rfl ?_
                      refine wl_valE (v := .int .i64 ((i : Nat) : Int)) rfl (rf_move rfl) rfl ?_
                      refine wl_valE (v := .pointer (some ⟨ab x.al, ao x.al + i * 1, none⟩)) rfl (rf_indexAddrH Try.underlying65 ti23 rfl rfl rfl rfl (by omega) (by omega) (HL6.rdO 1 slH_rd)) rfl ?_
                      refine wl_valE (v := .slice hi_.a hi_.n hi_.c) rfl (rf_load Try.underlying23 rfl rfl rfl (rd_el (HL6.rdO 1 slH_rd) hxi 0 _ rfl)) rfl ?_
                      refine wl_valE (v := .int .i64 ((k : Nat) : Int)) rfl (rf_move rfl) rfl ?_
                      refine wl_valE (v := .pointer (some ⟨ab hi_.a, ao hi_.a + k * 1, none⟩)) rfl (rf_indexAddrH Try.underlying23 ti3 rfl rfl rfl rfl (by omega) (by omega) (HL6.rdO 4 slH_rd)) rfl ?_
                      have hn24 := slH_len HL6 4 rfl
                      obtain ⟨x23, hx23⟩ : ∃ q_, li_[k]? = some q_ := ⟨_, List.getElem?_eq_getElem (by omega)⟩
                      refine wl_valE (v := .int .i64 x23) rfl (rf_load Try.underlying3 rfl rfl rfl (rd_el (HL6.rdO 4 slH_rd) hx23 0 _ rfl)) rfl ?_
                      refine wl_valE (v := .int .i64 ((i : Nat) : Int)) rfl (rf_move rfl) rfl ?_
                      refine wl_valE (v := .int .i64 ((-20 : Int) - ((i : Nat) : Int))) rfl (rf_sub rfl rfl rfl rfl (IntWalk.i64_in _ (by omega))) rfl ?_
                      refine wl_valE (v := .bool (decide (x23 ≠ (-20 : Int) - ((i : Nat) : Int)))) rfl (rf_neq rfl rfl rfl rfl) rfl ?_
                      refine wl_nil ?_
                      refine thn ?_
                      have hy9 := hlm (by omega) _ (List.mem_of_getElem? hx23)
                      refine condF' rfl rfl (t := decide (x23 ≠ (-20 : Int) - ((i : Nat) : Int))) ((by simp only [decide_eq_false_iff_not]; omega)) ?_
                      refine skip_ ?_
                      refine bln ?_
                      refine thn ?_
                      refine region_ ?_
                      refine wl_valE (v := .int .i64 ((k : Nat) : Int)) rfl (rf_move rfl) rfl ?_
                      refine wl_valE (v := .int .i64 ((k + 1 : Nat) : Int)) rfl (rf_add rfl rfl rfl rfl (IntWalk.i64_in _ (by omega))) rfl ?_
                      refine wl_valE (v := .int .i64 ((k + 1 : Nat) : Int)) rfl (rf_assign rfl) rfl ?_
                      refine wl_nil ?_
                      refine thn ?_
                      refine ⟨hi_.n - (k + 1), _, rfl, (by omega), _, k + 1, upds_self ⟨rfl, rfl, rfl, trivial⟩, rfl, by omega, HL6.pick' [0, 1, 2, 3, 4] rfl rfl⟩
                    · have c121p := of_decide_eq_false c121
                      refine exit_ ?_
                      refine thx (thx (blx ?_))
                      refine bln ?_
                      refine thn ?_
                      refine region_ ?_
                      refine wl_valE (v := .int .i64 ((i : Nat) : Int)) rfl (rf_move rfl) rfl ?_
                      refine wl_valE (v := .int .i64 ((i + 1 : Nat) : Int)) rfl (rf_add rfl rfl rfl rfl (IntWalk.i64_in _ (by omega))) rfl ?_
                      refine wl_valE (v := .int .i64 ((i + 1 : Nat) : Int)) rfl (rf_assign rfl) rfl ?_
                      refine wl_nil ?_
                      refine thn ?_
                      have H25 := St.ssGive (t := hi_) (m := li_) HL6 2 4 rfl rfl rfl hmk.1 (by omega)
                      rw [set_self hxi] at H25
                      rw [set_self hli] at H25
                      refine ⟨s.lists.length - (i + 1), _, rfl, (by omega), _, i + 1, upds_self ⟨rfl, rfl, trivial⟩, rfl, by omega, H25.pick' [0, 1, 2, 3] rfl rfl⟩
                · have c109p := of_decide_eq_false c109
                  refine exit_ ?_
                  refine thx (thx (blx ?_))
                  refine thn ?_
                  refine seq_ ?_
                  refine region_ ?_
                  refine wl_valE (v := .bool true) rfl (rf_assign rfl) rfl ?_
                  refine wl_nil ?_
                  refine thn ?_
                  refine ret_ ?_
                  refine fin1 (v := .bool true) Try.results25 rfl rfl ?_
                  exact ⟨_, ⟨rfl, rfl⟩, HL5.pick' [] rfl rfl⟩
end Go.Proofs.Ytiidihgimcebgaa.W
