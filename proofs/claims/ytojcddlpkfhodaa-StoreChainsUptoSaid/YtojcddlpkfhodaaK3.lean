import Derived.Test.YtojcddlpkfhodaaK2
import Derived.KernelRfl
namespace Go.Proofs.Ytojcddlpkfhodaa.W
open Go Go.Wk
set_option linter.unusedVariables false
set_option linter.unusedSimpArgs false

theorem check_ok {k : Key} : checkF k = 0 ↔ okK k = true := by unfold checkF; cases okK k <;> simp
instance (l : List Key) : Decidable (RisK l) := by unfold RisK; infer_instance
theorem risK_nil : RisK [] := ⟨fun _ h => (by cases h), .nil⟩
theorem risK_snoc {l : List Key} {i : Nat} {x : Key} (h : RisK (l.take i)) (hx : l[i]? = some x) (hk : okK x = true) (hl : ∀ y, 0 < i → l[i - 1]? = some y → ltK y x) : RisK (l.take (i + 1)) := by
  have hi := (List.getElem?_eq_some_iff.1 hx).1
  unfold RisK
  rw [List.take_add_one, hx, Option.toList_some]
  refine ⟨fun k hk2 => ?_, ?_⟩
  · rcases List.mem_append.1 hk2 with h2 | h2
    · exact h.1 k h2
    · rw [List.mem_singleton] at h2; subst h2; exact hk
  · rw [List.pairwise_append]
    refine ⟨h.2, by simp, fun a ha b hb => ?_⟩
    rw [List.mem_singleton] at hb; subst hb
    obtain ⟨j, hj⟩ := List.getElem?_of_mem ha
    have hj' := hj
    rw [List.getElem?_take] at hj'
    split at hj'
    · rename_i hji
      obtain ⟨y, hy⟩ : ∃ y, l[i - 1]? = some y := ⟨_, List.getElem?_eq_getElem (by omega)⟩
      have hyx := hl y (by omega) hy
      by_cases e : j = i - 1
      · subst e; rw [hy] at hj'; cases hj'; exact hyx
      · have hp := List.pairwise_iff_getElem.1 h.2
        have hy2 : (l.take i)[i - 1]? = some y := by rw [List.getElem?_take, if_pos (by omega)]; exact hy
        obtain ⟨q1, q2⟩ := List.getElem?_eq_some_iff.1 hj
        obtain ⟨q3, q4⟩ := List.getElem?_eq_some_iff.1 hy2
        have := hp j (i - 1) q1 q3 (by omega)
        rw [q2, q4] at this
        exact ltK_trans this hyx
    · cases hj'
theorem risK_bad {l : List Key} {i : Nat} {x : Key} (hx : l[i]? = some x) (hk : checkF x ≠ 0) : ¬ RisK l := fun h => hk (check_ok.2 (h.1 x (List.mem_of_getElem? hx)))
theorem risK_bad2 {l : List Key} {i : Nat} {x y : Key} (hi : 0 < i) (hy : l[i - 1]? = some y) (hx : l[i]? = some x) (hk : 0 ≤ cmpK y x) : ¬ RisK l := fun h => by
  obtain ⟨q1, q2⟩ := List.getElem?_eq_some_iff.1 hy
  obtain ⟨q3, q4⟩ := List.getElem?_eq_some_iff.1 hx
  have := List.pairwise_iff_getElem.1 h.2 (i - 1) i q1 q3 (by omega)
  rw [q2, q4] at this
  have := cmpK_neg.2 this
  omega
theorem strictK {l : List Key} (hn : l.Nodup) (h : l.Pairwise (fun a b => ¬ ltK b a)) : l.Pairwise ltK := by
  refine List.Pairwise.imp₂ ?_ hn h
  intro a b h1 h2
  unfold ltK at *
  rcases Int.lt_trichotomy a.table b.table with q | q | q
  · exact .inl q
  · rcases Int.lt_trichotomy a.row b.row with p | p | p
    · exact .inr ⟨q, p⟩
    · exact absurd (by cases a; cases b; simp at *; exact ⟨q, p⟩) h1
    · exact absurd (.inr ⟨q.symm, p⟩) h2
  · exact absurd (.inl q) h2
theorem swoK : Go.Sort.SWO (Go.Proofs.ltOf cmpK) where
  irrefl x := by unfold Go.Proofs.ltOf; simp [cmpK_zero.2]
  trans x y z h1 h2 := by unfold Go.Proofs.ltOf at *; simp only [decide_eq_true_eq] at *; rw [cmpK_neg] at *; exact ltK_trans h1 h2
  ntrans x y z h1 h2 := by
    unfold Go.Proofs.ltOf at *
    simp only [decide_eq_false_iff_not] at *
    rw [cmpK_neg] at *
    unfold ltK at *; omega

theorem compare_tr' (x y : Key) : Tr Try.prog 21 [.agg (encKey x).toArray, .agg (encKey y).toArray] [] [] fun v m => v = .int .i64 (cmpK x y) := fun w S0 H => (compare_tr x y w S0 H).mono fun v w' ⟨m, ⟨h1, h2⟩, h3⟩ => ⟨m, h1, h3⟩
section
open Go.Proofs Go.Shelf
def sortK_ren : Go.Shelf.Ren := ⟨fun | 6 => 40 | 15 => 58 | 14 => 57 | 28 => 71 | 29 => 72 | 20 => 63 | 21 => 64 | 22 => 65 | 23 => 66 | 24 => 67 | 25 => 68 | 26 => 69 | 27 => 70 | 46 => 81 | 47 => 82 | 48 => 83 | 49 => 84 | 50 => 85 | 57 => 89 | n => n, fun | 22 => 38 | 24 => 28 | 25 => 66 | 3 => 3 | 39 => 117 | 0 => 0 | 53 => 130 | 55 => 46 | 4 => 4 | 46 => 123 | 45 => 122 | 50 => 127 | 5 => 5 | 9 => 9 | 66 => 137 | 70 => 141 | 76 => 145 | 77 => 146 | n => n, fun | n => n⟩
set_option maxRecDepth 100000 in
theorem layK : Go.Proofs.SlLaysF0.n6 Try.prog sortK_ren := {
  mixed := by kernel_rfl
  f6 := ⟨Try.f40.name, by decide, Try.func40.trans (congrArg some (by kernel_rfl))⟩
  f14 := ⟨Try.f57.name, by decide, Try.func57.trans (congrArg some (by kernel_rfl))⟩
  f15 := Try.func58.trans (congrArg some (by kernel_rfl))
  f20 := ⟨Try.f63.name, by decide, Try.func63.trans (congrArg some (by kernel_rfl))⟩
  f21 := ⟨Try.f64.name, by decide, Try.func64.trans (congrArg some (by kernel_rfl))⟩
  f22 := ⟨Try.f65.name, by decide, Try.func65.trans (congrArg some (by kernel_rfl))⟩
  f23 := ⟨Try.f66.name, by decide, Try.func66.trans (congrArg some (by kernel_rfl))⟩
  f24 := ⟨Try.f67.name, by decide, Try.func67.trans (congrArg some (by kernel_rfl))⟩
  f25 := ⟨Try.f68.name, by decide, Try.func68.trans (congrArg some (by kernel_rfl))⟩
  f26 := ⟨Try.f69.name, by decide, Try.func69.trans (congrArg some (by kernel_rfl))⟩
  f27 := ⟨Try.f70.name, by decide, Try.func70.trans (congrArg some (by kernel_rfl))⟩
  f28 := Try.func71.trans (congrArg some (by kernel_rfl))
  f29 := Try.func72.trans (congrArg some (by kernel_rfl))
  f46 := ⟨Try.f81.name, by decide, Try.func81.trans (congrArg some (by kernel_rfl))⟩
  f47 := Try.func82.trans (congrArg some (by kernel_rfl))
  f48 := Try.func83.trans (congrArg some (by kernel_rfl))
  f49 := ⟨Try.f84.name, by decide, Try.func84.trans (congrArg some (by kernel_rfl))⟩
  f50 := ⟨Try.f85.name, by decide, Try.func85.trans (congrArg some (by kernel_rfl))⟩
  f57 := ⟨Try.f89.name, by decide, Try.func89.trans (congrArg some (by kernel_rfl))⟩
  t0 := Try.underlying0
  a0 := Try.isAgg0
  z0 := Try.sizeOf0
  v0 := Try.zeroValue0
  t3 := Try.underlying3
  a3 := Try.isAgg3
  z3 := Try.sizeOf3
  v3 := Try.zeroValue3
  t4 := Try.underlying4
  a4 := Try.isAgg4
  z4 := Try.sizeOf4
  v4 := Try.zeroValue4
  t5 := Try.underlying5
  a5 := Try.isAgg5
  z5 := Try.sizeOf5
  v5 := Try.zeroValue5
  t9 := Try.underlying9
  a9 := Try.isAgg9
  z9 := Try.sizeOf9
  v9 := Try.zeroValue9
  t22 := Try.underlying38
  a22 := Try.isAgg38
  z22 := Try.sizeOf38
  v22 := Try.zeroValue38
  t25 := Try.underlying66
  a25 := Try.isAgg66
  z25 := Try.sizeOf66
  v25 := Try.zeroValue66
  t39 := Try.underlying117
  a39 := Try.isAgg117
  z39 := Try.sizeOf117
  v39 := Try.zeroValue117
  t45 := Try.underlying122
  a45 := Try.isAgg122
  z45 := Try.sizeOf122
  v45 := Try.zeroValue122
  t46 := Try.underlying123
  a46 := Try.isAgg123
  z46 := Try.sizeOf123
  v46 := Try.zeroValue123
  t50 := Try.underlying127
  a50 := Try.isAgg127
  z50 := Try.sizeOf127
  v50 := Try.zeroValue127
  t53 := Try.underlying130
  a53 := Try.isAgg130
  z53 := Try.sizeOf130
  v53 := Try.zeroValue130
  t55 := Try.underlying46
  a55 := Try.isAgg46
  z55 := Try.sizeOf46
  v55 := Try.zeroValue46
  t66 := Try.underlying137
  a66 := Try.isAgg137
  z66 := Try.sizeOf137
  v66 := Try.zeroValue137
  t70 := Try.underlying141
  a70 := Try.isAgg141
  z70 := Try.sizeOf141
  v70 := Try.zeroValue141
  t76 := Try.underlying145
  a76 := Try.isAgg145
  z76 := Try.sizeOf145
  v76 := Try.zeroValue145
  t77 := Try.underlying146
  a77 := Try.isAgg146
  z77 := Try.sizeOf146
  v77 := Try.zeroValue146 }
end

theorem sortK_tr {a : Option Addr} {n c : Nat} {l : List Key} (hnd : l.Nodup) (hn : l.length < 4611686018427387904) : Tr Try.prog 40 [.slice a n c, .func (.func 21) #[] #[]] [] [slH encKey 2 28 a n c l] fun v m => ∃ l', (l'.Perm l ∧ l'.Pairwise ltK) ∧ v = .tuple #[] ∧ m = [slH encKey 2 28 a n c l'] :=
  Tr.of_sl (fun _ => trivial) fun w F hs => by
    have eg : ∀ args w, (callFunc 21 args).run Try.prog w = .ok (.enter 21 args) w := Go.Proofs.enters_of Try.func21 (by kernel_rfl) rfl
    haveI : Inhabited Key := ⟨⟨0, 0⟩⟩
    have h := sort_ret (enc := encKey) (k := 2) layK Try.isAgg28 Try.sizeOf28 encKey_len encKey_one cmpK swoK 21 eg (fun x y W => (Tr.top (compare_tr' x y) getH_nil).mono (fun v w' h => h)) hs hn
    refine Ret.mono h ?_
    rintro _ w' ⟨rfl, l', hp1, hp2, hp3, hp4⟩
    refine ⟨rfl, l', ⟨hp1, strictK (hp1.nodup_iff.2 hnd) (hp2.imp fun {a b} hab => ?_)⟩, hp1.length_eq, hp3, hp4⟩
    unfold Go.Proofs.ltOf at hab
    simp only [decide_eq_false_iff_not] at hab
    rwa [cmpK_neg] at hab
theorem rises_tr (a : Option Addr) (n c : Nat) (l : List Key) (hn : n ≤ 9223372036854775807) : Tr Try.prog 10 [.slice a n c] [rdH encKey 2 a n c l] [] (fun v m => v = .bool (decide (RisK l)) ∧ m = []) := by
  intro w0 S0 H0
  have hl := (rd_len (H0.rdR 0 Le.rfl)).1
  refine enterR Try.func10 rfl Try.ntmps10 rfl ?_
  intro g0
  refine seq_ ?_
  refine region_ ?_
  refine wl_valE (v := .bool false) rfl (rf_assign rfl) rfl ?_
  refine wl_nil ?_
  refine thn ?_
  refine seq_ ?_
  refine seq_ ?_
  refine region_ ?_
  refine wl_valE (v := .slice a n c) rfl (rf_move rfl) rfl ?_
  refine wl_valE (v := .int .i64 ((n : Nat) : Int)) rfl (rf_len_slice Try.underlying38 rfl rfl) rfl ?_
  refine wl_valE (v := .int .i64 (0 : Int)) rfl (rf_move rfl) rfl ?_
  refine wl_nil ?_
  refine thn ?_
  refine block_ ?_
  refine loop_ (fun qk_ qf_ qw_ => ∃ (g : Nat → Value) (k : Nat), qf_ = upds g [(0, .slice a n c), (5, .slice a n c), (6, .int .i64 ((n : Nat) : Int)), (7, .int .i64 ((k : Nat) : Int))] ∧ qk_ = n - k ∧ (k ≤ n) ∧ (RisK (l.take k)) ∧ St w0 S0 [rdH encKey 2 a n c l] qw_ []) (n - 0) ?_ ?_
  · refine ⟨_, 0, upds_self ⟨rfl, rfl, rfl, rfl, trivial⟩, rfl, Nat.zero_le _, risK_nil, H0.pick' [] rfl rfl⟩
  · rintro lk0 _ wl0 ⟨gl0, k, rfl, hlk0, hk, hr, HL0⟩
    refine seq_ ?_
    refine region_ ?_
    refine wl_valE (v := .bool (decide (((k : Nat) : Int) < ((n : Nat) : Int)))) rfl (rf_lss rfl rfl rfl rfl) rfl ?_
    refine wl_nil ?_
    refine thn ?_
    refine seq_ ?_
    refine cond_ (t := decide (((k : Nat) : Int) < ((n : Nat) : Int))) rfl rfl (fun c8 => ?_) (fun c8 => ?_)
    · have c8p := of_decide_eq_true c8
      refine skip_ ?_
      refine thn ?_
      refine seq_ ?_
      refine block_ ?_
      refine seq_ ?_
      have hn1 := rd_len (HL0.rdR 0 Le.rfl)
      obtain ⟨x, hx⟩ : ∃ q_, l[k]? = some q_ := ⟨_, List.getElem?_eq_getElem (by omega)⟩
      refine region_ ?_
      refine wl_valE (v := .int .i64 ((k : Nat) : Int)) rfl (rf_move rfl) rfl ?_
      refine wl_valE (v := .pointer (some ⟨ab a, ao a + k * 2, none⟩)) rfl (rf_indexAddrH Try.underlying38 ti28 rfl rfl rfl rfl (by omega) (by omega) (HL0.rdR 0 Le.rfl)) rfl ?_
      refine wl_valE (v := .agg #[.int .i64 x.table, .int .i64 x.row]) rfl (rf_loadAgg (cs := [.int .i64 x.table, .int .i64 x.row]) Try.underlying28 rfl ti28 rfl rfl (el_sub' (rd_el (HL0.rdR 0 Le.rfl) hx) 0 2 rfl) rfl) rfl ?_
      refine wl_allocH HL0 ti28 ?_
      intro bx w3 H3
      refine wl_valE (v := .int .i64 ((k : Nat) : Int)) rfl (rf_assign rfl) rfl ?_
      refine wl_storeAggH H3 0 (o := 0) (cs := [.int .i64 x.table, .int .i64 x.row]) (A' := #[.int .i64 x.table, .int .i64 x.row]) rfl rfl ti28 rfl rfl rfl rfl rfl oneAll (leb rfl) rfl ?_
      intro w4 H4
      refine wl_nil ?_
      refine thn ?_
      refine seq_ ?_
      refine region_q mixedP (by kernel_rfl) ?_
      refine qt_valE (v := .agg #[.int .i64 x.table, .int .i64 x.row]) rfl (fun wq hq => rf_loadBlk Try.underlying28 rfl ti28 rfl rfl ((H4.keep hq).blk 0 rfl) (leb rfl)) rfl ?_
      refine qt_ret (v := .int .i64 (checkF x)) rfl (fun wq hq => ((check_tr x).quiet (H4.keep hq) .nil (by rintro _ _ ⟨rfl, rfl⟩; exact rfl)).mono (fun _ _ h => ⟨h.1, hq.trans h.2⟩)) (fun wq hq => rf_call Try.call17 rfl rfl) ?_
      refine qt_valE (v := .bool (decide (checkF x ≠ (0 : Int)))) rfl (fun wq hq => rf_neq rfl rfl rfl rfl) rfl ?_
      refine qt_valE (v := .bool (decide (checkF x ≠ (0 : Int)))) rfl (fun wq hq => rf_move rfl) rfl ?_
      refine qt_split (decide (checkF x ≠ (0 : Int))) (fun u4_3 => ?_) (fun u4_3 => ?_)
      · have u4_3p := of_decide_eq_true u4_3
        refine qt_guardF rfl rfl rfl u4_3 ?_
        refine qt_guardF rfl rfl rfl u4_3 ?_
        refine qt_guardF rfl rfl rfl u4_3 ?_
        refine qt_guardS rfl rfl rfl ?_
        refine qt_guardS rfl rfl rfl ?_
        refine qt_guardS rfl rfl rfl ?_
        refine qt_guardS rfl rfl rfl ?_
        refine qt_guardS rfl rfl rfl ?_
        refine qt_guardS rfl rfl rfl ?_
        refine qt_guardS rfl rfl rfl ?_
        refine qt_guardS rfl rfl rfl ?_
        refine qt_guardF rfl rfl rfl u4_3 ?_
        refine qt_valE (v := .bool true) rfl (fun wq hq => rf_pickT rfl rfl rfl u4_3) rfl ?_
        refine qt_nil ?_
        intro w5 hk5
        have H5 := H4.keep hk5
        refine thn ?_
        refine condT rfl rfl ?_
        refine seq_ ?_
        refine region_ ?_
        refine wl_valE (v := .bool false) rfl (rf_assign rfl) rfl ?_
        refine wl_nil ?_
        refine thn ?_
        refine ret_ ?_
        refine blr (thr (thr (blr (thr ?_))))
        refine fin1 (v := .bool false) Try.results10 rfl rfl ?_
        exact ⟨_, ⟨congrArg Value.bool (decide_eq_false (risK_bad hx (by omega))).symm, rfl⟩, H5.pick' [] rfl rfl⟩
      · have u4_3p := of_decide_eq_false u4_3
        refine qt_guardT rfl rfl rfl u4_3 ?_
        refine qt_valE (v := .int .i64 ((k : Nat) : Int)) rfl (fun wq hq => rf_move rfl) rfl ?_
        refine qt_guardT rfl rfl rfl u4_3 ?_
        refine qt_valE (v := .bool (decide ((0 : Int) < ((k : Nat) : Int)))) rfl (fun wq hq => rf_gtr rfl rfl rfl rfl) rfl ?_
        refine qt_guardT rfl rfl rfl u4_3 ?_
        refine qt_valE (v := .bool (decide ((0 : Int) < ((k : Nat) : Int)))) rfl (fun wq hq => rf_move rfl) rfl ?_
        refine qt_split (decide ((0 : Int) < ((k : Nat) : Int))) (fun u4_6 => ?_) (fun u4_6 => ?_)
        · have u4_6p := of_decide_eq_true u4_6
          obtain ⟨y, hy⟩ : ∃ q_, l[k - 1]? = some q_ := ⟨_, List.getElem?_eq_getElem (by omega)⟩
          refine qt_guardT rfl rfl rfl u4_6 ?_
          refine qt_valE (v := .slice a n c) rfl (fun wq hq => rf_move rfl) rfl ?_
          refine qt_guardT rfl rfl rfl u4_6 ?_
          refine qt_valE (v := .int .i64 ((k : Nat) : Int)) rfl (fun wq hq => rf_move rfl) rfl ?_
          refine qt_guardT rfl rfl rfl u4_6 ?_
          refine qt_valE (v := .int .i64 ((k - 1 : Nat) : Int)) rfl (fun wq hq => rf_sub rfl rfl rfl rfl (by rw [IntWalk.i64_in _ (by omega)]; omega)) rfl ?_
          refine qt_guardT rfl rfl rfl u4_6 ?_
          refine qt_valE (v := .pointer (some ⟨ab a, ao a + (k - 1) * 2, none⟩)) rfl (fun wq hq => rf_indexAddrH Try.underlying38 ti28 rfl rfl rfl rfl (by omega) (by omega) ((H4.keep hq).rdR 0 Le.rfl)) rfl ?_
          refine qt_guardT rfl rfl rfl u4_6 ?_
          refine qt_valE (v := .agg #[.int .i64 y.table, .int .i64 y.row]) rfl (fun wq hq => rf_loadAgg (cs := [.int .i64 y.table, .int .i64 y.row]) Try.underlying28 rfl ti28 rfl rfl (el_sub' (rd_el ((H4.keep hq).rdR 0 Le.rfl) hy) 0 2 rfl) rfl) rfl ?_
          refine qt_guardT rfl rfl rfl u4_6 ?_
          refine qt_valE (v := .agg #[.int .i64 x.table, .int .i64 x.row]) rfl (fun wq hq => rf_loadBlk Try.underlying28 rfl ti28 rfl rfl ((H4.keep hq).blk 0 rfl) (leb rfl)) rfl ?_
          refine qt_guardT rfl rfl rfl u4_6 ?_
          refine qt_ret (v := .int .i64 (cmpK y x)) rfl (fun wq hq => ((compare_tr y x).quiet (H4.keep hq) .nil (by rintro _ _ ⟨rfl, rfl⟩; exact rfl)).mono (fun _ _ h => ⟨h.1, hq.trans h.2⟩)) (fun wq hq => rf_call Try.call21 rfl rfl) ?_
          refine qt_guardT rfl rfl rfl u4_6 ?_
          refine qt_valE (v := .bool (decide ((0 : Int) ≤ cmpK y x))) rfl (fun wq hq => rf_geq rfl rfl rfl rfl) rfl ?_
          refine qt_guardT rfl rfl rfl u4_3 ?_
          refine qt_valE (v := .bool (decide ((0 : Int) ≤ cmpK y x))) rfl (fun wq hq => rf_pickT rfl rfl rfl u4_6) rfl ?_
          refine qt_valE (v := .bool (decide ((0 : Int) ≤ cmpK y x))) rfl (fun wq hq => rf_pickF rfl rfl rfl u4_3) rfl ?_
          refine qt_nil ?_
          intro w6 hk6
          have H6 := H4.keep hk6
          refine thn ?_
          refine cond_ (t := decide ((0 : Int) ≤ cmpK y x)) rfl rfl (fun c28 => ?_) (fun c28 => ?_)
          · have c28p := of_decide_eq_true c28
            refine seq_ ?_
            refine region_ ?_
            refine wl_valE (v := .bool false) rfl (rf_assign rfl) rfl ?_
            refine wl_nil ?_
            refine thn ?_
            refine ret_ ?_
            refine blr (thr (thr (blr (thr ?_))))
            refine fin1 (v := .bool false) Try.results10 rfl rfl ?_
            exact ⟨_, ⟨congrArg Value.bool (decide_eq_false (risK_bad2 (by omega) hy hx (by omega))).symm, rfl⟩, H6.pick' [] rfl rfl⟩
          · have c28p := of_decide_eq_false c28
            refine skip_ ?_
            refine bln ?_
            refine thn ?_
            refine region_ ?_
            refine wl_valE (v := .int .i64 ((k + 1 : Nat) : Int)) rfl (rf_add rfl rfl rfl rfl (IntWalk.i64_in _ (by omega))) rfl ?_
            refine wl_valE (v := .int .i64 ((k + 1 : Nat) : Int)) rfl (rf_move rfl) rfl ?_
            refine wl_nil ?_
            refine thn ?_
            refine ⟨n - (k + 1), _, rfl, (by omega), _, k + 1, upds_self ⟨rfl, rfl, rfl, rfl, trivial⟩, rfl, by omega, risK_snoc hr hx (check_ok.1 (by omega)) (fun z h1 h2 => by rw [hy] at h2; cases h2; exact cmpK_neg.1 (by omega)), H6.pick' [] rfl rfl⟩
        · have u4_6p := of_decide_eq_false u4_6
          refine qt_guardF rfl rfl rfl u4_6 ?_
          refine qt_guardF rfl rfl rfl u4_6 ?_
          refine qt_guardF rfl rfl rfl u4_6 ?_
          refine qt_guardF rfl rfl rfl u4_6 ?_
          refine qt_guardF rfl rfl rfl u4_6 ?_
          refine qt_guardF rfl rfl rfl u4_6 ?_
          refine qt_guardF rfl rfl rfl u4_6 ?_
          refine qt_guardF rfl rfl rfl u4_6 ?_
          refine qt_guardT rfl rfl rfl u4_3 ?_
          refine qt_valE (v := .bool false) rfl (fun wq hq => rf_pickF rfl rfl rfl u4_6) rfl ?_
          refine qt_valE (v := .bool false) rfl (fun wq hq => rf_pickF rfl rfl rfl u4_3) rfl ?_
          refine qt_nil ?_
          intro w7 hk7
          have H7 := H4.keep hk7
          refine thn ?_
          refine condF rfl rfl ?_
          refine skip_ ?_
          refine bln ?_
          refine thn ?_
          refine region_ ?_
          refine wl_valE (v := .int .i64 ((k + 1 : Nat) : Int)) rfl (rf_add rfl rfl rfl rfl (IntWalk.i64_in _ (by omega))) rfl ?_
          refine wl_valE (v := .int .i64 ((k + 1 : Nat) : Int)) rfl (rf_move rfl) rfl ?_
          refine wl_nil ?_
          refine thn ?_
          refine ⟨n - (k + 1), _, rfl, (by omega), _, k + 1, upds_self ⟨rfl, rfl, rfl, rfl, trivial⟩, rfl, by omega, risK_snoc hr hx (check_ok.1 (by omega)) (fun z h1 h2 => by omega), H7.pick' [] rfl rfl⟩
    · have c8p := of_decide_eq_false c8
      refine exit_ ?_
      refine thx (thx (blx ?_))
      refine thn ?_
      refine seq_ ?_
      refine region_ ?_
      refine wl_valE (v := .bool true) rfl (rf_assign rfl) rfl ?_
      refine wl_nil ?_
      refine thn ?_
      refine ret_ ?_
      refine fin1 (v := .bool true) Try.results10 rfl rfl ?_
      exact ⟨_, ⟨congrArg Value.bool (decide_eq_true (by rw [List.take_of_length_le (by omega)] at hr; exact hr)).symm, rfl⟩, HL0.pick' [] rfl rfl⟩
theorem bad_tr (k : Key) : Tr Try.prog 56 [.agg #[.int .i64 k.table, .int .i64 k.row]] [] [] (fun v m => v = .bool (decide (checkF k ≠ 0)) ∧ m = []) := by
  intro w0 S0 H0
  refine enterR Try.func56 rfl Try.ntmps56 rfl ?_
  intro g0
  refine seq_ ?_
  refine region_ ?_
  refine wl_boxH H0 (v := .agg #[.int .i64 k.table, .int .i64 k.row]) rfl rfl ?_
  intro b1 w2 H2
  refine wl_valE (v := .bool false) rfl (rf_assign rfl) rfl ?_
  refine wl_nil ?_
  refine thn ?_
  refine seq_ ?_
  refine region_ ?_
  refine wl_valE (v := .agg #[.int .i64 k.table, .int .i64 k.row]) rfl (rf_loadBlk Try.underlying28 rfl ti28 rfl rfl (H2.blk 0 rfl) (leb rfl)) rfl ?_
  refine wl_tr H2 rfl [] (check_tr k) rfl .nil (rf_call Try.call17 rfl rfl) rfl ?_
  rintro _ w3 _ ⟨rfl, rfl⟩ H3
  refine wl_valE (v := .bool (decide (checkF k ≠ (0 : Int)))) rfl (rf_neq rfl rfl rfl rfl) rfl ?_
  refine wl_valE (v := .bool (decide (checkF k ≠ (0 : Int)))) rfl (rf_assign rfl) rfl ?_
  refine wl_nil ?_
  refine thn ?_
  refine ret_ ?_
  refine fin1 (v := .bool (decide (checkF k ≠ (0 : Int)))) Try.results56 rfl rfl ?_
  exact ⟨_, ⟨rfl, rfl⟩, H3.pick' [] rfl rfl⟩
theorem indexK_tr (a : Option Addr) (n c : Nat) (l : List Key) (hn : n ≤ 4398046511104) (hok : ∀ k ∈ l, okK k = true) : Tr Try.prog 62 [.slice a n c, .func (.func 56) #[] #[]] [rdH encKey 2 a n c l] [] (fun v m => v = .int .i64 (-1) ∧ m = []) := by
  intro w0 S0 H0
  refine enterR Try.func62 rfl Try.ntmps62 rfl ?_
  intro g0
  refine seq_ ?_
  refine region_ ?_
  refine wl_valE (v := .int .i64 (0 : Int)) rfl (rf_assign rfl) rfl ?_
  refine wl_nil ?_
  refine thn ?_
  refine seq_ ?_
  refine seq_ ?_
  refine region_ ?_
  refine wl_valE (v := .slice a n c) rfl (rf_move rfl) rfl ?_
  refine wl_valE (v := .int .i64 ((n : Nat) : Int)) rfl (rf_len_slice Try.underlying38 rfl rfl) rfl ?_
  refine wl_valE (v := .int .i64 (0 : Int)) rfl (rf_move rfl) rfl ?_
  refine wl_nil ?_
  refine thn ?_
  refine block_ ?_
  refine loop_ (fun qk_ qf_ qw_ => ∃ (g : Nat → Value) (k : Nat), qf_ = upds g [(0, .slice a n c), (1, .func (.func 56) #[] #[]), (7, .int .i64 ((n : Nat) : Int)), (8, .int .i64 ((k : Nat) : Int))] ∧ qk_ = n - k ∧ (k ≤ n) ∧ St w0 S0 [rdH encKey 2 a n c l] qw_ []) (n - 0) ?_ ?_
  · refine ⟨_, 0, upds_self ⟨rfl, rfl, rfl, rfl, trivial⟩, rfl, Nat.zero_le _, H0.pick' [] rfl rfl⟩
  · rintro lk0 _ wl0 ⟨gl0, k, rfl, hlk0, hk, HL0⟩
    refine seq_ ?_
    refine region_ ?_
    refine wl_valE (v := .bool (decide (((k : Nat) : Int) < ((n : Nat) : Int)))) rfl (rf_lss rfl rfl rfl rfl) rfl ?_
    refine wl_nil ?_
    refine thn ?_
    refine seq_ ?_
    refine cond_ (t := decide (((k : Nat) : Int) < ((n : Nat) : Int))) rfl rfl (fun c9 => ?_) (fun c9 => ?_)
    · have c9p := of_decide_eq_true c9
      refine skip_ ?_
      refine thn ?_
      refine seq_ ?_
      refine block_ ?_
      refine seq_ ?_
      refine region_ ?_
      refine wl_valE (v := .int .i64 ((k : Nat) : Int)) rfl (rf_move rfl) rfl ?_
      refine wl_valE (v := .int .i64 ((k : Nat) : Int)) rfl (rf_assign rfl) rfl ?_
      refine wl_nil ?_
      refine thn ?_
      refine seq_ ?_
      have hn1 := rd_len (HL0.rdR 0 Le.rfl)
      obtain ⟨x, hx⟩ : ∃ q_, l[k]? = some q_ := ⟨_, List.getElem?_eq_getElem (by omega)⟩
      refine region_ ?_
      refine wl_valE (v := .func (.func 56) #[] #[]) rfl (rf_move rfl) rfl ?_
      refine wl_valE (v := .slice a n c) rfl (rf_move rfl) rfl ?_
      refine wl_valE (v := .int .i64 ((k : Nat) : Int)) rfl (rf_move rfl) rfl ?_
      refine wl_valE (v := .pointer (some ⟨ab a, ao a + k * 2, none⟩)) rfl (rf_indexAddrH Try.underlying38 ti28 rfl rfl rfl rfl (by omega) (by omega) (HL0.rdR 0 Le.rfl)) rfl ?_
      refine wl_valE (v := .agg #[.int .i64 x.table, .int .i64 x.row]) rfl (rf_loadAgg (cs := [.int .i64 x.table, .int .i64 x.row]) Try.underlying28 rfl ti28 rfl rfl (el_sub' (rd_el (HL0.rdR 0 Le.rfl) hx) 0 2 rfl) rfl) rfl ?_
      refine wl_tr HL0 rfl [] (bad_tr x) rfl .nil (rf_callv (fs := []) (cs := []) Try.call56 rfl rfl rfl rfl) rfl ?_
      rintro _ w2 _ ⟨rfl, rfl⟩ H2
      refine wl_nil ?_
      refine thn ?_
      refine condF' rfl rfl (t := decide (checkF x ≠ 0)) ((decide_eq_false (by have := check_ok.2 (hok x (List.mem_of_getElem? hx)); omega))) ?_
      refine skip_ ?_
      refine bln ?_
      refine thn ?_
      refine region_ ?_
      refine wl_valE (v := .int .i64 ((k + 1 : Nat) : Int)) rfl (rf_add rfl rfl rfl rfl (IntWalk.i64_in _ (by omega))) rfl ?_
      refine wl_valE (v := .int .i64 ((k + 1 : Nat) : Int)) rfl (rf_move rfl) rfl ?_
      refine wl_nil ?_
      refine thn ?_
      refine ⟨n - (k + 1), _, rfl, (by omega), _, k + 1, upds_self ⟨rfl, rfl, rfl, rfl, trivial⟩, rfl, by omega, H2.pick' [] rfl rfl⟩
    · have c9p := of_decide_eq_false c9
      refine exit_ ?_
      refine thx (thx (blx ?_))
      refine thn ?_
      refine seq_ ?_
      refine region_ ?_
      refine wl_valE (v := .int .i64 (-1 : Int)) rfl (rf_assign rfl) rfl ?_
      refine wl_nil ?_
      refine thn ?_
      refine ret_ ?_
      refine fin1 (v := .int .i64 (-1 : Int)) Try.results62 rfl rfl ?_
      exact ⟨_, ⟨rfl, rfl⟩, HL0.pick' [] rfl rfl⟩
theorem containsK_tr (a : Option Addr) (n c : Nat) (l : List Key) (hn : n ≤ 4398046511104) (hok : ∀ k ∈ l, okK k = true) : Tr Try.prog 55 [.slice a n c, .func (.func 56) #[] #[]] [rdH encKey 2 a n c l] [] (fun v m => v = .bool false ∧ m = []) := by
  intro w0 S0 H0
  refine enterR Try.func55 rfl Try.ntmps55 rfl ?_
  intro g0
  refine seq_ ?_
  refine region_ ?_
  refine wl_valE (v := .bool false) rfl (rf_assign rfl) rfl ?_
  refine wl_nil ?_
  refine thn ?_
  refine seq_ ?_
  refine region_ ?_
  refine wl_valE (v := .slice a n c) rfl (rf_move rfl) rfl ?_
  refine wl_valE (v := .func (.func 56) #[] #[]) rfl (rf_move rfl) rfl ?_
  refine wl_tr H0 rfl [] (indexK_tr a n c l (by omega) hok) rfl (.ro 0 Le.rfl .nil) (rf_call Try.call62 rfl rfl) rfl ?_
  rintro _ w1 _ ⟨rfl, rfl⟩ H1
  refine wl_valE (v := .bool false) rfl (rf_geq rfl rfl rfl rfl) (congrArg Value.bool (by decide)) ?_
  refine wl_valE (v := .bool false) rfl (rf_assign rfl) rfl ?_
  refine wl_nil ?_
  refine thn ?_
  refine ret_ ?_
  refine fin1 (v := .bool false) Try.results55 rfl rfl ?_
  exact ⟨_, ⟨rfl, rfl⟩, H1.pick' [] rfl rfl⟩
theorem sound_tr (a : Option Addr) (n c : Nat) (l : List Key) (hn : n ≤ 4398046511104) (hok : ∀ k ∈ l, okK k = true) : Tr Try.prog 38 [.slice a n c] [rdH encKey 2 a n c l] [] (fun v m => v = .bool true ∧ m = []) := by
  intro w0 S0 H0
  refine enterR Try.func38 rfl Try.ntmps38 rfl ?_
  intro g0
  refine seq_ ?_
  refine region_ ?_
  refine wl_valE (v := .bool false) rfl (rf_assign rfl) rfl ?_
  refine wl_nil ?_
  refine thn ?_
  refine seq_ ?_
  refine region_ ?_
  refine wl_valE (v := .slice a n c) rfl (rf_move rfl) rfl ?_
  refine wl_tr H0 rfl [] (containsK_tr a n c l (by omega) hok) rfl (.ro 0 Le.rfl .nil) (rf_call Try.call55 rfl rfl) rfl ?_
  rintro _ w1 _ ⟨rfl, rfl⟩ H1
  refine wl_valE (v := .bool true) rfl (rf_not rfl rfl) rfl ?_
  refine wl_valE (v := .bool true) rfl (rf_assign rfl) rfl ?_
  refine wl_nil ?_
  refine thn ?_
  refine ret_ ?_
  refine fin1 (v := .bool true) Try.results38 rfl rfl ?_
  exact ⟨_, ⟨rfl, rfl⟩, H1.pick' [] rfl rfl⟩
theorem cloneK_tr (a : Option Addr) (n c : Nat) (l : List Key) (hn : n ≤ 4398046511104) : Tr Try.prog 39 [.slice a n c] [rdH encKey 2 a n c l] [] (fun v m => ∃ a' c', v = .slice a' n c' ∧ m = [slH encKey 2 28 a' n c' l]) := by
  intro w0 S0 H0
  refine enterR Try.func39 rfl Try.ntmps39 rfl ?_
  intro g0
  refine seq_ ?_
  refine region_ ?_
  refine wl_valE (v := .slice none 0 0) rfl (rf_assign rfl) rfl ?_
  refine wl_nil ?_
  refine thn ?_
  refine seq_ ?_
  refine seq_ ?_
  refine region_ ?_
  refine wl_valE (v := .slice a n c) rfl (rf_move rfl) rfl ?_
  refine wl_valE (v := .bool a.isNone) rfl (rf_eqlSN Try.underlying38 rfl rfl rfl rfl) rfl ?_
  refine wl_nil ?_
  refine thn ?_
  refine cond_ (t := a.isNone) rfl rfl (fun c4 => ?_) (fun c4 => ?_)
  · have hl := rd_len (H0.rdR 0 Le.rfl)
    have h0 : n = 0 := by
      rcases Nat.eq_zero_or_pos n with h | h
      · exact h
      · have := rd_at (H0.rdR 0 Le.rfl) h; rw [this] at c4; cases c4
    subst h0
    have hl0 := List.eq_nil_of_length_eq_zero hl.1.symm
    subst hl0
    refine seq_ ?_
    refine region_ ?_
    refine wl_valE (v := .slice none 0 0) rfl (rf_assign rfl) rfl ?_
    refine wl_nil ?_
    refine thn ?_
    refine ret_ ?_
    refine thr ?_
    refine fin1 (v := .slice none 0 0) Try.results39 rfl rfl ?_
    exact ⟨_, ⟨none, 0, rfl, rfl⟩, H0.addNil _ _ _⟩
  · refine skip_ ?_
    refine thn ?_
    refine seq_ ?_
    refine region_ ?_
    refine wl_buildSlice0H (enc := encKey) H0 encKey_len Try.underlying38 ti28 ?_
    intro a1 w2 H2
    refine wl_valE (v := .slice a n c) rfl (rf_move rfl) rfl ?_
    refine wl_appendH (enc := encKey) (N := n) H2 0 rfl rfl encKey_len encKey_one Try.underlying38 ti28 rfl rfl rfl rfl rfl (H2.rdR 0 Le.rfl) (Nat.zero_add _) (by omega) (by omega) ?_
    intro a3 c3 w3 hc3 hd3 H3
    refine wl_valE (v := .slice a3 n c3) rfl (rf_assign rfl) rfl ?_
    refine wl_nil ?_
    refine thn ?_
    refine ret_ ?_
    refine fin1 (v := .slice a3 n c3) Try.results39 rfl rfl ?_
    exact ⟨_, ⟨_, _, rfl, rfl⟩, H3.pick' [0] rfl rfl⟩
theorem compactK_tr (a : Option Addr) (n c : Nat) (l : List Key) (hn : n ≤ 4398046511104) (hnd : l.Nodup) : Tr Try.prog 42 [.slice a n c] [rdH encKey 2 a n c l] [] (fun v m => v = .slice a n c ∧ m = []) := by
  intro w0 S0 H0
  refine enterR Try.func42 rfl Try.ntmps42 rfl ?_
  intro g0
  refine seq_ ?_
  refine region_ ?_
  refine wl_valE (v := .slice none 0 0) rfl (rf_assign rfl) rfl ?_
  refine wl_nil ?_
  refine thn ?_
  refine seq_ ?_
  refine seq_ ?_
  refine region_ ?_
  refine wl_valE (v := .slice a n c) rfl (rf_move rfl) rfl ?_
  refine wl_valE (v := .int .i64 ((n : Nat) : Int)) rfl (rf_len_slice Try.underlying38 rfl rfl) rfl ?_
  refine wl_valE (v := .bool (decide (((n : Nat) : Int) < (2 : Int)))) rfl (rf_lss rfl rfl rfl rfl) rfl ?_
  refine wl_nil ?_
  refine thn ?_
  refine cond_ (t := decide (((n : Nat) : Int) < (2 : Int))) rfl rfl (fun c8 => ?_) (fun c8 => ?_)
  · have c8p := of_decide_eq_true c8
    refine seq_ ?_
    refine region_ ?_
    refine wl_valE (v := .slice a n c) rfl (rf_move rfl) rfl ?_
    refine wl_valE (v := .slice a n c) rfl (rf_assign rfl) rfl ?_
    refine wl_nil ?_
    refine thn ?_
    refine ret_ ?_
    refine thr ?_
    refine fin1 (v := .slice a n c) Try.results42 rfl rfl ?_
    exact ⟨_, ⟨rfl, rfl⟩, H0.pick' [] rfl rfl⟩
  · have c8p := of_decide_eq_false c8
    refine skip_ ?_
    refine thn ?_
    refine seq_ ?_
    refine seq_ ?_
    refine region_ ?_
    refine wl_valE (v := .int .i64 (1 : Int)) rfl (rf_assign rfl) rfl ?_
    refine wl_nil ?_
    refine thn ?_
    refine block_ ?_
    refine loop_ (fun qk_ qf_ qw_ => ∃ (g : Nat → Value) (k : Nat), qf_ = upds g [(0, .slice a n c), (3, .int .i64 ((k : Nat) : Int))] ∧ qk_ = n - k ∧ (1 ≤ k ∧ k ≤ n) ∧ St w0 S0 [rdH encKey 2 a n c l] qw_ []) (n - 1) ?_ ?_
    · refine ⟨_, 1, upds_self ⟨rfl, rfl, trivial⟩, rfl, ⟨Nat.le_refl _, by omega⟩, H0.pick' [] rfl rfl⟩
    · rintro lk0 _ wl0 ⟨gl0, k, rfl, hlk0, hk, HL0⟩
      refine seq_ ?_
      refine seq_ ?_
      refine region_ ?_
      refine wl_valE (v := .int .i64 ((k : Nat) : Int)) rfl (rf_move rfl) rfl ?_
      refine wl_valE (v := .slice a n c) rfl (rf_move rfl) rfl ?_
      refine wl_valE (v := .int .i64 ((n : Nat) : Int)) rfl (rf_len_slice Try.underlying38 rfl rfl) rfl ?_
      refine wl_valE (v := .bool (decide (((k : Nat) : Int) < ((n : Nat) : Int)))) rfl (rf_lss rfl rfl rfl rfl) rfl ?_
      refine wl_nil ?_
      refine thn ?_
      refine cond_ (t := decide (((k : Nat) : Int) < ((n : Nat) : Int))) rfl rfl (fun c13 => ?_) (fun c13 => ?_)
      · have c13p := of_decide_eq_true c13
        refine skip_ ?_
        refine thn ?_
        refine seq_ ?_
        refine block_ ?_
        refine seq_ ?_
        have hn1 := rd_len (HL0.rdR 0 Le.rfl)
        obtain ⟨x, hx⟩ : ∃ q_, l[k]? = some q_ := ⟨_, List.getElem?_eq_getElem (by omega)⟩
        obtain ⟨y, hy⟩ : ∃ q_, l[k - 1]? = some q_ := ⟨_, List.getElem?_eq_getElem (by omega)⟩
        refine region_q mixedP (by kernel_rfl) ?_
        refine qt_valE (v := .slice a n c) rfl (fun wq hq => rf_move rfl) rfl ?_
        refine qt_valE (v := .int .i64 ((k : Nat) : Int)) rfl (fun wq hq => rf_move rfl) rfl ?_
        refine qt_valE (v := .pointer (some ⟨ab a, ao a + k * 2, none⟩)) rfl (fun wq hq => rf_indexAddrH Try.underlying38 ti28 rfl rfl rfl rfl (by omega) (by omega) ((HL0.keep hq).rdR 0 Le.rfl)) rfl ?_
        refine qt_valE (v := .agg #[.int .i64 x.table, .int .i64 x.row]) rfl (fun wq hq => rf_loadAgg (cs := [.int .i64 x.table, .int .i64 x.row]) Try.underlying28 rfl ti28 rfl rfl (el_sub' (rd_el ((HL0.keep hq).rdR 0 Le.rfl) hx) 0 2 rfl) rfl) rfl ?_
        refine qt_valE (v := .slice a n c) rfl (fun wq hq => rf_move rfl) rfl ?_
        refine qt_valE (v := .int .i64 ((k : Nat) : Int)) rfl (fun wq hq => rf_move rfl) rfl ?_
        refine qt_valE (v := .int .i64 ((k - 1 : Nat) : Int)) rfl (fun wq hq => rf_sub rfl rfl rfl rfl (by rw [IntWalk.i64_in _ (by omega)]; omega)) rfl ?_
        refine qt_valE (v := .pointer (some ⟨ab a, ao a + (k - 1) * 2, none⟩)) rfl (fun wq hq => rf_indexAddrH Try.underlying38 ti28 rfl rfl rfl rfl (by omega) (by omega) ((HL0.keep hq).rdR 0 Le.rfl)) rfl ?_
        refine qt_valE (v := .agg #[.int .i64 y.table, .int .i64 y.row]) rfl (fun wq hq => rf_loadAgg (cs := [.int .i64 y.table, .int .i64 y.row]) Try.underlying28 rfl ti28 rfl rfl (el_sub' (rd_el ((HL0.keep hq).rdR 0 Le.rfl) hy) 0 2 rfl) rfl) rfl ?_
        refine qt_valE (v := .bool (decide (x = y))) rfl (fun wq hq => rf_eqlS (by kernel_rfl) (eqKey x y _) rfl rfl rfl rfl) rfl ?_
        refine qt_nil ?_
        intro w2 hk2
        have H2 := HL0.keep hk2
        refine thn ?_
        refine condF' rfl rfl (t := decide (x = y)) ((decide_eq_false (fun e => by subst e; have := nodup_inj hnd hx hy; omega))) ?_
        refine skip_ ?_
        refine bln ?_
        refine thn ?_
        refine region_ ?_
        refine wl_valE (v := .int .i64 ((k : Nat) : Int)) rfl (rf_move rfl) rfl ?_
        refine wl_valE (v := .int .i64 ((k + 1 : Nat) : Int)) rfl (rf_add rfl rfl rfl rfl (IntWalk.i64_in _ (by omega))) rfl ?_
        refine wl_valE (v := .int .i64 ((k + 1 : Nat) : Int)) rfl (rf_assign rfl) rfl ?_
        refine wl_nil ?_
        refine thn ?_
        refine ⟨n - (k + 1), _, rfl, (by omega), _, k + 1, upds_self ⟨rfl, rfl, trivial⟩, rfl, ⟨by omega, by omega⟩, H2.pick' [] rfl rfl⟩
      · have c13p := of_decide_eq_false c13
        refine exit_ ?_
        refine thx (thx (blx ?_))
        refine thn ?_
        refine seq_ ?_
        refine region_ ?_
        refine wl_valE (v := .slice a n c) rfl (rf_move rfl) rfl ?_
        refine wl_valE (v := .slice a n c) rfl (rf_assign rfl) rfl ?_
        refine wl_nil ?_
        refine thn ?_
        refine ret_ ?_
        refine fin1 (v := .slice a n c) Try.results42 rfl rfl ?_
        exact ⟨_, ⟨rfl, rfl⟩, HL0.pick' [] rfl rfl⟩
theorem clipK_tr (a : Option Addr) (n c : Nat) (l : List Key) (hn : n ≤ 4398046511104) : Tr Try.prog 41 [.slice a n c] [rdH encKey 2 a n c l] [] (fun v m => v = .slice a n n ∧ m = []) := by
  intro w0 S0 H0
  have hl := (rd_len (H0.rdR 0 Le.rfl)).2
  refine enterR Try.func41 rfl Try.ntmps41 rfl ?_
  intro g0
  refine seq_ ?_
  refine region_ ?_
  refine wl_valE (v := .slice none 0 0) rfl (rf_assign rfl) rfl ?_
  refine wl_nil ?_
  refine thn ?_
  refine seq_ ?_
  refine region_ ?_
  refine wl_valE (v := .slice a n c) rfl (rf_move rfl) rfl ?_
  refine wl_valE (v := .slice a n c) rfl (rf_move rfl) rfl ?_
  refine wl_valE (v := .int .i64 ((n : Nat) : Int)) rfl (rf_len_slice Try.underlying38 rfl rfl) rfl ?_
  refine wl_valE (v := .slice a n c) rfl (rf_move rfl) rfl ?_
  refine wl_valE (v := .int .i64 ((n : Nat) : Int)) rfl (rf_len_slice Try.underlying38 rfl rfl) rfl ?_
  refine wl_valE (v := .slice a n n) rfl (rf_sliceTo3 (h := n) (m := n) Try.underlying38 ti28 rfl rfl rfl rfl rfl rfl (by omega) (by omega)) rfl ?_
  refine wl_valE (v := .slice a n n) rfl (rf_assign rfl) rfl ?_
  refine wl_nil ?_
  refine thn ?_
  refine ret_ ?_
  refine fin1 (v := .slice a n n) Try.results41 rfl rfl ?_
  exact ⟨_, ⟨rfl, rfl⟩, H0.pick' [] rfl rfl⟩
theorem sortKeys_tr (a : Option Addr) (n c : Nat) (l : List Key) (hn : n ≤ 4398046511104) (hok : ∀ k ∈ l, okK k = true) (hnd : l.Nodup) : Tr Try.prog 20 [.slice a n c] [rdH encKey 2 a n c l] [] (fun v m => ∃ a' c' l', (l'.Perm l ∧ l'.Pairwise ltK) ∧ v = .tuple #[.slice a' n c', .int .i64 0] ∧ m = [slH encKey 2 28 a' n c' l']) := by
  intro w0 S0 H0
  have hl := (rd_len (H0.rdR 0 Le.rfl)).1
  refine enterR Try.func20 rfl Try.ntmps20 rfl ?_
  intro g0
  refine seq_ ?_
  refine region_ ?_
  refine wl_valE (v := .slice none 0 0) rfl (rf_assign rfl) rfl ?_
  refine wl_valE (v := .int .i64 (0 : Int)) rfl (rf_assign rfl) rfl ?_
  refine wl_nil ?_
  refine thn ?_
  refine seq_ ?_
  refine seq_ ?_
  refine region_ ?_
  refine wl_valE (v := .slice a n c) rfl (rf_move rfl) rfl ?_
  refine wl_tr H0 rfl [] (sound_tr a n c l (by omega) hok) rfl (.ro 0 Le.rfl .nil) (rf_call Try.call38 rfl rfl) rfl ?_
  rintro _ w1 _ ⟨rfl, rfl⟩ H1
  refine wl_valE (v := .bool false) rfl (rf_not rfl rfl) rfl ?_
  refine wl_nil ?_
  refine thn ?_
  refine condF rfl rfl ?_
  refine skip_ ?_
  refine thn ?_
  refine seq_ ?_
  refine region_ ?_
  refine wl_valE (v := .slice a n c) rfl (rf_move rfl) rfl ?_
  refine wl_tr H1 rfl [] (cloneK_tr a n c l (by omega)) rfl (.ro 0 Le.rfl .nil) (rf_call Try.call39 rfl rfl) rfl ?_
  rintro _ w2 _ ⟨a9, c9, rfl, rfl⟩ H2
  refine wl_valE (v := .slice a9 n c9) rfl (rf_assign rfl) rfl ?_
  refine wl_nil ?_
  refine thn ?_
  refine seq_ ?_
  refine region_ ?_
  refine wl_valE (v := .slice a9 n c9) rfl (rf_move rfl) rfl ?_
  refine wl_tr H2 rfl [0] (sortK_tr hnd (by omega)) rfl .nil (rf_call Try.call40 rfl rfl) rfl ?_
  rintro _ w3 _ ⟨l9, hl9, rfl, rfl⟩ H3
  refine wl_nil ?_
  refine thn ?_
  refine seq_ ?_
  refine region_ ?_
  refine wl_valE (v := .slice a9 n c9) rfl (rf_move rfl) rfl ?_
  refine wl_tr H3 rfl [] (compactK_tr a9 n c9 l9 (by omega) (hl9.1.nodup_iff.2 hnd)) rfl (.own 0 rfl slH_rd .nil) (rf_call Try.call42 rfl rfl) rfl ?_
  rintro _ w4 _ ⟨rfl, rfl⟩ H4
  refine wl_tr H4 rfl [] (clipK_tr a9 n c9 l9 (by omega) ) rfl (.own 0 rfl slH_rd .nil) (rf_call Try.call41 rfl rfl) rfl ?_
  rintro _ w5 _ ⟨rfl, rfl⟩ H5
  refine wl_valE (v := .slice a9 n n) rfl (rf_assign rfl) rfl ?_
  refine wl_valE (v := .int .i64 (0 : Int)) rfl (rf_assign rfl) rfl ?_
  refine wl_nil ?_
  refine thn ?_
  refine ret_ ?_
  refine fin2 (v1 := .slice a9 n n) (v2 := .int .i64 (0 : Int)) Try.results20 rfl rfl rfl rfl ?_
  have H6 : St w0 S0 [rdH encKey 2 a n c l] w5 (setH _ 0 (slH encKey 2 28 a9 n n l9)) := H5.le 0 slH_clip rfl
  try dsimp only [putsH, setH, List.cons_append, List.nil_append] at H6
  exact ⟨_, ⟨_, _, _, hl9, rfl, rfl⟩, H6.pick' [0] rfl rfl⟩
end Go.Proofs.Ytojcddlpkfhodaa.W
