import Derived.Test.YtojcddlpkfhodaaGreatK2
import Derived.KernelRfl
namespace Go.Proofs.YtojcddlpkfhodaaGreat.W
open Go Go.Wk
set_option linter.unusedVariables false
set_option linter.unusedSimpArgs false

theorem check_ok {k : Key} : checkF k = 0 ↔ okK k = true := by unfold checkF; cases okK k <;> simp
instance (l : List Key) : Decidable (RisK l) := by unfold RisK; infer_instance
theorem risK_nil : RisK [] := ⟨fun _ h => (by cases h), .nil⟩
theorem risK_snoc {l : List Key} {i : Nat} {x : Key} (h : RisK (l.take i)) (hx : l[i]? = some x) (hk : okK x = true) (hl : ∀ y, 0 < i → l[i - 1]? = some y → ltK y x) : RisK (l.take (i + 1)) := by
  have hi := (List.getElem?_eq_some_iff.1 hx).1
  unfold RisK
  rw [List.take_add_one, hx, Option.toList_some]
  refine ⟨fun k hk2 => ?_, ?_⟩
  · rcases List.mem_append.1 hk2 with h2 | h2
    · exact h.1 k h2
    · rw [List.mem_singleton] at h2; subst h2; exact hk
  · rw [List.pairwise_append]
    refine ⟨h.2, by simp, fun a ha b hb => ?_⟩
    rw [List.mem_singleton] at hb; subst hb
    obtain ⟨j, hj⟩ := List.getElem?_of_mem ha
    have hj' := hj
    rw [List.getElem?_take] at hj'
    split at hj'
    · rename_i hji
      obtain ⟨y, hy⟩ : ∃ y, l[i - 1]? = some y := ⟨_, List.getElem?_eq_getElem (by omega)⟩
      have hyx := hl y (by omega) hy
      by_cases e : j = i - 1
      · subst e; rw [hy] at hj'; cases hj'; exact hyx
      · have hp := List.pairwise_iff_getElem.1 h.2
        have hy2 : (l.take i)[i - 1]? = some y := by rw [List.getElem?_take, if_pos (by omega)]; exact hy
        obtain ⟨q1, q2⟩ := List.getElem?_eq_some_iff.1 hj
        obtain ⟨q3, q4⟩ := List.getElem?_eq_some_iff.1 hy2
        have := hp j (i - 1) q1 q3 (by omega)
        rw [q2, q4] at this
        exact ltK_trans this hyx
    · cases hj'
theorem risK_bad {l : List Key} {i : Nat} {x : Key} (hx : l[i]? = some x) (hk : checkF x ≠ 0) : ¬ RisK l := fun h => hk (check_ok.2 (h.1 x (List.mem_of_getElem? hx)))
theorem risK_bad2 {l : List Key} {i : Nat} {x y : Key} (hi : 0 < i) (hy : l[i - 1]? = some y) (hx : l[i]? = some x) (hk : 0 ≤ cmpK y x) : ¬ RisK l := fun h => by
  obtain ⟨q1, q2⟩ := List.getElem?_eq_some_iff.1 hy
  obtain ⟨q3, q4⟩ := List.getElem?_eq_some_iff.1 hx
  have := List.pairwise_iff_getElem.1 h.2 (i - 1) i q1 q3 (by omega)
  rw [q2, q4] at this
  have := cmpK_neg.2 this
  omega
theorem strictK {l : List Key} (hn : l.Nodup) (h : l.Pairwise (fun a b => ¬ ltK b a)) : l.Pairwise ltK := by
  refine List.Pairwise.imp₂ ?_ hn h
  intro a b h1 h2
  unfold ltK at *
  rcases Int.lt_trichotomy a.table b.table with q | q | q
  · exact .inl q
  · rcases Int.lt_trichotomy a.row b.row with p | p | p
    · exact .inr ⟨q, p⟩
    · exact absurd (by cases a; cases b; simp at *; exact ⟨q, p⟩) h1
    · exact absurd (.inr ⟨q.symm, p⟩) h2
  · exact absurd (.inl q) h2
theorem swoK : Go.Sort.SWO (Go.Proofs.ltOf cmpK) where
  irrefl x := by unfold Go.Proofs.ltOf; simp [cmpK_zero.2]
  trans x y z h1 h2 := by unfold Go.Proofs.ltOf at *; simp only [decide_eq_true_eq] at *; rw [cmpK_neg] at *; exact ltK_trans h1 h2
  ntrans x y z h1 h2 := by
    unfold Go.Proofs.ltOf at *
    simp only [decide_eq_false_iff_not] at *
    rw [cmpK_neg] at *
    unfold ltK at *; omega

theorem compare_tr' (x y : Key) : Tr Tryz.prog 70 [.agg (encKey x).toArray, .agg (encKey y).toArray] [] [] fun v m => v = .int .i64 (cmpK x y) := fun w S0 H => (compare_tr x y w S0 H).mono fun v w' ⟨m, ⟨h1, h2⟩, h3⟩ => ⟨m, h1, h3⟩
section
open Go.Proofs Go.Shelf
def sortK_ren : Go.Shelf.Ren := ⟨fun | 6 => 69 | 15 => 81 | 14 => 80 | 28 => 96 | 29 => 97 | 20 => 88 | 21 => 89 | 22 => 90 | 23 => 91 | 24 => 92 | 25 => 93 | 26 => 94 | 27 => 95 | 46 => 108 | 47 => 109 | 48 => 110 | 49 => 111 | 50 => 112 | 57 => 116 | n => n, fun | 22 => 85 | 24 => 41 | 25 => 133 | 3 => 3 | 39 => 122 | 0 => 0 | 53 => 155 | 55 => 91 | 4 => 4 | 46 => 148 | 45 => 147 | 50 => 152 | 5 => 5 | 9 => 9 | 66 => 163 | 70 => 167 | 76 => 171 | 77 => 64 | n => n, fun | n => n⟩
set_option maxRecDepth 100000 in
theorem layK : Go.Proofs.SlLaysF0.n6 Tryz.prog sortK_ren := {
  mixed := by kernel_rfl
  f6 := ⟨Tryz.f69.name, by decide, Tryz.func69.trans (congrArg some (by kernel_rfl))⟩
  f14 := ⟨Tryz.f80.name, by decide, Tryz.func80.trans (congrArg some (by kernel_rfl))⟩
  f15 := Tryz.func81.trans (congrArg some (by kernel_rfl))
  f20 := ⟨Tryz.f88.name, by decide, Tryz.func88.trans (congrArg some (by kernel_rfl))⟩
  f21 := ⟨Tryz.f89.name, by decide, Tryz.func89.trans (congrArg some (by kernel_rfl))⟩
  f22 := ⟨Tryz.f90.name, by decide, Tryz.func90.trans (congrArg some (by kernel_rfl))⟩
  f23 := ⟨Tryz.f91.name, by decide, Tryz.func91.trans (congrArg some (by kernel_rfl))⟩
  f24 := ⟨Tryz.f92.name, by decide, Tryz.func92.trans (congrArg some (by kernel_rfl))⟩
  f25 := ⟨Tryz.f93.name, by decide, Tryz.func93.trans (congrArg some (by kernel_rfl))⟩
  f26 := ⟨Tryz.f94.name, by decide, Tryz.func94.trans (congrArg some (by kernel_rfl))⟩
  f27 := ⟨Tryz.f95.name, by decide, Tryz.func95.trans (congrArg some (by kernel_rfl))⟩
  f28 := Tryz.func96.trans (congrArg some (by kernel_rfl))
  f29 := Tryz.func97.trans (congrArg some (by kernel_rfl))
  f46 := ⟨Tryz.f108.name, by decide, Tryz.func108.trans (congrArg some (by kernel_rfl))⟩
  f47 := Tryz.func109.trans (congrArg some (by kernel_rfl))
  f48 := Tryz.func110.trans (congrArg some (by kernel_rfl))
  f49 := ⟨Tryz.f111.name, by decide, Tryz.func111.trans (congrArg some (by kernel_rfl))⟩
  f50 := ⟨Tryz.f112.name, by decide, Tryz.func112.trans (congrArg some (by kernel_rfl))⟩
  f57 := ⟨Tryz.f116.name, by decide, Tryz.func116.trans (congrArg some (by kernel_rfl))⟩
  t0 := Tryz.underlying0
  a0 := Tryz.isAgg0
  z0 := Tryz.sizeOf0
  v0 := Tryz.zeroValue0
  t3 := Tryz.underlying3
  a3 := Tryz.isAgg3
  z3 := Tryz.sizeOf3
  v3 := Tryz.zeroValue3
  t4 := Tryz.underlying4
  a4 := Tryz.isAgg4
  z4 := Tryz.sizeOf4
  v4 := Tryz.zeroValue4
  t5 := Tryz.underlying5
  a5 := Tryz.isAgg5
  z5 := Tryz.sizeOf5
  v5 := Tryz.zeroValue5
  t9 := Tryz.underlying9
  a9 := Tryz.isAgg9
  z9 := Tryz.sizeOf9
  v9 := Tryz.zeroValue9
  t22 := Tryz.underlying85
  a22 := Tryz.isAgg85
  z22 := Tryz.sizeOf85
  v22 := Tryz.zeroValue85
  t25 := Tryz.underlying133
  a25 := Tryz.isAgg133
  z25 := Tryz.sizeOf133
  v25 := Tryz.zeroValue133
  t39 := Tryz.underlying122
  a39 := Tryz.isAgg122
  z39 := Tryz.sizeOf122
  v39 := Tryz.zeroValue122
  t45 := Tryz.underlying147
  a45 := Tryz.isAgg147
  z45 := Tryz.sizeOf147
  v45 := Tryz.zeroValue147
  t46 := Tryz.underlying148
  a46 := Tryz.isAgg148
  z46 := Tryz.sizeOf148
  v46 := Tryz.zeroValue148
  t50 := Tryz.underlying152
  a50 := Tryz.isAgg152
  z50 := Tryz.sizeOf152
  v50 := Tryz.zeroValue152
  t53 := Tryz.underlying155
  a53 := Tryz.isAgg155
  z53 := Tryz.sizeOf155
  v53 := Tryz.zeroValue155
  t55 := Tryz.underlying91
  a55 := Tryz.isAgg91
  z55 := Tryz.sizeOf91
  v55 := Tryz.zeroValue91
  t66 := Tryz.underlying163
  a66 := Tryz.isAgg163
  z66 := Tryz.sizeOf163
  v66 := Tryz.zeroValue163
  t70 := Tryz.underlying167
  a70 := Tryz.isAgg167
  z70 := Tryz.sizeOf167
  v70 := Tryz.zeroValue167
  t76 := Tryz.underlying171
  a76 := Tryz.isAgg171
  z76 := Tryz.sizeOf171
  v76 := Tryz.zeroValue171
  t77 := Tryz.underlying64
  a77 := Tryz.isAgg64
  z77 := Tryz.sizeOf64
  v77 := Tryz.zeroValue64 }
end

theorem sortK_tr {a : Option Addr} {n c : Nat} {l : List Key} (hnd : l.Nodup) (hn : l.length < 4611686018427387904) : Tr Tryz.prog 69 [.slice a n c, .func (.func 70) #[] #[]] [] [slH encKey 2 41 a n c l] fun v m => ∃ l', (l'.Perm l ∧ l'.Pairwise ltK) ∧ v = .tuple #[] ∧ m = [slH encKey 2 41 a n c l'] :=
  Tr.of_sl (fun _ => trivial) fun w F hs => by
    have eg : ∀ args w, (callFunc 70 args).run Tryz.prog w = .ok (.enter 70 args) w := Go.Proofs.enters_of Tryz.func70 (by kernel_rfl) rfl
    haveI : Inhabited Key := ⟨⟨0, 0⟩⟩
    have h := sort_ret (enc := encKey) (k := 2) layK Tryz.isAgg41 Tryz.sizeOf41 encKey_len encKey_one cmpK swoK 70 eg (fun x y W => (Tr.top (compare_tr' x y) getH_nil).mono (fun v w' h => h)) hs hn
    refine Ret.mono h ?_
    rintro _ w' ⟨rfl, l', hp1, hp2, hp3, hp4⟩
    refine ⟨rfl, l', ⟨hp1, strictK (hp1.nodup_iff.2 hnd) (hp2.imp fun {a b} hab => ?_)⟩, hp1.length_eq, hp3, hp4⟩
    unfold Go.Proofs.ltOf at hab
    simp only [decide_eq_false_iff_not] at hab
    rwa [cmpK_neg] at hab
theorem bad_tr (k : Key) : Tr Tryz.prog 79 [.agg #[.int .i64 k.table, .int .i64 k.row]] [] [] (fun v m => v = .bool (decide (checkF k ≠ 0)) ∧ m = []) := by
  intro w0 S0 H0
  refine enterR Tryz.func79 rfl Tryz.ntmps79 rfl ?_
  intro g0
  refine seq_ ?_
  refine region_ ?_
  refine wl_boxH H0 (v := .agg #[.int .i64 k.table, .int .i64 k.row]) rfl rfl ?_
  intro b1 w2 H2
  refine wl_valE (v := .bool false) rfl (rf_assign rfl) rfl ?_
  refine wl_nil ?_
  refine thn ?_
  refine seq_ ?_
  refine region_ ?_
  refine wl_valE (v := .agg #[.int .i64 k.table, .int .i64 k.row]) rfl (rf_loadBlk Tryz.underlying41 rfl ti41 rfl rfl (H2.blk 0 rfl) (leb rfl)) rfl ?_
  refine wl_tr H2 rfl [] (check_tr k) rfl .nil (rf_call Tryz.call43 rfl rfl) rfl ?_
  rintro _ w3 _ ⟨rfl, rfl⟩ H3
  refine wl_valE (v := .bool (decide (checkF k ≠ (0 : Int)))) rfl (rf_neq rfl rfl rfl rfl) rfl ?_
  refine wl_valE (v := .bool (decide (checkF k ≠ (0 : Int)))) rfl (rf_assign rfl) rfl ?_
  refine wl_nil ?_
  refine thn ?_
  refine ret_ ?_
  refine fin1 (v := .bool (decide (checkF k ≠ (0 : Int)))) Tryz.results79 rfl rfl ?_
  exact ⟨_, ⟨rfl, rfl⟩, H3.pick' [] rfl rfl⟩
theorem indexK_tr (a : Option Addr) (n c : Nat) (l : List Key) (hn : n ≤ 4398046511104) (hok : ∀ k ∈ l, okK k = true) : Tr Tryz.prog 87 [.slice a n c, .func (.func 79) #[] #[]] [rdH encKey 2 a n c l] [] (fun v m => v = .int .i64 (-1) ∧ m = []) := by
  intro w0 S0 H0
  refine enterR Tryz.func87 rfl Tryz.ntmps87 rfl ?_
  intro g0
  refine seq_ ?_
  refine region_ ?_
  refine wl_valE (v := .int .i64 (0 : Int)) rfl (rf_assign rfl) rfl ?_
  refine wl_nil ?_
  refine thn ?_
  refine seq_ ?_
  refine seq_ ?_
  refine region_ ?_
  refine wl_valE (v := .slice a n c) rfl (rf_move rfl) rfl ?_
  refine wl_valE (v := .int .i64 ((n : Nat) : Int)) rfl (rf_len_slice Tryz.underlying85 rfl rfl) rfl ?_
  refine wl_valE (v := .int .i64 (0 : Int)) rfl (rf_move rfl) rfl ?_
  refine wl_nil ?_
  refine thn ?_
  refine block_ ?_
  refine loop_ (fun qk_ qf_ qw_ => ∃ (g : Nat → Value) (k : Nat), qf_ = upds g [(0, .slice a n c), (1, .func (.func 79) #[] #[]), (7, .int .i64 ((n : Nat) : Int)), (8, .int .i64 ((k : Nat) : Int))] ∧ qk_ = n - k ∧ (k ≤ n) ∧ St w0 S0 [rdH encKey 2 a n c l] qw_ []) (n - 0) ?_ ?_
  · refine ⟨_, 0, upds_self ⟨rfl, rfl, rfl, rfl, trivial⟩, rfl, Nat.zero_le _, H0.pick' [] rfl rfl⟩
  · rintro lk0 _ wl0 ⟨gl0, k, rfl, hlk0, hk, HL0⟩
    refine seq_ ?_
    refine region_ ?_
    refine wl_valE (v := .bool (decide (((k : Nat) : Int) < ((n : Nat) : Int)))) rfl (rf_lss rfl rfl rfl rfl) rfl ?_
    refine wl_nil ?_
    refine thn ?_
    refine seq_ ?_
    refine cond_ (t := decide (((k : Nat) : Int) < ((n : Nat) : Int))) rfl rfl (fun c9 => ?_) (fun c9 => ?_)
    · have c9p := of_decide_eq_true c9
      refine skip_ ?_
      refine thn ?_
      refine seq_ ?_
      refine block_ ?_
      refine seq_ ?_
      refine region_ ?_
      refine wl_valE (v := .int .i64 ((k : Nat) : Int)) rfl (rf_move rfl) rfl ?_
      refine wl_valE (v := .int .i64 ((k : Nat) : Int)) rfl (rf_assign rfl) rfl ?_
      refine wl_nil ?_
      refine thn ?_
      refine seq_ ?_
      have hn1 := rd_len (HL0.rdR 0 Le.rfl)
      obtain ⟨x, hx⟩ : ∃ q_, l[k]? = some q_ := ⟨_, List.getElem?_eq_getElem (by omega)⟩
      refine region_ ?_
      refine wl_valE (v := .func (.func 79) #[] #[]) rfl (rf_move rfl) rfl ?_
      refine wl_valE (v := .slice a n c) rfl (rf_move rfl) rfl ?_
      refine wl_valE (v := .int .i64 ((k : Nat) : Int)) rfl (rf_move rfl) rfl ?_
      refine wl_valE (v := .pointer (some ⟨ab a, ao a + k * 2, none⟩)) rfl (rf_indexAddrH Tryz.underlying85 ti41 rfl rfl rfl rfl (by omega) (by omega) (HL0.rdR 0 Le.rfl)) rfl ?_
      refine wl_valE (v := .agg #[.int .i64 x.table, .int .i64 x.row]) rfl (rf_loadAgg (cs := [.int .i64 x.table, .int .i64 x.row]) Tryz.underlying41 rfl ti41 rfl rfl (el_sub' (rd_el (HL0.rdR 0 Le.rfl) hx) 0 2 rfl) rfl) rfl ?_
      refine wl_tr HL0 rfl [] (bad_tr x) rfl .nil (rf_callv (fs := []) (cs := []) Tryz.call79 rfl rfl rfl rfl) rfl ?_
      rintro _ w2 _ ⟨rfl, rfl⟩ H2
      refine wl_nil ?_
      refine thn ?_
      refine condF' rfl rfl (t := decide (checkF x ≠ 0)) ((decide_eq_false (by have := check_ok.2 (hok x (List.mem_of_getElem? hx)); omega))) ?_
      refine skip_ ?_
      refine bln ?_
      refine thn ?_
      refine region_ ?_
      refine wl_valE (v := .int .i64 ((k + 1 : Nat) : Int)) rfl (rf_add rfl rfl rfl rfl (IntWalk.i64_in _ (by omega))) rfl ?_
      refine wl_valE (v := .int .i64 ((k + 1 : Nat) : Int)) rfl (rf_move rfl) rfl ?_
      refine wl_nil ?_
      refine thn ?_
      refine ⟨n - (k + 1), _, rfl, (by omega), _, k + 1, upds_self ⟨rfl, rfl, rfl, rfl, trivial⟩, rfl, by omega, H2.pick' [] rfl rfl⟩
    · have c9p := of_decide_eq_false c9
      refine exit_ ?_
      refine thx (thx (blx ?_))
      refine thn ?_
      refine seq_ ?_
      refine region_ ?_
      refine wl_valE (v := .int .i64 (-1 : Int)) rfl (rf_assign rfl) rfl ?_
      refine wl_nil ?_
      refine thn ?_
      refine ret_ ?_
      refine fin1 (v := .int .i64 (-1 : Int)) Tryz.results87 rfl rfl ?_
      exact ⟨_, ⟨rfl, rfl⟩, HL0.pick' [] rfl rfl⟩
theorem containsK_tr (a : Option Addr) (n c : Nat) (l : List Key) (hn : n ≤ 4398046511104) (hok : ∀ k ∈ l, okK k = true) : Tr Tryz.prog 78 [.slice a n c, .func (.func 79) #[] #[]] [rdH encKey 2 a n c l] [] (fun v m => v = .bool false ∧ m = []) := by
  intro w0 S0 H0
  refine enterR Tryz.func78 rfl Tryz.ntmps78 rfl ?_
  intro g0
  refine seq_ ?_
  refine region_ ?_
  refine wl_valE (v := .bool false) rfl (rf_assign rfl) rfl ?_
  refine wl_nil ?_
  refine thn ?_
  refine seq_ ?_
  refine region_ ?_
  refine wl_valE (v := .slice a n c) rfl (rf_move rfl) rfl ?_
  refine wl_valE (v := .func (.func 79) #[] #[]) rfl (rf_move rfl) rfl ?_
  refine wl_tr H0 rfl [] (indexK_tr a n c l (by omega) hok) rfl (.ro 0 Le.rfl .nil) (rf_call Tryz.call87 rfl rfl) rfl ?_
  rintro _ w1 _ ⟨rfl, rfl⟩ H1
  refine wl_valE (v := .bool false) rfl (rf_geq rfl rfl rfl rfl) (congrArg Value.bool (by decide)) ?_
  refine wl_valE (v := .bool false) rfl (rf_assign rfl) rfl ?_
  refine wl_nil ?_
  refine thn ?_
  refine ret_ ?_
  refine fin1 (v := .bool false) Tryz.results78 rfl rfl ?_
  exact ⟨_, ⟨rfl, rfl⟩, H1.pick' [] rfl rfl⟩
theorem sound_tr (a : Option Addr) (n c : Nat) (l : List Key) (hn : n ≤ 4398046511104) (hok : ∀ k ∈ l, okK k = true) : Tr Tryz.prog 67 [.slice a n c] [rdH encKey 2 a n c l] [] (fun v m => v = .bool true ∧ m = []) := by
  intro w0 S0 H0
  refine enterR Tryz.func67 rfl Tryz.ntmps67 rfl ?_
  intro g0
  refine seq_ ?_
  refine region_ ?_
  refine wl_valE (v := .bool false) rfl (rf_assign rfl) rfl ?_
  refine wl_nil ?_
  refine thn ?_
  refine seq_ ?_
  refine region_ ?_
  refine wl_valE (v := .slice a n c) rfl (rf_move rfl) rfl ?_
  refine wl_tr H0 rfl [] (containsK_tr a n c l (by omega) hok) rfl (.ro 0 Le.rfl .nil) (rf_call Tryz.call78 rfl rfl) rfl ?_
  rintro _ w1 _ ⟨rfl, rfl⟩ H1
  refine wl_valE (v := .bool true) rfl (rf_not rfl rfl) rfl ?_
  refine wl_valE (v := .bool true) rfl (rf_assign rfl) rfl ?_
  refine wl_nil ?_
  refine thn ?_
  refine ret_ ?_
  refine fin1 (v := .bool true) Tryz.results67 rfl rfl ?_
  exact ⟨_, ⟨rfl, rfl⟩, H1.pick' [] rfl rfl⟩
theorem cloneK_tr (a : Option Addr) (n c : Nat) (l : List Key) (hn : n ≤ 4398046511104) : Tr Tryz.prog 68 [.slice a n c] [rdH encKey 2 a n c l] [] (fun v m => ∃ a' c', v = .slice a' n c' ∧ m = [slH encKey 2 41 a' n c' l]) := by
  intro w0 S0 H0
  refine enterR Tryz.func68 rfl Tryz.ntmps68 rfl ?_
  intro g0
  refine seq_ ?_
  refine region_ ?_
  refine wl_valE (v := .slice none 0 0) rfl (rf_assign rfl) rfl ?_
  refine wl_nil ?_
  refine thn ?_
  refine seq_ ?_
  refine seq_ ?_
  refine region_ ?_
  refine wl_valE (v := .slice a n c) rfl (rf_move rfl) rfl ?_
  refine wl_valE (v := .bool a.isNone) rfl (rf_eqlSN Tryz.underlying85 rfl rfl rfl rfl) rfl ?_
  refine wl_nil ?_
  refine thn ?_
  refine cond_ (t := a.isNone) rfl rfl (fun c4 => ?_) (fun c4 => ?_)
  · have hl := rd_len (H0.rdR 0 Le.rfl)
    have h0 : n = 0 := by
      rcases Nat.eq_zero_or_pos n with h | h
      · exact h
      · have := rd_at (H0.rdR 0 Le.rfl) h; rw [this] at c4; cases c4
    subst h0
    have hl0 := List.eq_nil_of_length_eq_zero hl.1.symm
    subst hl0
    refine seq_ ?_
    refine region_ ?_
    refine wl_valE (v := .slice none 0 0) rfl (rf_assign rfl) rfl ?_
    refine wl_nil ?_
    refine thn ?_
    refine ret_ ?_
    refine thr ?_
    refine fin1 (v := .slice none 0 0) Tryz.results68 rfl rfl ?_
    exact ⟨_, ⟨none, 0, rfl, rfl⟩, H0.addNil _ _ _⟩
  · refine skip_ ?_
    refine thn ?_
    refine seq_ ?_
    refine region_ ?_
    refine wl_buildSlice0H (enc := encKey) H0 encKey_len Tryz.underlying85 ti41 ?_
    intro a1 w2 H2
    refine wl_valE (v := .slice a n c) rfl (rf_move rfl) rfl ?_
    refine wl_appendH (enc := encKey) (N := n) H2 0 rfl rfl encKey_len encKey_one Tryz.underlying85 ti41 rfl rfl rfl rfl rfl (H2.rdR 0 Le.rfl) (Nat.zero_add _) (by omega) (by omega) ?_
    intro a3 c3 w3 hc3 hd3 H3
    refine wl_valE (v := .slice a3 n c3) rfl (rf_assign rfl) rfl ?_
    refine wl_nil ?_
    refine thn ?_
    refine ret_ ?_
    refine fin1 (v := .slice a3 n c3) Tryz.results68 rfl rfl ?_
    exact ⟨_, ⟨_, _, rfl, rfl⟩, H3.pick' [0] rfl rfl⟩
theorem compactK_tr (a : Option Addr) (n c : Nat) (l : List Key) (hn : n ≤ 4398046511104) (hnd : l.Nodup) : Tr Tryz.prog 72 [.slice a n c] [rdH encKey 2 a n c l] [] (fun v m => v = .slice a n c ∧ m = []) := by
  intro w0 S0 H0
  refine enterR Tryz.func72 rfl Tryz.ntmps72 rfl ?_
  intro g0
  refine seq_ ?_
  refine region_ ?_
  refine wl_valE (v := .slice none 0 0) rfl (rf_assign rfl) rfl ?_
  refine wl_nil ?_
  refine thn ?_
  refine seq_ ?_
  refine seq_ ?_
  refine region_ ?_
  refine wl_valE (v := .slice a n c) rfl (rf_move rfl) rfl ?_
  refine wl_valE (v := .int .i64 ((n : Nat) : Int)) rfl (rf_len_slice Tryz.underlying85 rfl rfl) rfl ?_
  refine wl_valE (v := .bool (decide (((n : Nat) : Int) < (2 : Int)))) rfl (rf_lss rfl rfl rfl rfl) rfl ?_
  refine wl_nil ?_
  refine thn ?_
  refine cond_ (t := decide (((n : Nat) : Int) < (2 : Int))) rfl rfl (fun c8 => ?_) (fun c8 => ?_)
  · have c8p := of_decide_eq_true c8
    refine seq_ ?_
    refine region_ ?_
    refine wl_valE (v := .slice a n c) rfl (rf_move rfl) rfl ?_
    refine wl_valE (v := .slice a n c) rfl (rf_assign rfl) rfl ?_
    refine wl_nil ?_
    refine thn ?_
    refine ret_ ?_
    refine thr ?_
    refine fin1 (v := .slice a n c) Tryz.results72 rfl rfl ?_
    exact ⟨_, ⟨rfl, rfl⟩, H0.pick' [] rfl rfl⟩
  · have c8p := of_decide_eq_false c8
    refine skip_ ?_
    refine thn ?_
    refine seq_ ?_
    refine seq_ ?_
    refine region_ ?_
    refine wl_valE (v := .int .i64 (1 : Int)) rfl (rf_assign rfl) rfl ?_
    refine wl_nil ?_
    refine thn ?_
    refine block_ ?_
    refine loop_ (fun qk_ qf_ qw_ => ∃ (g : Nat → Value) (k : Nat), qf_ = upds g [(0, .slice a n c), (3, .int .i64 ((k : Nat) : Int))] ∧ qk_ = n - k ∧ (1 ≤ k ∧ k ≤ n) ∧ St w0 S0 [rdH encKey 2 a n c l] qw_ []) (n - 1) ?_ ?_
    · refine ⟨_, 1, upds_self ⟨rfl, rfl, trivial⟩, rfl, ⟨Nat.le_refl _, by omega⟩, H0.pick' [] rfl rfl⟩
    · rintro lk0 _ wl0 ⟨gl0, k, rfl, hlk0, hk, HL0⟩
      refine seq_ ?_
      refine seq_ ?_
      refine region_ ?_
      refine wl_valE (v := .int .i64 ((k : Nat) : Int)) rfl (rf_move rfl) rfl ?_
      refine wl_valE (v := .slice a n c) rfl (rf_move rfl) rfl ?_
      refine wl_valE (v := .int .i64 ((n : Nat) : Int)) rfl (rf_len_slice Tryz.underlying85 rfl rfl) rfl ?_
      refine wl_valE (v := .bool (decide (((k : Nat) : Int) < ((n : Nat) : Int)))) rfl (rf_lss rfl rfl rfl rfl) rfl ?_
      refine wl_nil ?_
      refine thn ?_
      refine cond_ (t := decide (((k : Nat) : Int) < ((n : Nat) : Int))) rfl rfl (fun c13 => ?_) (fun c13 => ?_)
      · have c13p := of_decide_eq_true c13
        refine skip_ ?_
        refine thn ?_
        refine seq_ ?_
        refine block_ ?_
        refine seq_ ?_
        have hn1 := rd_len (HL0.rdR 0 Le.rfl)
        obtain ⟨x, hx⟩ : ∃ q_, l[k]? = some q_ := ⟨_, List.getElem?_eq_getElem (by omega)⟩
        obtain ⟨y, hy⟩ : ∃ q_, l[k - 1]? = some q_ := ⟨_, List.getElem?_eq_getElem (by omega)⟩
        refine region_q mixedP (by kernel_rfl) ?_
        refine qt_valE (v := .slice a n c) rfl (fun wq hq => rf_move rfl) rfl ?_
        refine qt_valE (v := .int .i64 ((k : Nat) : Int)) rfl (fun wq hq => rf_move rfl) rfl ?_
        refine qt_valE (v := .pointer (some ⟨ab a, ao a + k * 2, none⟩)) rfl (fun wq hq => rf_indexAddrH Tryz.underlying85 ti41 rfl rfl rfl rfl (by omega) (by omega) ((HL0.keep hq).rdR 0 Le.rfl)) rfl ?_
        refine qt_valE (v := .agg #[.int .i64 x.table, .int .i64 x.row]) rfl (fun wq hq => rf_loadAgg (cs := [.int .i64 x.table, .int .i64 x.row]) Tryz.underlying41 rfl ti41 rfl rfl (el_sub' (rd_el ((HL0.keep hq).rdR 0 Le.rfl) hx) 0 2 rfl) rfl) rfl ?_
        refine qt_valE (v := .slice a n c) rfl (fun wq hq => rf_move rfl) rfl ?_
        refine qt_valE (v := .int .i64 ((k : Nat) : Int)) rfl (fun wq hq => rf_move rfl) rfl ?_
        refine qt_valE (v := .int .i64 ((k - 1 : Nat) : Int)) rfl (fun wq hq => rf_sub rfl rfl rfl rfl (by rw [IntWalk.i64_in _ (by omega)]; omega)) rfl ?_
        refine qt_valE (v := .pointer (some ⟨ab a, ao a + (k - 1) * 2, none⟩)) rfl (fun wq hq => rf_indexAddrH Tryz.underlying85 ti41 rfl rfl rfl rfl (by omega) (by omega) ((HL0.keep hq).rdR 0 Le.rfl)) rfl ?_
        refine qt_valE (v := .agg #[.int .i64 y.table, .int .i64 y.row]) rfl (fun wq hq => rf_loadAgg (cs := [.int .i64 y.table, .int .i64 y.row]) Tryz.underlying41 rfl ti41 rfl rfl (el_sub' (rd_el ((HL0.keep hq).rdR 0 Le.rfl) hy) 0 2 rfl) rfl) rfl ?_
        refine qt_valE (v := .bool (decide (x = y))) rfl (fun wq hq => rf_eqlS (by kernel_rfl) (eqKey x y _) rfl rfl rfl rfl) rfl ?_
        refine qt_nil ?_
        intro w2 hk2
        have H2 := HL0.keep hk2
        refine thn ?_
        refine condF' rfl rfl (t := decide (x = y)) ((decide_eq_false (fun e => by subst e; have := nodup_inj hnd hx hy; omega))) ?_
        refine skip_ ?_
        refine bln ?_
        refine thn ?_
        refine region_ ?_
        refine wl_valE (v := .int .i64 ((k : Nat) : Int)) rfl (rf_move rfl) rfl ?_
        refine wl_valE (v := .int .i64 ((k + 1 : Nat) : Int)) rfl (rf_add rfl rfl rfl rfl (IntWalk.i64_in _ (by omega))) rfl ?_
        refine wl_valE (v := .int .i64 ((k + 1 : Nat) : Int)) rfl (rf_assign rfl) rfl ?_
        refine wl_nil ?_
        refine thn ?_
        refine ⟨n - (k + 1), _, rfl, (by omega), _, k + 1, upds_self ⟨rfl, rfl, trivial⟩, rfl, ⟨by omega, by omega⟩, H2.pick' [] rfl rfl⟩
      · have c13p := of_decide_eq_false c13
        refine exit_ ?_
        refine thx (thx (blx ?_))
        refine thn ?_
        refine seq_ ?_
        refine region_ ?_
        refine wl_valE (v := .slice a n c) rfl (rf_move rfl) rfl ?_
        refine wl_valE (v := .slice a n c) rfl (rf_assign rfl) rfl ?_
        refine wl_nil ?_
        refine thn ?_
        refine ret_ ?_
        refine fin1 (v := .slice a n c) Tryz.results72 rfl rfl ?_
        exact ⟨_, ⟨rfl, rfl⟩, HL0.pick' [] rfl rfl⟩
theorem clipK_tr (a : Option Addr) (n c : Nat) (l : List Key) (hn : n ≤ 4398046511104) : Tr Tryz.prog 71 [.slice a n c] [rdH encKey 2 a n c l] [] (fun v m => v = .slice a n n ∧ m = []) := by
  intro w0 S0 H0
  have hl := (rd_len (H0.rdR 0 Le.rfl)).2
  refine enterR Tryz.func71 rfl Tryz.ntmps71 rfl ?_
  intro g0
  refine seq_ ?_
  refine region_ ?_
  refine wl_valE (v := .slice none 0 0) rfl (rf_assign rfl) rfl ?_
  refine wl_nil ?_
  refine thn ?_
  refine seq_ ?_
  refine region_ ?_
  refine wl_valE (v := .slice a n c) rfl (rf_move rfl) rfl ?_
  refine wl_valE (v := .slice a n c) rfl (rf_move rfl) rfl ?_
  refine wl_valE (v := .int .i64 ((n : Nat) : Int)) rfl (rf_len_slice Tryz.underlying85 rfl rfl) rfl ?_
  refine wl_valE (v := .slice a n c) rfl (rf_move rfl) rfl ?_
  refine wl_valE (v := .int .i64 ((n : Nat) : Int)) rfl (rf_len_slice Tryz.underlying85 rfl rfl) rfl ?_
  refine wl_valE (v := .slice a n n) rfl (rf_sliceTo3 (h := n) (m := n) Tryz.underlying85 ti41 rfl rfl rfl rfl rfl rfl (by omega) (by omega)) rfl ?_
  refine wl_valE (v := .slice a n n) rfl (rf_assign rfl) rfl ?_
  refine wl_nil ?_
  refine thn ?_
  refine ret_ ?_
  refine fin1 (v := .slice a n n) Tryz.results71 rfl rfl ?_
  exact ⟨_, ⟨rfl, rfl⟩, H0.pick' [] rfl rfl⟩
theorem sortKeys_tr (a : Option Addr) (n c : Nat) (l : List Key) (hn : n ≤ 4398046511104) (hok : ∀ k ∈ l, okK k = true) (hnd : l.Nodup) : Tr Tryz.prog 59 [.slice a n c] [rdH encKey 2 a n c l] [] (fun v m => ∃ a' c' l', (l'.Perm l ∧ l'.Pairwise ltK) ∧ v = .tuple #[.slice a' n c', .int .i64 0] ∧ m = [slH encKey 2 41 a' n c' l']) := by
  intro w0 S0 H0
  have hl := (rd_len (H0.rdR 0 Le.rfl)).1
  refine enterR Tryz.func59 rfl Tryz.ntmps59 rfl ?_
  intro g0
  refine seq_ ?_
  refine region_ ?_
  refine wl_valE (v := .slice none 0 0) rfl (rf_assign rfl) rfl ?_
  refine wl_valE (v := .int .i64 (0 : Int)) rfl (rf_assign rfl) rfl ?_
  refine wl_nil ?_
  refine thn ?_
  refine seq_ ?_
  refine seq_ ?_
  refine region_ ?_
  refine wl_valE (v := .slice a n c) rfl (rf_move rfl) rfl ?_
  refine wl_tr H0 rfl [] (sound_tr a n c l (by omega) hok) rfl (.ro 0 Le.rfl .nil) (rf_call Tryz.call67 rfl rfl) rfl ?_
  rintro _ w1 _ ⟨rfl, rfl⟩ H1
  refine wl_valE (v := .bool false) rfl (rf_not rfl rfl) rfl ?_
  refine wl_nil ?_
  refine thn ?_
  refine condF rfl rfl ?_
  refine skip_ ?_
  refine thn ?_
  refine seq_ ?_
  refine region_ ?_
  refine wl_valE (v := .slice a n c) rfl (rf_move rfl) rfl ?_
  refine wl_tr H1 rfl [] (cloneK_tr a n c l (by omega)) rfl (.ro 0 Le.rfl .nil) (rf_call Tryz.call68 rfl rfl) rfl ?_
  rintro _ w2 _ ⟨a9, c9, rfl, rfl⟩ H2
  refine wl_valE (v := .slice a9 n c9) rfl (rf_assign rfl) rfl ?_
  refine wl_nil ?_
  refine thn ?_
  refine seq_ ?_
  refine region_ ?_
  refine wl_valE (v := .slice a9 n c9) rfl (rf_move rfl) rfl ?_
  refine wl_tr H2 rfl [0] (sortK_tr hnd (by omega)) rfl .nil (rf_call Tryz.call69 rfl rfl) rfl ?_
  rintro _ w3 _ ⟨l9, hl9, rfl, rfl⟩ H3
  refine wl_nil ?_
  refine thn ?_
  refine seq_ ?_
  refine region_ ?_
  refine wl_valE (v := .slice a9 n c9) rfl (rf_move rfl) rfl ?_
  refine wl_tr H3 rfl [] (compactK_tr a9 n c9 l9 (by omega) (hl9.1.nodup_iff.2 hnd)) rfl (.own 0 rfl slH_rd .nil) (rf_call Tryz.call72 rfl rfl) rfl ?_
  rintro _ w4 _ ⟨rfl, rfl⟩ H4
  refine wl_tr H4 rfl [] (clipK_tr a9 n c9 l9 (by omega) ) rfl (.own 0 rfl slH_rd .nil) (rf_call Tryz.call71 rfl rfl) rfl ?_
  rintro _ w5 _ ⟨rfl, rfl⟩ H5
  refine wl_valE (v := .slice a9 n n) rfl (rf_assign rfl) rfl ?_
  refine wl_valE (v := .int .i64 (0 : Int)) rfl (rf_assign rfl) rfl ?_
  refine wl_nil ?_
  refine thn ?_
  refine ret_ ?_
  refine fin2 (v1 := .slice a9 n n) (v2 := .int .i64 (0 : Int)) Tryz.results59 rfl rfl rfl rfl ?_
  have H6 : St w0 S0 [rdH encKey 2 a n c l] w5 (setH _ 0 (slH encKey 2 41 a9 n n l9)) := H5.le 0 slH_clip rfl
  try dsimp only [putsH, setH, List.cons_append, List.nil_append] at H6
  exact ⟨_, ⟨_, _, _, hl9, rfl, rfl⟩, H6.pick' [0] rfl rfl⟩
end Go.Proofs.YtojcddlpkfhodaaGreat.W
