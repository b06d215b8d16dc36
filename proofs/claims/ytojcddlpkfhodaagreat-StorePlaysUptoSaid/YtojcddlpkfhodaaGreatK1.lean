import Derived.Test.YtojcddlpkfhodaaGreatB
import Derived.KernelRfl
namespace Go.Proofs.YtojcddlpkfhodaaGreat.W
open Go Go.Wk
set_option linter.unusedVariables false
set_option linter.unusedSimpArgs false

def okK (k : Key) : Bool := decide (0 ≤ k.table) && decide (k.table ≤ 65535)
def checkF (k : Key) : Int := if okK k then 0 else 20
def rowF (k : Key) : Int := bits .xor .u64 (IntKind.u64.wrap k.row) 9223372036854775808
def formTo (k : Key) (i : Nat) : List Int := [IntKind.u8.wrap (k.table / 256), IntKind.u8.wrap k.table] ++ (List.range i).map (fun j => IntKind.u8.wrap (rowF k / 2 ^ (56 - 8 * j))) ++ List.replicate (8 - i) 0
def formF (k : Key) : List Int := formTo k 8
theorem formTo_length (k : Key) (i : Nat) (h : i ≤ 8) : (formTo k i).length = 10 := by simp [formTo]; omega
theorem formTo_succ (k : Key) (i : Nat) (h : i < 8) : (formTo k i).set (2 + i) (IntKind.u8.wrap (rowF k / 2 ^ (56 - 8 * i))) = formTo k (i + 1) := by
  unfold formTo
  rw [List.set_append_right _ _ (by simp; omega), show 8 - i = (8 - (i + 1)) + 1 from by omega, List.replicate_succ, List.range_succ]
  have e : 2 + i - ([IntKind.u8.wrap (k.table / 256), IntKind.u8.wrap k.table] ++ (List.range i).map (fun j => IntKind.u8.wrap (rowF k / 2 ^ (56 - 8 * j)))).length = 0 := by simp; omega
  rw [e, List.set_cons_zero]
  simp
def hashTo (k : Key) (i : Nat) : Int := ((formF k).take i).foldl (fun h x => IntKind.u64.wrap (bits .xor .u64 h (IntKind.u64.wrap x) * 1099511628211)) 14695981039346656037
def hashF (k : Key) : Nat := if okK k then (hashTo k 10).toNat else 0
theorem u64_nn (x : Int) : 0 ≤ IntKind.u64.wrap x ∧ IntKind.u64.wrap x ≤ 18446744073709551615 := by rw [IntKind.wrap_u64]; omega
theorem hashTo_succ {k : Key} {i : Nat} {x : Int} (h : (formF k)[i]? = some x) : IntKind.u64.wrap (bits .xor .u64 (hashTo k i) (IntKind.u64.wrap x) * 1099511628211) = hashTo k (i + 1) := by
  unfold hashTo; rw [List.take_add_one, h]; simp
theorem hashTo_nn (k : Key) : 0 ≤ hashTo k 10 ∧ hashTo k 10 ≤ 18446744073709551615 := by
  have h := formTo_length k 8 (by omega)
  obtain ⟨x, hx⟩ : ∃ x, (formF k)[9]? = some x := ⟨_, List.getElem?_eq_getElem (by show 9 < (formTo k 8).length; omega)⟩
  rw [← hashTo_succ hx]
  exact u64_nn _
theorem hashF_le (k : Key) : hashF k ≤ 18446744073709551615 := by
  unfold hashF; have := hashTo_nn k; split <;> omega
theorem newmaps_set {ms : List Nat} {i n b : Nat} (hl : ms.length = i) (hi : i < n) : (ms.map (fun r => Value.map (some r)) ++ List.replicate (n - i) (Value.map none)).set i (.map (some b)) = (ms ++ [b]).map (fun r => Value.map (some r)) ++ List.replicate (n - (i + 1)) (Value.map none) := by
  rw [List.set_append_right _ _ (by simp; omega), show n - i = (n - (i + 1)) + 1 from by omega, List.replicate_succ]
  have e : i - (ms.map (fun r => Value.map (some r))).length = 0 := by simp; omega
  rw [e, List.set_cons_zero]
  simp
theorem tmodN (a b : Nat) : (a : Int).tmod b = ((a % b : Nat) : Int) := by rw [Int.tmod_eq_emod_of_nonneg (by omega)]; rfl
theorem nodup_inj {α : Type} {l : List α} (h : l.Nodup) {i j : Nat} {x : α} (hi : l[i]? = some x) (hj : l[j]? = some x) : i = j := by
  obtain ⟨h1, h2⟩ := List.getElem?_eq_some_iff.1 hi
  obtain ⟨h3, h4⟩ := List.getElem?_eq_some_iff.1 hj
  rcases Nat.lt_trichotomy i j with h5 | h5 | h5
  · exact absurd (h2.trans h4.symm) (List.pairwise_iff_getElem.1 h i j h1 h3 h5)
  · exact h5
  · exact absurd (h4.trans h2.symm) (List.pairwise_iff_getElem.1 h j i h3 h1 h5)
theorem check_ret (k : Key) (w : World) : Ret Tryz.prog 43 [.agg #[.int .i64 k.table, .int .i64 k.row]] w fun v w' => v = .int .i64 (checkF k) ∧ Kp none_ w w' := by
  refine enterR Tryz.func43 rfl Tryz.ntmps43 rfl ?_
  intro g0
  refine seq_ ?_
  refine region_ ?_
  refine wl_box (v := .agg #[.int .i64 k.table, .int .i64 k.row]) rfl rfl ?_
  intro b1 w1 hg1 hk1 hb1
  have hs1 := hk1.size
  refine wl_valE (v := .int .i64 ((0 : Nat) : Int)) rfl (rf_assign rfl) rfl ?_
  refine wl_nil ?_
  refine thn ?_
  refine seq_ ?_
  refine seq_ ?_
  refine region_ ?_
  refine wl_valE (v := .pointer (some ⟨b1, 0, none⟩)) rfl (rf_fieldAddr Tryz.underlying41 rfl ti3 rfl rfl) rfl ?_
  refine wl_valE (v := .int .i64 k.table) rfl (rf_load Tryz.underlying3 rfl rfl rfl (hb1.cell rfl)) rfl ?_
  refine wl_valE (v := .bool (decide (k.table < ((0 : Nat) : Int)))) rfl (rf_lss rfl rfl rfl rfl) rfl ?_
  refine wl_valE (v := .bool (decide (k.table < ((0 : Nat) : Int)))) rfl (rf_move rfl) rfl ?_
  refine wl_split (decide (k.table < ((0 : Nat) : Int))) (fun u1_3 => ?_) (fun u1_3 => ?_)
  · have u1_3p := of_decide_eq_true u1_3
    refine wl_guardF rfl rfl rfl u1_3 ?_
    refine wl_guardF rfl rfl rfl u1_3 ?_
    refine wl_guardF rfl rfl rfl u1_3 ?_
    refine wl_valE (v := .bool true) rfl (rf_pickT rfl rfl rfl u1_3) rfl ?_
    refine wl_nil ?_
    refine thn ?_
    refine condT rfl rfl ?_
    refine seq_ ?_
    refine region_ ?_
    refine wl_valE (v := .int .i64 ((20 : Nat) : Int)) rfl (rf_assign rfl) rfl ?_
    refine wl_nil ?_
    refine thn ?_
    refine ret_ ?_
    refine thr ?_
    refine fin1 (v := .int .i64 ((20 : Nat) : Int)) Tryz.results43 rfl rfl ?_
    exact ⟨congrArg _ (by simp [checkF, okK]; omega), hk1⟩
  · have u1_3p := of_decide_eq_false u1_3
    refine wl_guardT rfl rfl rfl u1_3 ?_
    refine wl_valE (v := .pointer (some ⟨b1, 0, none⟩)) rfl (rf_fieldAddr Tryz.underlying41 rfl ti3 rfl rfl) rfl ?_
    refine wl_guardT rfl rfl rfl u1_3 ?_
    refine wl_valE (v := .int .i64 k.table) rfl (rf_load Tryz.underlying3 rfl rfl rfl (hb1.cell rfl)) rfl ?_
    refine wl_guardT rfl rfl rfl u1_3 ?_
    refine wl_valE (v := .bool (decide (((65535 : Nat) : Int) < k.table))) rfl (rf_gtr rfl rfl rfl rfl) rfl ?_
    refine wl_valE (v := .bool (decide (((65535 : Nat) : Int) < k.table))) rfl (rf_pickF rfl rfl rfl u1_3) rfl ?_
    refine wl_nil ?_
    refine thn ?_
    refine cond_ (t := decide (((65535 : Nat) : Int) < k.table)) rfl rfl (fun c10 => ?_) (fun c10 => ?_)
    · have c10p := of_decide_eq_true c10
      refine seq_ ?_
      refine region_ ?_
      refine wl_valE (v := .int .i64 ((20 : Nat) : Int)) rfl (rf_assign rfl) rfl ?_
      refine wl_nil ?_
      refine thn ?_
      refine ret_ ?_
      refine thr ?_
      refine fin1 (v := .int .i64 ((20 : Nat) : Int)) Tryz.results43 rfl rfl ?_
      exact ⟨congrArg _ (by simp [checkF, okK]; omega), hk1⟩
    · have c10p := of_decide_eq_false c10
      refine skip_ ?_
      refine thn ?_
      refine seq_ ?_
      refine region_ ?_
      refine wl_valE (v := .int .i64 ((0 : Nat) : Int)) rfl (rf_assign rfl) rfl ?_
      refine wl_nil ?_
      refine thn ?_
      refine ret_ ?_
      refine fin1 (v := .int .i64 ((0 : Nat) : Int)) Tryz.results43 rfl rfl ?_
      exact ⟨congrArg _ (by simp [checkF, okK]; omega), hk1⟩
theorem form_ret (k : Key) (w : World) : Ret Tryz.prog 44 [.agg #[.int .i64 k.table, .int .i64 k.row]] w fun v w' => v = .agg ((formF k).map (fun x => Value.int .u8 x)).toArray ∧ Kp none_ w w' := by
  have hkw : Kp none_ w w := Kp.refl w
  refine enterR Tryz.func44 rfl Tryz.ntmps44 rfl ?_
  intro g0
  refine seq_ ?_
  refine region_ ?_
  refine wl_box (v := .agg #[.int .i64 k.table, .int .i64 k.row]) rfl rfl ?_
  intro b1 w1 hg1 hk1 hb1
  have hkw_w1 := hkw.comp hk1 (fun _ _ e => e.elim)
  have hs1 := hk1.size
  refine wl_alloc ti96 ?_
  intro b2 w2 hg2 hk2 hb2
  have ne2_b1 : b1 ≠ b2 := Nat.ne_of_lt (Nat.lt_of_lt_of_le hb1.lt hg2)
  have hkw_w2 := hkw_w1.comp hk2 (fun _ _ e => e.elim)
  have hb1_w2 := hb1.keep hk2
  have hs2 := hk2.size
  refine wl_nil ?_
  refine thn ?_
  refine seq_ ?_
  refine region_ ?_
  refine wl_alloc ti96 ?_
  intro b3 w3 hg3 hk3 hb3
  have ne3_b1 : b1 ≠ b3 := Nat.ne_of_lt (Nat.lt_of_lt_of_le hb1_w2.lt hg3)
  have ne3_b2 : b2 ≠ b3 := Nat.ne_of_lt (Nat.lt_of_lt_of_le hb2.lt hg3)
  have hkw_w3 := hkw_w2.comp hk3 (fun _ _ e => e.elim)
  have hb1_w3 := hb1_w2.keep hk3
  have hb2_w3 := hb2.keep hk3
  have hs3 := hk3.size
  refine wl_nil ?_
  refine thn ?_
  refine seq_ ?_
  refine region_h (S := fun wq => Kp (fun b => b = b3) w3 wq) mixedP ?_
  intro w4 hk4
  have hkw_w4 := hkw_w3.comp hk4 (fun _ _ e => e.elim)
  have hb1_w4 := hb1_w3.keep hk4
  have hb2_w4 := hb2_w3.keep hk4
  have hb3_w4 := hb3.keep hk4
  have hs4 := hk4.size
  have hS4 : Kp (fun b => b = b3) w3 w4 := hk4.of_none
  refine wh_take (i := 0) (v := .pointer (some ⟨b1, 0, none⟩)) rfl (by kernel_rfl) (by kernel_rfl) (by kernel_rfl) hS4 rfl (fun wq hq => rf_fieldAddr Tryz.underlying41 rfl ti3 rfl rfl) rfl ?_
  refine wh_take (i := 1) (v := .int .i64 k.table) rfl (by kernel_rfl) (by kernel_rfl) (by kernel_rfl) hS4 rfl (fun wq hq => rf_load Tryz.underlying3 rfl rfl rfl ((hb1_w3.kp hq (by omega)).cell rfl)) rfl ?_
  refine wh_take (i := 2) (v := .int .i64 (k.table / 256)) rfl (by kernel_rfl) (by kernel_rfl) (by kernel_rfl) hS4 rfl (fun wq hq => rf_shr rfl rfl rfl rfl (by omega) (by decide) (by simp)) rfl ?_
  refine wh_take (i := 3) (v := .int .u8 (IntKind.u8.wrap (k.table / 256))) rfl (by kernel_rfl) (by kernel_rfl) (by kernel_rfl) hS4 rfl (fun wq hq => rf_conv Tryz.underlying3 Tryz.underlying5 rfl rfl rfl) rfl ?_
  refine wh_take (i := 4) (v := .pointer (some ⟨b1, 0, none⟩)) rfl (by kernel_rfl) (by kernel_rfl) (by kernel_rfl) hS4 rfl (fun wq hq => rf_fieldAddr Tryz.underlying41 rfl ti3 rfl rfl) rfl ?_
  refine wh_take (i := 5) (v := .int .i64 k.table) rfl (by kernel_rfl) (by kernel_rfl) (by kernel_rfl) hS4 rfl (fun wq hq => rf_load Tryz.underlying3 rfl rfl rfl ((hb1_w3.kp hq (by omega)).cell rfl)) rfl ?_
  refine wh_take (i := 6) (v := .int .u8 (IntKind.u8.wrap k.table)) rfl (by kernel_rfl) (by kernel_rfl) (by kernel_rfl) hS4 rfl (fun wq hq => rf_conv Tryz.underlying3 Tryz.underlying5 rfl rfl rfl) rfl ?_
  refine wh_take (i := 7) (v := .pointer (some ⟨b3, 0, none⟩)) rfl (by kernel_rfl) (by kernel_rfl) (by kernel_rfl) hS4 rfl (fun wq hq => rf_indexAddrA Tryz.underlying96 ti5 rfl rfl rfl rfl (by omega) (by omega)) (by simp) ?_
  refine wh_one (i := 8) (by kernel_rfl) rfl ?_
  refine wl_store (b := b3) (o := 0) (v := .int .u8 (IntKind.u8.wrap (k.table / 256))) ti5 rfl rfl rfl rfl rfl hb3_w4 (by first | decide | exact Nat.le_of_ble_eq_true rfl | simp) ?_
  intro w5 hk5 hb5
  have hkw_w5 := hkw_w4.comp hk5 (fun b h e => by omega)
  have hb1_w5 := hb1_w4.kp hk5 ne3_b1
  have hb2_w5 := hb2_w4.kp hk5 ne3_b2
  have hS_w5 := hS4.comp hk5 (fun b h e => by first | exact e | omega)
  have hs5 := hk5.size
  replace hb5 : Blk w5 b3 (.cells #[.int .u8 (IntKind.u8.wrap (k.table / 256)), .int .u8 ((0 : Nat) : Int), .int .u8 ((0 : Nat) : Int), .int .u8 ((0 : Nat) : Int), .int .u8 ((0 : Nat) : Int), .int .u8 ((0 : Nat) : Int), .int .u8 ((0 : Nat) : Int), .int .u8 ((0 : Nat) : Int), .int .u8 ((0 : Nat) : Int), .int .u8 ((0 : Nat) : Int)] _ (0, 0)) := hb5
  refine wl_nil ?_
  refine wh_back hS_w5 ?_
  refine wh_take (i := 9) (v := .pointer (some ⟨b3, 1, none⟩)) rfl (by kernel_rfl) (by kernel_rfl) (by kernel_rfl) hS_w5 rfl (fun wq hq => rf_indexAddrA Tryz.underlying96 ti5 rfl rfl rfl rfl (by omega) (by omega)) (by simp) ?_
  refine wh_one (i := 10) (by kernel_rfl) rfl ?_
  refine wl_store (b := b3) (o := 1) (v := .int .u8 (IntKind.u8.wrap k.table)) ti5 rfl rfl rfl rfl rfl hb5 (by first | decide | exact Nat.le_of_ble_eq_true rfl | simp) ?_
  intro w6 hk6 hb6
  have hkw_w6 := hkw_w5.comp hk6 (fun b h e => by omega)
  have hb1_w6 := hb1_w5.kp hk6 ne3_b1
  have hb2_w6 := hb2_w5.kp hk6 ne3_b2
  have hS_w6 := hS_w5.comp hk6 (fun b h e => by first | exact e | omega)
  have hs6 := hk6.size
  replace hb6 : Blk w6 b3 (.cells #[.int .u8 (IntKind.u8.wrap (k.table / 256)), .int .u8 (IntKind.u8.wrap k.table), .int .u8 ((0 : Nat) : Int), .int .u8 ((0 : Nat) : Int), .int .u8 ((0 : Nat) : Int), .int .u8 ((0 : Nat) : Int), .int .u8 ((0 : Nat) : Int), .int .u8 ((0 : Nat) : Int), .int .u8 ((0 : Nat) : Int), .int .u8 ((0 : Nat) : Int)] _ (0, 0)) := hb6
  refine wl_nil ?_
  refine wh_back hS_w6 ?_
  refine wh_done (by kernel_rfl) ?_
  refine thn ?_
  refine seq_ ?_
  refine region_ ?_
  refine wl_valE (v := .pointer (some ⟨b1, 1, none⟩)) rfl (rf_fieldAddr Tryz.underlying41 rfl ti2 rfl rfl) rfl ?_
  refine wl_valE (v := .int .i64 k.row) rfl (rf_load Tryz.underlying2 rfl rfl rfl (hb1_w6.cell rfl)) rfl ?_
  refine wl_valE (v := .int .u64 (IntKind.u64.wrap k.row)) rfl (rf_conv Tryz.underlying2 Tryz.underlying91 rfl rfl rfl) rfl ?_
  refine wl_valE (v := .int .u64 (rowF k)) rfl (rf_xor rfl rfl rfl rfl rfl) rfl ?_
  refine wl_valE (v := .int .u64 (rowF k)) rfl (rf_assign rfl) rfl ?_
  refine wl_nil ?_
  refine thn ?_
  refine seq_ ?_
  refine seq_ ?_
  refine region_ ?_
  refine wl_valE (v := .int .i64 ((0 : Nat) : Int)) rfl (rf_move rfl) rfl ?_
  refine wl_nil ?_
  refine thn ?_
  refine block_ ?_
  replace hb6 : Blk w6 b3 (.cells ((formTo k 0).map (fun x => Value.int .u8 x)).toArray 96 (0, 0)) := hb6
  refine loop_ (fun lk lf lw => ∃ (g : Nat → Value) (i : Nat), lf = upds g [(2, .pointer (some ⟨b2, 0, none⟩)), (3, .pointer (some ⟨b3, 0, none⟩)), (4, .int .u64 (rowF k)), (19, .int .i64 ((i : Nat) : Int))] ∧ i + lk = 8 ∧ Blk lw b3 (.cells ((formTo k i).map (fun x => Value.int .u8 x)).toArray 96 (0, 0)) ∧ Kp (fun b => b = b3) w6 lw) (8) ?_ ?_
  · refine ⟨_, 0, upds_self ⟨rfl, rfl, rfl, rfl, trivial⟩, ?_⟩
    exact ⟨by omega, hb6, Kp.refl _⟩
  · intro lk0 lf0 wl hI0
    obtain ⟨gl0, i, rfl, hik, hbb, hkl0⟩ := hI0
    have hkw_wl := hkw_w6.comp hkl0 (fun b h e => by omega)
    have hb1_wl := hb1_w6.kp hkl0 (by omega)
    have hb2_wl := hb2_w6.kp hkl0 (by omega)
    have hsl := hkl0.size
    refine seq_ ?_
    refine region_ ?_
    refine wl_valE (v := .bool (decide (((i : Nat) : Int) < ((8 : Nat) : Int)))) rfl (rf_lss rfl rfl rfl rfl) rfl ?_
    refine wl_nil ?_
    refine thn ?_
    refine seq_ ?_
    refine cond_ (t := decide (((i : Nat) : Int) < ((8 : Nat) : Int))) rfl rfl (fun c20 => ?_) (fun c20 => ?_)
    · have c20p := of_decide_eq_true c20
      refine skip_ ?_
      refine thn ?_
      refine seq_ ?_
      refine block_ ?_
      refine seq_ ?_
      refine region_ ?_
      refine wl_valE (v := .int .i64 ((i : Nat) : Int)) rfl (rf_move rfl) rfl ?_
      refine wl_valE (v := .int .i64 ((i : Nat) : Int)) rfl (rf_assign rfl) rfl ?_
      refine wl_nil ?_
      refine thn ?_
      refine region_ ?_
      refine wl_valE (v := .int .i64 ((i : Nat) : Int)) rfl (rf_move rfl) rfl ?_
      refine wl_valE (v := .int .i64 ((2 + i : Nat) : Int)) rfl (rf_add rfl rfl rfl rfl (IntWalk.i64_in _ (by omega))) rfl ?_
      refine wl_valE (v := .int .u64 (rowF k)) rfl (rf_move rfl) rfl ?_
      refine wl_valE (v := .int .i64 ((i : Nat) : Int)) rfl (rf_move rfl) rfl ?_
      refine wl_valE (v := .int .i64 ((8 * i : Nat) : Int)) rfl (rf_mul rfl rfl rfl rfl (IntWalk.i64_in _ (by omega))) rfl ?_
      refine wl_valE (v := .int .i64 (((56 : Nat) : Int) - ((8 * i : Nat) : Int))) rfl (rf_sub rfl rfl rfl rfl (IntWalk.i64_in _ (by omega))) rfl ?_
      refine wl_valE (v := .int .u64 (rowF k / 2 ^ (56 - 8 * i))) rfl (rf_shr rfl rfl rfl rfl (by omega) (by simp [IntKind.bits]; omega) (by congr 2; omega)) rfl ?_
      refine wl_valE (v := .int .u8 (IntKind.u8.wrap (rowF k / 2 ^ (56 - 8 * i)))) rfl (rf_conv Tryz.underlying91 Tryz.underlying5 rfl rfl rfl) rfl ?_
      refine wl_valE (v := .pointer (some ⟨b3, 2 + i, none⟩)) rfl (rf_indexAddrA Tryz.underlying96 ti5 rfl rfl rfl rfl (by omega) (by omega)) (by simp) ?_
      refine wl_store (b := b3) (o := 2 + i) (v := .int .u8 (IntKind.u8.wrap (rowF k / 2 ^ (56 - 8 * i)))) ti5 rfl rfl rfl rfl rfl hbb (by simp [formTo_length k i (by omega)]; omega) ?_
      intro w7 hk7 hb7
      have hkw_w7 := hkw_wl.comp hk7 (fun b h e => by omega)
      have hb1_w7 := hb1_wl.kp hk7 ne3_b1
      have hb2_w7 := hb2_wl.kp hk7 ne3_b2
      have hs7 := hk7.size
      replace hb7 : Blk w7 b3 (.cells ((formTo k (i + 1)).map (fun x => Value.int .u8 x)).toArray 96 (0, 0)) := by rw [← formTo_succ k i (by omega), List.map_set]; simpa using hb7
      refine wl_nil ?_
      refine bln ?_
      refine thn ?_
      refine region_ ?_
      refine wl_valE (v := .int .i64 ((i + 1 : Nat) : Int)) rfl (rf_add rfl rfl rfl rfl (IntWalk.i64_in _ (by omega))) rfl ?_
      refine wl_valE (v := .int .i64 ((i + 1 : Nat) : Int)) rfl (rf_move rfl) rfl ?_
      refine wl_nil ?_
      refine thn ?_
      refine ⟨lk0 - 1, _, rfl, (by omega), _, i + 1, upds_self ⟨rfl, rfl, rfl, rfl, trivial⟩, ?_⟩
      exact ⟨by omega, hb7, hkl0.trans hk7⟩
    · have c20p := of_decide_eq_false c20
      obtain rfl : i = 8 := by omega
      refine exit_ ?_
      refine thx (thx (blx ?_))
      refine thn ?_
      refine seq_ ?_
      refine region_ ?_
      refine wl_valE (v := .agg (((formF k).map (fun x => Value.int .u8 x))).toArray) rfl (rf_loadBlk Tryz.underlying96 rfl ti96 rfl rfl hbb (Nat.le_of_ble_eq_true rfl)) rfl ?_
      refine wl_storeAgg (b := b2) (o := 0) (cs := ((formF k).map (fun x => Value.int .u8 x))) ti96 rfl rfl rfl rfl (by simp [formF, formTo_length]) (by simp [Value.oneCell']) hb2_wl (Nat.le_of_ble_eq_true rfl) ?_
      intro w8 hk8 hb8
      have hkw_w8 := hkw_wl.comp hk8 (fun b h e => by omega)
      have hb1_w8 := hb1_wl.kp hk8 ne2_b1
      have hbb_w8 := hbb.kp hk8 (Ne.symm ne3_b2)
      have hs8 := hk8.size
      replace hb8 : Blk w8 b2 (.cells ((formF k).map (fun x => Value.int .u8 x)).toArray 96 (0, 0)) := by
        have h := hb8
        rwa [spl_full (by simp [formF, formTo_length, Value.cells])] at h
      refine wl_nil ?_
      refine thn ?_
      refine ret_ ?_
      refine finV1 Tryz.results44 (RV.blk rfl Tryz.underlying96 rfl ti96 rfl (by with_reducible assumption) (by simp [formF, formTo_length])) ?_
      refine ⟨?_, hkw_w8⟩
      rw [List.drop_zero, List.take_of_length_le (by simp [formF, formTo_length])]
theorem hash_ret (k : Key) (w : World) : Ret Tryz.prog 11 [.agg #[.int .i64 k.table, .int .i64 k.row]] w fun v w' => v = .int .u64 (hashF k : Nat) ∧ Kp none_ w w' := by
  have hkw : Kp none_ w w := Kp.refl w
  refine enterR Tryz.func11 rfl Tryz.ntmps11 rfl ?_
  intro g0
  refine seq_ ?_
  refine region_ ?_
  refine wl_box (v := .agg #[.int .i64 k.table, .int .i64 k.row]) rfl rfl ?_
  intro b1 w1 hg1 hk1 hb1
  have hkw_w1 := hkw.comp hk1 (fun _ _ e => e.elim)
  have hs1 := hk1.size
  refine wl_valE (v := .int .u64 ((0 : Nat) : Int)) rfl (rf_assign rfl) rfl ?_
  refine wl_nil ?_
  refine thn ?_
  refine seq_ ?_
  refine seq_ ?_
  refine region_ ?_
  refine wl_valE (v := .agg #[.int .i64 k.table, .int .i64 k.row]) rfl (rf_loadBlk Tryz.underlying41 rfl ti41 rfl rfl hb1 (Nat.le_of_ble_eq_true rfl)) rfl ?_
  refine wl_ret rfl (check_ret k w1) (rf_call Tryz.call43 rfl rfl) ?_
  rintro _ w2 ⟨rfl, hk2⟩
  have hkw_w2 := hkw_w1.comp hk2 (fun _ _ e => e.elim)
  have hb1_w2 := hb1.keep hk2
  have hs2 := hk2.size
  refine wl_valE (v := .bool (decide (checkF k ≠ ((0 : Nat) : Int)))) rfl (rf_neq rfl rfl rfl rfl) rfl ?_
  refine wl_nil ?_
  refine thn ?_
  refine cond_ (t := decide (checkF k ≠ ((0 : Nat) : Int))) rfl rfl (fun c8 => ?_) (fun c8 => ?_)
  · have c8p := of_decide_eq_true c8
    have hbad : okK k = false := by unfold checkF at c8p; split at c8p <;> simp_all
    refine seq_ ?_
    refine region_ ?_
    refine wl_valE (v := .int .u64 ((0 : Nat) : Int)) rfl (rf_assign rfl) rfl ?_
    refine wl_nil ?_
    refine thn ?_
    refine ret_ ?_
    refine thr ?_
    refine fin1 (v := .int .u64 ((0 : Nat) : Int)) Tryz.results11 rfl rfl ?_
    exact ⟨by simp [hashF, hbad], hkw_w2⟩
  · have c8p := of_decide_eq_false c8
    have hgood : okK k = true := by unfold checkF at c8p; split at c8p <;> simp_all
    refine skip_ ?_
    refine thn ?_
    refine seq_ ?_
    refine region_ ?_
    refine wl_valE (v := .int .u64 ((14695981039346656037 : Nat) : Int)) rfl (rf_assign rfl) rfl ?_
    refine wl_nil ?_
    refine thn ?_
    refine seq_ ?_
    refine seq_ ?_
    refine region_ ?_
    refine wl_valE (v := .agg #[.int .i64 k.table, .int .i64 k.row]) rfl (rf_loadBlk Tryz.underlying41 rfl ti41 rfl rfl hb1_w2 (Nat.le_of_ble_eq_true rfl)) rfl ?_
    refine wl_ret rfl (form_ret k w2) (rf_call Tryz.call44 rfl rfl) ?_
    rintro _ w3 ⟨rfl, hk3⟩
    have hkw_w3 := hkw_w2.comp hk3 (fun _ _ e => e.elim)
    have hb1_w3 := hb1_w2.keep hk3
    have hs3 := hk3.size
    refine wl_valE (v := .int .i64 ((0 : Nat) : Int)) rfl (rf_move rfl) rfl ?_
    refine wl_nil ?_
    refine thn ?_
    refine block_ ?_
    refine loop_ (fun lk lf lw => ∃ (g : Nat → Value) (i : Nat), lf = upds g [(2, .int .u64 ((0 : Nat) : Int)), (3, .int .u64 (hashTo k i)), (10, .agg (((formF k).map (fun x => Value.int .u8 x))).toArray), (11, .int .i64 ((i : Nat) : Int))] ∧ i + lk = 10 ∧ Kp (none_) w3 lw) (10) ?_ ?_
    · refine ⟨_, 0, upds_self ⟨rfl, rfl, rfl, rfl, trivial⟩, ?_⟩
      exact ⟨by omega, Kp.refl _⟩
    · intro lk0 lf0 wl hI0
      obtain ⟨gl0, i, rfl, hik, hkl0⟩ := hI0
      have hkw_wl := hkw_w3.comp hkl0 (fun _ _ e => e.elim)
      have hb1_wl := hb1_w3.keep hkl0
      have hsl := hkl0.size
      refine seq_ ?_
      refine region_ ?_
      refine wl_valE (v := .bool (decide (((i : Nat) : Int) < ((10 : Nat) : Int)))) rfl (rf_lss rfl rfl rfl rfl) rfl ?_
      refine wl_nil ?_
      refine thn ?_
      refine seq_ ?_
      refine cond_ (t := decide (((i : Nat) : Int) < ((10 : Nat) : Int))) rfl rfl (fun c12 => ?_) (fun c12 => ?_)
      · have c12p := of_decide_eq_true c12
        obtain ⟨x, hx⟩ : ∃ x, (formF k)[i]? = some x := ⟨_, List.getElem?_eq_getElem (by rw [formF, formTo_length k 8 (by omega)]; omega)⟩
        refine skip_ ?_
        refine thn ?_
        refine seq_ ?_
        refine block_ ?_
        refine seq_ ?_
        refine region_ ?_
        refine wl_valE (v := .int .u8 x) rfl (rf_indexA Tryz.underlying96 Tryz.underlying5 rfl ti5 rfl rfl rfl rfl (by omega) (by simp [hx])) rfl ?_
        refine wl_valE (v := .int .u8 x) rfl (rf_assign rfl) rfl ?_
        refine wl_nil ?_
        refine thn ?_
        refine region_ ?_
        refine wl_valE (v := .int .u64 (hashTo k i)) rfl (rf_move rfl) rfl ?_
        refine wl_valE (v := .int .u8 x) rfl (rf_move rfl) rfl ?_
        refine wl_valE (v := .int .u64 (IntKind.u64.wrap x)) rfl (rf_conv Tryz.underlying5 Tryz.underlying91 rfl rfl rfl) rfl ?_
        refine wl_valE (v := .int .u64 (bits .xor .u64 (hashTo k i) (IntKind.u64.wrap x))) rfl (rf_xor rfl rfl rfl rfl rfl) rfl ?_
        refine wl_valE (v := .int .u64 (hashTo k (i + 1))) rfl (rf_mul rfl rfl rfl rfl (hashTo_succ hx)) rfl ?_
        refine wl_valE (v := .int .u64 (hashTo k (i + 1))) rfl (rf_assign rfl) rfl ?_
        refine wl_nil ?_
        refine bln ?_
        refine thn ?_
        refine region_ ?_
        refine wl_valE (v := .int .i64 ((i + 1 : Nat) : Int)) rfl (rf_add rfl rfl rfl rfl (IntWalk.i64_in _ (by omega))) rfl ?_
        refine wl_valE (v := .int .i64 ((i + 1 : Nat) : Int)) rfl (rf_move rfl) rfl ?_
        refine wl_nil ?_
        refine thn ?_
        refine ⟨lk0 - 1, _, rfl, (by omega), _, i + 1, upds_self ⟨rfl, rfl, rfl, rfl, trivial⟩, ?_⟩
        exact ⟨by omega, hkl0⟩
      · have c12p := of_decide_eq_false c12
        obtain rfl : i = 10 := by omega
        refine exit_ ?_
        refine thx (thx (blx ?_))
        refine thn ?_
        refine seq_ ?_
        refine region_ ?_
        refine wl_valE (v := .int .u64 (hashTo k 10)) rfl (rf_move rfl) rfl ?_
        refine wl_valE (v := .int .u64 (hashTo k 10)) rfl (rf_assign rfl) rfl ?_
        refine wl_nil ?_
        refine thn ?_
        refine ret_ ?_
        refine fin1 (v := .int .u64 (hashTo k 10)) Tryz.results11 rfl rfl ?_
        exact ⟨by have := hashTo_nn k; simp [hashF, hgood]; omega, hkw_wl⟩
end Go.Proofs.YtojcddlpkfhodaaGreat.W
