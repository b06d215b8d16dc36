import Derived.Test.YtojcddlpkfhodaaGreatK1
import Derived.KernelRfl
namespace Go.Proofs.YtojcddlpkfhodaaGreat.W
open Go Go.Wk
set_option linter.unusedVariables false
set_option linter.unusedSimpArgs false

theorem rowF_nn (k : Key) : 0 ≤ rowF k ∧ rowF k ≤ 18446744073709551615 := by unfold rowF bits; exact u64_nn _
def tenTo (k : Key) (i : Nat) : List Int := [IntKind.u8.wrap (k.table / 256), IntKind.u8.wrap k.table] ++ List.replicate (8 - i) 0 ++ (List.range i).map (fun m => IntKind.u8.wrap (rowF k / 2 ^ (56 - 8 * (8 - i + m))))
theorem tenTo_length (k : Key) (i : Nat) (h : i ≤ 8) : (tenTo k i).length = 10 := by simp [tenTo]; omega
theorem tenTo_succ (k : Key) (i : Nat) (h : i < 8) : (tenTo k i).set (9 - i) (IntKind.u8.wrap (rowF k / 2 ^ (8 * i))) = tenTo k (i + 1) := by
  have : i = 0 ∨ i = 1 ∨ i = 2 ∨ i = 3 ∨ i = 4 ∨ i = 5 ∨ i = 6 ∨ i = 7 := by omega
  rcases this with rfl | rfl | rfl | rfl | rfl | rfl | rfl | rfl <;> rfl
theorem hash_val {k : Key} (h : okK k = true) : hashTo k 10 = ((hashF k : Nat) : Int) := by
  have := hashTo_nn k
  unfold hashF
  rw [if_pos h]; omega
theorem tenTo_all (k : Key) : tenTo k 8 = formF k := rfl
theorem quo_step (k : Key) (i : Nat) : IntKind.u64.wrap ((rowF k / 2 ^ (8 * i)).tdiv 256) = rowF k / 2 ^ (8 * (i + 1)) := by
  have h := rowF_nn k
  have h0 : 0 ≤ rowF k / 2 ^ (8 * i) := Int.ediv_nonneg h.1 (Int.pow_nonneg (by decide))
  have e : rowF k / 2 ^ (8 * i) / 256 = rowF k / 2 ^ (8 * (i + 1)) := by
    rw [Int.ediv_ediv_of_nonneg (Int.pow_nonneg (by decide)), show (2 : Int) ^ (8 * (i + 1)) = 2 ^ (8 * i) * 256 from by rw [Nat.mul_add, Int.pow_add]; rfl]
  have h1 : rowF k / 2 ^ (8 * i) ≤ rowF k := Int.ediv_le_self _ h.1
  rw [Int.tdiv_eq_ediv_of_nonneg h0, IntWalk.u64_in _ (by omega), e]
theorem rem_step (k : Key) (i : Nat) : IntKind.u8.wrap ((rowF k / 2 ^ (8 * i)).tmod 256) = IntKind.u8.wrap (rowF k / 2 ^ (8 * i)) := by
  have h0 : 0 ≤ rowF k / 2 ^ (8 * i) := Int.ediv_nonneg (rowF_nn k).1 (Int.pow_nonneg (by decide))
  rw [Int.tmod_eq_emod_of_nonneg h0, IntKind.wrap_u8, IntKind.wrap_u8]; omega
theorem tab_step {k : Key} (h : okK k = true) : IntKind.u8.wrap (k.table.tmod 256) = IntKind.u8.wrap k.table ∧ IntKind.i64.wrap (k.table.tdiv 256) = k.table / 256 := by
  have : 0 ≤ k.table ∧ k.table ≤ 65535 := by unfold okK at h; simpa using h
  rw [Int.tmod_eq_emod_of_nonneg this.1, Int.tdiv_eq_ediv_of_nonneg this.1, IntKind.wrap_u8, IntKind.wrap_u8, IntWalk.i64_in _ (by omega)]
  exact ⟨by omega, rfl⟩
theorem check2_ret (k : Key) (w : World) : Ret Tryz.prog 40 [.agg #[.int .i64 k.table, .int .i64 k.row]] w fun v w' => v = .int .i64 (checkF k) ∧ Kp none_ w w' := by
  refine enterR Tryz.func40 rfl Tryz.ntmps40 rfl ?_
  intro g0
  refine seq_ ?_
  refine region_ ?_
  refine wl_box (v := .agg #[.int .i64 k.table, .int .i64 k.row]) rfl rfl ?_
  intro b1 w1 hg1 hk1 hb1
  have hs1 := hk1.size
  refine wl_valE (v := .int .i64 ((0 : Nat) : Int)) rfl (rf_assign rfl) rfl ?_
  refine wl_nil ?_
  refine thn ?_
  refine seq_ ?_
  refine seq_ ?_
  refine region_ ?_
  refine wl_valE (v := .pointer (some ⟨b1, 0, none⟩)) rfl (rf_fieldAddr Tryz.underlying41 rfl ti3 rfl rfl) rfl ?_
  refine wl_valE (v := .int .i64 k.table) rfl (rf_load Tryz.underlying3 rfl rfl rfl (hb1.cell rfl)) rfl ?_
  refine wl_valE (v := .bool (decide (k.table < ((0 : Nat) : Int)))) rfl (rf_lss rfl rfl rfl rfl) rfl ?_
  refine wl_valE (v := .bool (decide (k.table < ((0 : Nat) : Int)))) rfl (rf_move rfl) rfl ?_
  refine wl_split (decide (k.table < ((0 : Nat) : Int))) (fun u1_3 => ?_) (fun u1_3 => ?_)
  · have u1_3p := of_decide_eq_true u1_3
    refine wl_guardF rfl rfl rfl u1_3 ?_
    refine wl_guardF rfl rfl rfl u1_3 ?_
    refine wl_guardF rfl rfl rfl u1_3 ?_
    refine wl_valE (v := .bool true) rfl (rf_pickT rfl rfl rfl u1_3) rfl ?_
    refine wl_nil ?_
    refine thn ?_
    refine condT rfl rfl ?_
    refine seq_ ?_
    refine region_ ?_
    refine wl_valE (v := .int .i64 ((20 : Nat) : Int)) rfl (rf_assign rfl) rfl ?_
    refine wl_nil ?_
    refine thn ?_
    refine ret_ ?_
    refine thr ?_
    refine fin1 (v := .int .i64 ((20 : Nat) : Int)) Tryz.results40 rfl rfl ?_
    exact ⟨congrArg _ (by simp [checkF, okK]; omega), hk1⟩
  · have u1_3p := of_decide_eq_false u1_3
    refine wl_guardT rfl rfl rfl u1_3 ?_
    refine wl_valE (v := .pointer (some ⟨b1, 0, none⟩)) rfl (rf_fieldAddr Tryz.underlying41 rfl ti3 rfl rfl) rfl ?_
    refine wl_guardT rfl rfl rfl u1_3 ?_
    refine wl_valE (v := .int .i64 k.table) rfl (rf_load Tryz.underlying3 rfl rfl rfl (hb1.cell rfl)) rfl ?_
    refine wl_guardT rfl rfl rfl u1_3 ?_
    refine wl_valE (v := .bool (decide (((65535 : Nat) : Int) < k.table))) rfl (rf_gtr rfl rfl rfl rfl) rfl ?_
    refine wl_valE (v := .bool (decide (((65535 : Nat) : Int) < k.table))) rfl (rf_pickF rfl rfl rfl u1_3) rfl ?_
    refine wl_nil ?_
    refine thn ?_
    refine cond_ (t := decide (((65535 : Nat) : Int) < k.table)) rfl rfl (fun c10 => ?_) (fun c10 => ?_)
    · have c10p := of_decide_eq_true c10
      refine seq_ ?_
      refine region_ ?_
      refine wl_valE (v := .int .i64 ((20 : Nat) : Int)) rfl (rf_assign rfl) rfl ?_
      refine wl_nil ?_
      refine thn ?_
      refine ret_ ?_
      refine thr ?_
      refine fin1 (v := .int .i64 ((20 : Nat) : Int)) Tryz.results40 rfl rfl ?_
      exact ⟨congrArg _ (by simp [checkF, okK]; omega), hk1⟩
    · have c10p := of_decide_eq_false c10
      refine skip_ ?_
      refine thn ?_
      refine seq_ ?_
      refine region_ ?_
      refine wl_valE (v := .int .i64 ((0 : Nat) : Int)) rfl (rf_assign rfl) rfl ?_
      refine wl_nil ?_
      refine thn ?_
      refine ret_ ?_
      refine fin1 (v := .int .i64 ((0 : Nat) : Int)) Tryz.results40 rfl rfl ?_
      exact ⟨congrArg _ (by simp [checkF, okK]; omega), hk1⟩
theorem ten_ret (k : Key) (hok : okK k = true) (w : World) : Ret Tryz.prog 62 [.agg #[.int .i64 k.table, .int .i64 k.row]] w fun v w' => v = .agg ((formF k).map (fun x => Value.int .u8 x)).toArray ∧ Kp none_ w w' := by
  have hkw : Kp none_ w w := Kp.refl w
  have hts := tab_step hok
  refine enterR Tryz.func62 rfl Tryz.ntmps62 rfl ?_
  intro g0
  refine seq_ ?_
  refine region_ ?_
  refine wl_box (v := .agg #[.int .i64 k.table, .int .i64 k.row]) rfl rfl ?_
  intro b1 w1 hg1 hk1 hb1
  have hkw_w1 := hkw.comp hk1 (fun _ _ e => e.elim)
  have hs1 := hk1.size
  refine wl_alloc ti96 ?_
  intro b2 w2 hg2 hk2 hb2
  have ne2_b1 : b1 ≠ b2 := Nat.ne_of_lt (Nat.lt_of_lt_of_le hb1.lt hg2)
  have hkw_w2 := hkw_w1.comp hk2 (fun _ _ e => e.elim)
  have hb1_w2 := hb1.keep hk2
  have hs2 := hk2.size
  refine wl_nil ?_
  refine thn ?_
  refine seq_ ?_
  refine region_ ?_
  refine wl_alloc ti96 ?_
  intro b3 w3 hg3 hk3 hb3
  have ne3_b1 : b1 ≠ b3 := Nat.ne_of_lt (Nat.lt_of_lt_of_le hb1_w2.lt hg3)
  have ne3_b2 : b2 ≠ b3 := Nat.ne_of_lt (Nat.lt_of_lt_of_le hb2.lt hg3)
  have hkw_w3 := hkw_w2.comp hk3 (fun _ _ e => e.elim)
  have hb1_w3 := hb1_w2.keep hk3
  have hb2_w3 := hb2.keep hk3
  have hs3 := hk3.size
  refine wl_nil ?_
  refine thn ?_
  refine seq_ ?_
  refine region_ ?_
  refine wl_valE (v := .pointer (some ⟨b1, 0, none⟩)) rfl (rf_fieldAddr Tryz.underlying41 rfl ti3 rfl rfl) rfl ?_
  refine wl_valE (v := .int .i64 k.table) rfl (rf_load Tryz.underlying3 rfl rfl rfl (hb1_w3.cell rfl)) rfl ?_
  refine wl_valE (v := .int .i64 (k.table / 256)) rfl (rf_quo rfl rfl rfl rfl (by decide) hts.2) rfl ?_
  refine wl_valE (v := .int .u8 (IntKind.u8.wrap (k.table / 256))) rfl (rf_conv Tryz.underlying3 Tryz.underlying5 rfl rfl rfl) rfl ?_
  refine wl_valE (v := .pointer (some ⟨b3, 0, none⟩)) rfl (rf_indexAddrA Tryz.underlying96 ti5 rfl rfl rfl rfl (by omega) (by omega)) (by simp) ?_
  refine wl_store (b := b3) (o := 0) (v := .int .u8 (IntKind.u8.wrap (k.table / 256))) ti5 rfl rfl rfl rfl rfl hb3 (by first | decide | exact Nat.le_of_ble_eq_true rfl | simp) ?_
  intro w4 hk4 hb4
  have hkw_w4 := hkw_w3.comp hk4 (fun b h e => by omega)
  have hb1_w4 := hb1_w3.kp hk4 ne3_b1
  have hb2_w4 := hb2_w3.kp hk4 ne3_b2
  have hs4 := hk4.size
  replace hb4 : Blk w4 b3 (.cells #[.int .u8 (IntKind.u8.wrap (k.table / 256)), .int .u8 ((0 : Nat) : Int), .int .u8 ((0 : Nat) : Int), .int .u8 ((0 : Nat) : Int), .int .u8 ((0 : Nat) : Int), .int .u8 ((0 : Nat) : Int), .int .u8 ((0 : Nat) : Int), .int .u8 ((0 : Nat) : Int), .int .u8 ((0 : Nat) : Int), .int .u8 ((0 : Nat) : Int)] _ (0, 0)) := hb4
  refine wl_nil ?_
  refine thn ?_
  refine seq_ ?_
  refine region_ ?_
  refine wl_valE (v := .pointer (some ⟨b1, 0, none⟩)) rfl (rf_fieldAddr Tryz.underlying41 rfl ti3 rfl rfl) rfl ?_
  refine wl_valE (v := .int .i64 k.table) rfl (rf_load Tryz.underlying3 rfl rfl rfl (hb1_w4.cell rfl)) rfl ?_
  refine wl_valE (v := .int .i64 (k.table.tmod 256)) rfl (rf_rem rfl rfl rfl rfl (by decide) rfl) rfl ?_
  refine wl_valE (v := .int .u8 (IntKind.u8.wrap k.table)) rfl (rf_conv Tryz.underlying3 Tryz.underlying5 rfl rfl hts.1) rfl ?_
  refine wl_valE (v := .pointer (some ⟨b3, 1, none⟩)) rfl (rf_indexAddrA Tryz.underlying96 ti5 rfl rfl rfl rfl (by omega) (by omega)) (by simp) ?_
  refine wl_store (b := b3) (o := 1) (v := .int .u8 (IntKind.u8.wrap k.table)) ti5 rfl rfl rfl rfl rfl hb4 (by first | decide | exact Nat.le_of_ble_eq_true rfl | simp) ?_
  intro w5 hk5 hb5
  have hkw_w5 := hkw_w4.comp hk5 (fun b h e => by omega)
  have hb1_w5 := hb1_w4.kp hk5 ne3_b1
  have hb2_w5 := hb2_w4.kp hk5 ne3_b2
  have hs5 := hk5.size
  replace hb5 : Blk w5 b3 (.cells #[.int .u8 (IntKind.u8.wrap (k.table / 256)), .int .u8 (IntKind.u8.wrap k.table), .int .u8 ((0 : Nat) : Int), .int .u8 ((0 : Nat) : Int), .int .u8 ((0 : Nat) : Int), .int .u8 ((0 : Nat) : Int), .int .u8 ((0 : Nat) : Int), .int .u8 ((0 : Nat) : Int), .int .u8 ((0 : Nat) : Int), .int .u8 ((0 : Nat) : Int)] _ (0, 0)) := hb5
  refine wl_nil ?_
  refine thn ?_
  refine seq_ ?_
  refine region_ ?_
  refine wl_valE (v := .pointer (some ⟨b1, 1, none⟩)) rfl (rf_fieldAddr Tryz.underlying41 rfl ti2 rfl rfl) rfl ?_
  refine wl_valE (v := .int .i64 k.row) rfl (rf_load Tryz.underlying2 rfl rfl rfl (hb1_w5.cell rfl)) rfl ?_
  refine wl_valE (v := .int .u64 (IntKind.u64.wrap k.row)) rfl (rf_conv Tryz.underlying2 Tryz.underlying91 rfl rfl rfl) rfl ?_
  refine wl_valE (v := .int .u64 (rowF k)) rfl (rf_xor rfl rfl rfl rfl rfl) rfl ?_
  refine wl_valE (v := .int .u64 (rowF k)) rfl (rf_assign rfl) rfl ?_
  refine wl_nil ?_
  refine thn ?_
  refine seq_ ?_
  refine seq_ ?_
  refine region_ ?_
  refine wl_valE (v := .int .i64 ((0 : Nat) : Int)) rfl (rf_assign rfl) rfl ?_
  refine wl_nil ?_
  refine thn ?_
  refine block_ ?_
  replace hb5 : Blk w5 b3 (.cells ((tenTo k 0).map (fun x => Value.int .u8 x)).toArray 96 (0, 0)) := hb5
  refine loop_ (fun lk lf lw => ∃ (g : Nat → Value) (i : Nat) (u : Int), lf = upds g [(2, .pointer (some ⟨b2, 0, none⟩)), (3, .pointer (some ⟨b3, 0, none⟩)), (4, .int .u64 u), (5, .int .i64 ((i : Nat) : Int))] ∧ i + lk = 8 ∧ u = rowF k / 2 ^ (8 * i) ∧ Blk lw b3 (.cells ((tenTo k i).map (fun x => Value.int .u8 x)).toArray 96 (0, 0)) ∧ Kp (fun b => b = b3) w5 lw) (8) ?_ ?_
  · refine ⟨_, 0, rowF k, upds_self ⟨rfl, rfl, rfl, rfl, trivial⟩, ?_⟩
    exact ⟨by omega, by simp, hb5, Kp.refl _⟩
  · intro lk0 lf0 wl hI0
    obtain ⟨gl0, i, u, rfl, hik, hu, hbb, hkl0⟩ := hI0
    have hkw_wl := hkw_w5.comp hkl0 (fun b h e => by omega)
    have hb1_wl := hb1_w5.kp hkl0 (by omega)
    have hb2_wl := hb2_w5.kp hkl0 (by omega)
    have hsl := hkl0.size
    refine seq_ ?_
    refine seq_ ?_
    refine region_ ?_
    refine wl_valE (v := .int .i64 ((i : Nat) : Int)) rfl (rf_move rfl) rfl ?_
    refine wl_valE (v := .bool (decide (((i : Nat) : Int) < ((8 : Nat) : Int)))) rfl (rf_lss rfl rfl rfl rfl) rfl ?_
    refine wl_nil ?_
    refine thn ?_
    refine cond_ (t := decide (((i : Nat) : Int) < ((8 : Nat) : Int))) rfl rfl (fun c21 => ?_) (fun c21 => ?_)
    · have c21p := of_decide_eq_true c21
      subst hu
      refine skip_ ?_
      refine thn ?_
      refine seq_ ?_
      refine block_ ?_
      refine seq_ ?_
      refine region_ ?_
      refine wl_valE (v := .int .i64 ((i : Nat) : Int)) rfl (rf_move rfl) rfl ?_
      refine wl_valE (v := .int .i64 ((9 - i : Nat) : Int)) rfl (rf_sub rfl rfl rfl rfl (by rw [IntWalk.i64_in _ (by omega)]; omega)) rfl ?_
      refine wl_valE (v := .int .u64 (rowF k / 2 ^ (8 * i))) rfl (rf_move rfl) rfl ?_
      refine wl_valE (v := .int .u64 ((rowF k / 2 ^ (8 * i)).tmod 256)) rfl (rf_rem rfl rfl rfl rfl (by decide) rfl) rfl ?_
      refine wl_valE (v := .int .u8 (IntKind.u8.wrap (rowF k / 2 ^ (8 * i)))) rfl (rf_conv Tryz.underlying91 Tryz.underlying5 rfl rfl (rem_step k i)) rfl ?_
      refine wl_valE (v := .pointer (some ⟨b3, 9 - i, none⟩)) rfl (rf_indexAddrA Tryz.underlying96 ti5 rfl rfl rfl rfl (by omega) (by omega)) (by simp) ?_
      refine wl_store (b := b3) (o := 9 - i) (v := .int .u8 (IntKind.u8.wrap (rowF k / 2 ^ (8 * i)))) ti5 rfl rfl rfl rfl rfl hbb (by simp [tenTo_length k i (by omega)]; omega) ?_
      intro w6 hk6 hb6
      have hkw_w6 := hkw_wl.comp hk6 (fun b h e => by omega)
      have hb1_w6 := hb1_wl.kp hk6 ne3_b1
      have hb2_w6 := hb2_wl.kp hk6 ne3_b2
      have hs6 := hk6.size
      replace hb6 : Blk w6 b3 (.cells ((tenTo k (i + 1)).map (fun x => Value.int .u8 x)).toArray 96 (0, 0)) := by rw [← tenTo_succ k i (by omega), List.map_set]; simpa using hb6
      refine wl_nil ?_
      refine thn ?_
      refine region_ ?_
      refine wl_valE (v := .int .u64 (rowF k / 2 ^ (8 * i))) rfl (rf_move rfl) rfl ?_
      refine wl_valE (v := .int .u64 (rowF k / 2 ^ (8 * (i + 1)))) rfl (rf_quo rfl rfl rfl rfl (by decide) (quo_step k i)) rfl ?_
      refine wl_valE (v := .int .u64 (rowF k / 2 ^ (8 * (i + 1)))) rfl (rf_assign rfl) rfl ?_
      refine wl_nil ?_
      refine bln ?_
      refine thn ?_
      refine region_ ?_
      refine wl_valE (v := .int .i64 ((i : Nat) : Int)) rfl (rf_move rfl) rfl ?_
      refine wl_valE (v := .int .i64 ((i + 1 : Nat) : Int)) rfl (rf_add rfl rfl rfl rfl (IntWalk.i64_in _ (by omega))) rfl ?_
      refine wl_valE (v := .int .i64 ((i + 1 : Nat) : Int)) rfl (rf_assign rfl) rfl ?_
      refine wl_nil ?_
      refine thn ?_
      refine ⟨lk0 - 1, _, rfl, (by omega), _, i + 1, rowF k / 2 ^ (8 * (i + 1)), upds_self ⟨rfl, rfl, rfl, rfl, trivial⟩, ?_⟩
      exact ⟨by omega, rfl, hb6, hkl0.trans hk6⟩
    · have c21p := of_decide_eq_false c21
      obtain rfl : i = 8 := by omega
      refine exit_ ?_
      refine thx (thx (blx ?_))
      refine thn ?_
      refine seq_ ?_
      refine region_ ?_
      refine wl_valE (v := .agg (((formF k).map (fun x => Value.int .u8 x))).toArray) rfl (rf_loadBlk Tryz.underlying96 rfl ti96 rfl rfl hbb (Nat.le_of_ble_eq_true rfl)) rfl ?_
      refine wl_storeAgg (b := b2) (o := 0) (cs := ((formF k).map (fun x => Value.int .u8 x))) ti96 rfl rfl rfl rfl (by simp [formF, formTo_length]) (by simp [Value.oneCell']) hb2_wl (Nat.le_of_ble_eq_true rfl) ?_
      intro w7 hk7 hb7
      have hkw_w7 := hkw_wl.comp hk7 (fun b h e => by omega)
      have hb1_w7 := hb1_wl.kp hk7 ne2_b1
      have hbb_w7 := hbb.kp hk7 (Ne.symm ne3_b2)
      have hs7 := hk7.size
      replace hb7 : Blk w7 b2 (.cells ((formF k).map (fun x => Value.int .u8 x)).toArray 96 (0, 0)) := by
        have h := hb7
        rwa [spl_full (by simp [formF, formTo_length, Value.cells])] at h
      refine wl_nil ?_
      refine thn ?_
      refine ret_ ?_
      refine finV1 Tryz.results62 (RV.blk rfl Tryz.underlying96 rfl ti96 rfl (by with_reducible assumption) (by simp [formF, formTo_length])) ?_
      refine ⟨?_, hkw_w7⟩
      rw [List.drop_zero, List.take_of_length_le (by simp [formF, formTo_length])]
theorem hash2_ret (k : Key) (w : World) : Ret Tryz.prog 41 [.agg #[.int .i64 k.table, .int .i64 k.row]] w fun v w' => v = .int .u64 (hashF k : Nat) ∧ Kp none_ w w' := by
  have hkw : Kp none_ w w := Kp.refl w
  refine enterR Tryz.func41 rfl Tryz.ntmps41 rfl ?_
  intro g0
  refine seq_ ?_
  refine region_ ?_
  refine wl_box (v := .agg #[.int .i64 k.table, .int .i64 k.row]) rfl rfl ?_
  intro b1 w1 hg1 hk1 hb1
  have hkw_w1 := hkw.comp hk1 (fun _ _ e => e.elim)
  have hs1 := hk1.size
  refine wl_valE (v := .int .u64 ((0 : Nat) : Int)) rfl (rf_assign rfl) rfl ?_
  refine wl_nil ?_
  refine thn ?_
  refine seq_ ?_
  refine seq_ ?_
  refine region_ ?_
  refine wl_valE (v := .agg #[.int .i64 k.table, .int .i64 k.row]) rfl (rf_loadBlk Tryz.underlying41 rfl ti41 rfl rfl hb1 (Nat.le_of_ble_eq_true rfl)) rfl ?_
  refine wl_ret rfl (check2_ret k w1) (rf_call Tryz.call40 rfl rfl) ?_
  rintro _ w2 ⟨rfl, hk2⟩
  have hkw_w2 := hkw_w1.comp hk2 (fun _ _ e => e.elim)
  have hb1_w2 := hb1.keep hk2
  have hs2 := hk2.size
  refine wl_valE (v := .bool (decide (checkF k ≠ ((0 : Nat) : Int)))) rfl (rf_neq rfl rfl rfl rfl) rfl ?_
  refine wl_nil ?_
  refine thn ?_
  refine cond_ (t := decide (checkF k ≠ ((0 : Nat) : Int))) rfl rfl (fun c8 => ?_) (fun c8 => ?_)
  · have c8p := of_decide_eq_true c8
    have hbad : okK k = false := by unfold checkF at c8p; split at c8p <;> simp_all
    refine seq_ ?_
    refine region_ ?_
    refine wl_valE (v := .int .u64 ((0 : Nat) : Int)) rfl (rf_assign rfl) rfl ?_
    refine wl_nil ?_
    refine thn ?_
    refine ret_ ?_
    refine thr ?_
    refine fin1 (v := .int .u64 ((0 : Nat) : Int)) Tryz.results41 rfl rfl ?_
    exact ⟨by simp [hashF, hbad], hkw_w2⟩
  · have c8p := of_decide_eq_false c8
    have hgood : okK k = true := by unfold checkF at c8p; split at c8p <;> simp_all
    refine skip_ ?_
    refine thn ?_
    refine seq_ ?_
    refine region_ ?_
    refine wl_valE (v := .agg #[.int .i64 k.table, .int .i64 k.row]) rfl (rf_loadBlk Tryz.underlying41 rfl ti41 rfl rfl hb1_w2 (Nat.le_of_ble_eq_true rfl)) rfl ?_
    refine wl_ret rfl (ten_ret k hgood w2) (rf_call Tryz.call62 rfl rfl) ?_
    rintro _ w3 ⟨rfl, hk3⟩
    have hkw_w3 := hkw_w2.comp hk3 (fun _ _ e => e.elim)
    have hb1_w3 := hb1_w2.keep hk3
    have hs3 := hk3.size
    refine wl_alloc ti96 ?_
    intro b4 w4 hg4 hk4 hb4
    have ne4_b1 : b1 ≠ b4 := Nat.ne_of_lt (Nat.lt_of_lt_of_le hb1_w3.lt hg4)
    have hkw_w4 := hkw_w3.comp hk4 (fun _ _ e => e.elim)
    have hb1_w4 := hb1_w3.keep hk4
    have hs4 := hk4.size
    refine wl_storeAgg (b := b4) (o := 0) (cs := ((formF k).map (fun x => Value.int .u8 x))) ti96 rfl rfl rfl rfl (by simp [formF, formTo_length]) (by simp [Value.oneCell']) hb4 (Nat.le_of_ble_eq_true rfl) ?_
    intro w5 hk5 hb5
    have hkw_w5 := hkw_w4.comp hk5 (fun b h e => by omega)
    have hb1_w5 := hb1_w4.kp hk5 ne4_b1
    have hs5 := hk5.size
    replace hb5 : Blk w5 b4 (.cells ((formF k).map (fun x => Value.int .u8 x)).toArray 96 (0, 0)) := by
      have h := hb5
      rwa [spl_full (by simp [formF, formTo_length, Value.cells])] at h
    refine wl_nil ?_
    refine thn ?_
    refine seq_ ?_
    refine region_ ?_
    refine wl_valE (v := .int .u64 ((14695981039346656037 : Nat) : Int)) rfl (rf_assign rfl) rfl ?_
    refine wl_nil ?_
    refine thn ?_
    refine seq_ ?_
    refine seq_ ?_
    refine region_ ?_
    refine wl_valE (v := .int .i64 ((0 : Nat) : Int)) rfl (rf_assign rfl) rfl ?_
    refine wl_nil ?_
    refine thn ?_
    refine block_ ?_
    refine loop_ (fun lk lf lw => ∃ (g : Nat → Value) (i : Nat), lf = upds g [(2, .int .u64 ((0 : Nat) : Int)), (3, .pointer (some ⟨b4, 0, none⟩)), (4, .int .u64 (hashTo k i)), (5, .int .i64 ((i : Nat) : Int))] ∧ i + lk = 10 ∧ Kp (none_) w5 lw) (10) ?_ ?_
    · refine ⟨_, 0, upds_self ⟨rfl, rfl, rfl, rfl, trivial⟩, ?_⟩
      exact ⟨by omega, Kp.refl _⟩
    · intro lk0 lf0 wl hI0
      obtain ⟨gl0, i, rfl, hik, hkl0⟩ := hI0
      have hkw_wl := hkw_w5.comp hkl0 (fun _ _ e => e.elim)
      have hb1_wl := hb1_w5.keep hkl0
      have hb4_wl := hb5.keep hkl0
      have hsl := hkl0.size
      refine seq_ ?_
      refine seq_ ?_
      refine region_ ?_
      refine wl_valE (v := .int .i64 ((i : Nat) : Int)) rfl (rf_move rfl) rfl ?_
      refine wl_valE (v := .bool (decide (((i : Nat) : Int) < ((10 : Nat) : Int)))) rfl (rf_lss rfl rfl rfl rfl) rfl ?_
      refine wl_nil ?_
      refine thn ?_
      refine cond_ (t := decide (((i : Nat) : Int) < ((10 : Nat) : Int))) rfl rfl (fun c12 => ?_) (fun c12 => ?_)
      · have c12p := of_decide_eq_true c12
        obtain ⟨x, hx⟩ : ∃ x, (formF k)[i]? = some x := ⟨_, List.getElem?_eq_getElem (by rw [formF, formTo_length k 8 (by omega)]; omega)⟩
        refine skip_ ?_
        refine thn ?_
        refine seq_ ?_
        refine block_ ?_
        refine region_ ?_
        refine wl_valE (v := .int .u64 (hashTo k i)) rfl (rf_move rfl) rfl ?_
        refine wl_valE (v := .int .i64 ((i : Nat) : Int)) rfl (rf_move rfl) rfl ?_
        refine wl_valE (v := .pointer (some ⟨b4, i, none⟩)) rfl (rf_indexAddrA Tryz.underlying96 ti5 rfl rfl rfl rfl (by omega) (by omega)) (by simp) ?_
        refine wl_valE (v := .int .u8 x) rfl (rf_load Tryz.underlying5 rfl rfl rfl (hb4_wl.cell (i := i) (v := .int .u8 x) (by simp [hx]))) rfl ?_
        refine wl_valE (v := .int .u64 (IntKind.u64.wrap x)) rfl (rf_conv Tryz.underlying5 Tryz.underlying91 rfl rfl rfl) rfl ?_
        refine wl_valE (v := .int .u64 (bits .xor .u64 (hashTo k i) (IntKind.u64.wrap x))) rfl (rf_xor rfl rfl rfl rfl rfl) rfl ?_
        refine wl_valE (v := .int .u64 (hashTo k (i + 1))) rfl (rf_mul rfl rfl rfl rfl (hashTo_succ hx)) rfl ?_
        refine wl_valE (v := .int .u64 (hashTo k (i + 1))) rfl (rf_assign rfl) rfl ?_
        refine wl_nil ?_
        refine bln ?_
        refine thn ?_
        refine region_ ?_
        refine wl_valE (v := .int .i64 ((i : Nat) : Int)) rfl (rf_move rfl) rfl ?_
        refine wl_valE (v := .int .i64 ((i + 1 : Nat) : Int)) rfl (rf_add rfl rfl rfl rfl (IntWalk.i64_in _ (by omega))) rfl ?_
        refine wl_valE (v := .int .i64 ((i + 1 : Nat) : Int)) rfl (rf_assign rfl) rfl ?_
        refine wl_nil ?_
        refine thn ?_
        refine ⟨lk0 - 1, _, rfl, (by omega), _, i + 1, upds_self ⟨rfl, rfl, rfl, rfl, trivial⟩, ?_⟩
        exact ⟨by omega, hkl0⟩
      · have c12p := of_decide_eq_false c12
        obtain rfl : i = 10 := by omega
        refine exit_ ?_
        refine thx (thx (blx ?_))
        refine thn ?_
        refine seq_ ?_
        refine region_ ?_
        refine wl_valE (v := .int .u64 (hashTo k 10)) rfl (rf_move rfl) rfl ?_
        refine wl_valE (v := .int .u64 (hashTo k 10)) rfl (rf_assign rfl) rfl ?_
        refine wl_nil ?_
        refine thn ?_
        refine ret_ ?_
        refine fin1 (v := .int .u64 (hashTo k 10)) Tryz.results41 rfl rfl ?_
        exact ⟨congrArg _ (hash_val hgood), hkw_wl⟩
end Go.Proofs.YtojcddlpkfhodaaGreat.W
