import Derived.Test.YtojcddlpkfhodaaGreatS1
import Derived.KernelRfl
namespace Go.Proofs.YtojcddlpkfhodaaGreat.W
open Go Go.Wk
set_option linter.unusedVariables false
set_option linter.unusedSimpArgs false
theorem newSbad1_ret (m c : Int) (w : World) (hm : ¬ (1 ≤ m ∧ m ≤ 256)) : Ret Tryz.prog 4 [.int .i64 m, .int .i64 c] w fun v w' => v = .tuple #[.pointer none, .int .i64 21] ∧ Kp none_ w w' := by
  have hkw : Kp none_ w w := Kp.refl w
  refine enterR Tryz.func4 rfl Tryz.ntmps4 rfl ?_
  intro g0
  refine seq_ ?_
  refine region_ ?_
  refine wl_valE (v := .pointer none) rfl (rf_assign rfl) rfl ?_
  refine wl_valE (v := .int .i64 ((0 : Nat) : Int)) rfl (rf_assign rfl) rfl ?_
  refine wl_nil ?_
  refine thn ?_
  refine seq_ ?_
  refine region_ ?_
  refine wl_valE (v := .int .i64 m) rfl (rf_move rfl) rfl ?_
  refine wl_ret rfl (newDC_ret m w) (rf_call Tryz.call10 rfl rfl) ?_
  rintro vq w1 ⟨hbad, _⟩
  obtain ⟨rfl, hk1⟩ := hbad hm
  have hkw_w1 := hkw.comp hk1 (fun _ _ e => e.elim)
  have hs1 := hk1.size
  refine wl_valE (v := .tuple #[.pointer none, .int .i64 21]) rfl (rf_move rfl) rfl ?_
  refine wl_valE (v := .pointer none) rfl (rf_extract rfl rfl rfl) rfl ?_
  refine wl_valE (v := .int .i64 21) rfl (rf_extract rfl rfl rfl) rfl ?_
  refine wl_valE (v := .pointer none) rfl (rf_assign rfl) rfl ?_
  refine wl_valE (v := .int .i64 21) rfl (rf_assign rfl) rfl ?_
  refine wl_nil ?_
  refine thn ?_
  refine seq_ ?_
  refine seq_ ?_
  refine region_ ?_
  refine wl_valE (v := .int .i64 21) rfl (rf_move rfl) rfl ?_
  refine wl_valE (v := .bool true) rfl (rf_neq rfl rfl rfl rfl) (congrArg Value.bool (by decide)) ?_
  refine wl_nil ?_
  refine thn ?_
  refine condT rfl rfl ?_
  refine seq_ ?_
  refine region_ ?_
  refine wl_valE (v := .int .i64 21) rfl (rf_move rfl) rfl ?_
  refine wl_valE (v := .pointer none) rfl (rf_assign rfl) rfl ?_
  refine wl_valE (v := .int .i64 21) rfl (rf_assign rfl) rfl ?_
  refine wl_nil ?_
  refine thn ?_
  refine ret_ ?_
  refine thr ?_
  refine fin2 (v1 := .pointer none) (v2 := .int .i64 21) Tryz.results4 rfl rfl rfl rfl ?_
  exact ⟨rfl, hkw_w1⟩
theorem newSbad2_ret (m c : Int) (w : World) (hm : 1 ≤ m ∧ m ≤ 256) (hc : ¬ (1 ≤ c ∧ c ≤ 65536)) : Ret Tryz.prog 4 [.int .i64 m, .int .i64 c] w fun v w' => v = .tuple #[.pointer none, .int .i64 91] ∧ Kp none_ w w' := by
  have hkw : Kp none_ w w := Kp.refl w
  refine enterR Tryz.func4 rfl Tryz.ntmps4 rfl ?_
  intro g0
  refine seq_ ?_
  refine region_ ?_
  refine wl_valE (v := .pointer none) rfl (rf_assign rfl) rfl ?_
  refine wl_valE (v := .int .i64 ((0 : Nat) : Int)) rfl (rf_assign rfl) rfl ?_
  refine wl_nil ?_
  refine thn ?_
  refine seq_ ?_
  refine region_ ?_
  refine wl_valE (v := .int .i64 m) rfl (rf_move rfl) rfl ?_
  refine wl_ret rfl (newDC_ret m w) (rf_call Tryz.call10 rfl rfl) ?_
  rintro vq w1 ⟨_, hgood⟩
  obtain ⟨bd, bp, rs, rfl, hdd, hk1, hfr⟩ := hgood hm
  have hkw_w1 := hkw.comp hk1 (fun _ _ e => e.elim)
  have hs1 := hk1.size
  refine wl_valE (v := .tuple #[.pointer (some ⟨bd, 0, none⟩), .int .i64 0]) rfl (rf_move rfl) rfl ?_
  refine wl_valE (v := .pointer (some ⟨bd, 0, none⟩)) rfl (rf_extract rfl rfl rfl) rfl ?_
  refine wl_valE (v := .int .i64 0) rfl (rf_extract rfl rfl rfl) rfl ?_
  refine wl_valE (v := .pointer (some ⟨bd, 0, none⟩)) rfl (rf_assign rfl) rfl ?_
  refine wl_valE (v := .int .i64 0) rfl (rf_assign rfl) rfl ?_
  refine wl_nil ?_
  refine thn ?_
  refine seq_ ?_
  refine seq_ ?_
  refine region_ ?_
  refine wl_valE (v := .int .i64 0) rfl (rf_move rfl) rfl ?_
  refine wl_valE (v := .bool false) rfl (rf_neq rfl rfl rfl rfl) (congrArg Value.bool (by decide)) ?_
  refine wl_nil ?_
  refine thn ?_
  refine condF rfl rfl ?_
  refine skip_ ?_
  refine thn ?_
  refine seq_ ?_
  refine seq_ ?_
  refine region_ ?_
  refine wl_valE (v := .int .i64 c) rfl (rf_move rfl) rfl ?_
  refine wl_valE (v := .bool (decide (c < ((1 : Nat) : Int)))) rfl (rf_lss rfl rfl rfl rfl) rfl ?_
  refine wl_valE (v := .bool (decide (c < ((1 : Nat) : Int)))) rfl (rf_move rfl) rfl ?_
  refine wl_split (decide (c < ((1 : Nat) : Int))) (fun u4_2 => ?_) (fun u4_2 => ?_)
  · have u4_2p := of_decide_eq_true u4_2
    refine wl_guardF rfl rfl rfl u4_2 ?_
    refine wl_guardF rfl rfl rfl u4_2 ?_
    refine wl_valE (v := .bool true) rfl (rf_pickT rfl rfl rfl u4_2) rfl ?_
    refine wl_nil ?_
    refine thn ?_
    refine condT rfl rfl ?_
    refine seq_ ?_
    refine region_ ?_
    refine wl_valE (v := .pointer none) rfl (rf_assign rfl) rfl ?_
    refine wl_valE (v := .int .i64 ((91 : Nat) : Int)) rfl (rf_assign rfl) rfl ?_
    refine wl_nil ?_
    refine thn ?_
    refine ret_ ?_
    refine thr ?_
    refine fin2 (v1 := .pointer none) (v2 := .int .i64 ((91 : Nat) : Int)) Tryz.results4 rfl rfl rfl rfl ?_
    exact ⟨rfl, hkw_w1⟩
  · have u4_2p := of_decide_eq_false u4_2
    refine wl_guardT rfl rfl rfl u4_2 ?_
    refine wl_valE (v := .int .i64 c) rfl (rf_move rfl) rfl ?_
    refine wl_guardT rfl rfl rfl u4_2 ?_
    refine wl_valE (v := .bool (decide (((65536 : Nat) : Int) < c))) rfl (rf_gtr rfl rfl rfl rfl) rfl ?_
    refine wl_valE (v := .bool (decide (((65536 : Nat) : Int) < c))) rfl (rf_pickF rfl rfl rfl u4_2) rfl ?_
    refine wl_nil ?_
    refine thn ?_
    refine cond_ (t := decide (((65536 : Nat) : Int) < c)) rfl rfl (fun c21 => ?_) (fun c21 => ?_)
    · have c21p := of_decide_eq_true c21
      refine seq_ ?_
      refine region_ ?_
      refine wl_valE (v := .pointer none) rfl (rf_assign rfl) rfl ?_
      refine wl_valE (v := .int .i64 ((91 : Nat) : Int)) rfl (rf_assign rfl) rfl ?_
      refine wl_nil ?_
      refine thn ?_
      refine ret_ ?_
      refine thr ?_
      refine fin2 (v1 := .pointer none) (v2 := .int .i64 ((91 : Nat) : Int)) Tryz.results4 rfl rfl rfl rfl ?_
      exact ⟨rfl, hkw_w1⟩
    · have c21p := of_decide_eq_false c21
      omega
end Go.Proofs.YtojcddlpkfhodaaGreat.W
