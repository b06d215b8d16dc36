import Derived.Test.YtiidihgimcebgaaC5
import Derived.KernelRfl
namespace Go.Proofs.Ytiidihgimcebgaa.W
open Go Go.Wk
set_option linter.unusedVariables false
set_option linter.unusedSimpArgs false
set_option maxHeartbeats 2000000 in
theorem works_tr : Tr Try.prog 11 [] [] [] (fun v m => v = .bool true ∧ m = []) := by
  intro w0 S0 H0
  refine enterR Try.func11 rfl Try.ntmps11 rfl ?_
  intro g0
  refine seq_ ?_
  refine region_ ?_
  refine wl_valE (v := .bool false) rfl (rf_assign rfl) rfl ?_
  refine wl_nil ?_
  refine thn ?_
  refine seq_ ?_
  refine region_ ?_
  refine wl_tr H0 rfl [] (newChore_tr (2 : Int) none 0 0 ([]) (by omega)) rfl (.non nil_rd .nil) (rf_call Try.call28 rfl rfl) rfl ?_
  rintro _ w1 _ ⟨p1, ac1, cc1, rfl, rfl⟩ H1
  have H2 := ChH.nil H1
  have H3 := ChH.push (bh := []) H2 2 1 0 rfl rfl rfl rfl rfl rfl rfl rfl OkB.nil (fun j h => by simp at h)
  dsimp only [putsH, setH, List.cons_append, List.nil_append] at H3
  refine wl_valE (v := .pointer (some ⟨p1, 0, none⟩)) rfl (rf_assign rfl) rfl ?_
  refine wl_nil ?_
  refine thn ?_
  refine seq_ ?_
  refine region_ ?_
  refine wl_valE (v := .pointer (some ⟨p1, 0, none⟩)) rfl (rf_move rfl) rfl ?_
  refine wl_buildSliceH (enc := encOP) H3 [(some p1)] encOP_len Try.underlying26 ti30 rfl rfl rfl (.cons rfl rfl rfl rfl rfl rfl .nil) ?_
  intro a4 w5 H5
  refine wl_tr H5 rfl [] (newChore_tr (1 : Int) a4 1 1 ([(some p1)]) (by omega)) rfl (.own 3 rfl slH_rd .nil) (rf_call Try.call28 rfl rfl) rfl ?_
  rintro _ w6 _ ⟨p2, ac6, cc6, rfl, rfl⟩ H6
  have H7 := ChH.push (bh := [some 0]) H6 2 5 4 rfl rfl rfl rfl rfl rfl rfl rfl (OkB.nil.push (clip_in 2) (fun j h => by simp at h)) (fun j h => by simp at h; simp [h])
  dsimp only [putsH, setH, List.cons_append, List.nil_append] at H7
  have hok : OkB [(⟨clip (2 : Int), []⟩ : Cho), ⟨clip (1 : Int), [some 0]⟩] := (OkB.nil.push (c := ⟨clip 2, []⟩) (clip_in 2) (fun j h => by simp at h)).push (c := ⟨clip 1, [some 0]⟩) (clip_in 1) (fun j h => by simp at h; simp [h])
  have hbl : ∀ (i : Nat) (c : Cho), ([(⟨clip (2 : Int), []⟩ : Cho), ⟨clip (1 : Int), [some 0]⟩])[i]? = some c → c.bh.length ≤ 4398046511104 := fun i c h => by match i, h with | 0, h => (cases h; decide) | 1, h => (cases h; decide) | i + 2, h => (simp at h)
  have hwf : WfC [(⟨clip (2 : Int), []⟩ : Cho), ⟨clip (1 : Int), [some 0]⟩] [some 1, some 0] := ⟨hok, hbl, fun i h => by simp at h; rcases h with rfl | rfl <;> decide, by decide⟩
  refine wl_valE (v := .pointer (some ⟨p2, 0, none⟩)) rfl (rf_assign rfl) rfl ?_
  refine wl_nil ?_
  refine thn ?_
  refine seq_ ?_
  refine seq_ ?_
  refine region_ ?_
  refine wl_valE (v := .pointer (some ⟨p1, 0, none⟩)) rfl (rf_move rfl) rfl ?_
  refine wl_valE (v := .bool false) rfl (rf_eqlPN Try.underlying30 rfl rfl rfl rfl) rfl ?_
  refine wl_valE (v := .bool false) rfl (rf_move rfl) rfl ?_
  refine wl_guardT rfl rfl rfl rfl ?_
  refine wl_valE (v := .pointer (some ⟨p2, 0, none⟩)) rfl (rf_move rfl) rfl ?_
  refine wl_guardT rfl rfl rfl rfl ?_
  refine wl_valE (v := .bool false) rfl (rf_eqlPN Try.underlying30 rfl rfl rfl rfl) rfl ?_
  refine wl_valE (v := .bool false) rfl (rf_pickF rfl rfl rfl rfl) rfl ?_
  refine wl_valE (v := .bool false) rfl (rf_move rfl) rfl ?_
  refine wl_guardT rfl rfl rfl rfl ?_
  refine wl_valE (v := .pointer (some ⟨p1, 0, none⟩)) rfl (rf_move rfl) rfl ?_
  refine wl_guardT rfl rfl rfl rfl ?_
  refine wl_tr H7 rfl [] (ready_tr hok hbl 0 (⟨clip (2 : Int), []⟩ : Cho) rfl) rfl (.own 2 rfl Le.rfl .nil) (rf_call Try.call29 rfl rfl) rfl ?_
  rintro _ w8 _ ⟨rfl, rfl⟩ H8
  refine wl_guardT rfl rfl rfl rfl ?_
  refine wl_valE (v := .bool (!(rdyC ([(⟨clip (2 : Int), []⟩ : Cho), ⟨clip (1 : Int), [some 0]⟩]) (⟨clip (2 : Int), []⟩ : Cho)))) rfl (rf_not rfl rfl) rfl ?_
  refine wl_valE (v := .bool (!(rdyC ([(⟨clip (2 : Int), []⟩ : Cho), ⟨clip (1 : Int), [some 0]⟩]) (⟨clip (2 : Int), []⟩ : Cho)))) rfl (rf_pickF rfl rfl rfl rfl) rfl ?_
  refine wl_valE (v := .bool (!(rdyC ([(⟨clip (2 : Int), []⟩ : Cho), ⟨clip (1 : Int), [some 0]⟩]) (⟨clip (2 : Int), []⟩ : Cho)))) rfl (rf_move rfl) rfl ?_
  refine wl_guardT rfl rfl rfl (by decide) ?_
  refine wl_valE (v := .pointer (some ⟨p2, 0, none⟩)) rfl (rf_move rfl) rfl ?_
  refine wl_guardT rfl rfl rfl (by decide) ?_
  refine wl_tr H8 rfl [] (ready_tr hok hbl 1 (⟨clip (1 : Int), [some 0]⟩ : Cho) rfl) rfl (.own 2 rfl Le.rfl .nil) (rf_call Try.call29 rfl rfl) rfl ?_
  rintro _ w9 _ ⟨rfl, rfl⟩ H9
  refine wl_valE (v := .bool (rdyC ([(⟨clip (2 : Int), []⟩ : Cho), ⟨clip (1 : Int), [some 0]⟩]) (⟨clip (1 : Int), [some 0]⟩ : Cho))) rfl (rf_pickF rfl rfl rfl (by decide)) rfl ?_
  refine wl_valE (v := .bool (rdyC ([(⟨clip (2 : Int), []⟩ : Cho), ⟨clip (1 : Int), [some 0]⟩]) (⟨clip (1 : Int), [some 0]⟩ : Cho))) rfl (rf_move rfl) rfl ?_
  refine wl_guardT rfl rfl rfl (by decide) ?_
  refine wl_valE (v := .pointer (some ⟨p1, 0, none⟩)) rfl (rf_move rfl) rfl ?_
  refine wl_guardT rfl rfl rfl (by decide) ?_
  refine wl_tr H9 rfl [] (left_tr 0 (⟨clip (2 : Int), []⟩ : Cho) rfl) rfl (.own 2 rfl Le.rfl .nil) (rf_call Try.call13 rfl rfl) rfl ?_
  rintro _ w10 _ ⟨rfl, rfl⟩ H10
  refine wl_guardT rfl rfl rfl (by decide) ?_
  refine wl_valE (v := .bool (decide ((⟨clip (2 : Int), []⟩ : Cho).left ≠ (2 : Int)))) rfl (rf_neq rfl rfl rfl rfl) rfl ?_
  refine wl_valE (v := .bool (decide ((⟨clip (2 : Int), []⟩ : Cho).left ≠ (2 : Int)))) rfl (rf_pickF rfl rfl rfl (by decide)) rfl ?_
  refine wl_nil ?_
  refine thn ?_
  refine condF' rfl rfl (t := decide ((⟨clip (2 : Int), []⟩ : Cho).left ≠ (2 : Int))) ((by decide)) ?_
  refine skip_ ?_
  refine thn ?_
  refine seq_ ?_
  refine region_ ?_
  refine wl_valE (v := .pointer (some ⟨p2, 0, none⟩)) rfl (rf_move rfl) rfl ?_
  refine wl_valE (v := .iface 30 (.pointer (some ⟨p2, 0, none⟩))) rfl (rf_makeInterface Try.underlying30 rfl rfl) rfl ?_
  refine wl_valE (v := .pointer (some ⟨p1, 0, none⟩)) rfl (rf_move rfl) rfl ?_
  refine wl_valE (v := .iface 30 (.pointer (some ⟨p1, 0, none⟩))) rfl (rf_makeInterface Try.underlying30 rfl rfl) rfl ?_
  refine wl_buildSliceH (enc := encT) H10 [some p2, some p1] encT_len Try.underlying53 ti57 rfl rfl rfl (.cons rfl rfl rfl rfl rfl rfl (.cons rfl rfl rfl rfl rfl rfl .nil)) ?_
  intro a11 w12 H12
  refine wl_tr H12 rfl [] (newLine_tr a11 2 2 ([some p2, some p1]) (by omega)) rfl (.own 6 rfl slH_rd .nil) (rf_call Try.call30 rfl rfl) rfl ?_
  rintro _ w13 _ ⟨pl, ac13, cc13, rfl, rfl⟩ H13
  have H14 := lineH.close_ (p := pl) (ps := [p1, p2]) (ts := [some 1, some 0]) (steps := (0 : Int)) H13 [8, 7] ⟨ac13, 2, cc13⟩ trivial rfl rfl
  dsimp only [putsH, setH, List.cons_append, List.nil_append] at H14
  refine wl_valE (v := .pointer (some ⟨pl, 0, none⟩)) rfl (rf_assign rfl) rfl ?_
  refine wl_nil ?_
  refine thn ?_
  refine seq_ ?_
  refine region_ ?_
  refine wl_valE (v := .pointer (some ⟨pl, 0, none⟩)) rfl (rf_move rfl) rfl ?_
  refine wl_valE (v := .bool true) rfl (rf_neqPN Try.underlying27 rfl rfl rfl rfl) rfl ?_
  refine wl_valE (v := .bool true) rfl (rf_move rfl) rfl ?_
  refine wl_guardT rfl rfl rfl rfl ?_
  refine wl_valE (v := .pointer (some ⟨pl, 0, none⟩)) rfl (rf_move rfl) rfl ?_
  refine wl_guardT rfl rfl rfl rfl ?_
  refine wl_tr H14 rfl [8, 2] (take_tr hwf (by decide) (0 : Int)) rfl .nil (rf_call Try.call14 rfl rfl) rfl ?_
  rintro _ w15 _ ⟨rfl, rfl⟩ H15
  refine wl_guardT rfl rfl rfl rfl ?_
  refine wl_valE (v := .bool (decide (takeV ([(⟨clip (2 : Int), []⟩ : Cho), ⟨clip (1 : Int), [some 0]⟩]) ([some 1, some 0]) (0 : Int) = (1 : Int)))) rfl (rf_eql rfl rfl rfl rfl) rfl ?_
  refine wl_valE (v := .bool (decide (takeV ([(⟨clip (2 : Int), []⟩ : Cho), ⟨clip (1 : Int), [some 0]⟩]) ([some 1, some 0]) (0 : Int) = (1 : Int)))) rfl (rf_pickT rfl rfl rfl rfl) rfl ?_
  refine wl_valE (v := .bool (decide (takeV ([(⟨clip (2 : Int), []⟩ : Cho), ⟨clip (1 : Int), [some 0]⟩]) ([some 1, some 0]) (0 : Int) = (1 : Int)))) rfl (rf_move rfl) rfl ?_
  refine wl_guardT rfl rfl rfl (by decide) ?_
  refine wl_valE (v := .pointer (some ⟨pl, 0, none⟩)) rfl (rf_move rfl) rfl ?_
  refine wl_guardT rfl rfl rfl (by decide) ?_
  refine wl_tr H15 rfl [8, 2] (take_tr (hwf.take (0 : Int)) (by decide) (0 : Int)) rfl .nil (rf_call Try.call14 rfl rfl) rfl ?_
  rintro _ w16 _ ⟨rfl, rfl⟩ H16
  refine wl_guardT rfl rfl rfl (by decide) ?_
  refine wl_valE (v := .bool (decide (takeV (takeC ([(⟨clip (2 : Int), []⟩ : Cho), ⟨clip (1 : Int), [some 0]⟩]) ([some 1, some 0]) (0 : Int)) ([some 1, some 0]) (0 : Int) = (1 : Int)))) rfl (rf_eql rfl rfl rfl rfl) rfl ?_
  refine wl_valE (v := .bool (decide (takeV (takeC ([(⟨clip (2 : Int), []⟩ : Cho), ⟨clip (1 : Int), [some 0]⟩]) ([some 1, some 0]) (0 : Int)) ([some 1, some 0]) (0 : Int) = (1 : Int)))) rfl (rf_pickT rfl rfl rfl (by decide)) rfl ?_
  refine wl_valE (v := .bool (decide (takeV (takeC ([(⟨clip (2 : Int), []⟩ : Cho), ⟨clip (1 : Int), [some 0]⟩]) ([some 1, some 0]) (0 : Int)) ([some 1, some 0]) (0 : Int) = (1 : Int)))) rfl (rf_move rfl) rfl ?_
  refine wl_guardT rfl rfl rfl (by decide) ?_
  refine wl_valE (v := .pointer (some ⟨pl, 0, none⟩)) rfl (rf_move rfl) rfl ?_
  refine wl_guardT rfl rfl rfl (by decide) ?_
  refine wl_tr H16 rfl [8, 2] (take_tr ((hwf.take (0 : Int)).take (0 : Int)) (by decide) (0 : Int)) rfl .nil (rf_call Try.call14 rfl rfl) rfl ?_
  rintro _ w17 _ ⟨rfl, rfl⟩ H17
  refine wl_guardT rfl rfl rfl (by decide) ?_
  refine wl_valE (v := .bool (decide (takeV (takeC (takeC ([(⟨clip (2 : Int), []⟩ : Cho), ⟨clip (1 : Int), [some 0]⟩]) ([some 1, some 0]) (0 : Int)) ([some 1, some 0]) (0 : Int)) ([some 1, some 0]) (0 : Int) = (0 : Int)))) rfl (rf_eql rfl rfl rfl rfl) rfl ?_
  refine wl_valE (v := .bool (decide (takeV (takeC (takeC ([(⟨clip (2 : Int), []⟩ : Cho), ⟨clip (1 : Int), [some 0]⟩]) ([some 1, some 0]) (0 : Int)) ([some 1, some 0]) (0 : Int)) ([some 1, some 0]) (0 : Int) = (0 : Int)))) rfl (rf_pickT rfl rfl rfl (by decide)) rfl ?_
  refine wl_valE (v := .bool (decide (takeV (takeC (takeC ([(⟨clip (2 : Int), []⟩ : Cho), ⟨clip (1 : Int), [some 0]⟩]) ([some 1, some 0]) (0 : Int)) ([some 1, some 0]) (0 : Int)) ([some 1, some 0]) (0 : Int) = (0 : Int)))) rfl (rf_move rfl) rfl ?_
  refine wl_guardT rfl rfl rfl (by decide) ?_
  refine wl_valE (v := .pointer (some ⟨pl, 0, none⟩)) rfl (rf_move rfl) rfl ?_
  refine wl_guardT rfl rfl rfl (by decide) ?_
  refine wl_tr H17 rfl [8, 2] (take_tr (((hwf.take (0 : Int)).take (0 : Int)).take (0 : Int)) (by decide) (0 : Int)) rfl .nil (rf_call Try.call14 rfl rfl) rfl ?_
  rintro _ w18 _ ⟨rfl, rfl⟩ H18
  dsimp only [putsH, setH, List.cons_append, List.nil_append] at H18
  refine wl_guardT rfl rfl rfl (by decide) ?_
  refine wl_valE (v := .bool (decide (takeV (takeC (takeC (takeC ([(⟨clip (2 : Int), []⟩ : Cho), ⟨clip (1 : Int), [some 0]⟩]) ([some 1, some 0]) (0 : Int)) ([some 1, some 0]) (0 : Int)) ([some 1, some 0]) (0 : Int)) ([some 1, some 0]) (0 : Int) = (-1 : Int)))) rfl (rf_eql rfl rfl rfl rfl) rfl ?_
  refine wl_valE (v := .bool (decide (takeV (takeC (takeC (takeC ([(⟨clip (2 : Int), []⟩ : Cho), ⟨clip (1 : Int), [some 0]⟩]) ([some 1, some 0]) (0 : Int)) ([some 1, some 0]) (0 : Int)) ([some 1, some 0]) (0 : Int)) ([some 1, some 0]) (0 : Int) = (-1 : Int)))) rfl (rf_pickT rfl rfl rfl (by decide)) rfl ?_
  refine wl_valE (v := .bool (decide (takeV (takeC (takeC (takeC ([(⟨clip (2 : Int), []⟩ : Cho), ⟨clip (1 : Int), [some 0]⟩]) ([some 1, some 0]) (0 : Int)) ([some 1, some 0]) (0 : Int)) ([some 1, some 0]) (0 : Int)) ([some 1, some 0]) (0 : Int) = (-1 : Int)))) rfl (rf_move rfl) rfl ?_
  refine wl_guardT rfl rfl rfl (by decide) ?_
  refine wl_valE (v := .pointer (some ⟨pl, 0, none⟩)) rfl (rf_move rfl) rfl ?_
  refine wl_guardT rfl rfl rfl (by decide) ?_
  refine wl_tr H18 rfl [] (steps_tr) rfl (.own 8 rfl Le.rfl .nil) (rf_call Try.call19 rfl rfl) rfl ?_
  rintro _ w19 _ ⟨rfl, rfl⟩ H19
  refine wl_guardT rfl rfl rfl (by decide) ?_
  refine wl_valE (v := .bool (decide ((((((0 : Int) + ((bn (takeI ([(⟨clip (2 : Int), []⟩ : Cho), ⟨clip (1 : Int), [some 0]⟩]) ([some 1, some 0]) (0 : Int)).isSome : Nat) : Int)) + ((bn (takeI (takeC ([(⟨clip (2 : Int), []⟩ : Cho), ⟨clip (1 : Int), [some 0]⟩]) ([some 1, some 0]) (0 : Int)) ([some 1, some 0]) (0 : Int)).isSome : Nat) : Int)) + ((bn (takeI (takeC (takeC ([(⟨clip (2 : Int), []⟩ : Cho), ⟨clip (1 : Int), [some 0]⟩]) ([some 1, some 0]) (0 : Int)) ([some 1, some 0]) (0 : Int)) ([some 1, some 0]) (0 : Int)).isSome : Nat) : Int)) + ((bn (takeI (takeC (takeC (takeC ([(⟨clip (2 : Int), []⟩ : Cho), ⟨clip (1 : Int), [some 0]⟩]) ([some 1, some 0]) (0 : Int)) ([some 1, some 0]) (0 : Int)) ([some 1, some 0]) (0 : Int)) ([some 1, some 0]) (0 : Int)).isSome : Nat) : Int)) = (3 : Int)))) rfl (rf_eql rfl rfl rfl rfl) rfl ?_
  refine wl_valE (v := .bool (decide ((((((0 : Int) + ((bn (takeI ([(⟨clip (2 : Int), []⟩ : Cho), ⟨clip (1 : Int), [some 0]⟩]) ([some 1, some 0]) (0 : Int)).isSome : Nat) : Int)) + ((bn (takeI (takeC ([(⟨clip (2 : Int), []⟩ : Cho), ⟨clip (1 : Int), [some 0]⟩]) ([some 1, some 0]) (0 : Int)) ([some 1, some 0]) (0 : Int)).isSome : Nat) : Int)) + ((bn (takeI (takeC (takeC ([(⟨clip (2 : Int), []⟩ : Cho), ⟨clip (1 : Int), [some 0]⟩]) ([some 1, some 0]) (0 : Int)) ([some 1, some 0]) (0 : Int)) ([some 1, some 0]) (0 : Int)).isSome : Nat) : Int)) + ((bn (takeI (takeC (takeC (takeC ([(⟨clip (2 : Int), []⟩ : Cho), ⟨clip (1 : Int), [some 0]⟩]) ([some 1, some 0]) (0 : Int)) ([some 1, some 0]) (0 : Int)) ([some 1, some 0]) (0 : Int)) ([some 1, some 0]) (0 : Int)).isSome : Nat) : Int)) = (3 : Int)))) rfl (rf_pickT rfl rfl rfl (by decide)) rfl ?_
  refine wl_valE (v := .bool (decide ((((((0 : Int) + ((bn (takeI ([(⟨clip (2 : Int), []⟩ : Cho), ⟨clip (1 : Int), [some 0]⟩]) ([some 1, some 0]) (0 : Int)).isSome : Nat) : Int)) + ((bn (takeI (takeC ([(⟨clip (2 : Int), []⟩ : Cho), ⟨clip (1 : Int), [some 0]⟩]) ([some 1, some 0]) (0 : Int)) ([some 1, some 0]) (0 : Int)).isSome : Nat) : Int)) + ((bn (takeI (takeC (takeC ([(⟨clip (2 : Int), []⟩ : Cho), ⟨clip (1 : Int), [some 0]⟩]) ([some 1, some 0]) (0 : Int)) ([some 1, some 0]) (0 : Int)) ([some 1, some 0]) (0 : Int)).isSome : Nat) : Int)) + ((bn (takeI (takeC (takeC (takeC ([(⟨clip (2 : Int), []⟩ : Cho), ⟨clip (1 : Int), [some 0]⟩]) ([some 1, some 0]) (0 : Int)) ([some 1, some 0]) (0 : Int)) ([some 1, some 0]) (0 : Int)) ([some 1, some 0]) (0 : Int)).isSome : Nat) : Int)) = (3 : Int)))) rfl (rf_assign rfl) rfl ?_
  refine wl_nil ?_
  refine thn ?_
  refine ret_ ?_
  refine fin1 (v := .bool (decide ((((((0 : Int) + ((bn (takeI ([(⟨clip (2 : Int), []⟩ : Cho), ⟨clip (1 : Int), [some 0]⟩]) ([some 1, some 0]) (0 : Int)).isSome : Nat) : Int)) + ((bn (takeI (takeC ([(⟨clip (2 : Int), []⟩ : Cho), ⟨clip (1 : Int), [some 0]⟩]) ([some 1, some 0]) (0 : Int)) ([some 1, some 0]) (0 : Int)).isSome : Nat) : Int)) + ((bn (takeI (takeC (takeC ([(⟨clip (2 : Int), []⟩ : Cho), ⟨clip (1 : Int), [some 0]⟩]) ([some 1, some 0]) (0 : Int)) ([some 1, some 0]) (0 : Int)) ([some 1, some 0]) (0 : Int)).isSome : Nat) : Int)) + ((bn (takeI (takeC (takeC (takeC ([(⟨clip (2 : Int), []⟩ : Cho), ⟨clip (1 : Int), [some 0]⟩]) ([some 1, some 0]) (0 : Int)) ([some 1, some 0]) (0 : Int)) ([some 1, some 0]) (0 : Int)) ([some 1, some 0]) (0 : Int)).isSome : Nat) : Int)) = (3 : Int)))) Try.results11 rfl rfl ?_
  exact ⟨_, ⟨congrArg Value.bool (by decide), rfl⟩, H19.pick' [] rfl rfl⟩
theorem line_tr (a : Option Addr) (n c : Nat) (l : List MakeR) (turn : Int) (hn : n ≤ 4398046511104) (hb : ∀ x ∈ l, x.behind.n ≤ 4398046511104) : Tr Try.prog 12 [.slice a n c, .int .i64 turn] [rdH encMake 2 a n c l, shH (l.map mkB)] [] (fun v m => ∃ ps a2 c2 p, ps.length = n ∧ v = .tuple #[.slice a2 n c2, .pointer (some ⟨p, 0, none⟩)] ∧ m = [slH encOP 1 30 a2 n c2 (ps.map some), ChH ps (mkCs 0 l), lineH p ps (mkTs n turn 0 n) 0]) := by
  intro w0 S0 H0
  have hl1 := (rd_len (H0.rdR 0 Le.rfl)).1
  refine enterR Try.func12 rfl Try.ntmps12 rfl ?_
  intro g0
  refine seq_ ?_
  refine region_ ?_
  refine wl_valE (v := .slice none 0 0) rfl (rf_assign rfl) rfl ?_
  refine wl_valE (v := .pointer none) rfl (rf_assign rfl) rfl ?_
  refine wl_nil ?_
  refine thn ?_
  refine seq_ ?_
  refine region_ ?_
  refine wl_valE (v := .slice none 0 0) rfl (rf_assign rfl) rfl ?_
  refine wl_nil ?_
  refine thn ?_
  refine seq_ ?_
  refine seq_ ?_
  refine region_ ?_
  refine wl_valE (v := .int .i64 (0 : Int)) rfl (rf_assign rfl) rfl ?_
  refine wl_nil ?_
  refine thn ?_
  refine block_ ?_
  have H1 := H0.addNil encOP 1 30 (α := Option Nat)
  have H2 := ChH.nil H1
  dsimp only [putsH, setH, List.cons_append, List.nil_append] at H2
  refine loop_ (fun qk_ qf_ qw_ => ∃ (g : Nat → Value) (i : Nat) (a6 : Option Addr) (c6 : Nat) (ps : List Nat) (cs : List Cho), qf_ = upds g [(0, .slice a n c), (1, .int .i64 turn), (6, .slice a6 i c6), (7, .int .i64 ((i : Nat) : Int))] ∧ qk_ = n - i ∧ (i ≤ n ∧ ps.length = i ∧ cs.length = i) ∧ (cs ++ mkCs i (l.drop i) = mkCs 0 l ∧ OkB cs) ∧ St w0 S0 [rdH encMake 2 a n c l, shH (l.map mkB)] qw_ [slH encOP 1 30 a6 i c6 (ps.map some), ChH ps cs]) (n - 0) ?_ ?_
  · refine ⟨_, 0, none, 0, [], [], upds_self ⟨rfl, rfl, rfl, rfl, trivial⟩, rfl, ⟨Nat.zero_le _, rfl, rfl⟩, ⟨rfl, OkB.nil⟩, H2.pick' [0, 1] rfl rfl⟩
  · rintro lk0 _ wl0 ⟨gl0, i, a6, c6, ps, cs, rfl, hlk0, ⟨hr0, hps, hcs⟩, ⟨hr1, hok⟩, HL0⟩
    refine seq_ ?_
    refine seq_ ?_
    refine region_ ?_
    refine wl_valE (v := .int .i64 ((i : Nat) : Int)) rfl (rf_move rfl) rfl ?_
    refine wl_valE (v := .slice a n c) rfl (rf_move rfl) rfl ?_
    refine wl_valE (v := .int .i64 ((n : Nat) : Int)) rfl (rf_len_slice Try.underlying22 rfl rfl) rfl ?_
    refine wl_valE (v := .bool (decide (((i : Nat) : Int) < ((n : Nat) : Int)))) rfl (rf_lss rfl rfl rfl rfl) rfl ?_
    refine wl_nil ?_
    refine thn ?_
    refine cond_ (t := decide (((i : Nat) : Int) < ((n : Nat) : Int))) rfl rfl (fun c15 => ?_) (fun c15 => ?_)
    · have c15p := of_decide_eq_true c15
      refine skip_ ?_
      refine thn ?_
      refine seq_ ?_
      refine block_ ?_
      refine seq_ ?_
      refine region_ ?_
      refine wl_valE (v := .slice none 0 0) rfl (rf_assign rfl) rfl ?_
      refine wl_nil ?_
      refine thn ?_
      refine seq_ ?_
      refine seq_ ?_
      refine region_ ?_
      refine wl_valE (v := .int .i64 (0 : Int)) rfl (rf_assign rfl) rfl ?_
      refine wl_nil ?_
      refine thn ?_
      have hn3 := rd_len (HL0.rdR 0 Le.rfl)
      obtain ⟨xb, hxb⟩ : ∃ q_, l[i]? = some q_ := ⟨_, List.getElem?_eq_getElem (by omega)⟩
      have H4 := HL0.shR 1 i rfl (getH_map mkB hxb)
      have hbl := (rd_len (H4.rdR 2 Le.rfl)).1
      have hxbb := hb xb (List.mem_of_getElem? hxb)
      have H5 := H4.addNil encOP 1 30 (α := Option Nat)
      dsimp only [putsH, setH, List.cons_append, List.nil_append] at H5
      refine cut_ (fun qf_ qw_ => ∃ (g : Nat → Value) (a8 : Option Addr) (n8 c8 : Nat), qf_ = upds g [(0, .slice a n c), (1, .int .i64 turn), (6, .slice a6 i c6), (7, .int .i64 ((i : Nat) : Int)), (8, .slice a8 n8 c8)] ∧ (n8 ≤ 4398046511104) ∧ St w0 S0 [rdH encMake 2 a n c l, shH (l.map mkB), rdH encI 1 xb.behind.a xb.behind.n xb.behind.c xb.bl] qw_ [slH encOP 1 30 a6 i c6 (ps.map some), ChH ps cs, slH encOP 1 30 a8 n8 c8 ((bhF i xb.bl).map (ppf ps))]) ?_ ?_
      · refine block_ ?_
        refine loop_ (fun qk_ qf_ qw_ => ∃ (g : Nat → Value) (k : Nat) (a8 : Option Addr) (n8 c8 : Nat) (bs : List (Option Nat)), qf_ = upds g [(0, .slice a n c), (1, .int .i64 turn), (6, .slice a6 i c6), (7, .int .i64 ((i : Nat) : Int)), (8, .slice a8 n8 c8), (9, .int .i64 ((k : Nat) : Int))] ∧ qk_ = xb.behind.n - k ∧ (bs ++ bhF i (xb.bl.drop k) = bhF i xb.bl) ∧ (k ≤ xb.behind.n ∧ n8 ≤ k) ∧ St w0 S0 [rdH encMake 2 a n c l, shH (l.map mkB), rdH encI 1 xb.behind.a xb.behind.n xb.behind.c xb.bl] qw_ [slH encOP 1 30 a6 i c6 (ps.map some), ChH ps cs, slH encOP 1 30 a8 n8 c8 (bs.map (ppf ps))]) (xb.behind.n - 0) ?_ ?_
        · refine ⟨_, 0, none, 0, 0, [], upds_self ⟨rfl, rfl, rfl, rfl, rfl, rfl, trivial⟩, rfl, rfl, ⟨Nat.zero_le _, Nat.le_refl _⟩, H5.pick' [0, 1, 2] rfl rfl⟩
        · rintro lk1 _ wl1 ⟨gl1, k, a8, n8, c8, bs, rfl, hlk1, hr2, ⟨hr3, hr4⟩, HL1⟩
          refine seq_ ?_
          refine seq_ ?_
          refine region_ ?_
          refine wl_valE (v := .int .i64 ((k : Nat) : Int)) rfl (rf_move rfl) rfl ?_
          refine wl_valE (v := .slice a n c) rfl (rf_move rfl) rfl ?_
          refine wl_valE (v := .int .i64 ((i : Nat) : Int)) rfl (rf_move rfl) rfl ?_
          refine wl_valE (v := .pointer (some ⟨ab a, ao a + i * 2, none⟩)) rfl (rf_indexAddrH Try.underlying22 ti35 rfl rfl rfl rfl (by omega) (by omega) (HL1.rdR 0 Le.rfl)) rfl ?_
          refine wl_valE (v := .pointer (some ⟨ab a, ao a + i * 2 + 1, none⟩)) rfl (rf_fieldAddr Try.underlying35 rfl ti23 rfl rfl) rfl ?_
          refine wl_valE (v := .slice xb.behind.a xb.behind.n xb.behind.c) rfl (rf_load Try.underlying23 rfl rfl rfl (rd_el (HL1.rdR 0 Le.rfl) hxb 1 _ rfl)) rfl ?_
          refine wl_valE (v := .int .i64 ((xb.behind.n : Nat) : Int)) rfl (rf_len_slice Try.underlying23 rfl rfl) rfl ?_
          refine wl_valE (v := .bool (decide (((k : Nat) : Int) < ((xb.behind.n : Nat) : Int)))) rfl (rf_lss rfl rfl rfl rfl) rfl ?_
          refine wl_valE (v := .bool (decide (((k : Nat) : Int) < ((xb.behind.n : Nat) : Int)))) rfl (rf_move rfl) rfl ?_
          refine wl_split (decide (((k : Nat) : Int) < ((xb.behind.n : Nat) : Int))) (fun u7_8 => ?_) (fun u7_8 => ?_)
          · have u7_8p := of_decide_eq_true u7_8
            refine wl_guardT rfl rfl rfl u7_8 ?_
            refine wl_valE (v := .int .i64 ((i : Nat) : Int)) rfl (rf_move rfl) rfl ?_
            refine wl_guardT rfl rfl rfl u7_8 ?_
            refine wl_valE (v := .bool (decide ((0 : Int) < ((i : Nat) : Int)))) rfl (rf_gtr rfl rfl rfl rfl) rfl ?_
            refine wl_valE (v := .bool (decide ((0 : Int) < ((i : Nat) : Int)))) rfl (rf_pickT rfl rfl rfl u7_8) rfl ?_
            refine wl_nil ?_
            refine thn ?_
            refine cond_ (t := decide ((0 : Int) < ((i : Nat) : Int))) rfl rfl (fun c29 => ?_) (fun c29 => ?_)
            · have c29p := of_decide_eq_true c29
              refine skip_ ?_
              refine thn ?_
              refine seq_ ?_
              refine block_ ?_
              refine region_ ?_
              refine wl_valE (v := .slice a8 n8 c8) rfl (rf_move rfl) rfl ?_
              refine wl_valE (v := .slice a6 i c6) rfl (rf_move rfl) rfl ?_
              refine wl_valE (v := .slice a n c) rfl (rf_move rfl) rfl ?_
              refine wl_valE (v := .int .i64 ((i : Nat) : Int)) rfl (rf_move rfl) rfl ?_
              refine wl_valE (v := .pointer (some ⟨ab a, ao a + i * 2, none⟩)) rfl (rf_indexAddrH Try.underlying22 ti35 rfl rfl rfl rfl (by omega) (by omega) (HL1.rdR 0 Le.rfl)) rfl ?_
              refine wl_valE (v := .pointer (some ⟨ab a, ao a + i * 2 + 1, none⟩)) rfl (rf_fieldAddr Try.underlying35 rfl ti23 rfl rfl) rfl ?_
              refine wl_valE (v := .slice xb.behind.a xb.behind.n xb.behind.c) rfl (rf_load Try.underlying23 rfl rfl rfl (rd_el (HL1.rdR 0 Le.rfl) hxb 1 _ rfl)) rfl ?_
              refine wl_valE (v := .int .i64 ((k : Nat) : Int)) rfl (rf_move rfl) rfl ?_
              refine wl_valE (v := .pointer (some ⟨ab xb.behind.a, ao xb.behind.a + k * 1, none⟩)) rfl (rf_indexAddrH Try.underlying23 ti3 rfl rfl rfl rfl (by omega) (by omega) (HL1.rdR 2 Le.rfl)) rfl ?_
              have hn7 := rd_len (HL1.rdR 2 Le.rfl)
              obtain ⟨x6, hx6⟩ : ∃ q_, xb.bl[k]? = some q_ := ⟨_, List.getElem?_eq_getElem (by omega)⟩
              refine wl_valE (v := .int .i64 x6) rfl (rf_load Try.underlying3 rfl rfl rfl (rd_el (HL1.rdR 2 Le.rfl) hx6 0 _ rfl)) rfl ?_
              refine wl_valE (v := .int .i64 ((i : Nat) : Int)) rfl (rf_move rfl) rfl ?_
              refine wl_tr HL1 rfl [] (within_tr x6 ((i : Nat) : Int) (by omega)) rfl .nil (rf_call Try.call15 rfl rfl) rfl ?_
              rintro _ w8 _ ⟨rfl, rfl⟩ H8
              have hwi := withinF_in (n := x6) (m := ((i : Nat) : Int)) (by omega)
              refine wl_valE (v := .pointer (some ⟨ab a6, ao a6 + ((withinF x6 ((i : Nat) : Int)).toNat) * 1, none⟩)) rfl (rf_indexAddrH Try.underlying26 ti30 rfl rfl rfl rfl (by omega) (by omega) (H8.rdO 0 slH_rd)) rfl ?_
              have hn10 := slH_len H8 0 rfl
              obtain ⟨x9, hx9⟩ : ∃ q_, (ps.map some)[(withinF x6 ((i : Nat) : Int)).toNat]? = some q_ := ⟨_, List.getElem?_eq_getElem (by omega)⟩
              refine wl_valE (v := .pointer (x9.map fun b => ⟨b, 0, none⟩)) rfl (rf_load Try.underlying30 rfl rfl rfl (rd_el (H8.rdO 0 slH_rd) hx9 0 _ rfl)) rfl ?_
              obtain ⟨hpy, hip⟩ := map_some_at hx9
              subst hpy
              refine wl_buildSliceH (enc := encOP) H8 [(some (pof ps (withinF x6 ((i : Nat) : Int)).toNat))] encOP_len Try.underlying26 ti30 rfl rfl rfl (.cons rfl rfl rfl rfl rfl rfl .nil) ?_
              intro a11 w12 H12
              refine wl_appendH (enc := encOP) (N := n8 + 1) H12 2 rfl rfl encOP_len encOP_one Try.underlying26 ti30 rfl rfl rfl rfl rfl (H12.rdO 3 slH_rd) rfl (by omega) (by omega) ?_
              intro a13 c13 w13 hc13 hd13 H13
              have hrw14 : (bs.map (ppf ps)) ++ ([(some (pof ps (withinF x6 ((i : Nat) : Int)).toNat))]) = (bs ++ [some (withinF x6 ((i : Nat) : Int)).toNat]).map (ppf ps) := by simp [ppf]
              rw [hrw14] at H13
              refine wl_valE (v := .slice a13 (n8 + 1) c13) rfl (rf_assign rfl) rfl ?_
              refine wl_nil ?_
              refine bln ?_
              refine thn ?_
              refine region_ ?_
              refine wl_valE (v := .int .i64 ((k : Nat) : Int)) rfl (rf_move rfl) rfl ?_
              refine wl_valE (v := .int .i64 ((k + 1 : Nat) : Int)) rfl (rf_add rfl rfl rfl rfl (IntWalk.i64_in _ (by omega))) rfl ?_
              refine wl_valE (v := .int .i64 ((k + 1 : Nat) : Int)) rfl (rf_assign rfl) rfl ?_
              refine wl_nil ?_
              refine thn ?_
              refine ⟨xb.behind.n - (k + 1), _, rfl, (by omega), _, k + 1, a13, n8 + 1, c13, (bs ++ [some (withinF x6 ((i : Nat) : Int)).toNat]), upds_self ⟨rfl, rfl, rfl, rfl, rfl, rfl, trivial⟩, rfl, by rw [← hr2, drop_at hx6, bhF_cons (by omega)]; simp, ⟨by omega, by omega⟩, H13.pick' [0, 1, 2] rfl rfl⟩
            · have c29p := of_decide_eq_false c29
              refine exit_ ?_
              refine thx (thx (blx ?_))
              have hbs : bs = bhF i xb.bl := by rw [← hr2]; exact (bhF_zero (by omega)).symm
              rw [hbs] at HL1
              refine cxn ⟨_, a8, n8, c8, upds_self ⟨rfl, rfl, rfl, rfl, rfl, trivial⟩, by omega, HL1.pick' [0, 1, 2] rfl rfl⟩
          · have u7_8p := of_decide_eq_false u7_8
            refine wl_guardF rfl rfl rfl u7_8 ?_
            refine wl_guardF rfl rfl rfl u7_8 ?_
            refine wl_valE (v := .bool false) rfl (rf_pickF rfl rfl rfl u7_8) rfl ?_
            refine wl_nil ?_
            refine thn ?_
            refine condF rfl rfl ?_
            refine exit_ ?_
            refine thx (thx (blx ?_))
            have hbs : bs = bhF i xb.bl := by rw [← hr2]; exact (bhF_all (by omega)).symm
            rw [hbs] at HL1
            refine cxn ⟨_, a8, n8, c8, upds_self ⟨rfl, rfl, rfl, rfl, rfl, trivial⟩, by omega, HL1.pick' [0, 1, 2] rfl rfl⟩
      · rintro _ wcutb2 ⟨glcutb2, a8, n8, c8, rfl, hn8, Hcutb2⟩
        refine thn ?_
        refine region_ ?_
        refine wl_valE (v := .slice a6 i c6) rfl (rf_move rfl) rfl ?_
        refine wl_valE (v := .slice a n c) rfl (rf_move rfl) rfl ?_
        refine wl_valE (v := .int .i64 ((i : Nat) : Int)) rfl (rf_move rfl) rfl ?_
        refine wl_valE (v := .pointer (some ⟨ab a, ao a + i * 2, none⟩)) rfl (rf_indexAddrH Try.underlying22 ti35 rfl rfl rfl rfl (by omega) (by omega) (Hcutb2.rdR 0 Le.rfl)) rfl ?_
        refine wl_valE (v := .pointer (some ⟨ab a, ao a + i * 2, none⟩)) rfl (rf_fieldAddr Try.underlying35 rfl ti3 rfl rfl) rfl ?_
        refine wl_valE (v := .int .i64 xb.steps) rfl (rf_load Try.underlying3 rfl rfl rfl (rd_el (Hcutb2.rdR 0 Le.rfl) hxb 0 _ rfl)) rfl ?_
        refine wl_valE (v := .slice a8 n8 c8) rfl (rf_move rfl) rfl ?_
        refine wl_tr Hcutb2 rfl [] (newChore_tr xb.steps a8 n8 c8 ((bhF i xb.bl).map (ppf ps)) (by omega)) rfl (.own 2 rfl slH_rd .nil) (rf_call Try.call28 rfl rfl) rfl ?_
        rintro _ w15 _ ⟨p55, ac15, cc15, rfl, rfl⟩ H15
        refine wl_buildSliceH (enc := encOP) H15 [(some p55)] encOP_len Try.underlying26 ti30 rfl rfl rfl (.cons rfl rfl rfl rfl rfl rfl .nil) ?_
        intro a16 w17 H17
        refine wl_appendH (enc := encOP) (N := i + 1) H17 0 rfl rfl encOP_len encOP_one Try.underlying26 ti30 rfl rfl rfl rfl rfl (H17.rdO 5 slH_rd) rfl (by omega) (by omega) ?_
        intro a18 c18 w18 hc18 hd18 H18
        have hrw19 : (ps.map some) ++ ([(some p55)]) = (ps ++ [p55]).map some := by simp
        rw [hrw19] at H18
        have H20 := ChH.push (bh := (bhF i xb.bl)) H18 1 4 3 rfl rfl rfl rfl rfl rfl rfl (by omega) hok (fun j hj => by rw [hcs]; exact bhF_lt hj)
        dsimp only [putsH, setH, List.cons_append, List.nil_append] at H20
        refine wl_valE (v := .slice a18 (i + 1) c18) rfl (rf_assign rfl) rfl ?_
        refine wl_nil ?_
        refine bln ?_
        refine thn ?_
        refine region_ ?_
        refine wl_valE (v := .int .i64 ((i : Nat) : Int)) rfl (rf_move rfl) rfl ?_
        refine wl_valE (v := .int .i64 ((i + 1 : Nat) : Int)) rfl (rf_add rfl rfl rfl rfl (IntWalk.i64_in _ (by omega))) rfl ?_
        refine wl_valE (v := .int .i64 ((i + 1 : Nat) : Int)) rfl (rf_assign rfl) rfl ?_
        refine wl_nil ?_
        refine thn ?_
        refine ⟨n - (i + 1), _, rfl, (by omega), _, i + 1, a18, c18, (ps ++ [p55]), (cs ++ [⟨clip xb.steps, bhF i xb.bl⟩]), upds_self ⟨rfl, rfl, rfl, rfl, trivial⟩, rfl, ⟨by omega, by simp; omega, by simp; omega⟩, ⟨by rw [← hr1, drop_at hxb]; simp [mkCs], hok.push (clip_in _) (fun j hj => by rw [hcs]; exact bhF_lt hj)⟩, (H20.weakR 2 rfl).pick' [0, 1] rfl rfl⟩
    · have c15p := of_decide_eq_false c15
      refine exit_ ?_
      refine thx (thx (blx ?_))
      refine thn ?_
      refine seq_ ?_
      refine region_ ?_
      refine wl_valE (v := .slice none 0 0) rfl (rf_assign rfl) rfl ?_
      refine wl_nil ?_
      refine thn ?_
      refine seq_ ?_
      refine seq_ ?_
      refine region_ ?_
      refine wl_valE (v := .int .i64 (0 : Int)) rfl (rf_assign rfl) rfl ?_
      refine wl_nil ?_
      refine thn ?_
      refine block_ ?_
      obtain rfl : n = i := by omega
      rw [drop_all (by omega)] at hr1
      simp only [mkCs, List.append_nil] at hr1
      subst hr1
      have H21 := HL0.addNil encT 1 57 (α := Option Nat)
      refine loop_ (fun qk_ qf_ qw_ => ∃ (g : Nat → Value) (i : Nat) (a10 : Option Addr) (c10 : Nat) (ts : List (Option Nat)), qf_ = upds g [(1, .int .i64 turn), (6, .slice a6 n c6), (10, .slice a10 i c10), (11, .int .i64 ((i : Nat) : Int))] ∧ qk_ = n - i ∧ (ts ++ mkTs n turn i (n - i) = mkTs n turn 0 n) ∧ (i ≤ n) ∧ St w0 S0 [rdH encMake 2 a n c l, shH (l.map mkB)] qw_ [slH encOP 1 30 a6 n c6 (ps.map some), ChH ps (mkCs 0 l), slH encT 1 57 a10 i c10 (ts.map (ppf ps))]) (n - 0) ?_ ?_
      · refine ⟨_, 0, none, 0, [], upds_self ⟨rfl, rfl, rfl, rfl, trivial⟩, rfl, rfl, Nat.zero_le _, H21.pick' [0, 1, 2] rfl rfl⟩
      · rintro lk2 _ wl2 ⟨gl2, i, a10, c10, ts, rfl, hlk2, hr5, hr6, HL2⟩
        refine seq_ ?_
        refine seq_ ?_
        refine region_ ?_
        refine wl_valE (v := .int .i64 ((i : Nat) : Int)) rfl (rf_move rfl) rfl ?_
        refine wl_valE (v := .slice a6 n c6) rfl (rf_move rfl) rfl ?_
        refine wl_valE (v := .int .i64 ((n : Nat) : Int)) rfl (rf_len_slice Try.underlying26 rfl rfl) rfl ?_
        refine wl_valE (v := .bool (decide (((i : Nat) : Int) < ((n : Nat) : Int)))) rfl (rf_lss rfl rfl rfl rfl) rfl ?_
        refine wl_nil ?_
        refine thn ?_
        refine cond_ (t := decide (((i : Nat) : Int) < ((n : Nat) : Int))) rfl rfl (fun c61 => ?_) (fun c61 => ?_)
        · have c61p := of_decide_eq_true c61
          refine skip_ ?_
          refine thn ?_
          refine seq_ ?_
          refine block_ ?_
          refine region_ ?_
          refine wl_valE (v := .slice a10 i c10) rfl (rf_move rfl) rfl ?_
          refine wl_valE (v := .slice a6 n c6) rfl (rf_move rfl) rfl ?_
          refine wl_valE (v := .int .i64 ((i : Nat) : Int)) rfl (rf_move rfl) rfl ?_
          refine wl_valE (v := .int .i64 turn) rfl (rf_move rfl) rfl ?_
          refine wl_valE (v := .slice a6 n c6) rfl (rf_move rfl) rfl ?_
          refine wl_valE (v := .int .i64 ((n : Nat) : Int)) rfl (rf_len_slice Try.underlying26 rfl rfl) rfl ?_
          refine wl_tr HL2 rfl [] (within_tr turn ((n : Nat) : Int) (by omega)) rfl .nil (rf_call Try.call15 rfl rfl) rfl ?_
          rintro _ w22 _ ⟨rfl, rfl⟩ H22
          have hw1 := withinF_in (n := turn) (m := ((n : Nat) : Int)) (by omega)
          refine wl_valE (v := .int .i64 (((i : Nat) : Int) + (withinF turn ((n : Nat) : Int)))) rfl (rf_add rfl rfl rfl rfl (IntWalk.i64_in _ (by omega))) rfl ?_
          refine wl_valE (v := .slice a6 n c6) rfl (rf_move rfl) rfl ?_
          refine wl_valE (v := .int .i64 ((n : Nat) : Int)) rfl (rf_len_slice Try.underlying26 rfl rfl) rfl ?_
          refine wl_tr H22 rfl [] (within_tr (((i : Nat) : Int) + (withinF turn ((n : Nat) : Int))) ((n : Nat) : Int) (by omega)) rfl .nil (rf_call Try.call15 rfl rfl) rfl ?_
          rintro _ w23 _ ⟨rfl, rfl⟩ H23
          have hw2 := withinF_in (n := ((i : Nat) : Int) + withinF turn ((n : Nat) : Int)) (m := ((n : Nat) : Int)) (by omega)
          refine wl_valE (v := .pointer (some ⟨ab a6, ao a6 + ((withinF (((i : Nat) : Int) + withinF turn ((n : Nat) : Int)) ((n : Nat) : Int)).toNat) * 1, none⟩)) rfl (rf_indexAddrH Try.underlying26 ti30 rfl rfl rfl rfl (by omega) (by omega) (H23.rdO 0 slH_rd)) rfl ?_
          have hn25 := slH_len H23 0 rfl
          obtain ⟨x24, hx24⟩ : ∃ q_, (ps.map some)[(withinF (((i : Nat) : Int) + withinF turn ((n : Nat) : Int)) ((n : Nat) : Int)).toNat]? = some q_ := ⟨_, List.getElem?_eq_getElem (by omega)⟩
          refine wl_valE (v := .pointer (x24.map fun b => ⟨b, 0, none⟩)) rfl (rf_load Try.underlying30 rfl rfl rfl (rd_el (H23.rdO 0 slH_rd) hx24 0 _ rfl)) rfl ?_
          obtain ⟨hpy, hip⟩ := map_some_at hx24
          subst hpy
          refine wl_valE (v := .iface 30 (.pointer (some ⟨pof ps (withinF (((i : Nat) : Int) + withinF turn ((n : Nat) : Int)) ((n : Nat) : Int)).toNat, 0, none⟩))) rfl (rf_makeInterface Try.underlying30 rfl rfl) rfl ?_
          refine wl_buildSliceH (enc := encT) H23 [(some (pof ps (withinF (((i : Nat) : Int) + withinF turn ((n : Nat) : Int)) ((n : Nat) : Int)).toNat))] encT_len Try.underlying53 ti57 rfl rfl rfl (.cons rfl rfl rfl rfl rfl rfl .nil) ?_
          intro a26 w27 H27
          refine wl_appendH (enc := encT) (N := i + 1) H27 2 rfl rfl encT_len encT_one Try.underlying53 ti57 rfl rfl rfl rfl rfl (H27.rdO 3 slH_rd) rfl (by omega) (by omega) ?_
          intro a28 c28 w28 hc28 hd28 H28
          have hrw29 : (ts.map (ppf ps)) ++ ([(some (pof ps (withinF (((i : Nat) : Int) + withinF turn ((n : Nat) : Int)) ((n : Nat) : Int)).toNat))]) = (ts ++ [some (withinF (((i : Nat) : Int) + withinF turn ((n : Nat) : Int)) ((n : Nat) : Int)).toNat]).map (ppf ps) := by simp [ppf]
          rw [hrw29] at H28
          refine wl_valE (v := .slice a28 (i + 1) c28) rfl (rf_assign rfl) rfl ?_
          refine wl_nil ?_
          refine bln ?_
          refine thn ?_
          refine region_ ?_
          refine wl_valE (v := .int .i64 ((i : Nat) : Int)) rfl (rf_move rfl) rfl ?_
          refine wl_valE (v := .int .i64 ((i + 1 : Nat) : Int)) rfl (rf_add rfl rfl rfl rfl (IntWalk.i64_in _ (by omega))) rfl ?_
          refine wl_valE (v := .int .i64 ((i + 1 : Nat) : Int)) rfl (rf_assign rfl) rfl ?_
          refine wl_nil ?_
          refine thn ?_
          refine ⟨n - (i + 1), _, rfl, (by omega), _, i + 1, a28, c28, (ts ++ [some (withinF (((i : Nat) : Int) + withinF turn ((n : Nat) : Int)) ((n : Nat) : Int)).toNat]), upds_self ⟨rfl, rfl, rfl, rfl, trivial⟩, rfl, by rw [← hr5, show n - i = (n - (i + 1)) + 1 by omega]; simp [mkTs], by omega, H28.pick' [0, 1, 2] rfl rfl⟩
        · have c61p := of_decide_eq_false c61
          refine exit_ ?_
          refine thx (thx (blx ?_))
          refine thn ?_
          refine seq_ ?_
          refine region_ ?_
          refine wl_valE (v := .slice a6 n c6) rfl (rf_move rfl) rfl ?_
          refine wl_valE (v := .slice a10 i c10) rfl (rf_move rfl) rfl ?_
          obtain rfl : n = i := by omega
          rw [Nat.sub_self] at hr5
          simp only [mkTs, List.append_nil] at hr5
          rw [hr5] at HL2
          refine wl_tr HL2 rfl [] (newLine_tr a10 n c10 ((mkTs n turn 0 n).map (ppf ps)) (by omega)) rfl (.own 2 rfl slH_rd .nil) (rf_call Try.call30 rfl rfl) rfl ?_
          rintro _ w30 _ ⟨pl, ac30, cc30, rfl, rfl⟩ H30
          have H31 := lineH.close_ (p := pl) (ps := ps) (ts := mkTs n turn 0 n) (steps := (0 : Int)) H30 [4, 3] ⟨ac30, n, cc30⟩ trivial rfl rfl
          refine wl_valE (v := .slice a6 n c6) rfl (rf_assign rfl) rfl ?_
          refine wl_valE (v := .pointer (some ⟨pl, 0, none⟩)) rfl (rf_assign rfl) rfl ?_
          refine wl_nil ?_
          refine thn ?_
          refine ret_ ?_
          refine fin2 (v1 := .slice a6 n c6) (v2 := .pointer (some ⟨pl, 0, none⟩)) Try.results12 rfl rfl rfl rfl ?_
          exact ⟨_, ⟨_, _, _, _, hps, rfl, rfl⟩, H31.pick' [0, 1, 4] rfl rfl⟩
end Go.Proofs.Ytiidihgimcebgaa.W
