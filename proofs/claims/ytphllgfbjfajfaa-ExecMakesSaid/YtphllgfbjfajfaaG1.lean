import Derived.Test.YtphllgfbjfajfaaB
import Derived.KernelRfl
namespace Go.Proofs.Ytphllgfbjfajfaa.W
open Go Go.Wk
set_option linter.unusedVariables false
set_option linter.unusedSimpArgs false

def nmL : List ByteArray := [(ByteArray.mk #[115, 116, 111, 112]), (ByteArray.mk #[112, 117, 115, 104]), (ByteArray.mk #[112, 111, 112]), (ByteArray.mk #[100, 117, 112]), (ByteArray.mk #[108, 111, 97, 100]), (ByteArray.mk #[115, 97, 118, 101]), (ByteArray.mk #[97, 114, 103]), (ByteArray.mk #[103, 101, 116]), (ByteArray.mk #[104, 97, 115]), (ByteArray.mk #[103, 101, 116, 120]), (ByteArray.mk #[97, 100, 100]), (ByteArray.mk #[115, 117, 98]), (ByteArray.mk #[109, 117, 108]), (ByteArray.mk #[100, 105, 118]), (ByteArray.mk #[109, 111, 100]), (ByteArray.mk #[97, 110, 100]), (ByteArray.mk #[111, 114]), (ByteArray.mk #[120, 111, 114]), (ByteArray.mk #[115, 104, 108]), (ByteArray.mk #[115, 104, 114]), (ByteArray.mk #[110, 101, 103]), (ByteArray.mk #[110, 111, 116]), (ByteArray.mk #[101, 113]), (ByteArray.mk #[110, 101]), (ByteArray.mk #[108, 116]), (ByteArray.mk #[108, 101]), (ByteArray.mk #[103, 116]), (ByteArray.mk #[103, 101]), (ByteArray.mk #[109, 105, 110]), (ByteArray.mk #[109, 97, 120]), (ByteArray.mk #[106, 117, 109, 112]), (ByteArray.mk #[122, 101, 114, 111]), (ByteArray.mk #[112, 117, 116]), (ByteArray.mk #[100, 101, 108]), (ByteArray.mk #[112, 117, 116, 120]), (ByteArray.mk #[111, 117, 116]), (ByteArray.mk #[97, 98, 111, 114, 116])]
structure InsR where
  op : Int
  a : Int
def encIns (x : InsR) : List Value := [.int .i64 x.op, .int .i64 x.a]
theorem encIns_len (x : InsR) : (encIns x).length = 2 := rfl
theorem encIns_one (x : InsR) : ∀ u ∈ encIns x, u.oneCell' = true := oneAll
structure ProgR where
  args : Int
  reads : Int
  writes : Int
  locals : Int
  code : Sv
  cl : List InsR
def encProg (x : ProgR) : List Value := [.int .i64 x.args, .int .i64 x.reads, .int .i64 x.writes, .int .i64 x.locals, .slice x.code.a x.code.n x.code.c]
theorem encProg_len (x : ProgR) : (encProg x).length = 5 := rfl
theorem encProg_one (x : ProgR) : ∀ u ∈ encProg x, u.oneCell' = true := oneAll
structure ProcR where
  name : ByteArray
  prog : ProgR
def encProc (x : ProcR) : List Value := [.string x.name, .int .i64 x.prog.args, .int .i64 x.prog.reads, .int .i64 x.prog.writes, .int .i64 x.prog.locals, .slice x.prog.code.a x.prog.code.n x.prog.code.c]
theorem encProc_len (x : ProcR) : (encProc x).length = 6 := rfl
theorem encProc_one (x : ProcR) : ∀ u ∈ encProc x, u.oneCell' = true := oneAll
structure WkrR where
  done : Int
  begun : Bool
  to : Sv
  behind : Int
def encWkr (x : WkrR) : List Value := [.int .i64 x.done, .bool x.begun, .slice x.to.a x.to.n x.to.c, .int .i64 x.behind]
theorem encWkr_len (x : WkrR) : (encWkr x).length = 4 := rfl
theorem encWkr_one (x : WkrR) : ∀ u ∈ encWkr x, u.oneCell' = true := oneAll

theorem nmL_len : nmL.length = 37 := rfl
/-- an instruction's name -/
def spl (op : Int) : ByteArray := if 0 ≤ op ∧ op < 37 then (nmL[op.toNat]?).getD ⟨#[]⟩ else ⟨#[]⟩
theorem nm_data : (nmL.map (·.data.toList)).Nodup := by decide
theorem nm_nod : nmL.Nodup := by
  have h := nm_data
  rw [List.Nodup, List.pairwise_map] at h
  exact h.imp fun h e => h (by rw [e])
theorem nm_ne : ∀ s ∈ nmL, s ≠ ⟨#[]⟩ := by
  have h : ∀ s ∈ nmL, s.data.toList ≠ [] := by decide
  exact fun s hs e => h s hs (by rw [e])
theorem spl_eq {op : Int} (h : 0 ≤ op ∧ op < 37) {k : Nat} {s : ByteArray} (hk : nmL[k]? = some s) : spl op = s ↔ op = ((k : Nat) : Int) := by
  obtain ⟨n, rfl⟩ : ∃ n : Nat, op = (n : Int) := ⟨op.toNat, by omega⟩
  obtain ⟨s2, hs2⟩ : ∃ s2, nmL[n]? = some s2 := ⟨_, List.getElem?_eq_getElem (by rw [nmL_len]; omega)⟩
  unfold spl
  rw [if_pos h, Int.toNat_natCast, hs2, Option.getD_some]
  constructor
  · rintro rfl
    obtain ⟨q1, q2⟩ := List.getElem?_eq_some_iff.1 hs2
    obtain ⟨q3, q4⟩ := List.getElem?_eq_some_iff.1 hk
    have := (List.getElem_inj (h₀ := q1) (h₁ := q3) nm_nod).1 (by rw [q2, q4])
    omega
  · intro e
    have : n = k := by omega
    subst this
    rw [hs2] at hk; exact Option.some.inj hk
theorem spl_ne {op : Int} (h : 0 ≤ op ∧ op < 37) : ¬ spl op = ⟨#[]⟩ := by
  obtain ⟨n, rfl⟩ : ∃ n : Nat, op = (n : Int) := ⟨op.toNat, by omega⟩
  obtain ⟨s2, hs2⟩ : ∃ s2, nmL[n]? = some s2 := ⟨_, List.getElem?_eq_getElem (by rw [nmL_len]; omega)⟩
  unfold spl
  rw [if_pos h, Int.toNat_natCast, hs2, Option.getD_some]
  exact nm_ne s2 (List.mem_of_getElem? hs2)
/-- how many values an instruction takes, how many it leaves -/
def tkF (op : Int) : Int := if op = 0 ∨ op = 33 ∨ op = 30 ∨ op = 1 ∨ op = 4 ∨ op = 6 ∨ op = 7 ∨ op = 8 then 0 else if op = 2 ∨ op = 5 ∨ op = 31 ∨ op = 32 ∨ op = 35 ∨ op = 36 ∨ op = 9 ∨ op = 20 ∨ op = 21 ∨ op = 3 then 1 else 2
def lvF (op : Int) : Int := if op = 0 ∨ op = 33 ∨ op = 30 ∨ op = 2 ∨ op = 5 ∨ op = 31 ∨ op = 32 ∨ op = 35 ∨ op = 36 ∨ op = 34 then 0 else if op = 3 then 2 else 1
theorem tk_lv {op a b : Int} (h1 : tkF op = a) (h2 : lvF op = b) : Value.tuple #[.int .i64 a, .int .i64 b] = .tuple #[.int .i64 (tkF op), .int .i64 (lvF op)] := by rw [h1, h2]
def mostF (p : ProgR) (op : Int) : Int := if op = 4 ∨ op = 5 then p.locals else if op = 6 then p.args else if op = 7 ∨ op = 8 then p.reads else if op = 32 ∨ op = 33 then p.writes else 1
/-- what is wrong with an instruction -/
def argE (p : ProgR) (i : Int) (x : InsR) : Int := if x.op = 1 then 0 else if x.op = 30 ∨ x.op = 31 then (if x.a ≤ i ∨ ((p.code.n : Nat) : Int) < x.a then 33 else 0) else if x.a < 0 ∨ mostF p x.op ≤ x.a then 32 else 0
def insE (p : ProgR) (i : Int) (x : InsR) : Int := if 0 ≤ x.op ∧ x.op < 37 then argE p i x else 31
def sizeB (p : ProgR) : Bool := decide ((0 ≤ p.args ∧ p.args ≤ 16) ∧ (0 ≤ p.reads ∧ p.reads ≤ 16) ∧ (0 ≤ p.writes ∧ p.writes ≤ 16) ∧ (0 ≤ p.locals ∧ p.locals ≤ 16) ∧ p.code.n ≤ 256)
def waysF (i : Int) (x : InsR) : List Int := if x.op = 0 ∨ x.op = 36 then [] else if x.op = 30 then [x.a] else if x.op = 31 then [x.a, i + 1] else [i + 1]
def nextF (i : Int) (x : InsR) : List Int := if x.op = 0 ∨ x.op = 36 then [] else if x.op = 30 then [x.a] else if x.op = 31 then [i + 1, x.a] else [i + 1]
set_option maxRecDepth 100000 in
set_option maxHeartbeats 1000000 in
theorem names_tr  : Tr Try.prog 41 [] [] [] (fun v m => v = .agg (nmL.map Value.string).toArray ∧ m = []) := by
  intro w0 S0 H0
  refine enterR Try.func41 rfl Try.ntmps41 rfl ?_
  intro g0
  refine seq_ ?_
  refine region_ ?_
  refine wl_allocH H0 ti123 ?_
  intro b1 w2 H2
  refine wl_nil ?_
  refine thn ?_
  refine seq_ ?_
  refine region_ ?_
  refine wl_valE (v := .agg #[.string (ByteArray.mk #[115, 116, 111, 112]), .string (ByteArray.mk #[112, 117, 115, 104]), .string (ByteArray.mk #[112, 111, 112]), .string (ByteArray.mk #[100, 117, 112]), .string (ByteArray.mk #[108, 111, 97, 100]), .string (ByteArray.mk #[115, 97, 118, 101]), .string (ByteArray.mk #[97, 114, 103]), .string (ByteArray.mk #[103, 101, 116]), .string (ByteArray.mk #[104, 97, 115]), .string (ByteArray.mk #[103, 101, 116, 120]), .string (ByteArray.mk #[97, 100, 100]), .string (ByteArray.mk #[115, 117, 98]), .string (ByteArray.mk #[109, 117, 108]), .string (ByteArray.mk #[100, 105, 118]), .string (ByteArray.mk #[109, 111, 100]), .string (ByteArray.mk #[97, 110, 100]), .string (ByteArray.mk #[111, 114]), .string (ByteArray.mk #[120, 111, 114]), .string (ByteArray.mk #[115, 104, 108]), .string (ByteArray.mk #[115, 104, 114]), .string (ByteArray.mk #[110, 101, 103]), .string (ByteArray.mk #[110, 111, 116]), .string (ByteArray.mk #[101, 113]), .string (ByteArray.mk #[110, 101]), .string (ByteArray.mk #[108, 116]), .string (ByteArray.mk #[108, 101]), .string (ByteArray.mk #[103, 116]), .string (ByteArray.mk #[103, 101]), .string (ByteArray.mk #[109, 105, 110]), .string (ByteArray.mk #[109, 97, 120]), .string (ByteArray.mk #[106, 117, 109, 112]), .string (ByteArray.mk #[122, 101, 114, 111]), .string (ByteArray.mk #[112, 117, 116]), .string (ByteArray.mk #[100, 101, 108]), .string (ByteArray.mk #[112, 117, 116, 120]), .string (ByteArray.mk #[111, 117, 116]), .string (ByteArray.mk #[97, 98, 111, 114, 116])]) rfl (rf_buildA (offs := [(0, [.string (ByteArray.mk #[115, 116, 111, 112])]), (1, [.string (ByteArray.mk #[112, 117, 115, 104])]), (2, [.string (ByteArray.mk #[112, 111, 112])]), (3, [.string (ByteArray.mk #[100, 117, 112])]), (4, [.string (ByteArray.mk #[108, 111, 97, 100])]), (5, [.string (ByteArray.mk #[115, 97, 118, 101])]), (6, [.string (ByteArray.mk #[97, 114, 103])]), (7, [.string (ByteArray.mk #[103, 101, 116])]), (8, [.string (ByteArray.mk #[104, 97, 115])]), (9, [.string (ByteArray.mk #[103, 101, 116, 120])]), (10, [.string (ByteArray.mk #[97, 100, 100])]), (11, [.string (ByteArray.mk #[115, 117, 98])]), (12, [.string (ByteArray.mk #[109, 117, 108])]), (13, [.string (ByteArray.mk #[100, 105, 118])]), (14, [.string (ByteArray.mk #[109, 111, 100])]), (15, [.string (ByteArray.mk #[97, 110, 100])]), (16, [.string (ByteArray.mk #[111, 114])]), (17, [.string (ByteArray.mk #[120, 111, 114])]), (18, [.string (ByteArray.mk #[115, 104, 108])]), (19, [.string (ByteArray.mk #[115, 104, 114])]), (20, [.string (ByteArray.mk #[110, 101, 103])]), (21, [.string (ByteArray.mk #[110, 111, 116])]), (22, [.string (ByteArray.mk #[101, 113])]), (23, [.string (ByteArray.mk #[110, 101])]), (24, [.string (ByteArray.mk #[108, 116])]), (25, [.string (ByteArray.mk #[108, 101])]), (26, [.string (ByteArray.mk #[103, 116])]), (27, [.string (ByteArray.mk #[103, 101])]), (28, [.string (ByteArray.mk #[109, 105, 110])]), (29, [.string (ByteArray.mk #[109, 97, 120])]), (30, [.string (ByteArray.mk #[106, 117, 109, 112])]), (31, [.string (ByteArray.mk #[122, 101, 114, 111])]), (32, [.string (ByteArray.mk #[112, 117, 116])]), (33, [.string (ByteArray.mk #[100, 101, 108])]), (34, [.string (ByteArray.mk #[112, 117, 116, 120])]), (35, [.string (ByteArray.mk #[111, 117, 116])]), (36, [.string (ByteArray.mk #[97, 98, 111, 114, 116])])]) Try.underlying123 ti123 ti9 (.cons rfl rfl rfl rfl rfl rfl (.cons rfl rfl rfl rfl rfl rfl (.cons rfl rfl rfl rfl rfl rfl (.cons rfl rfl rfl rfl rfl rfl (.cons rfl rfl rfl rfl rfl rfl (.cons rfl rfl rfl rfl rfl rfl (.cons rfl rfl rfl rfl rfl rfl (.cons rfl rfl rfl rfl rfl rfl (.cons rfl rfl rfl rfl rfl rfl (.cons rfl rfl rfl rfl rfl rfl (.cons rfl rfl rfl rfl rfl rfl (.cons rfl rfl rfl rfl rfl rfl (.cons rfl rfl rfl rfl rfl rfl (.cons rfl rfl rfl rfl rfl rfl (.cons rfl rfl rfl rfl rfl rfl (.cons rfl rfl rfl rfl rfl rfl (.cons rfl rfl rfl rfl rfl rfl (.cons rfl rfl rfl rfl rfl rfl (.cons rfl rfl rfl rfl rfl rfl (.cons rfl rfl rfl rfl rfl rfl (.cons rfl rfl rfl rfl rfl rfl (.cons rfl rfl rfl rfl rfl rfl (.cons rfl rfl rfl rfl rfl rfl (.cons rfl rfl rfl rfl rfl rfl (.cons rfl rfl rfl rfl rfl rfl (.cons rfl rfl rfl rfl rfl rfl (.cons rfl rfl rfl rfl rfl rfl (.cons rfl rfl rfl rfl rfl rfl (.cons rfl rfl rfl rfl rfl rfl (.cons rfl rfl rfl rfl rfl rfl (.cons rfl rfl rfl rfl rfl rfl (.cons rfl rfl rfl rfl rfl rfl (.cons rfl rfl rfl rfl rfl rfl (.cons rfl rfl rfl rfl rfl rfl (.cons rfl rfl rfl rfl rfl rfl (.cons rfl rfl rfl rfl rfl rfl (.cons rfl rfl rfl rfl rfl rfl .nil)))))))))))))))))))))))))))))))))))))) (by kernel_rfl) ?_
  refine wl_storeAggH H2 0 (o := 0) (cs := [.string (ByteArray.mk #[115, 116, 111, 112]), .string (ByteArray.mk #[112, 117, 115, 104]), .string (ByteArray.mk #[112, 111, 112]), .string (ByteArray.mk #[100, 117, 112]), .string (ByteArray.mk #[108, 111, 97, 100]), .string (ByteArray.mk #[115, 97, 118, 101]), .string (ByteArray.mk #[97, 114, 103]), .string (ByteArray.mk #[103, 101, 116]), .string (ByteArray.mk #[104, 97, 115]), .string (ByteArray.mk #[103, 101, 116, 120]), .string (ByteArray.mk #[97, 100, 100]), .string (ByteArray.mk #[115, 117, 98]), .string (ByteArray.mk #[109, 117, 108]), .string (ByteArray.mk #[100, 105, 118]), .string (ByteArray.mk #[109, 111, 100]), .string (ByteArray.mk #[97, 110, 100]), .string (ByteArray.mk #[111, 114]), .string (ByteArray.mk #[120, 111, 114]), .string (ByteArray.mk #[115, 104, 108]), .string (ByteArray.mk #[115, 104, 114]), .string (ByteArray.mk #[110, 101, 103]), .string (ByteArray.mk #[110, 111, 116]), .string (ByteArray.mk #[101, 113]), .string (ByteArray.mk #[110, 101]), .string (ByteArray.mk #[108, 116]), .string (ByteArray.mk #[108, 101]), .string (ByteArray.mk #[103, 116]), .string (ByteArray.mk #[103, 101]), .string (ByteArray.mk #[109, 105, 110]), .string (ByteArray.mk #[109, 97, 120]), .string (ByteArray.mk #[106, 117, 109, 112]), .string (ByteArray.mk #[122, 101, 114, 111]), .string (ByteArray.mk #[112, 117, 116]), .string (ByteArray.mk #[100, 101, 108]), .string (ByteArray.mk #[112, 117, 116, 120]), .string (ByteArray.mk #[111, 117, 116]), .string (ByteArray.mk #[97, 98, 111, 114, 116])]) (A' := #[.string (ByteArray.mk #[115, 116, 111, 112]), .string (ByteArray.mk #[112, 117, 115, 104]), .string (ByteArray.mk #[112, 111, 112]), .string (ByteArray.mk #[100, 117, 112]), .string (ByteArray.mk #[108, 111, 97, 100]), .string (ByteArray.mk #[115, 97, 118, 101]), .string (ByteArray.mk #[97, 114, 103]), .string (ByteArray.mk #[103, 101, 116]), .string (ByteArray.mk #[104, 97, 115]), .string (ByteArray.mk #[103, 101, 116, 120]), .string (ByteArray.mk #[97, 100, 100]), .string (ByteArray.mk #[115, 117, 98]), .string (ByteArray.mk #[109, 117, 108]), .string (ByteArray.mk #[100, 105, 118]), .string (ByteArray.mk #[109, 111, 100]), .string (ByteArray.mk #[97, 110, 100]), .string (ByteArray.mk #[111, 114]), .string (ByteArray.mk #[120, 111, 114]), .string (ByteArray.mk #[115, 104, 108]), .string (ByteArray.mk #[115, 104, 114]), .string (ByteArray.mk #[110, 101, 103]), .string (ByteArray.mk #[110, 111, 116]), .string (ByteArray.mk #[101, 113]), .string (ByteArray.mk #[110, 101]), .string (ByteArray.mk #[108, 116]), .string (ByteArray.mk #[108, 101]), .string (ByteArray.mk #[103, 116]), .string (ByteArray.mk #[103, 101]), .string (ByteArray.mk #[109, 105, 110]), .string (ByteArray.mk #[109, 97, 120]), .string (ByteArray.mk #[106, 117, 109, 112]), .string (ByteArray.mk #[122, 101, 114, 111]), .string (ByteArray.mk #[112, 117, 116]), .string (ByteArray.mk #[100, 101, 108]), .string (ByteArray.mk #[112, 117, 116, 120]), .string (ByteArray.mk #[111, 117, 116]), .string (ByteArray.mk #[97, 98, 111, 114, 116])]) rfl rfl ti123 rfl rfl rfl rfl rfl oneAll (leb rfl) rfl ?_
  intro w3 H3
  refine wl_nil ?_
  refine thn ?_
  refine ret_ ?_
  refine finV1 Try.results41 (RV.blk rfl Try.underlying123 rfl ti123 rfl (H3.blk 0 rfl) (leb rfl)) ?_
  exact ⟨_, ⟨rfl, rfl⟩, H3.pick' [] rfl rfl⟩
theorem spell_tr (op : Int) (h : 0 ≤ op ∧ op < 37) : Tr Try.prog 40 [.int .i64 op] [] [] (fun v m => v = .string (spl op) ∧ m = []) := by
  intro w0 S0 H0
  refine enterR Try.func40 rfl Try.ntmps40 rfl ?_
  intro g0
  refine seq_ ?_
  refine region_ ?_
  refine wl_valE (v := .string (ByteArray.mk #[])) rfl (rf_assign rfl) rfl ?_
  refine wl_nil ?_
  refine thn ?_
  refine seq_ ?_
  refine seq_ ?_
  refine region_ ?_
  refine wl_valE (v := .int .i64 op) rfl (rf_move rfl) rfl ?_
  refine wl_valE (v := .bool (decide (op < (0 : Int)))) rfl (rf_lss rfl rfl rfl rfl) rfl ?_
  refine wl_valE (v := .bool (decide (op < (0 : Int)))) rfl (rf_move rfl) rfl ?_
  refine wl_guardT rfl rfl rfl (decide_eq_false (by omega)) ?_
  refine wl_valE (v := .int .i64 op) rfl (rf_move rfl) rfl ?_
  refine wl_guardT rfl rfl rfl (decide_eq_false (by omega)) ?_
  refine wl_valE (v := .bool (decide ((37 : Int) ≤ op))) rfl (rf_geq rfl rfl rfl rfl) rfl ?_
  refine wl_valE (v := .bool (decide ((37 : Int) ≤ op))) rfl (rf_pickF rfl rfl rfl (decide_eq_false (by omega))) rfl ?_
  refine wl_nil ?_
  refine thn ?_
  refine condF' rfl rfl (t := decide ((37 : Int) ≤ op)) ((decide_eq_false (by omega))) ?_
  refine skip_ ?_
  refine thn ?_
  refine seq_ ?_
  refine region_ ?_
  refine wl_tr H0 rfl [] (names_tr) rfl .nil (rf_call Try.call41 rfl rfl) rfl ?_
  rintro _ w1 _ ⟨rfl, rfl⟩ H1
  refine wl_allocH H1 ti123 ?_
  intro bn w3 H3
  refine wl_storeAggH H3 0 (o := 0) (cs := [.string (ByteArray.mk #[115, 116, 111, 112]), .string (ByteArray.mk #[112, 117, 115, 104]), .string (ByteArray.mk #[112, 111, 112]), .string (ByteArray.mk #[100, 117, 112]), .string (ByteArray.mk #[108, 111, 97, 100]), .string (ByteArray.mk #[115, 97, 118, 101]), .string (ByteArray.mk #[97, 114, 103]), .string (ByteArray.mk #[103, 101, 116]), .string (ByteArray.mk #[104, 97, 115]), .string (ByteArray.mk #[103, 101, 116, 120]), .string (ByteArray.mk #[97, 100, 100]), .string (ByteArray.mk #[115, 117, 98]), .string (ByteArray.mk #[109, 117, 108]), .string (ByteArray.mk #[100, 105, 118]), .string (ByteArray.mk #[109, 111, 100]), .string (ByteArray.mk #[97, 110, 100]), .string (ByteArray.mk #[111, 114]), .string (ByteArray.mk #[120, 111, 114]), .string (ByteArray.mk #[115, 104, 108]), .string (ByteArray.mk #[115, 104, 114]), .string (ByteArray.mk #[110, 101, 103]), .string (ByteArray.mk #[110, 111, 116]), .string (ByteArray.mk #[101, 113]), .string (ByteArray.mk #[110, 101]), .string (ByteArray.mk #[108, 116]), .string (ByteArray.mk #[108, 101]), .string (ByteArray.mk #[103, 116]), .string (ByteArray.mk #[103, 101]), .string (ByteArray.mk #[109, 105, 110]), .string (ByteArray.mk #[109, 97, 120]), .string (ByteArray.mk #[106, 117, 109, 112]), .string (ByteArray.mk #[122, 101, 114, 111]), .string (ByteArray.mk #[112, 117, 116]), .string (ByteArray.mk #[100, 101, 108]), .string (ByteArray.mk #[112, 117, 116, 120]), .string (ByteArray.mk #[111, 117, 116]), .string (ByteArray.mk #[97, 98, 111, 114, 116])]) (A' := #[.string (ByteArray.mk #[115, 116, 111, 112]), .string (ByteArray.mk #[112, 117, 115, 104]), .string (ByteArray.mk #[112, 111, 112]), .string (ByteArray.mk #[100, 117, 112]), .string (ByteArray.mk #[108, 111, 97, 100]), .string (ByteArray.mk #[115, 97, 118, 101]), .string (ByteArray.mk #[97, 114, 103]), .string (ByteArray.mk #[103, 101, 116]), .string (ByteArray.mk #[104, 97, 115]), .string (ByteArray.mk #[103, 101, 116, 120]), .string (ByteArray.mk #[97, 100, 100]), .string (ByteArray.mk #[115, 117, 98]), .string (ByteArray.mk #[109, 117, 108]), .string (ByteArray.mk #[100, 105, 118]), .string (ByteArray.mk #[109, 111, 100]), .string (ByteArray.mk #[97, 110, 100]), .string (ByteArray.mk #[111, 114]), .string (ByteArray.mk #[120, 111, 114]), .string (ByteArray.mk #[115, 104, 108]), .string (ByteArray.mk #[115, 104, 114]), .string (ByteArray.mk #[110, 101, 103]), .string (ByteArray.mk #[110, 111, 116]), .string (ByteArray.mk #[101, 113]), .string (ByteArray.mk #[110, 101]), .string (ByteArray.mk #[108, 116]), .string (ByteArray.mk #[108, 101]), .string (ByteArray.mk #[103, 116]), .string (ByteArray.mk #[103, 101]), .string (ByteArray.mk #[109, 105, 110]), .string (ByteArray.mk #[109, 97, 120]), .string (ByteArray.mk #[106, 117, 109, 112]), .string (ByteArray.mk #[122, 101, 114, 111]), .string (ByteArray.mk #[112, 117, 116]), .string (ByteArray.mk #[100, 101, 108]), .string (ByteArray.mk #[112, 117, 116, 120]), .string (ByteArray.mk #[111, 117, 116]), .string (ByteArray.mk #[97, 98, 111, 114, 116])]) rfl rfl ti123 rfl rfl rfl rfl rfl oneAll (leb rfl) rfl ?_
  intro w4 H4
  refine wl_nil ?_
  refine thn ?_
  refine seq_ ?_
  obtain ⟨n, hn⟩ : ∃ n : Nat, op = (n : Int) := ⟨op.toNat, by omega⟩
  obtain ⟨s2, hs2⟩ : ∃ s2, nmL[n]? = some s2 := ⟨_, List.getElem?_eq_getElem (by rw [nmL_len]; omega)⟩
  have hsp : spl op = s2 := by unfold spl; rw [if_pos h, hn, Int.toNat_natCast, hs2]; rfl
  refine region_ ?_
  refine wl_valE (v := .int .i64 ((n : Nat) : Int)) rfl (rf_move rfl) (congrArg (Value.int .i64) hn) ?_
  refine wl_valE (v := .pointer (some ⟨bn, n, none⟩)) rfl (rf_indexAddrA Try.underlying123 ti9 rfl rfl rfl rfl (by omega) (by omega)) (by simp) ?_
  refine wl_valE (v := .string s2) rfl (rf_load Try.underlying9 rfl rfl rfl ((H4.blk 0 rfl).cell (i := n) (v := .string s2) (by show ((nmL.map Value.string).toArray)[n]? = _; simp [hs2]))) rfl ?_
  refine wl_valE (v := .string s2) rfl (rf_assign rfl) rfl ?_
  refine wl_nil ?_
  refine thn ?_
  refine ret_ ?_
  refine fin1 (v := .string s2) Try.results40 rfl rfl ?_
  exact ⟨_, ⟨by rw [hsp], rfl⟩, H4.pick' [] rfl rfl⟩
theorem takes_tr (op : Int) (h : 0 ≤ op ∧ op < 37) : Tr Try.prog 38 [.int .i64 op] [] [] (fun v m => v = .tuple #[.int .i64 (tkF op), .int .i64 (lvF op)] ∧ m = []) := by
  intro w0 S0 H0
  refine enterR Try.func38 rfl Try.ntmps38 rfl ?_
  intro g0
  refine seq_ ?_
  refine region_ ?_
  refine wl_valE (v := .int .i64 (0 : Int)) rfl (rf_assign rfl) rfl ?_
  refine wl_valE (v := .int .i64 (0 : Int)) rfl (rf_assign rfl) rfl ?_
  refine wl_nil ?_
  refine thn ?_
  refine seq_ ?_
  refine seq_ ?_
  refine region_ ?_
  refine wl_valE (v := .int .i64 op) rfl (rf_move rfl) rfl ?_
  refine wl_tr H0 rfl [] (spell_tr op h) rfl .nil (rf_call Try.call40 rfl rfl) rfl ?_
  rintro _ w1 _ ⟨rfl, rfl⟩ H1
  refine wl_nil ?_
  refine thn ?_
  refine block_ ?_
  refine seq_ ?_
  refine seq_ ?_
  refine region_ ?_
  refine wl_valE (v := .bool (decide (op = 0))) rfl (rf_eqlStr rfl rfl rfl rfl) (congrArg Value.bool (decide_eq_decide.2 (spl_eq h (k := 0) rfl))) ?_
  refine wl_valE (v := .bool (decide (op = 0))) rfl (rf_assign rfl) rfl ?_
  refine wl_nil ?_
  refine thn ?_
  refine cond_ (t := decide (op = 0)) rfl rfl (fun c6 => ?_) (fun c6 => ?_)
  · have c6p := of_decide_eq_true c6
    refine skip_ ?_
    refine thn ?_
    refine condT' rfl rfl (t := decide (op = 0)) (c6) ?_
    refine seq_ ?_
    refine region_ ?_
    refine wl_valE (v := .int .i64 (0 : Int)) rfl (rf_assign rfl) rfl ?_
    refine wl_valE (v := .int .i64 (0 : Int)) rfl (rf_assign rfl) rfl ?_
    refine wl_nil ?_
    refine thn ?_
    refine ret_ ?_
    refine blr (thr ?_)
    refine fin2 (v1 := .int .i64 (0 : Int)) (v2 := .int .i64 (0 : Int)) Try.results38 rfl rfl rfl rfl ?_
    exact ⟨_, ⟨tk_lv (by unfold tkF; omega) (by unfold lvF; omega), rfl⟩, H1.pick' [] rfl rfl⟩
  · have c6p := of_decide_eq_false c6
    refine seq_ ?_
    refine region_ ?_
    refine wl_valE (v := .bool (decide (op = 33))) rfl (rf_eqlStr rfl rfl rfl rfl) (congrArg Value.bool (decide_eq_decide.2 (spl_eq h (k := 33) rfl))) ?_
    refine wl_valE (v := .bool (decide (op = 33))) rfl (rf_assign rfl) rfl ?_
    refine wl_nil ?_
    refine thn ?_
    refine cond_ (t := decide (op = 33)) rfl rfl (fun c6 => ?_) (fun c6 => ?_)
    · have c6p := of_decide_eq_true c6
      refine skip_ ?_
      refine thn ?_
      refine condT' rfl rfl (t := decide (op = 33)) (c6) ?_
      refine seq_ ?_
      refine region_ ?_
      refine wl_valE (v := .int .i64 (0 : Int)) rfl (rf_assign rfl) rfl ?_
      refine wl_valE (v := .int .i64 (0 : Int)) rfl (rf_assign rfl) rfl ?_
      refine wl_nil ?_
      refine thn ?_
      refine ret_ ?_
      refine blr (thr ?_)
      refine fin2 (v1 := .int .i64 (0 : Int)) (v2 := .int .i64 (0 : Int)) Try.results38 rfl rfl rfl rfl ?_
      exact ⟨_, ⟨tk_lv (by unfold tkF; omega) (by unfold lvF; omega), rfl⟩, H1.pick' [] rfl rfl⟩
    · have c6p := of_decide_eq_false c6
      refine region_ ?_
      refine wl_valE (v := .bool (decide (op = 30))) rfl (rf_eqlStr rfl rfl rfl rfl) (congrArg Value.bool (decide_eq_decide.2 (spl_eq h (k := 30) rfl))) ?_
      refine wl_valE (v := .bool (decide (op = 30))) rfl (rf_assign rfl) rfl ?_
      refine wl_nil ?_
      refine thn ?_
      refine cond_ (t := decide (op = 30)) rfl rfl (fun c6 => ?_) (fun c6 => ?_)
      · have c6p := of_decide_eq_true c6
        refine seq_ ?_
        refine region_ ?_
        refine wl_valE (v := .int .i64 (0 : Int)) rfl (rf_assign rfl) rfl ?_
        refine wl_valE (v := .int .i64 (0 : Int)) rfl (rf_assign rfl) rfl ?_
        refine wl_nil ?_
        refine thn ?_
        refine ret_ ?_
        refine blr (thr ?_)
        refine fin2 (v1 := .int .i64 (0 : Int)) (v2 := .int .i64 (0 : Int)) Try.results38 rfl rfl rfl rfl ?_
        exact ⟨_, ⟨tk_lv (by unfold tkF; omega) (by unfold lvF; omega), rfl⟩, H1.pick' [] rfl rfl⟩
      · have c6p := of_decide_eq_false c6
        refine seq_ ?_
        refine seq_ ?_
        refine region_ ?_
        refine wl_valE (v := .bool (decide (op = 1))) rfl (rf_eqlStr rfl rfl rfl rfl) (congrArg Value.bool (decide_eq_decide.2 (spl_eq h (k := 1) rfl))) ?_
        refine wl_valE (v := .bool (decide (op = 1))) rfl (rf_assign rfl) rfl ?_
        refine wl_nil ?_
        refine thn ?_
        refine cond_ (t := decide (op = 1)) rfl rfl (fun c10 => ?_) (fun c10 => ?_)
        · have c10p := of_decide_eq_true c10
          refine skip_ ?_
          refine thn ?_
          refine condT' rfl rfl (t := decide (op = 1)) (c10) ?_
          refine seq_ ?_
          refine region_ ?_
          refine wl_valE (v := .int .i64 (0 : Int)) rfl (rf_assign rfl) rfl ?_
          refine wl_valE (v := .int .i64 (1 : Int)) rfl (rf_assign rfl) rfl ?_
          refine wl_nil ?_
          refine thn ?_
          refine ret_ ?_
          refine blr (thr ?_)
          refine fin2 (v1 := .int .i64 (0 : Int)) (v2 := .int .i64 (1 : Int)) Try.results38 rfl rfl rfl rfl ?_
          exact ⟨_, ⟨tk_lv (by unfold tkF; omega) (by unfold lvF; omega), rfl⟩, H1.pick' [] rfl rfl⟩
        · have c10p := of_decide_eq_false c10
          refine seq_ ?_
          refine region_ ?_
          refine wl_valE (v := .bool (decide (op = 4))) rfl (rf_eqlStr rfl rfl rfl rfl) (congrArg Value.bool (decide_eq_decide.2 (spl_eq h (k := 4) rfl))) ?_
          refine wl_valE (v := .bool (decide (op = 4))) rfl (rf_assign rfl) rfl ?_
          refine wl_nil ?_
          refine thn ?_
          refine cond_ (t := decide (op = 4)) rfl rfl (fun c10 => ?_) (fun c10 => ?_)
          · have c10p := of_decide_eq_true c10
            refine skip_ ?_
            refine thn ?_
            refine condT' rfl rfl (t := decide (op = 4)) (c10) ?_
            refine seq_ ?_
            refine region_ ?_
            refine wl_valE (v := .int .i64 (0 : Int)) rfl (rf_assign rfl) rfl ?_
            refine wl_valE (v := .int .i64 (1 : Int)) rfl (rf_assign rfl) rfl ?_
            refine wl_nil ?_
            refine thn ?_
            refine ret_ ?_
            refine blr (thr ?_)
            refine fin2 (v1 := .int .i64 (0 : Int)) (v2 := .int .i64 (1 : Int)) Try.results38 rfl rfl rfl rfl ?_
            exact ⟨_, ⟨tk_lv (by unfold tkF; omega) (by unfold lvF; omega), rfl⟩, H1.pick' [] rfl rfl⟩
          · have c10p := of_decide_eq_false c10
            refine seq_ ?_
            refine region_ ?_
            refine wl_valE (v := .bool (decide (op = 6))) rfl (rf_eqlStr rfl rfl rfl rfl) (congrArg Value.bool (decide_eq_decide.2 (spl_eq h (k := 6) rfl))) ?_
            refine wl_valE (v := .bool (decide (op = 6))) rfl (rf_assign rfl) rfl ?_
            refine wl_nil ?_
            refine thn ?_
            refine cond_ (t := decide (op = 6)) rfl rfl (fun c10 => ?_) (fun c10 => ?_)
            · have c10p := of_decide_eq_true c10
              refine skip_ ?_
              refine thn ?_
              refine condT' rfl rfl (t := decide (op = 6)) (c10) ?_
              refine seq_ ?_
              refine region_ ?_
              refine wl_valE (v := .int .i64 (0 : Int)) rfl (rf_assign rfl) rfl ?_
              refine wl_valE (v := .int .i64 (1 : Int)) rfl (rf_assign rfl) rfl ?_
              refine wl_nil ?_
              refine thn ?_
              refine ret_ ?_
              refine blr (thr ?_)
              refine fin2 (v1 := .int .i64 (0 : Int)) (v2 := .int .i64 (1 : Int)) Try.results38 rfl rfl rfl rfl ?_
              exact ⟨_, ⟨tk_lv (by unfold tkF; omega) (by unfold lvF; omega), rfl⟩, H1.pick' [] rfl rfl⟩
            · have c10p := of_decide_eq_false c10
              refine seq_ ?_
              refine region_ ?_
              refine wl_valE (v := .bool (decide (op = 7))) rfl (rf_eqlStr rfl rfl rfl rfl) (congrArg Value.bool (decide_eq_decide.2 (spl_eq h (k := 7) rfl))) ?_
              refine wl_valE (v := .bool (decide (op = 7))) rfl (rf_assign rfl) rfl ?_
              refine wl_nil ?_
              refine thn ?_
              refine cond_ (t := decide (op = 7)) rfl rfl (fun c10 => ?_) (fun c10 => ?_)
              · have c10p := of_decide_eq_true c10
                refine skip_ ?_
                refine thn ?_
                refine condT' rfl rfl (t := decide (op = 7)) (c10) ?_
                refine seq_ ?_
                refine region_ ?_
                refine wl_valE (v := .int .i64 (0 : Int)) rfl (rf_assign rfl) rfl ?_
                refine wl_valE (v := .int .i64 (1 : Int)) rfl (rf_assign rfl) rfl ?_
                refine wl_nil ?_
                refine thn ?_
                refine ret_ ?_
                refine blr (thr ?_)
                refine fin2 (v1 := .int .i64 (0 : Int)) (v2 := .int .i64 (1 : Int)) Try.results38 rfl rfl rfl rfl ?_
                exact ⟨_, ⟨tk_lv (by unfold tkF; omega) (by unfold lvF; omega), rfl⟩, H1.pick' [] rfl rfl⟩
              · have c10p := of_decide_eq_false c10
                refine region_ ?_
                refine wl_valE (v := .bool (decide (op = 8))) rfl (rf_eqlStr rfl rfl rfl rfl) (congrArg Value.bool (decide_eq_decide.2 (spl_eq h (k := 8) rfl))) ?_
                refine wl_valE (v := .bool (decide (op = 8))) rfl (rf_assign rfl) rfl ?_
                refine wl_nil ?_
                refine thn ?_
                refine cond_ (t := decide (op = 8)) rfl rfl (fun c10 => ?_) (fun c10 => ?_)
                · have c10p := of_decide_eq_true c10
                  refine seq_ ?_
                  refine region_ ?_
                  refine wl_valE (v := .int .i64 (0 : Int)) rfl (rf_assign rfl) rfl ?_
                  refine wl_valE (v := .int .i64 (1 : Int)) rfl (rf_assign rfl) rfl ?_
                  refine wl_nil ?_
                  refine thn ?_
                  refine ret_ ?_
                  refine blr (thr ?_)
                  refine fin2 (v1 := .int .i64 (0 : Int)) (v2 := .int .i64 (1 : Int)) Try.results38 rfl rfl rfl rfl ?_
                  exact ⟨_, ⟨tk_lv (by unfold tkF; omega) (by unfold lvF; omega), rfl⟩, H1.pick' [] rfl rfl⟩
                · have c10p := of_decide_eq_false c10
                  refine seq_ ?_
                  refine seq_ ?_
                  refine region_ ?_
                  refine wl_valE (v := .bool (decide (op = 2))) rfl (rf_eqlStr rfl rfl rfl rfl) (congrArg Value.bool (decide_eq_decide.2 (spl_eq h (k := 2) rfl))) ?_
                  refine wl_valE (v := .bool (decide (op = 2))) rfl (rf_assign rfl) rfl ?_
                  refine wl_nil ?_
                  refine thn ?_
                  refine cond_ (t := decide (op = 2)) rfl rfl (fun c16 => ?_) (fun c16 => ?_)
                  · have c16p := of_decide_eq_true c16
                    refine skip_ ?_
                    refine thn ?_
                    refine condT' rfl rfl (t := decide (op = 2)) (c16) ?_
                    refine seq_ ?_
                    refine region_ ?_
                    refine wl_valE (v := .int .i64 (1 : Int)) rfl (rf_assign rfl) rfl ?_
                    refine wl_valE (v := .int .i64 (0 : Int)) rfl (rf_assign rfl) rfl ?_
                    refine wl_nil ?_
                    refine thn ?_
                    refine ret_ ?_
                    refine blr (thr ?_)
                    refine fin2 (v1 := .int .i64 (1 : Int)) (v2 := .int .i64 (0 : Int)) Try.results38 rfl rfl rfl rfl ?_
                    exact ⟨_, ⟨tk_lv (by unfold tkF; omega) (by unfold lvF; omega), rfl⟩, H1.pick' [] rfl rfl⟩
                  · have c16p := of_decide_eq_false c16
                    refine seq_ ?_
                    refine region_ ?_
                    refine wl_valE (v := .bool (decide (op = 5))) rfl (rf_eqlStr rfl rfl rfl rfl) (congrArg Value.bool (decide_eq_decide.2 (spl_eq h (k := 5) rfl))) ?_
                    refine wl_valE (v := .bool (decide (op = 5))) rfl (rf_assign rfl) rfl ?_
                    refine wl_nil ?_
                    refine thn ?_
                    refine cond_ (t := decide (op = 5)) rfl rfl (fun c16 => ?_) (fun c16 => ?_)
                    · have c16p := of_decide_eq_true c16
                      refine skip_ ?_
                      refine thn ?_
                      refine condT' rfl rfl (t := decide (op = 5)) (c16) ?_
                      refine seq_ ?_
                      refine region_ ?_
                      refine wl_valE (v := .int .i64 (1 : Int)) rfl (rf_assign rfl) rfl ?_
                      refine wl_valE (v := .int .i64 (0 : Int)) rfl (rf_assign rfl) rfl ?_
                      refine wl_nil ?_
                      refine thn ?_
                      refine ret_ ?_
                      refine blr (thr ?_)
                      refine fin2 (v1 := .int .i64 (1 : Int)) (v2 := .int .i64 (0 : Int)) Try.results38 rfl rfl rfl rfl ?_
                      exact ⟨_, ⟨tk_lv (by unfold tkF; omega) (by unfold lvF; omega), rfl⟩, H1.pick' [] rfl rfl⟩
                    · have c16p := of_decide_eq_false c16
                      refine seq_ ?_
                      refine region_ ?_
                      refine wl_valE (v := .bool (decide (op = 31))) rfl (rf_eqlStr rfl rfl rfl rfl) (congrArg Value.bool (decide_eq_decide.2 (spl_eq h (k := 31) rfl))) ?_
                      refine wl_valE (v := .bool (decide (op = 31))) rfl (rf_assign rfl) rfl ?_
                      refine wl_nil ?_
                      refine thn ?_
                      refine cond_ (t := decide (op = 31)) rfl rfl (fun c16 => ?_) (fun c16 => ?_)
                      · have c16p := of_decide_eq_true c16
                        refine skip_ ?_
                        refine thn ?_
                        refine condT' rfl rfl (t := decide (op = 31)) (c16) ?_
                        refine seq_ ?_
                        refine region_ ?_
                        refine wl_valE (v := .int .i64 (1 : Int)) rfl (rf_assign rfl) rfl ?_
                        refine wl_valE (v := .int .i64 (0 : Int)) rfl (rf_assign rfl) rfl ?_
                        refine wl_nil ?_
                        refine thn ?_
                        refine ret_ ?_
                        refine blr (thr ?_)
                        refine fin2 (v1 := .int .i64 (1 : Int)) (v2 := .int .i64 (0 : Int)) Try.results38 rfl rfl rfl rfl ?_
                        exact ⟨_, ⟨tk_lv (by unfold tkF; omega) (by unfold lvF; omega), rfl⟩, H1.pick' [] rfl rfl⟩
                      · have c16p := of_decide_eq_false c16
                        refine seq_ ?_
                        refine region_ ?_
                        refine wl_valE (v := .bool (decide (op = 32))) rfl (rf_eqlStr rfl rfl rfl rfl) (congrArg Value.bool (decide_eq_decide.2 (spl_eq h (k := 32) rfl))) ?_
                        refine wl_valE (v := .bool (decide (op = 32))) rfl (rf_assign rfl) rfl ?_
                        refine wl_nil ?_
                        refine thn ?_
                        refine cond_ (t := decide (op = 32)) rfl rfl (fun c16 => ?_) (fun c16 => ?_)
                        · have c16p := of_decide_eq_true c16
                          refine skip_ ?_
                          refine thn ?_
                          refine condT' rfl rfl (t := decide (op = 32)) (c16) ?_
                          refine seq_ ?_
                          refine region_ ?_
                          refine wl_valE (v := .int .i64 (1 : Int)) rfl (rf_assign rfl) rfl ?_
                          refine wl_valE (v := .int .i64 (0 : Int)) rfl (rf_assign rfl) rfl ?_
                          refine wl_nil ?_
                          refine thn ?_
                          refine ret_ ?_
                          refine blr (thr ?_)
                          refine fin2 (v1 := .int .i64 (1 : Int)) (v2 := .int .i64 (0 : Int)) Try.results38 rfl rfl rfl rfl ?_
                          exact ⟨_, ⟨tk_lv (by unfold tkF; omega) (by unfold lvF; omega), rfl⟩, H1.pick' [] rfl rfl⟩
                        · have c16p := of_decide_eq_false c16
                          refine seq_ ?_
                          refine region_ ?_
                          refine wl_valE (v := .bool (decide (op = 35))) rfl (rf_eqlStr rfl rfl rfl rfl) (congrArg Value.bool (decide_eq_decide.2 (spl_eq h (k := 35) rfl))) ?_
                          refine wl_valE (v := .bool (decide (op = 35))) rfl (rf_assign rfl) rfl ?_
                          refine wl_nil ?_
                          refine thn ?_
                          refine cond_ (t := decide (op = 35)) rfl rfl (fun c16 => ?_) (fun c16 => ?_)
                          · have c16p := of_decide_eq_true c16
                            refine skip_ ?_
                            refine thn ?_
                            refine condT' rfl rfl (t := decide (op = 35)) (c16) ?_
                            refine seq_ ?_
                            refine region_ ?_
                            refine wl_valE (v := .int .i64 (1 : Int)) rfl (rf_assign rfl) rfl ?_
                            refine wl_valE (v := .int .i64 (0 : Int)) rfl (rf_assign rfl) rfl ?_
                            refine wl_nil ?_
                            refine thn ?_
                            refine ret_ ?_
                            refine blr (thr ?_)
                            refine fin2 (v1 := .int .i64 (1 : Int)) (v2 := .int .i64 (0 : Int)) Try.results38 rfl rfl rfl rfl ?_
                            exact ⟨_, ⟨tk_lv (by unfold tkF; omega) (by unfold lvF; omega), rfl⟩, H1.pick' [] rfl rfl⟩
                          · have c16p := of_decide_eq_false c16
                            refine region_ ?_
                            refine wl_valE (v := .bool (decide (op = 36))) rfl (rf_eqlStr rfl rfl rfl rfl) (congrArg Value.bool (decide_eq_decide.2 (spl_eq h (k := 36) rfl))) ?_
                            refine wl_valE (v := .bool (decide (op = 36))) rfl (rf_assign rfl) rfl ?_
                            refine wl_nil ?_
                            refine thn ?_
                            refine cond_ (t := decide (op = 36)) rfl rfl (fun c16 => ?_) (fun c16 => ?_)
                            · have c16p := of_decide_eq_true c16
                              refine seq_ ?_
                              refine region_ ?_
                              refine wl_valE (v := .int .i64 (1 : Int)) rfl (rf_assign rfl) rfl ?_
                              refine wl_valE (v := .int .i64 (0 : Int)) rfl (rf_assign rfl) rfl ?_
                              refine wl_nil ?_
                              refine thn ?_
                              refine ret_ ?_
                              refine blr (thr ?_)
                              refine fin2 (v1 := .int .i64 (1 : Int)) (v2 := .int .i64 (0 : Int)) Try.results38 rfl rfl rfl rfl ?_
                              exact ⟨_, ⟨tk_lv (by unfold tkF; omega) (by unfold lvF; omega), rfl⟩, H1.pick' [] rfl rfl⟩
                            · have c16p := of_decide_eq_false c16
                              refine seq_ ?_
                              refine seq_ ?_
                              refine region_ ?_
                              refine wl_valE (v := .bool (decide (op = 9))) rfl (rf_eqlStr rfl rfl rfl rfl) (congrArg Value.bool (decide_eq_decide.2 (spl_eq h (k := 9) rfl))) ?_
                              refine wl_valE (v := .bool (decide (op = 9))) rfl (rf_assign rfl) rfl ?_
                              refine wl_nil ?_
                              refine thn ?_
                              refine cond_ (t := decide (op = 9)) rfl rfl (fun c23 => ?_) (fun c23 => ?_)
                              · have c23p := of_decide_eq_true c23
                                refine skip_ ?_
                                refine thn ?_
                                refine condT' rfl rfl (t := decide (op = 9)) (c23) ?_
                                refine seq_ ?_
                                refine region_ ?_
                                refine wl_valE (v := .int .i64 (1 : Int)) rfl (rf_assign rfl) rfl ?_
                                refine wl_valE (v := .int .i64 (1 : Int)) rfl (rf_assign rfl) rfl ?_
                                refine wl_nil ?_
                                refine thn ?_
                                refine ret_ ?_
                                refine blr (thr ?_)
                                refine fin2 (v1 := .int .i64 (1 : Int)) (v2 := .int .i64 (1 : Int)) Try.results38 rfl rfl rfl rfl ?_
                                exact ⟨_, ⟨tk_lv (by unfold tkF; omega) (by unfold lvF; omega), rfl⟩, H1.pick' [] rfl rfl⟩
                              · have c23p := of_decide_eq_false c23
                                refine seq_ ?_
                                refine region_ ?_
                                refine wl_valE (v := .bool (decide (op = 20))) rfl (rf_eqlStr rfl rfl rfl rfl) (congrArg Value.bool (decide_eq_decide.2 (spl_eq h (k := 20) rfl))) ?_
                                refine wl_valE (v := .bool (decide (op = 20))) rfl (rf_assign rfl) rfl ?_
                                refine wl_nil ?_
                                refine thn ?_
                                refine cond_ (t := decide (op = 20)) rfl rfl (fun c23 => ?_) (fun c23 => ?_)
                                · have c23p := of_decide_eq_true c23
                                  refine skip_ ?_
                                  refine thn ?_
                                  refine condT' rfl rfl (t := decide (op = 20)) (c23) ?_
                                  refine seq_ ?_
                                  refine region_ ?_
                                  refine wl_valE (v := .int .i64 (1 : Int)) rfl (rf_assign rfl) rfl ?_
                                  refine wl_valE (v := .int .i64 (1 : Int)) rfl (rf_assign rfl) rfl ?_
                                  refine wl_nil ?_
                                  refine thn ?_
                                  refine ret_ ?_
                                  refine blr (thr ?_)
                                  refine fin2 (v1 := .int .i64 (1 : Int)) (v2 := .int .i64 (1 : Int)) Try.results38 rfl rfl rfl rfl ?_
                                  exact ⟨_, ⟨tk_lv (by unfold tkF; omega) (by unfold lvF; omega), rfl⟩, H1.pick' [] rfl rfl⟩
                                · have c23p := of_decide_eq_false c23
                                  refine region_ ?_
                                  refine wl_valE (v := .bool (decide (op = 21))) rfl (rf_eqlStr rfl rfl rfl rfl) (congrArg Value.bool (decide_eq_decide.2 (spl_eq h (k := 21) rfl))) ?_
                                  refine wl_valE (v := .bool (decide (op = 21))) rfl (rf_assign rfl) rfl ?_
                                  refine wl_nil ?_
                                  refine thn ?_
                                  refine cond_ (t := decide (op = 21)) rfl rfl (fun c23 => ?_) (fun c23 => ?_)
                                  · have c23p := of_decide_eq_true c23
                                    refine seq_ ?_
                                    refine region_ ?_
                                    refine wl_valE (v := .int .i64 (1 : Int)) rfl (rf_assign rfl) rfl ?_
                                    refine wl_valE (v := .int .i64 (1 : Int)) rfl (rf_assign rfl) rfl ?_
                                    refine wl_nil ?_
                                    refine thn ?_
                                    refine ret_ ?_
                                    refine blr (thr ?_)
                                    refine fin2 (v1 := .int .i64 (1 : Int)) (v2 := .int .i64 (1 : Int)) Try.results38 rfl rfl rfl rfl ?_
                                    exact ⟨_, ⟨tk_lv (by unfold tkF; omega) (by unfold lvF; omega), rfl⟩, H1.pick' [] rfl rfl⟩
                                  · have c23p := of_decide_eq_false c23
                                    refine seq_ ?_
                                    refine region_ ?_
                                    refine wl_valE (v := .bool (decide (op = 3))) rfl (rf_eqlStr rfl rfl rfl rfl) (congrArg Value.bool (decide_eq_decide.2 (spl_eq h (k := 3) rfl))) ?_
                                    refine wl_valE (v := .bool (decide (op = 3))) rfl (rf_assign rfl) rfl ?_
                                    refine wl_nil ?_
                                    refine thn ?_
                                    refine cond_ (t := decide (op = 3)) rfl rfl (fun c27 => ?_) (fun c27 => ?_)
                                    · have c27p := of_decide_eq_true c27
                                      refine seq_ ?_
                                      refine region_ ?_
                                      refine wl_valE (v := .int .i64 (1 : Int)) rfl (rf_assign rfl) rfl ?_
                                      refine wl_valE (v := .int .i64 (2 : Int)) rfl (rf_assign rfl) rfl ?_
                                      refine wl_nil ?_
                                      refine thn ?_
                                      refine ret_ ?_
                                      refine blr (thr ?_)
                                      refine fin2 (v1 := .int .i64 (1 : Int)) (v2 := .int .i64 (2 : Int)) Try.results38 rfl rfl rfl rfl ?_
                                      exact ⟨_, ⟨tk_lv (by unfold tkF; omega) (by unfold lvF; omega), rfl⟩, H1.pick' [] rfl rfl⟩
                                    · have c27p := of_decide_eq_false c27
                                      refine seq_ ?_
                                      refine region_ ?_
                                      refine wl_valE (v := .bool (decide (op = 34))) rfl (rf_eqlStr rfl rfl rfl rfl) (congrArg Value.bool (decide_eq_decide.2 (spl_eq h (k := 34) rfl))) ?_
                                      refine wl_valE (v := .bool (decide (op = 34))) rfl (rf_assign rfl) rfl ?_
                                      refine wl_nil ?_
                                      refine thn ?_
                                      refine cond_ (t := decide (op = 34)) rfl rfl (fun c29 => ?_) (fun c29 => ?_)
                                      · have c29p := of_decide_eq_true c29
                                        refine seq_ ?_
                                        refine region_ ?_
                                        refine wl_valE (v := .int .i64 (2 : Int)) rfl (rf_assign rfl) rfl ?_
                                        refine wl_valE (v := .int .i64 (0 : Int)) rfl (rf_assign rfl) rfl ?_
                                        refine wl_nil ?_
                                        refine thn ?_
                                        refine ret_ ?_
                                        refine blr (thr ?_)
                                        refine fin2 (v1 := .int .i64 (2 : Int)) (v2 := .int .i64 (0 : Int)) Try.results38 rfl rfl rfl rfl ?_
                                        exact ⟨_, ⟨tk_lv (by unfold tkF; omega) (by unfold lvF; omega), rfl⟩, H1.pick' [] rfl rfl⟩
                                      · have c29p := of_decide_eq_false c29
                                        refine skip_ ?_
                                        refine bln ?_
                                        refine thn ?_
                                        refine seq_ ?_
                                        refine region_ ?_
                                        refine wl_valE (v := .int .i64 (2 : Int)) rfl (rf_assign rfl) rfl ?_
                                        refine wl_valE (v := .int .i64 (1 : Int)) rfl (rf_assign rfl) rfl ?_
                                        refine wl_nil ?_
                                        refine thn ?_
                                        refine ret_ ?_
                                        refine fin2 (v1 := .int .i64 (2 : Int)) (v2 := .int .i64 (1 : Int)) Try.results38 rfl rfl rfl rfl ?_
                                        exact ⟨_, ⟨tk_lv (by unfold tkF; omega) (by unfold lvF; omega), rfl⟩, H1.pick' [] rfl rfl⟩
theorem moves_tr (op : Int) : Tr Try.prog 33 [.int .i64 op] [] [] (fun v m => v = .tuple #[.int .i64 (tkF op), .int .i64 (lvF op)] ∧ m = []) := by
  intro w0 S0 H0
  refine enterR Try.func33 rfl Try.ntmps33 rfl ?_
  intro g0
  refine seq_ ?_
  refine region_ ?_
  refine wl_valE (v := .int .i64 (0 : Int)) rfl (rf_assign rfl) rfl ?_
  refine wl_valE (v := .int .i64 (0 : Int)) rfl (rf_assign rfl) rfl ?_
  refine wl_nil ?_
  refine thn ?_
  refine seq_ ?_
  refine region_ ?_
  refine wl_valE (v := .int .i64 (0 : Int)) rfl (rf_assign rfl) rfl ?_
  refine wl_valE (v := .int .i64 (0 : Int)) rfl (rf_assign rfl) rfl ?_
  refine wl_nil ?_
  refine thn ?_
  refine seq_ ?_
  refine seq_ ?_
  refine region_ ?_
  refine wl_valE (v := .int .i64 op) rfl (rf_move rfl) rfl ?_
  refine wl_nil ?_
  refine thn ?_
  refine block_ ?_
  refine seq_ ?_
  refine block_ ?_
  refine seq_ ?_
  refine block_ ?_
  refine seq_ ?_
  refine block_ ?_
  refine seq_ ?_
  refine block_ ?_
  refine seq_ ?_
  refine block_ ?_
  refine seq_ ?_
  refine block_ ?_
  refine seq_ ?_
  refine block_ ?_
  refine seq_ ?_
  refine seq_ ?_
  refine seq_ ?_
  refine region_ ?_
  refine wl_valE (v := .bool (decide (op = (34 : Int)))) rfl (rf_eql rfl rfl rfl rfl) rfl ?_
  refine wl_valE (v := .bool (decide (op = (34 : Int)))) rfl (rf_assign rfl) rfl ?_
  refine wl_nil ?_
  refine thn ?_
  refine cond_ (t := decide (op = (34 : Int))) rfl rfl (fun c7 => ?_) (fun c7 => ?_)
  · have c7p := of_decide_eq_true c7
    refine exit_ ?_
    refine thx (thx (blx ?_))
    refine thn ?_
    refine region_ ?_
    refine wl_valE (v := .int .i64 (0 : Int)) rfl (rf_move rfl) rfl ?_
    refine wl_valE (v := .int .i64 ((0 + 1 : Nat) : Int)) rfl (rf_add rfl rfl rfl rfl (IntWalk.i64_in _ (by omega))) rfl ?_
    refine wl_valE (v := .int .i64 ((0 + 1 : Nat) : Int)) rfl (rf_assign rfl) rfl ?_
    refine wl_nil ?_
    refine bln ?_
    refine thn ?_
    refine seq_ ?_
    refine region_ ?_
    refine wl_valE (v := .int .i64 ((0 + 1 : Nat) : Int)) rfl (rf_move rfl) rfl ?_
    refine wl_valE (v := .int .i64 ((0 + 1 + 1 : Nat) : Int)) rfl (rf_add rfl rfl rfl rfl (IntWalk.i64_in _ (by omega))) rfl ?_
    refine wl_valE (v := .int .i64 ((0 + 1 + 1 : Nat) : Int)) rfl (rf_assign rfl) rfl ?_
    refine wl_nil ?_
    refine thn ?_
    refine exit_ ?_
    refine blo rfl (thx (blo rfl (thx (blo rfl (thx (blo rfl (thx (blo rfl (thx (blx ?_))))))))))
    refine thn ?_
    refine seq_ ?_
    refine region_ ?_
    refine wl_valE (v := .int .i64 ((0 + 1 + 1 : Nat) : Int)) rfl (rf_move rfl) rfl ?_
    refine wl_valE (v := .int .i64 (0 : Int)) rfl (rf_move rfl) rfl ?_
    refine wl_valE (v := .int .i64 ((0 + 1 + 1 : Nat) : Int)) rfl (rf_assign rfl) rfl ?_
    refine wl_valE (v := .int .i64 (0 : Int)) rfl (rf_assign rfl) rfl ?_
    refine wl_nil ?_
    refine thn ?_
    refine ret_ ?_
    refine fin2 (v1 := .int .i64 ((0 + 1 + 1 : Nat) : Int)) (v2 := .int .i64 (0 : Int)) Try.results33 rfl rfl rfl rfl ?_
    exact ⟨_, ⟨tk_lv (by unfold tkF; omega) (by unfold lvF; omega), rfl⟩, H0.pick' [] rfl rfl⟩
  · have c7p := of_decide_eq_false c7
    refine skip_ ?_
    refine thn ?_
    refine seq_ ?_
    refine seq_ ?_
    refine seq_ ?_
    refine region_ ?_
    refine wl_valE (v := .bool (decide (op = (2 : Int)))) rfl (rf_eql rfl rfl rfl rfl) rfl ?_
    refine wl_valE (v := .bool (decide (op = (2 : Int)))) rfl (rf_assign rfl) rfl ?_
    refine wl_nil ?_
    refine thn ?_
    refine cond_ (t := decide (op = (2 : Int))) rfl rfl (fun c9 => ?_) (fun c9 => ?_)
    · have c9p := of_decide_eq_true c9
      refine skip_ ?_
      refine thn ?_
      refine condT' rfl rfl (t := decide (op = (2 : Int))) (c9) ?_
      refine exit_ ?_
      refine thx (thx (blo rfl (thx (blx ?_))))
      refine thn ?_
      refine seq_ ?_
      refine region_ ?_
      refine wl_valE (v := .int .i64 (0 : Int)) rfl (rf_move rfl) rfl ?_
      refine wl_valE (v := .int .i64 ((0 + 1 : Nat) : Int)) rfl (rf_add rfl rfl rfl rfl (IntWalk.i64_in _ (by omega))) rfl ?_
      refine wl_valE (v := .int .i64 ((0 + 1 : Nat) : Int)) rfl (rf_assign rfl) rfl ?_
      refine wl_nil ?_
      refine thn ?_
      refine exit_ ?_
      refine blo rfl (thx (blo rfl (thx (blo rfl (thx (blo rfl (thx (blo rfl (thx (blx ?_))))))))))
      refine thn ?_
      refine seq_ ?_
      refine region_ ?_
      refine wl_valE (v := .int .i64 ((0 + 1 : Nat) : Int)) rfl (rf_move rfl) rfl ?_
      refine wl_valE (v := .int .i64 (0 : Int)) rfl (rf_move rfl) rfl ?_
      refine wl_valE (v := .int .i64 ((0 + 1 : Nat) : Int)) rfl (rf_assign rfl) rfl ?_
      refine wl_valE (v := .int .i64 (0 : Int)) rfl (rf_assign rfl) rfl ?_
      refine wl_nil ?_
      refine thn ?_
      refine ret_ ?_
      refine fin2 (v1 := .int .i64 ((0 + 1 : Nat) : Int)) (v2 := .int .i64 (0 : Int)) Try.results33 rfl rfl rfl rfl ?_
      exact ⟨_, ⟨tk_lv (by unfold tkF; omega) (by unfold lvF; omega), rfl⟩, H0.pick' [] rfl rfl⟩
    · have c9p := of_decide_eq_false c9
      refine seq_ ?_
      refine region_ ?_
      refine wl_valE (v := .bool (decide (op = (5 : Int)))) rfl (rf_eql rfl rfl rfl rfl) rfl ?_
      refine wl_valE (v := .bool (decide (op = (5 : Int)))) rfl (rf_assign rfl) rfl ?_
      refine wl_nil ?_
      refine thn ?_
      refine cond_ (t := decide (op = (5 : Int))) rfl rfl (fun c9 => ?_) (fun c9 => ?_)
      · have c9p := of_decide_eq_true c9
        refine skip_ ?_
        refine thn ?_
        refine condT' rfl rfl (t := decide (op = (5 : Int))) (c9) ?_
        refine exit_ ?_
        refine thx (thx (blo rfl (thx (blx ?_))))
        refine thn ?_
        refine seq_ ?_
        refine region_ ?_
        refine wl_valE (v := .int .i64 (0 : Int)) rfl (rf_move rfl) rfl ?_
        refine wl_valE (v := .int .i64 ((0 + 1 : Nat) : Int)) rfl (rf_add rfl rfl rfl rfl (IntWalk.i64_in _ (by omega))) rfl ?_
        refine wl_valE (v := .int .i64 ((0 + 1 : Nat) : Int)) rfl (rf_assign rfl) rfl ?_
        refine wl_nil ?_
        refine thn ?_
        refine exit_ ?_
        refine blo rfl (thx (blo rfl (thx (blo rfl (thx (blo rfl (thx (blo rfl (thx (blx ?_))))))))))
        refine thn ?_
        refine seq_ ?_
        refine region_ ?_
        refine wl_valE (v := .int .i64 ((0 + 1 : Nat) : Int)) rfl (rf_move rfl) rfl ?_
        refine wl_valE (v := .int .i64 (0 : Int)) rfl (rf_move rfl) rfl ?_
        refine wl_valE (v := .int .i64 ((0 + 1 : Nat) : Int)) rfl (rf_assign rfl) rfl ?_
        refine wl_valE (v := .int .i64 (0 : Int)) rfl (rf_assign rfl) rfl ?_
        refine wl_nil ?_
        refine thn ?_
        refine ret_ ?_
        refine fin2 (v1 := .int .i64 ((0 + 1 : Nat) : Int)) (v2 := .int .i64 (0 : Int)) Try.results33 rfl rfl rfl rfl ?_
        exact ⟨_, ⟨tk_lv (by unfold tkF; omega) (by unfold lvF; omega), rfl⟩, H0.pick' [] rfl rfl⟩
      · have c9p := of_decide_eq_false c9
        refine seq_ ?_
        refine region_ ?_
        refine wl_valE (v := .bool (decide (op = (31 : Int)))) rfl (rf_eql rfl rfl rfl rfl) rfl ?_
        refine wl_valE (v := .bool (decide (op = (31 : Int)))) rfl (rf_assign rfl) rfl ?_
        refine wl_nil ?_
        refine thn ?_
        refine cond_ (t := decide (op = (31 : Int))) rfl rfl (fun c9 => ?_) (fun c9 => ?_)
        · have c9p := of_decide_eq_true c9
          refine skip_ ?_
          refine thn ?_
          refine condT' rfl rfl (t := decide (op = (31 : Int))) (c9) ?_
          refine exit_ ?_
          refine thx (thx (blo rfl (thx (blx ?_))))
          refine thn ?_
          refine seq_ ?_
          refine region_ ?_
          refine wl_valE (v := .int .i64 (0 : Int)) rfl (rf_move rfl) rfl ?_
          refine wl_valE (v := .int .i64 ((0 + 1 : Nat) : Int)) rfl (rf_add rfl rfl rfl rfl (IntWalk.i64_in _ (by omega))) rfl ?_
          refine wl_valE (v := .int .i64 ((0 + 1 : Nat) : Int)) rfl (rf_assign rfl) rfl ?_
          refine wl_nil ?_
          refine thn ?_
          refine exit_ ?_
          refine blo rfl (thx (blo rfl (thx (blo rfl (thx (blo rfl (thx (blo rfl (thx (blx ?_))))))))))
          refine thn ?_
          refine seq_ ?_
          refine region_ ?_
          refine wl_valE (v := .int .i64 ((0 + 1 : Nat) : Int)) rfl (rf_move rfl) rfl ?_
          refine wl_valE (v := .int .i64 (0 : Int)) rfl (rf_move rfl) rfl ?_
          refine wl_valE (v := .int .i64 ((0 + 1 : Nat) : Int)) rfl (rf_assign rfl) rfl ?_
          refine wl_valE (v := .int .i64 (0 : Int)) rfl (rf_assign rfl) rfl ?_
          refine wl_nil ?_
          refine thn ?_
          refine ret_ ?_
          refine fin2 (v1 := .int .i64 ((0 + 1 : Nat) : Int)) (v2 := .int .i64 (0 : Int)) Try.results33 rfl rfl rfl rfl ?_
          exact ⟨_, ⟨tk_lv (by unfold tkF; omega) (by unfold lvF; omega), rfl⟩, H0.pick' [] rfl rfl⟩
        · have c9p := of_decide_eq_false c9
          refine seq_ ?_
          refine region_ ?_
          refine wl_valE (v := .bool (decide (op = (32 : Int)))) rfl (rf_eql rfl rfl rfl rfl) rfl ?_
          refine wl_valE (v := .bool (decide (op = (32 : Int)))) rfl (rf_assign rfl) rfl ?_
          refine wl_nil ?_
          refine thn ?_
          refine cond_ (t := decide (op = (32 : Int))) rfl rfl (fun c9 => ?_) (fun c9 => ?_)
          · have c9p := of_decide_eq_true c9
            refine skip_ ?_
            refine thn ?_
            refine condT' rfl rfl (t := decide (op = (32 : Int))) (c9) ?_
            refine exit_ ?_
            refine thx (thx (blo rfl (thx (blx ?_))))
            refine thn ?_
            refine seq_ ?_
            refine region_ ?_
            refine wl_valE (v := .int .i64 (0 : Int)) rfl (rf_move rfl) rfl ?_
            refine wl_valE (v := .int .i64 ((0 + 1 : Nat) : Int)) rfl (rf_add rfl rfl rfl rfl (IntWalk.i64_in _ (by omega))) rfl ?_
            refine wl_valE (v := .int .i64 ((0 + 1 : Nat) : Int)) rfl (rf_assign rfl) rfl ?_
            refine wl_nil ?_
            refine thn ?_
            refine exit_ ?_
            refine blo rfl (thx (blo rfl (thx (blo rfl (thx (blo rfl (thx (blo rfl (thx (blx ?_))))))))))
            refine thn ?_
            refine seq_ ?_
            refine region_ ?_
            refine wl_valE (v := .int .i64 ((0 + 1 : Nat) : Int)) rfl (rf_move rfl) rfl ?_
            refine wl_valE (v := .int .i64 (0 : Int)) rfl (rf_move rfl) rfl ?_
            refine wl_valE (v := .int .i64 ((0 + 1 : Nat) : Int)) rfl (rf_assign rfl) rfl ?_
            refine wl_valE (v := .int .i64 (0 : Int)) rfl (rf_assign rfl) rfl ?_
            refine wl_nil ?_
            refine thn ?_
            refine ret_ ?_
            refine fin2 (v1 := .int .i64 ((0 + 1 : Nat) : Int)) (v2 := .int .i64 (0 : Int)) Try.results33 rfl rfl rfl rfl ?_
            exact ⟨_, ⟨tk_lv (by unfold tkF; omega) (by unfold lvF; omega), rfl⟩, H0.pick' [] rfl rfl⟩
          · have c9p := of_decide_eq_false c9
            refine seq_ ?_
            refine region_ ?_
            refine wl_valE (v := .bool (decide (op = (35 : Int)))) rfl (rf_eql rfl rfl rfl rfl) rfl ?_
            refine wl_valE (v := .bool (decide (op = (35 : Int)))) rfl (rf_assign rfl) rfl ?_
            refine wl_nil ?_
            refine thn ?_
            refine cond_ (t := decide (op = (35 : Int))) rfl rfl (fun c9 => ?_) (fun c9 => ?_)
            · have c9p := of_decide_eq_true c9
              refine skip_ ?_
              refine thn ?_
              refine condT' rfl rfl (t := decide (op = (35 : Int))) (c9) ?_
              refine exit_ ?_
              refine thx (thx (blo rfl (thx (blx ?_))))
              refine thn ?_
              refine seq_ ?_
              refine region_ ?_
              refine wl_valE (v := .int .i64 (0 : Int)) rfl (rf_move rfl) rfl ?_
              refine wl_valE (v := .int .i64 ((0 + 1 : Nat) : Int)) rfl (rf_add rfl rfl rfl rfl (IntWalk.i64_in _ (by omega))) rfl ?_
              refine wl_valE (v := .int .i64 ((0 + 1 : Nat) : Int)) rfl (rf_assign rfl) rfl ?_
              refine wl_nil ?_
              refine thn ?_
              refine exit_ ?_
              refine blo rfl (thx (blo rfl (thx (blo rfl (thx (blo rfl (thx (blo rfl (thx (blx ?_))))))))))
              refine thn ?_
              refine seq_ ?_
              refine region_ ?_
              refine wl_valE (v := .int .i64 ((0 + 1 : Nat) : Int)) rfl (rf_move rfl) rfl ?_
              refine wl_valE (v := .int .i64 (0 : Int)) rfl (rf_move rfl) rfl ?_
              refine wl_valE (v := .int .i64 ((0 + 1 : Nat) : Int)) rfl (rf_assign rfl) rfl ?_
              refine wl_valE (v := .int .i64 (0 : Int)) rfl (rf_assign rfl) rfl ?_
              refine wl_nil ?_
              refine thn ?_
              refine ret_ ?_
              refine fin2 (v1 := .int .i64 ((0 + 1 : Nat) : Int)) (v2 := .int .i64 (0 : Int)) Try.results33 rfl rfl rfl rfl ?_
              exact ⟨_, ⟨tk_lv (by unfold tkF; omega) (by unfold lvF; omega), rfl⟩, H0.pick' [] rfl rfl⟩
            · have c9p := of_decide_eq_false c9
              refine region_ ?_
              refine wl_valE (v := .bool (decide (op = (36 : Int)))) rfl (rf_eql rfl rfl rfl rfl) rfl ?_
              refine wl_valE (v := .bool (decide (op = (36 : Int)))) rfl (rf_assign rfl) rfl ?_
              refine wl_nil ?_
              refine thn ?_
              refine cond_ (t := decide (op = (36 : Int))) rfl rfl (fun c9 => ?_) (fun c9 => ?_)
              · have c9p := of_decide_eq_true c9
                refine exit_ ?_
                refine thx (thx (blo rfl (thx (blx ?_))))
                refine thn ?_
                refine seq_ ?_
                refine region_ ?_
                refine wl_valE (v := .int .i64 (0 : Int)) rfl (rf_move rfl) rfl ?_
                refine wl_valE (v := .int .i64 ((0 + 1 : Nat) : Int)) rfl (rf_add rfl rfl rfl rfl (IntWalk.i64_in _ (by omega))) rfl ?_
                refine wl_valE (v := .int .i64 ((0 + 1 : Nat) : Int)) rfl (rf_assign rfl) rfl ?_
                refine wl_nil ?_
                refine thn ?_
                refine exit_ ?_
                refine blo rfl (thx (blo rfl (thx (blo rfl (thx (blo rfl (thx (blo rfl (thx (blx ?_))))))))))
                refine thn ?_
                refine seq_ ?_
                refine region_ ?_
                refine wl_valE (v := .int .i64 ((0 + 1 : Nat) : Int)) rfl (rf_move rfl) rfl ?_
                refine wl_valE (v := .int .i64 (0 : Int)) rfl (rf_move rfl) rfl ?_
                refine wl_valE (v := .int .i64 ((0 + 1 : Nat) : Int)) rfl (rf_assign rfl) rfl ?_
                refine wl_valE (v := .int .i64 (0 : Int)) rfl (rf_assign rfl) rfl ?_
                refine wl_nil ?_
                refine thn ?_
                refine ret_ ?_
                refine fin2 (v1 := .int .i64 ((0 + 1 : Nat) : Int)) (v2 := .int .i64 (0 : Int)) Try.results33 rfl rfl rfl rfl ?_
                exact ⟨_, ⟨tk_lv (by unfold tkF; omega) (by unfold lvF; omega), rfl⟩, H0.pick' [] rfl rfl⟩
              · have c9p := of_decide_eq_false c9
                refine skip_ ?_
                refine thn ?_
                refine seq_ ?_
                refine seq_ ?_
                refine region_ ?_
                refine wl_valE (v := .bool (decide (op = (3 : Int)))) rfl (rf_eql rfl rfl rfl rfl) rfl ?_
                refine wl_valE (v := .bool (decide (op = (3 : Int)))) rfl (rf_assign rfl) rfl ?_
                refine wl_nil ?_
                refine thn ?_
                refine cond_ (t := decide (op = (3 : Int))) rfl rfl (fun c16 => ?_) (fun c16 => ?_)
                · have c16p := of_decide_eq_true c16
                  refine exit_ ?_
                  refine thx (thx (blo rfl (thx (blo rfl (thx (blx ?_))))))
                  refine thn ?_
                  refine region_ ?_
                  refine wl_valE (v := .int .i64 (0 : Int)) rfl (rf_move rfl) rfl ?_
                  refine wl_valE (v := .int .i64 ((0 + 1 : Nat) : Int)) rfl (rf_add rfl rfl rfl rfl (IntWalk.i64_in _ (by omega))) rfl ?_
                  refine wl_valE (v := .int .i64 ((0 + 1 : Nat) : Int)) rfl (rf_assign rfl) rfl ?_
                  refine wl_nil ?_
                  refine bln ?_
                  refine thn ?_
                  refine region_ ?_
                  refine wl_valE (v := .int .i64 (0 : Int)) rfl (rf_move rfl) rfl ?_
                  refine wl_valE (v := .int .i64 ((0 + 1 : Nat) : Int)) rfl (rf_add rfl rfl rfl rfl (IntWalk.i64_in _ (by omega))) rfl ?_
                  refine wl_valE (v := .int .i64 ((0 + 1 : Nat) : Int)) rfl (rf_assign rfl) rfl ?_
                  refine wl_nil ?_
                  refine bln ?_
                  refine thn ?_
                  refine seq_ ?_
                  refine region_ ?_
                  refine wl_valE (v := .int .i64 ((0 + 1 : Nat) : Int)) rfl (rf_move rfl) rfl ?_
                  refine wl_valE (v := .int .i64 ((0 + 1 + 1 : Nat) : Int)) rfl (rf_add rfl rfl rfl rfl (IntWalk.i64_in _ (by omega))) rfl ?_
                  refine wl_valE (v := .int .i64 ((0 + 1 + 1 : Nat) : Int)) rfl (rf_assign rfl) rfl ?_
                  refine wl_nil ?_
                  refine thn ?_
                  refine exit_ ?_
                  refine blo rfl (thx (blo rfl (thx (blx ?_))))
                  refine thn ?_
                  refine seq_ ?_
                  refine region_ ?_
                  refine wl_valE (v := .int .i64 ((0 + 1 : Nat) : Int)) rfl (rf_move rfl) rfl ?_
                  refine wl_valE (v := .int .i64 ((0 + 1 + 1 : Nat) : Int)) rfl (rf_move rfl) rfl ?_
                  refine wl_valE (v := .int .i64 ((0 + 1 : Nat) : Int)) rfl (rf_assign rfl) rfl ?_
                  refine wl_valE (v := .int .i64 ((0 + 1 + 1 : Nat) : Int)) rfl (rf_assign rfl) rfl ?_
                  refine wl_nil ?_
                  refine thn ?_
                  refine ret_ ?_
                  refine fin2 (v1 := .int .i64 ((0 + 1 : Nat) : Int)) (v2 := .int .i64 ((0 + 1 + 1 : Nat) : Int)) Try.results33 rfl rfl rfl rfl ?_
                  exact ⟨_, ⟨tk_lv (by unfold tkF; omega) (by unfold lvF; omega), rfl⟩, H0.pick' [] rfl rfl⟩
                · have c16p := of_decide_eq_false c16
                  refine skip_ ?_
                  refine thn ?_
                  refine seq_ ?_
                  refine seq_ ?_
                  refine seq_ ?_
                  refine region_ ?_
                  refine wl_valE (v := .bool (decide (op = (9 : Int)))) rfl (rf_eql rfl rfl rfl rfl) rfl ?_
                  refine wl_valE (v := .bool (decide (op = (9 : Int)))) rfl (rf_assign rfl) rfl ?_
                  refine wl_nil ?_
                  refine thn ?_
                  refine cond_ (t := decide (op = (9 : Int))) rfl rfl (fun c18 => ?_) (fun c18 => ?_)
                  · have c18p := of_decide_eq_true c18
                    refine skip_ ?_
                    refine thn ?_
                    refine condT' rfl rfl (t := decide (op = (9 : Int))) (c18) ?_
                    refine exit_ ?_
                    refine thx (thx (blo rfl (thx (blo rfl (thx (blo rfl (thx (blx ?_))))))))
                    refine thn ?_
                    refine region_ ?_
                    refine wl_valE (v := .int .i64 (0 : Int)) rfl (rf_move rfl) rfl ?_
                    refine wl_valE (v := .int .i64 ((0 + 1 : Nat) : Int)) rfl (rf_add rfl rfl rfl rfl (IntWalk.i64_in _ (by omega))) rfl ?_
                    refine wl_valE (v := .int .i64 ((0 + 1 : Nat) : Int)) rfl (rf_assign rfl) rfl ?_
                    refine wl_nil ?_
                    refine bln ?_
                    refine thn ?_
                    refine seq_ ?_
                    refine region_ ?_
                    refine wl_valE (v := .int .i64 (0 : Int)) rfl (rf_move rfl) rfl ?_
                    refine wl_valE (v := .int .i64 ((0 + 1 : Nat) : Int)) rfl (rf_add rfl rfl rfl rfl (IntWalk.i64_in _ (by omega))) rfl ?_
                    refine wl_valE (v := .int .i64 ((0 + 1 : Nat) : Int)) rfl (rf_assign rfl) rfl ?_
                    refine wl_nil ?_
                    refine thn ?_
                    refine exit_ ?_
                    refine blo rfl (thx (blo rfl (thx (blx ?_))))
                    refine thn ?_
                    refine seq_ ?_
                    refine region_ ?_
                    refine wl_valE (v := .int .i64 ((0 + 1 : Nat) : Int)) rfl (rf_move rfl) rfl ?_
                    refine wl_valE (v := .int .i64 ((0 + 1 : Nat) : Int)) rfl (rf_move rfl) rfl ?_
                    refine wl_valE (v := .int .i64 ((0 + 1 : Nat) : Int)) rfl (rf_assign rfl) rfl ?_
                    refine wl_valE (v := .int .i64 ((0 + 1 : Nat) : Int)) rfl (rf_assign rfl) rfl ?_
                    refine wl_nil ?_
                    refine thn ?_
                    refine ret_ ?_
                    refine fin2 (v1 := .int .i64 ((0 + 1 : Nat) : Int)) (v2 := .int .i64 ((0 + 1 : Nat) : Int)) Try.results33 rfl rfl rfl rfl ?_
                    exact ⟨_, ⟨tk_lv (by unfold tkF; omega) (by unfold lvF; omega), rfl⟩, H0.pick' [] rfl rfl⟩
                  · have c18p := of_decide_eq_false c18
                    refine seq_ ?_
                    refine region_ ?_
                    refine wl_valE (v := .bool (decide (op = (20 : Int)))) rfl (rf_eql rfl rfl rfl rfl) rfl ?_
                    refine wl_valE (v := .bool (decide (op = (20 : Int)))) rfl (rf_assign rfl) rfl ?_
                    refine wl_nil ?_
                    refine thn ?_
                    refine cond_ (t := decide (op = (20 : Int))) rfl rfl (fun c18 => ?_) (fun c18 => ?_)
                    · have c18p := of_decide_eq_true c18
                      refine skip_ ?_
                      refine thn ?_
                      refine condT' rfl rfl (t := decide (op = (20 : Int))) (c18) ?_
                      refine exit_ ?_
                      refine thx (thx (blo rfl (thx (blo rfl (thx (blo rfl (thx (blx ?_))))))))
                      refine thn ?_
                      refine region_ ?_
                      refine wl_valE (v := .int .i64 (0 : Int)) rfl (rf_move rfl) rfl ?_
                      refine wl_valE (v := .int .i64 ((0 + 1 : Nat) : Int)) rfl (rf_add rfl rfl rfl rfl (IntWalk.i64_in _ (by omega))) rfl ?_
                      refine wl_valE (v := .int .i64 ((0 + 1 : Nat) : Int)) rfl (rf_assign rfl) rfl ?_
                      refine wl_nil ?_
                      refine bln ?_
                      refine thn ?_
                      refine seq_ ?_
                      refine region_ ?_
                      refine wl_valE (v := .int .i64 (0 : Int)) rfl (rf_move rfl) rfl ?_
                      refine wl_valE (v := .int .i64 ((0 + 1 : Nat) : Int)) rfl (rf_add rfl rfl rfl rfl (IntWalk.i64_in _ (by omega))) rfl ?_
                      refine wl_valE (v := .int .i64 ((0 + 1 : Nat) : Int)) rfl (rf_assign rfl) rfl ?_
                      refine wl_nil ?_
                      refine thn ?_
                      refine exit_ ?_
                      refine blo rfl (thx (blo rfl (thx (blx ?_))))
                      refine thn ?_
                      refine seq_ ?_
                      refine region_ ?_
                      refine wl_valE (v := .int .i64 ((0 + 1 : Nat) : Int)) rfl (rf_move rfl) rfl ?_
                      refine wl_valE (v := .int .i64 ((0 + 1 : Nat) : Int)) rfl (rf_move rfl) rfl ?_
                      refine wl_valE (v := .int .i64 ((0 + 1 : Nat) : Int)) rfl (rf_assign rfl) rfl ?_
                      refine wl_valE (v := .int .i64 ((0 + 1 : Nat) : Int)) rfl (rf_assign rfl) rfl ?_
                      refine wl_nil ?_
                      refine thn ?_
                      refine ret_ ?_
                      refine fin2 (v1 := .int .i64 ((0 + 1 : Nat) : Int)) (v2 := .int .i64 ((0 + 1 : Nat) : Int)) Try.results33 rfl rfl rfl rfl ?_
                      exact ⟨_, ⟨tk_lv (by unfold tkF; omega) (by unfold lvF; omega), rfl⟩, H0.pick' [] rfl rfl⟩
                    · have c18p := of_decide_eq_false c18
                      refine region_ ?_
                      refine wl_valE (v := .bool (decide (op = (21 : Int)))) rfl (rf_eql rfl rfl rfl rfl) rfl ?_
                      refine wl_valE (v := .bool (decide (op = (21 : Int)))) rfl (rf_assign rfl) rfl ?_
                      refine wl_nil ?_
                      refine thn ?_
                      refine cond_ (t := decide (op = (21 : Int))) rfl rfl (fun c18 => ?_) (fun c18 => ?_)
                      · have c18p := of_decide_eq_true c18
                        refine exit_ ?_
                        refine thx (thx (blo rfl (thx (blo rfl (thx (blo rfl (thx (blx ?_))))))))
                        refine thn ?_
                        refine region_ ?_
                        refine wl_valE (v := .int .i64 (0 : Int)) rfl (rf_move rfl) rfl ?_
                        refine wl_valE (v := .int .i64 ((0 + 1 : Nat) : Int)) rfl (rf_add rfl rfl rfl rfl (IntWalk.i64_in _ (by omega))) rfl ?_
                        refine wl_valE (v := .int .i64 ((0 + 1 : Nat) : Int)) rfl (rf_assign rfl) rfl ?_
                        refine wl_nil ?_
                        refine bln ?_
                        refine thn ?_
                        refine seq_ ?_
                        refine region_ ?_
                        refine wl_valE (v := .int .i64 (0 : Int)) rfl (rf_move rfl) rfl ?_
                        refine wl_valE (v := .int .i64 ((0 + 1 : Nat) : Int)) rfl (rf_add rfl rfl rfl rfl (IntWalk.i64_in _ (by omega))) rfl ?_
                        refine wl_valE (v := .int .i64 ((0 + 1 : Nat) : Int)) rfl (rf_assign rfl) rfl ?_
                        refine wl_nil ?_
                        refine thn ?_
                        refine exit_ ?_
                        refine blo rfl (thx (blo rfl (thx (blx ?_))))
                        refine thn ?_
                        refine seq_ ?_
                        refine region_ ?_
                        refine wl_valE (v := .int .i64 ((0 + 1 : Nat) : Int)) rfl (rf_move rfl) rfl ?_
                        refine wl_valE (v := .int .i64 ((0 + 1 : Nat) : Int)) rfl (rf_move rfl) rfl ?_
                        refine wl_valE (v := .int .i64 ((0 + 1 : Nat) : Int)) rfl (rf_assign rfl) rfl ?_
                        refine wl_valE (v := .int .i64 ((0 + 1 : Nat) : Int)) rfl (rf_assign rfl) rfl ?_
                        refine wl_nil ?_
                        refine thn ?_
                        refine ret_ ?_
                        refine fin2 (v1 := .int .i64 ((0 + 1 : Nat) : Int)) (v2 := .int .i64 ((0 + 1 : Nat) : Int)) Try.results33 rfl rfl rfl rfl ?_
                        exact ⟨_, ⟨tk_lv (by unfold tkF; omega) (by unfold lvF; omega), rfl⟩, H0.pick' [] rfl rfl⟩
                      · have c18p := of_decide_eq_false c18
                        refine skip_ ?_
                        refine thn ?_
                        refine seq_ ?_
                        refine seq_ ?_
                        refine seq_ ?_
                        refine region_ ?_
                        refine wl_valE (v := .bool (decide (op = (1 : Int)))) rfl (rf_eql rfl rfl rfl rfl) rfl ?_
                        refine wl_valE (v := .bool (decide (op = (1 : Int)))) rfl (rf_assign rfl) rfl ?_
                        refine wl_nil ?_
                        refine thn ?_
                        refine cond_ (t := decide (op = (1 : Int))) rfl rfl (fun c22 => ?_) (fun c22 => ?_)
                        · have c22p := of_decide_eq_true c22
                          refine skip_ ?_
                          refine thn ?_
                          refine condT' rfl rfl (t := decide (op = (1 : Int))) (c22) ?_
                          refine exit_ ?_
                          refine thx (thx (blo rfl (thx (blo rfl (thx (blo rfl (thx (blo rfl (thx (blx ?_))))))))))
                          refine thn ?_
                          refine seq_ ?_
                          refine region_ ?_
                          refine wl_valE (v := .int .i64 (0 : Int)) rfl (rf_move rfl) rfl ?_
                          refine wl_valE (v := .int .i64 ((0 + 1 : Nat) : Int)) rfl (rf_add rfl rfl rfl rfl (IntWalk.i64_in _ (by omega))) rfl ?_
                          refine wl_valE (v := .int .i64 ((0 + 1 : Nat) : Int)) rfl (rf_assign rfl) rfl ?_
                          refine wl_nil ?_
                          refine thn ?_
                          refine exit_ ?_
                          refine blo rfl (thx (blo rfl (thx (blx ?_))))
                          refine thn ?_
                          refine seq_ ?_
                          refine region_ ?_
                          refine wl_valE (v := .int .i64 (0 : Int)) rfl (rf_move rfl) rfl ?_
                          refine wl_valE (v := .int .i64 ((0 + 1 : Nat) : Int)) rfl (rf_move rfl) rfl ?_
                          refine wl_valE (v := .int .i64 (0 : Int)) rfl (rf_assign rfl) rfl ?_
                          refine wl_valE (v := .int .i64 ((0 + 1 : Nat) : Int)) rfl (rf_assign rfl) rfl ?_
                          refine wl_nil ?_
                          refine thn ?_
                          refine ret_ ?_
                          refine fin2 (v1 := .int .i64 (0 : Int)) (v2 := .int .i64 ((0 + 1 : Nat) : Int)) Try.results33 rfl rfl rfl rfl ?_
                          exact ⟨_, ⟨tk_lv (by unfold tkF; omega) (by unfold lvF; omega), rfl⟩, H0.pick' [] rfl rfl⟩
                        · have c22p := of_decide_eq_false c22
                          refine seq_ ?_
                          refine region_ ?_
                          refine wl_valE (v := .bool (decide (op = (4 : Int)))) rfl (rf_eql rfl rfl rfl rfl) rfl ?_
                          refine wl_valE (v := .bool (decide (op = (4 : Int)))) rfl (rf_assign rfl) rfl ?_
                          refine wl_nil ?_
                          refine thn ?_
                          refine cond_ (t := decide (op = (4 : Int))) rfl rfl (fun c22 => ?_) (fun c22 => ?_)
                          · have c22p := of_decide_eq_true c22
                            refine skip_ ?_
                            refine thn ?_
                            refine condT' rfl rfl (t := decide (op = (4 : Int))) (c22) ?_
                            refine exit_ ?_
                            refine thx (thx (blo rfl (thx (blo rfl (thx (blo rfl (thx (blo rfl (thx (blx ?_))))))))))
                            refine thn ?_
                            refine seq_ ?_
                            refine region_ ?_
                            refine wl_valE (v := .int .i64 (0 : Int)) rfl (rf_move rfl) rfl ?_
                            refine wl_valE (v := .int .i64 ((0 + 1 : Nat) : Int)) rfl (rf_add rfl rfl rfl rfl (IntWalk.i64_in _ (by omega))) rfl ?_
                            refine wl_valE (v := .int .i64 ((0 + 1 : Nat) : Int)) rfl (rf_assign rfl) rfl ?_
                            refine wl_nil ?_
                            refine thn ?_
                            refine exit_ ?_
                            refine blo rfl (thx (blo rfl (thx (blx ?_))))
                            refine thn ?_
                            refine seq_ ?_
                            refine region_ ?_
                            refine wl_valE (v := .int .i64 (0 : Int)) rfl (rf_move rfl) rfl ?_
                            refine wl_valE (v := .int .i64 ((0 + 1 : Nat) : Int)) rfl (rf_move rfl) rfl ?_
                            refine wl_valE (v := .int .i64 (0 : Int)) rfl (rf_assign rfl) rfl ?_
                            refine wl_valE (v := .int .i64 ((0 + 1 : Nat) : Int)) rfl (rf_assign rfl) rfl ?_
                            refine wl_nil ?_
                            refine thn ?_
                            refine ret_ ?_
                            refine fin2 (v1 := .int .i64 (0 : Int)) (v2 := .int .i64 ((0 + 1 : Nat) : Int)) Try.results33 rfl rfl rfl rfl ?_
                            exact ⟨_, ⟨tk_lv (by unfold tkF; omega) (by unfold lvF; omega), rfl⟩, H0.pick' [] rfl rfl⟩
                          · have c22p := of_decide_eq_false c22
                            refine seq_ ?_
                            refine region_ ?_
                            refine wl_valE (v := .bool (decide (op = (6 : Int)))) rfl (rf_eql rfl rfl rfl rfl) rfl ?_
                            refine wl_valE (v := .bool (decide (op = (6 : Int)))) rfl (rf_assign rfl) rfl ?_
                            refine wl_nil ?_
                            refine thn ?_
                            refine cond_ (t := decide (op = (6 : Int))) rfl rfl (fun c22 => ?_) (fun c22 => ?_)
                            · have c22p := of_decide_eq_true c22
                              refine skip_ ?_
                              refine thn ?_
                              refine condT' rfl rfl (t := decide (op = (6 : Int))) (c22) ?_
                              refine exit_ ?_
                              refine thx (thx (blo rfl (thx (blo rfl (thx (blo rfl (thx (blo rfl (thx (blx ?_))))))))))
                              refine thn ?_
                              refine seq_ ?_
                              refine region_ ?_
                              refine wl_valE (v := .int .i64 (0 : Int)) rfl (rf_move rfl) rfl ?_
                              refine wl_valE (v := .int .i64 ((0 + 1 : Nat) : Int)) rfl (rf_add rfl rfl rfl rfl (IntWalk.i64_in _ (by omega))) rfl ?_
                              refine wl_valE (v := .int .i64 ((0 + 1 : Nat) : Int)) rfl (rf_assign rfl) rfl ?_
                              refine wl_nil ?_
                              refine thn ?_
                              refine exit_ ?_
                              refine blo rfl (thx (blo rfl (thx (blx ?_))))
                              refine thn ?_
                              refine seq_ ?_
                              refine region_ ?_
                              refine wl_valE (v := .int .i64 (0 : Int)) rfl (rf_move rfl) rfl ?_
                              refine wl_valE (v := .int .i64 ((0 + 1 : Nat) : Int)) rfl (rf_move rfl) rfl ?_
                              refine wl_valE (v := .int .i64 (0 : Int)) rfl (rf_assign rfl) rfl ?_
                              refine wl_valE (v := .int .i64 ((0 + 1 : Nat) : Int)) rfl (rf_assign rfl) rfl ?_
                              refine wl_nil ?_
                              refine thn ?_
                              refine ret_ ?_
                              refine fin2 (v1 := .int .i64 (0 : Int)) (v2 := .int .i64 ((0 + 1 : Nat) : Int)) Try.results33 rfl rfl rfl rfl ?_
                              exact ⟨_, ⟨tk_lv (by unfold tkF; omega) (by unfold lvF; omega), rfl⟩, H0.pick' [] rfl rfl⟩
                            · have c22p := of_decide_eq_false c22
                              refine seq_ ?_
                              refine region_ ?_
                              refine wl_valE (v := .bool (decide (op = (7 : Int)))) rfl (rf_eql rfl rfl rfl rfl) rfl ?_
                              refine wl_valE (v := .bool (decide (op = (7 : Int)))) rfl (rf_assign rfl) rfl ?_
                              refine wl_nil ?_
                              refine thn ?_
                              refine cond_ (t := decide (op = (7 : Int))) rfl rfl (fun c22 => ?_) (fun c22 => ?_)
                              · have c22p := of_decide_eq_true c22
                                refine skip_ ?_
                                refine thn ?_
                                refine condT' rfl rfl (t := decide (op = (7 : Int))) (c22) ?_
                                refine exit_ ?_
                                refine thx (thx (blo rfl (thx (blo rfl (thx (blo rfl (thx (blo rfl (thx (blx ?_))))))))))
                                refine thn ?_
                                refine seq_ ?_
                                refine region_ ?_
                                refine wl_valE (v := .int .i64 (0 : Int)) rfl (rf_move rfl) rfl ?_
                                refine wl_valE (v := .int .i64 ((0 + 1 : Nat) : Int)) rfl (rf_add rfl rfl rfl rfl (IntWalk.i64_in _ (by omega))) rfl ?_
                                refine wl_valE (v := .int .i64 ((0 + 1 : Nat) : Int)) rfl (rf_assign rfl) rfl ?_
                                refine wl_nil ?_
                                refine thn ?_
                                refine exit_ ?_
                                refine blo rfl (thx (blo rfl (thx (blx ?_))))
                                refine thn ?_
                                refine seq_ ?_
                                refine region_ ?_
                                refine wl_valE (v := .int .i64 (0 : Int)) rfl (rf_move rfl) rfl ?_
                                refine wl_valE (v := .int .i64 ((0 + 1 : Nat) : Int)) rfl (rf_move rfl) rfl ?_
                                refine wl_valE (v := .int .i64 (0 : Int)) rfl (rf_assign rfl) rfl ?_
                                refine wl_valE (v := .int .i64 ((0 + 1 : Nat) : Int)) rfl (rf_assign rfl) rfl ?_
                                refine wl_nil ?_
                                refine thn ?_
                                refine ret_ ?_
                                refine fin2 (v1 := .int .i64 (0 : Int)) (v2 := .int .i64 ((0 + 1 : Nat) : Int)) Try.results33 rfl rfl rfl rfl ?_
                                exact ⟨_, ⟨tk_lv (by unfold tkF; omega) (by unfold lvF; omega), rfl⟩, H0.pick' [] rfl rfl⟩
                              · have c22p := of_decide_eq_false c22
                                refine region_ ?_
                                refine wl_valE (v := .bool (decide (op = (8 : Int)))) rfl (rf_eql rfl rfl rfl rfl) rfl ?_
                                refine wl_valE (v := .bool (decide (op = (8 : Int)))) rfl (rf_assign rfl) rfl ?_
                                refine wl_nil ?_
                                refine thn ?_
                                refine cond_ (t := decide (op = (8 : Int))) rfl rfl (fun c22 => ?_) (fun c22 => ?_)
                                · have c22p := of_decide_eq_true c22
                                  refine exit_ ?_
                                  refine thx (thx (blo rfl (thx (blo rfl (thx (blo rfl (thx (blo rfl (thx (blx ?_))))))))))
                                  refine thn ?_
                                  refine seq_ ?_
                                  refine region_ ?_
                                  refine wl_valE (v := .int .i64 (0 : Int)) rfl (rf_move rfl) rfl ?_
                                  refine wl_valE (v := .int .i64 ((0 + 1 : Nat) : Int)) rfl (rf_add rfl rfl rfl rfl (IntWalk.i64_in _ (by omega))) rfl ?_
                                  refine wl_valE (v := .int .i64 ((0 + 1 : Nat) : Int)) rfl (rf_assign rfl) rfl ?_
                                  refine wl_nil ?_
                                  refine thn ?_
                                  refine exit_ ?_
                                  refine blo rfl (thx (blo rfl (thx (blx ?_))))
                                  refine thn ?_
                                  refine seq_ ?_
                                  refine region_ ?_
                                  refine wl_valE (v := .int .i64 (0 : Int)) rfl (rf_move rfl) rfl ?_
                                  refine wl_valE (v := .int .i64 ((0 + 1 : Nat) : Int)) rfl (rf_move rfl) rfl ?_
                                  refine wl_valE (v := .int .i64 (0 : Int)) rfl (rf_assign rfl) rfl ?_
                                  refine wl_valE (v := .int .i64 ((0 + 1 : Nat) : Int)) rfl (rf_assign rfl) rfl ?_
                                  refine wl_nil ?_
                                  refine thn ?_
                                  refine ret_ ?_
                                  refine fin2 (v1 := .int .i64 (0 : Int)) (v2 := .int .i64 ((0 + 1 : Nat) : Int)) Try.results33 rfl rfl rfl rfl ?_
                                  exact ⟨_, ⟨tk_lv (by unfold tkF; omega) (by unfold lvF; omega), rfl⟩, H0.pick' [] rfl rfl⟩
                                · have c22p := of_decide_eq_false c22
                                  refine skip_ ?_
                                  refine thn ?_
                                  refine seq_ ?_
                                  refine seq_ ?_
                                  refine region_ ?_
                                  refine wl_valE (v := .bool (decide (op = (0 : Int)))) rfl (rf_eql rfl rfl rfl rfl) rfl ?_
                                  refine wl_valE (v := .bool (decide (op = (0 : Int)))) rfl (rf_assign rfl) rfl ?_
                                  refine wl_nil ?_
                                  refine thn ?_
                                  refine cond_ (t := decide (op = (0 : Int))) rfl rfl (fun c28 => ?_) (fun c28 => ?_)
                                  · have c28p := of_decide_eq_true c28
                                    refine skip_ ?_
                                    refine thn ?_
                                    refine condT' rfl rfl (t := decide (op = (0 : Int))) (c28) ?_
                                    refine exit_ ?_
                                    refine thx (blo rfl (thx (blo rfl (thx (blo rfl (thx (blo rfl (thx (blo rfl (thx (blx ?_)))))))))))
                                    refine thn ?_
                                    refine exit_ ?_
                                    refine blo rfl (thx (blx ?_))
                                    refine thn ?_
                                    refine seq_ ?_
                                    refine region_ ?_
                                    refine wl_valE (v := .int .i64 (0 : Int)) rfl (rf_move rfl) rfl ?_
                                    refine wl_valE (v := .int .i64 (0 : Int)) rfl (rf_move rfl) rfl ?_
                                    refine wl_valE (v := .int .i64 (0 : Int)) rfl (rf_assign rfl) rfl ?_
                                    refine wl_valE (v := .int .i64 (0 : Int)) rfl (rf_assign rfl) rfl ?_
                                    refine wl_nil ?_
                                    refine thn ?_
                                    refine ret_ ?_
                                    refine fin2 (v1 := .int .i64 (0 : Int)) (v2 := .int .i64 (0 : Int)) Try.results33 rfl rfl rfl rfl ?_
                                    exact ⟨_, ⟨tk_lv (by unfold tkF; omega) (by unfold lvF; omega), rfl⟩, H0.pick' [] rfl rfl⟩
                                  · have c28p := of_decide_eq_false c28
                                    refine seq_ ?_
                                    refine region_ ?_
                                    refine wl_valE (v := .bool (decide (op = (30 : Int)))) rfl (rf_eql rfl rfl rfl rfl) rfl ?_
                                    refine wl_valE (v := .bool (decide (op = (30 : Int)))) rfl (rf_assign rfl) rfl ?_
                                    refine wl_nil ?_
                                    refine thn ?_
                                    refine cond_ (t := decide (op = (30 : Int))) rfl rfl (fun c28 => ?_) (fun c28 => ?_)
                                    · have c28p := of_decide_eq_true c28
                                      refine skip_ ?_
                                      refine thn ?_
                                      refine condT' rfl rfl (t := decide (op = (30 : Int))) (c28) ?_
                                      refine exit_ ?_
                                      refine thx (blo rfl (thx (blo rfl (thx (blo rfl (thx (blo rfl (thx (blo rfl (thx (blx ?_)))))))))))
                                      refine thn ?_
                                      refine exit_ ?_
                                      refine blo rfl (thx (blx ?_))
                                      refine thn ?_
                                      refine seq_ ?_
                                      refine region_ ?_
                                      refine wl_valE (v := .int .i64 (0 : Int)) rfl (rf_move rfl) rfl ?_
                                      refine wl_valE (v := .int .i64 (0 : Int)) rfl (rf_move rfl) rfl ?_
                                      refine wl_valE (v := .int .i64 (0 : Int)) rfl (rf_assign rfl) rfl ?_
                                      refine wl_valE (v := .int .i64 (0 : Int)) rfl (rf_assign rfl) rfl ?_
                                      refine wl_nil ?_
                                      refine thn ?_
                                      refine ret_ ?_
                                      refine fin2 (v1 := .int .i64 (0 : Int)) (v2 := .int .i64 (0 : Int)) Try.results33 rfl rfl rfl rfl ?_
                                      exact ⟨_, ⟨tk_lv (by unfold tkF; omega) (by unfold lvF; omega), rfl⟩, H0.pick' [] rfl rfl⟩
                                    · have c28p := of_decide_eq_false c28
                                      refine region_ ?_
                                      refine wl_valE (v := .bool (decide (op = (33 : Int)))) rfl (rf_eql rfl rfl rfl rfl) rfl ?_
                                      refine wl_valE (v := .bool (decide (op = (33 : Int)))) rfl (rf_assign rfl) rfl ?_
                                      refine wl_nil ?_
                                      refine thn ?_
                                      refine cond_ (t := decide (op = (33 : Int))) rfl rfl (fun c28 => ?_) (fun c28 => ?_)
                                      · have c28p := of_decide_eq_true c28
                                        refine exit_ ?_
                                        refine thx (blo rfl (thx (blo rfl (thx (blo rfl (thx (blo rfl (thx (blo rfl (thx (blx ?_)))))))))))
                                        refine thn ?_
                                        refine exit_ ?_
                                        refine blo rfl (thx (blx ?_))
                                        refine thn ?_
                                        refine seq_ ?_
                                        refine region_ ?_
                                        refine wl_valE (v := .int .i64 (0 : Int)) rfl (rf_move rfl) rfl ?_
                                        refine wl_valE (v := .int .i64 (0 : Int)) rfl (rf_move rfl) rfl ?_
                                        refine wl_valE (v := .int .i64 (0 : Int)) rfl (rf_assign rfl) rfl ?_
                                        refine wl_valE (v := .int .i64 (0 : Int)) rfl (rf_assign rfl) rfl ?_
                                        refine wl_nil ?_
                                        refine thn ?_
                                        refine ret_ ?_
                                        refine fin2 (v1 := .int .i64 (0 : Int)) (v2 := .int .i64 (0 : Int)) Try.results33 rfl rfl rfl rfl ?_
                                        exact ⟨_, ⟨tk_lv (by unfold tkF; omega) (by unfold lvF; omega), rfl⟩, H0.pick' [] rfl rfl⟩
                                      · have c28p := of_decide_eq_false c28
                                        refine skip_ ?_
                                        refine thn ?_
                                        refine exit_ ?_
                                        refine blo rfl (thx (blo rfl (thx (blo rfl (thx (blo rfl (thx (blo rfl (thx (blo rfl (thx (blx ?_))))))))))))
                                        refine thn ?_
                                        refine seq_ ?_
                                        refine region_ ?_
                                        refine wl_valE (v := .int .i64 (2 : Int)) rfl (rf_assign rfl) rfl ?_
                                        refine wl_valE (v := .int .i64 (1 : Int)) rfl (rf_assign rfl) rfl ?_
                                        refine wl_nil ?_
                                        refine thn ?_
                                        refine exit_ ?_
                                        refine blx ?_
                                        refine thn ?_
                                        refine seq_ ?_
                                        refine region_ ?_
                                        refine wl_valE (v := .int .i64 (2 : Int)) rfl (rf_move rfl) rfl ?_
                                        refine wl_valE (v := .int .i64 (1 : Int)) rfl (rf_move rfl) rfl ?_
                                        refine wl_valE (v := .int .i64 (2 : Int)) rfl (rf_assign rfl) rfl ?_
                                        refine wl_valE (v := .int .i64 (1 : Int)) rfl (rf_assign rfl) rfl ?_
                                        refine wl_nil ?_
                                        refine thn ?_
                                        refine ret_ ?_
                                        refine fin2 (v1 := .int .i64 (2 : Int)) (v2 := .int .i64 (1 : Int)) Try.results33 rfl rfl rfl rfl ?_
                                        exact ⟨_, ⟨tk_lv (by unfold tkF; omega) (by unfold lvF; omega), rfl⟩, H0.pick' [] rfl rfl⟩
end Go.Proofs.Ytphllgfbjfajfaa.W
