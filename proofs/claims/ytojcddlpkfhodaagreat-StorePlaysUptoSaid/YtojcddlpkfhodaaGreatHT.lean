import Derived.Test.YtojcddlpkfhodaaGreatHS
import Derived.KernelRfl
namespace Go.Proofs.YtojcddlpkfhodaaGreat.W
open Go Go.Wk
set_option linter.unusedVariables false
set_option linter.unusedSimpArgs false

def prevF : List Int → Int → Int → Int
  | [], _, _ => 0
  | y :: l, x, p => if y = x then p else prevF l x y
theorem prevF_at : ∀ {l : List Int} {j : Nat} {x : Int} (p : Int), l[j]? = some x → (∀ i y, i < j → l[i]? = some y → y ≠ x) → prevF l x p = if j = 0 then p else (l[j - 1]?).getD 0
  | [], j, x, p, h, _ => by simp at h
  | y :: l, 0, x, p, h, _ => by simp at h; subst h; simp [prevF]
  | y :: l, j + 1, x, p, h, hn => by
    have hne : y ≠ x := hn 0 y (by omega) rfl
    unfold prevF
    rw [if_neg hne, prevF_at (j := j) y (by simpa using h) (fun i z hi hz => hn (i + 1) z (by omega) (by simpa using hz))]
    cases j with
    | zero => simp
    | succ j => simp
def befF (st : StS) (x : Int) : Int := match st.ver x with | some r => prevF (st.ch r.key) x 0 | none => 0
def verT (r : VerR) : Ver := ⟨r.batch, r.index, r.filled, r.cell⟩
def chnF (st : StS) (k : Key) : List Ver := (st.ch k).reverse.map (fun v => verT (verF st v))
theorem drop_rev {α : Type} {l : List α} {q : Nat} {x : α} (h : l[q]? = some x) : (l.drop q).reverse = (l.drop (q + 1)).reverse ++ [x] := by
  rw [drop_at h, List.reverse_cons]
theorem mod_pos (a : Nat) {n : Int} (h : 1 ≤ n) : 0 ≤ ((a : Nat) : Int) % n ∧ ((a : Nat) : Int) % n < n := ⟨Int.emod_nonneg _ (by omega), Int.emod_lt_of_pos _ (by omega)⟩
def ksC (R : List SlotC) : List Key := R.map (·.key)
theorem ksC_len (R : List SlotC) : (ksC R).length = R.length := List.length_map _
def partF (st : StS) (k : Key) : Int := ((hashF k : Nat) : Int) % st.parts

theorem partitionI_tr (k : Key) (n : Int) (hn : 1 ≤ n ∧ n ≤ 256) : Tr Tryz.prog 61 [.agg #[.int .i64 k.table, .int .i64 k.row], .int .i64 n] [] [] fun v m => v = .tuple #[.int .i64 (((hashF k : Nat) : Int) % n), .int .i64 (checkF k)] ∧ m = [] := by
  obtain ⟨m, rfl⟩ : ∃ m : Nat, n = (m : Int) := ⟨n.toNat, by omega⟩
  exact partition_tr k m ⟨by omega, by omega⟩
theorem parts_tr (s : Nat) (st : StS) : Tr Tryz.prog 38 [.pointer (some ⟨s, 0, none⟩)] [stoH s st] [] (fun v m => v = .int .i64 st.parts ∧ m = []) := by
  intro w0 S0 H0
  obtain ⟨hh, hs, H1⟩ := stoR H0 0 rfl
  try dsimp only [List.cons_append, List.nil_append] at H1
  refine enterR Tryz.func38 rfl Tryz.ntmps38 rfl ?_
  intro g0
  refine seq_ ?_
  refine region_ ?_
  refine wl_valE (v := .int .i64 (0 : Int)) rfl (rf_assign rfl) rfl ?_
  refine wl_nil ?_
  refine thn ?_
  refine seq_ ?_
  refine region_ ?_
  refine wl_valE (v := .pointer (some ⟨s, 0, none⟩)) rfl (rf_move rfl) rfl ?_
  refine wl_valE (v := .pointer (some ⟨s, 0, none⟩)) rfl (rf_nilCheckP rfl rfl) rfl ?_
  refine wl_valE (v := .pointer (some ⟨s, 1, none⟩)) rfl (rf_fieldAddr Tryz.underlying61 rfl ti3 rfl rfl) rfl ?_
  refine wl_valE (v := .int .i64 st.parts) rfl (rf_load Tryz.underlying3 rfl rfl rfl ((H1.blkR 1 rfl).cell rfl)) rfl ?_
  refine wl_valE (v := .int .i64 st.parts) rfl (rf_assign rfl) rfl ?_
  refine wl_nil ?_
  refine thn ?_
  refine ret_ ?_
  refine fin1 (v := .int .i64 st.parts) Tryz.results38 rfl rfl ?_
  exact ⟨_, ⟨rfl, rfl⟩, (H1.weakR 1 rfl).pick' [] rfl rfl⟩
theorem part_tr (s : Nat) (st : StS) (k : Key) : Tr Tryz.prog 39 [.pointer (some ⟨s, 0, none⟩), .agg #[.int .i64 k.table, .int .i64 k.row]] [stoH s st] [] (fun v m => v = .int .i64 (partF st k) ∧ m = []) := by
  intro w0 S0 H0
  obtain ⟨hh, hs, H1⟩ := stoR H0 0 rfl
  try dsimp only [List.cons_append, List.nil_append] at H1
  have hpar := hs.parts
  have hpos := hs.dict.pos
  refine enterR Tryz.func39 rfl Tryz.ntmps39 rfl ?_
  intro g0
  refine seq_ ?_
  refine region_ ?_
  refine wl_boxH H1 (v := .agg #[.int .i64 k.table, .int .i64 k.row]) rfl rfl ?_
  intro b2 w3 H3
  refine wl_valE (v := .int .i64 (0 : Int)) rfl (rf_assign rfl) rfl ?_
  refine wl_nil ?_
  refine thn ?_
  refine seq_ ?_
  refine region_q mixedP (by kernel_rfl) ?_
  refine qt_valE (v := .agg #[.int .i64 k.table, .int .i64 k.row]) rfl (fun wq hq => rf_loadBlk Tryz.underlying41 rfl ti41 rfl rfl ((H3.keep hq).blk 0 rfl) (leb rfl)) rfl ?_
  refine qt_valE (v := .pointer (some ⟨s, 0, none⟩)) rfl (fun wq hq => rf_move rfl) rfl ?_
  refine qt_valE (v := .pointer (some ⟨s, 0, none⟩)) rfl (fun wq hq => rf_nilCheckP rfl rfl) rfl ?_
  refine qt_valE (v := .pointer (some ⟨s, 1, none⟩)) rfl (fun wq hq => rf_fieldAddr Tryz.underlying61 rfl ti3 rfl rfl) rfl ?_
  refine qt_valE (v := .int .i64 st.parts) rfl (fun wq hq => rf_load Tryz.underlying3 rfl rfl rfl (((H3.keep hq).blkR 1 rfl).cell rfl)) rfl ?_
  refine qt_ret (v := .tuple #[.int .i64 (((hashF k : Nat) : Int) % st.parts), .int .i64 (checkF k)]) rfl (fun wq hq => ((partitionI_tr k st.parts ⟨by omega, by omega⟩).quiet (H3.keep hq) .nil (by rintro _ _ ⟨rfl, rfl⟩; exact rfl)).mono (fun _ _ h => ⟨h.1, hq.trans h.2⟩)) (fun wq hq => rf_call Tryz.call61 rfl rfl) ?_
  refine qt_valE (v := .tuple #[.int .i64 (((hashF k : Nat) : Int) % st.parts), .int .i64 (checkF k)]) rfl (fun wq hq => rf_move rfl) rfl ?_
  refine qt_valE (v := .int .i64 (((hashF k : Nat) : Int) % st.parts)) rfl (fun wq hq => rf_extract rfl rfl rfl) rfl ?_
  refine qt_valE (v := .int .i64 (checkF k)) rfl (fun wq hq => rf_extract rfl rfl rfl) rfl ?_
  refine qt_valE (v := .int .i64 (((hashF k : Nat) : Int) % st.parts)) rfl (fun wq hq => rf_assign rfl) rfl ?_
  refine qt_valE (v := .int .i64 (checkF k)) rfl (fun wq hq => rf_assign rfl) rfl ?_
  refine qt_nil ?_
  intro w4 hk4
  have H4 := H3.keep hk4
  refine thn ?_
  refine seq_ ?_
  refine region_ ?_
  refine wl_valE (v := .int .i64 (((hashF k : Nat) : Int) % st.parts)) rfl (rf_move rfl) rfl ?_
  refine wl_valE (v := .int .i64 (((hashF k : Nat) : Int) % st.parts)) rfl (rf_assign rfl) rfl ?_
  refine wl_nil ?_
  refine thn ?_
  refine ret_ ?_
  refine fin1 (v := .int .i64 (((hashF k : Nat) : Int) % st.parts)) Tryz.results39 rfl rfl ?_
  exact ⟨_, ⟨rfl, rfl⟩, (H4.weakR 1 rfl).pick' [] rfl rfl⟩
theorem keyOfS_tr (s : Nat) (st : StS) (x : Int) (r : VerR) (hv : st.ver x = some r) : Tr Tryz.prog 20 [.pointer (some ⟨s, 0, none⟩), .int .i64 x] [stoH s st] [] (fun v m => v = .tuple #[.agg #[.int .i64 r.key.table, .int .i64 r.key.row], .int .i64 0] ∧ m = []) := by
  intro w0 S0 H0
  obtain ⟨hh, hs, H1⟩ := stoR H0 0 rfl
  try dsimp only [List.cons_append, List.nil_append] at H1
  obtain ⟨vb, hgvb, H2⟩ := stoVer H1 3 rfl hv
  try dsimp only [List.cons_append, List.nil_append] at H2
  try dsimp only [putsH, setH, List.cons_append, List.nil_append] at H2
  refine enterR Tryz.func20 rfl Tryz.ntmps20 rfl ?_
  intro g0
  refine seq_ ?_
  refine region_ ?_
  refine wl_allocH H2 ti41 ?_
  intro b3 w4 H4
  refine wl_valE (v := .int .i64 (0 : Int)) rfl (rf_assign rfl) rfl ?_
  refine wl_nil ?_
  refine thn ?_
  refine seq_ ?_
  refine region_ ?_
  refine wl_valE (v := .pointer (some ⟨s, 0, none⟩)) rfl (rf_move rfl) rfl ?_
  refine wl_valE (v := .pointer (some ⟨s, 0, none⟩)) rfl (rf_nilCheckP rfl rfl) rfl ?_
  refine wl_valE (v := .pointer (some ⟨s, 3, none⟩)) rfl (rf_fieldAddr Tryz.underlying61 rfl ti59 rfl rfl) rfl ?_
  refine wl_valE (v := .map (some hh.vr)) rfl (rf_load Tryz.underlying59 rfl rfl rfl ((H4.blkR 1 rfl).cell rfl)) rfl ?_
  refine wl_valE (v := .int .i64 x) rfl (rf_move rfl) rfl ?_
  refine wl_valE (v := .tuple #[.pointer (some ⟨vb, 0, none⟩), .bool true]) rfl (rf_lookup2 (a := x) klI3 Tryz.underlying59 ti100 rfl rfl rfl rfl (H4.mapR 2 rfl)) (by rw [hgvb]; rfl) ?_
  refine wl_valE (v := .tuple #[.pointer (some ⟨vb, 0, none⟩), .bool true]) rfl (rf_move rfl) rfl ?_
  refine wl_valE (v := .pointer (some ⟨vb, 0, none⟩)) rfl (rf_extract rfl rfl rfl) rfl ?_
  refine wl_valE (v := .bool true) rfl (rf_extract rfl rfl rfl) rfl ?_
  refine wl_valE (v := .pointer (some ⟨vb, 0, none⟩)) rfl (rf_assign rfl) rfl ?_
  refine wl_valE (v := .bool true) rfl (rf_assign rfl) rfl ?_
  refine wl_nil ?_
  refine thn ?_
  refine seq_ ?_
  refine seq_ ?_
  refine region_ ?_
  refine wl_valE (v := .bool true) rfl (rf_move rfl) rfl ?_
  refine wl_valE (v := .bool false) rfl (rf_not rfl rfl) rfl ?_
  refine wl_nil ?_
  refine thn ?_
  refine condF rfl rfl ?_
  refine skip_ ?_
  refine thn ?_
  refine seq_ ?_
  refine region_ ?_
  refine wl_valE (v := .pointer (some ⟨vb, 0, none⟩)) rfl (rf_move rfl) rfl ?_
  refine wl_valE (v := .pointer (some ⟨vb, 0, none⟩)) rfl (rf_nilCheckP rfl rfl) rfl ?_
  refine wl_valE (v := .pointer (some ⟨vb, 2, none⟩)) rfl (rf_fieldAddr Tryz.underlying104 rfl ti41 rfl rfl) rfl ?_
  refine wl_valE (v := .agg #[.int .i64 r.key.table, .int .i64 r.key.row]) rfl (rf_loadBlk Tryz.underlying41 rfl ti41 rfl rfl (H4.blkR 4 rfl) (leb rfl)) rfl ?_
  refine wl_storeAggH H4 0 (o := 0) (cs := [.int .i64 r.key.table, .int .i64 r.key.row]) (A' := #[.int .i64 r.key.table, .int .i64 r.key.row]) rfl rfl ti41 rfl rfl rfl rfl rfl oneAll (leb rfl) rfl ?_
  intro w5 H5
  refine wl_valE (v := .int .i64 (0 : Int)) rfl (rf_assign rfl) rfl ?_
  refine wl_nil ?_
  refine thn ?_
  refine ret_ ?_
  refine finV2 Tryz.results20 (RV.blk rfl Tryz.underlying41 rfl ti41 rfl (H5.blk 0 rfl) (leb rfl)) (.tmp (v := .int .i64 (0 : Int)) rfl rfl) ?_
  exact ⟨_, ⟨rfl, rfl⟩, (H5.weakR 1 rfl).pick' [] rfl rfl⟩
theorem keyOfN_tr (s : Nat) (st : StS) (x : Int) (hv : st.ver x = none) : Tr Tryz.prog 20 [.pointer (some ⟨s, 0, none⟩), .int .i64 x] [stoH s st] [] (fun v m => v = .tuple #[.agg #[.int .i64 0, .int .i64 0], .int .i64 93] ∧ m = []) := by
  intro w0 S0 H0
  obtain ⟨hh, hs, H1⟩ := stoR H0 0 rfl
  try dsimp only [List.cons_append, List.nil_append] at H1
  have hgn := hs.getN hv
  refine enterR Tryz.func20 rfl Tryz.ntmps20 rfl ?_
  intro g0
  refine seq_ ?_
  refine region_ ?_
  refine wl_allocH H1 ti41 ?_
  intro b2 w3 H3
  refine wl_valE (v := .int .i64 (0 : Int)) rfl (rf_assign rfl) rfl ?_
  refine wl_nil ?_
  refine thn ?_
  refine seq_ ?_
  refine region_ ?_
  refine wl_valE (v := .pointer (some ⟨s, 0, none⟩)) rfl (rf_move rfl) rfl ?_
  refine wl_valE (v := .pointer (some ⟨s, 0, none⟩)) rfl (rf_nilCheckP rfl rfl) rfl ?_
  refine wl_valE (v := .pointer (some ⟨s, 3, none⟩)) rfl (rf_fieldAddr Tryz.underlying61 rfl ti59 rfl rfl) rfl ?_
  refine wl_valE (v := .map (some hh.vr)) rfl (rf_load Tryz.underlying59 rfl rfl rfl ((H3.blkR 1 rfl).cell rfl)) rfl ?_
  refine wl_valE (v := .int .i64 x) rfl (rf_move rfl) rfl ?_
  refine wl_valE (v := .tuple #[.pointer none, .bool false]) rfl (rf_lookup2 (a := x) klI3 Tryz.underlying59 ti100 rfl rfl rfl rfl (H3.mapR 2 rfl)) (by rw [hgn]; rfl) ?_
  refine wl_valE (v := .tuple #[.pointer none, .bool false]) rfl (rf_move rfl) rfl ?_
  refine wl_valE (v := .pointer none) rfl (rf_extract rfl rfl rfl) rfl ?_
  refine wl_valE (v := .bool false) rfl (rf_extract rfl rfl rfl) rfl ?_
  refine wl_valE (v := .pointer none) rfl (rf_assign rfl) rfl ?_
  refine wl_valE (v := .bool false) rfl (rf_assign rfl) rfl ?_
  refine wl_nil ?_
  refine thn ?_
  refine seq_ ?_
  refine seq_ ?_
  refine region_ ?_
  refine wl_valE (v := .bool false) rfl (rf_move rfl) rfl ?_
  refine wl_valE (v := .bool true) rfl (rf_not rfl rfl) rfl ?_
  refine wl_nil ?_
  refine thn ?_
  refine condT rfl rfl ?_
  refine seq_ ?_
  refine region_ ?_
  refine wl_valE (v := .agg #[.int .i64 (0 : Int), .int .i64 (0 : Int)]) rfl (rf_build (offs := []) (places := #[(0, 1), (1, 1)]) Tryz.underlying41 ti41 (fun w => by kernel_rfl) .nil) rfl ?_
  refine wl_storeAggH H3 0 (o := 0) (cs := [.int .i64 (0 : Int), .int .i64 (0 : Int)]) (A' := #[.int .i64 (0 : Int), .int .i64 (0 : Int)]) rfl rfl ti41 rfl rfl rfl rfl rfl oneAll (leb rfl) rfl ?_
  intro w4 H4
  try dsimp only [putsH, setH, List.cons_append, List.nil_append] at H4
  refine wl_valE (v := .int .i64 (93 : Int)) rfl (rf_assign rfl) rfl ?_
  refine wl_nil ?_
  refine thn ?_
  refine ret_ ?_
  refine thr ?_
  refine finV2 Tryz.results20 (RV.blk rfl Tryz.underlying41 rfl ti41 rfl (H4.blk 0 rfl) (leb rfl)) (.tmp (v := .int .i64 (93 : Int)) rfl rfl) ?_
  exact ⟨_, ⟨rfl, rfl⟩, (H4.weakR 1 rfl).pick' [] rfl rfl⟩
theorem keyOf_tr (s : Nat) (st : StS) (x : Int) : Tr Tryz.prog 20 [.pointer (some ⟨s, 0, none⟩), .int .i64 x] [stoH s st] [] fun v m => v = .tuple #[.agg #[.int .i64 (verF st x).key.table, .int .i64 (verF st x).key.row], .int .i64 (refE st x)] ∧ m = [] := by
  unfold verF refE
  cases hv : st.ver x with
  | none => exact keyOfN_tr s st x hv
  | some r => exact keyOfS_tr s st x r hv
theorem told_tr (vb : Nat) (r : VerR) : Tr Tryz.prog 55 [.pointer (some ⟨vb, 0, none⟩)] [blkH vb #[.int .i64 r.batch, .int .i64 r.index, .int .i64 r.key.table, .int .i64 r.key.row, .bool r.filled, .bool r.cell.is_, .int .i64 r.cell.value] 104] [] (fun v m => v = .agg #[.int .i64 r.batch, .int .i64 r.index, .bool r.filled, .bool r.cell.is_, .int .i64 r.cell.value] ∧ m = []) := by
  intro w0 S0 H0
  refine enterR Tryz.func55 rfl Tryz.ntmps55 rfl ?_
  intro g0
  refine seq_ ?_
  refine region_ ?_
  refine wl_allocH H0 ti71 ?_
  intro b1 w2 H2
  refine wl_nil ?_
  refine thn ?_
  refine seq_ ?_
  refine region_h (S := (fun wq => St w0 S0 [blkH vb #[.int .i64 r.batch, .int .i64 r.index, .int .i64 r.key.table, .int .i64 r.key.row, .bool r.filled, .bool r.cell.is_, .int .i64 r.cell.value] 104] wq [])) mixedP ?_
  intro w3 hk3
  have H3 := H2.keep hk3
  have hS3 : St w0 S0 [blkH vb #[.int .i64 r.batch, .int .i64 r.index, .int .i64 r.key.table, .int .i64 r.key.row, .bool r.filled, .bool r.cell.is_, .int .i64 r.cell.value] 104] w3 [] := H3.pick' [] rfl rfl
  refine wh_take (i := 0) (v := .pointer (some ⟨vb, 0, none⟩)) rfl (by kernel_rfl) (by kernel_rfl) (by kernel_rfl) hS3 rfl (fun wq hq => rf_move rfl) rfl ?_
  refine wh_take (i := 1) (v := .pointer (some ⟨vb, 0, none⟩)) rfl (by kernel_rfl) (by kernel_rfl) (by kernel_rfl) hS3 rfl (fun wq hq => rf_nilCheckP rfl rfl) rfl ?_
  refine wh_take (i := 2) (v := .pointer (some ⟨vb, 0, none⟩)) rfl (by kernel_rfl) (by kernel_rfl) (by kernel_rfl) hS3 rfl (fun wq hq => rf_fieldAddr Tryz.underlying104 rfl ti102 rfl rfl) rfl ?_
  refine wh_take (i := 3) (v := .pointer (some ⟨vb, 0, none⟩)) rfl (by kernel_rfl) (by kernel_rfl) (by kernel_rfl) hS3 rfl (fun wq hq => rf_fieldAddr Tryz.underlying102 rfl ti3 rfl rfl) rfl ?_
  refine wh_take (i := 4) (v := .int .i64 r.batch) rfl (by kernel_rfl) (by kernel_rfl) (by kernel_rfl) hS3 rfl (fun wq hq => rf_load Tryz.underlying3 rfl rfl rfl ((hq.blkR 0 rfl).cell rfl)) rfl ?_
  refine wh_take (i := 5) (v := .pointer (some ⟨vb, 0, none⟩)) rfl (by kernel_rfl) (by kernel_rfl) (by kernel_rfl) hS3 rfl (fun wq hq => rf_move rfl) rfl ?_
  refine wh_take (i := 6) (v := .pointer (some ⟨vb, 0, none⟩)) rfl (by kernel_rfl) (by kernel_rfl) (by kernel_rfl) hS3 rfl (fun wq hq => rf_nilCheckP rfl rfl) rfl ?_
  refine wh_take (i := 7) (v := .pointer (some ⟨vb, 0, none⟩)) rfl (by kernel_rfl) (by kernel_rfl) (by kernel_rfl) hS3 rfl (fun wq hq => rf_fieldAddr Tryz.underlying104 rfl ti102 rfl rfl) rfl ?_
  refine wh_take (i := 8) (v := .pointer (some ⟨vb, 1, none⟩)) rfl (by kernel_rfl) (by kernel_rfl) (by kernel_rfl) hS3 rfl (fun wq hq => rf_fieldAddr Tryz.underlying102 rfl ti3 rfl rfl) rfl ?_
  refine wh_take (i := 9) (v := .int .i64 r.index) rfl (by kernel_rfl) (by kernel_rfl) (by kernel_rfl) hS3 rfl (fun wq hq => rf_load Tryz.underlying3 rfl rfl rfl ((hq.blkR 0 rfl).cell rfl)) rfl ?_
  refine wh_take (i := 10) (v := .pointer (some ⟨vb, 0, none⟩)) rfl (by kernel_rfl) (by kernel_rfl) (by kernel_rfl) hS3 rfl (fun wq hq => rf_move rfl) rfl ?_
  refine wh_take (i := 11) (v := .pointer (some ⟨vb, 0, none⟩)) rfl (by kernel_rfl) (by kernel_rfl) (by kernel_rfl) hS3 rfl (fun wq hq => rf_nilCheckP rfl rfl) rfl ?_
  refine wh_take (i := 12) (v := .pointer (some ⟨vb, 4, none⟩)) rfl (by kernel_rfl) (by kernel_rfl) (by kernel_rfl) hS3 rfl (fun wq hq => rf_fieldAddr Tryz.underlying104 rfl ti4 rfl rfl) rfl ?_
  refine wh_take (i := 13) (v := .bool r.filled) rfl (by kernel_rfl) (by kernel_rfl) (by kernel_rfl) hS3 rfl (fun wq hq => rf_load Tryz.underlying4 rfl rfl rfl ((hq.blkR 0 rfl).cell rfl)) rfl ?_
  refine wh_take (i := 14) (v := .pointer (some ⟨vb, 0, none⟩)) rfl (by kernel_rfl) (by kernel_rfl) (by kernel_rfl) hS3 rfl (fun wq hq => rf_move rfl) rfl ?_
  refine wh_take (i := 15) (v := .pointer (some ⟨vb, 0, none⟩)) rfl (by kernel_rfl) (by kernel_rfl) (by kernel_rfl) hS3 rfl (fun wq hq => rf_nilCheckP rfl rfl) rfl ?_
  refine wh_take (i := 16) (v := .pointer (some ⟨vb, 5, none⟩)) rfl (by kernel_rfl) (by kernel_rfl) (by kernel_rfl) hS3 rfl (fun wq hq => rf_fieldAddr Tryz.underlying104 rfl ti43 rfl rfl) rfl ?_
  refine wh_take (i := 17) (v := .agg #[.bool r.cell.is_, .int .i64 r.cell.value]) rfl (by kernel_rfl) (by kernel_rfl) (by kernel_rfl) hS3 rfl (fun wq hq => rf_loadBlk Tryz.underlying43 rfl ti43 rfl rfl (hq.blkR 0 rfl) (leb rfl)) rfl ?_
  refine wh_take (i := 18) (v := .agg #[.int .i64 r.batch, .int .i64 r.index, .bool r.filled, .bool r.cell.is_, .int .i64 r.cell.value]) rfl (by kernel_rfl) (by kernel_rfl) (by kernel_rfl) hS3 rfl (fun wq hq => rf_build (offs := [(0, [.int .i64 r.batch]), (1, [.int .i64 r.index]), (2, [.bool r.filled]), (3, [.bool r.cell.is_, .int .i64 r.cell.value])]) (places := #[(0, 1), (1, 1), (2, 1), (3, 2)]) Tryz.underlying71 ti71 (fun w => by kernel_rfl) (.cons rfl rfl rfl rfl rfl rfl (.cons rfl rfl rfl rfl rfl rfl (.cons rfl rfl rfl rfl rfl rfl (.cons rfl rfl rfl rfl rfl rfl .nil))))) rfl ?_
  refine wh_one (i := 19) (by kernel_rfl) rfl ?_
  refine wl_storeAggH H3 0 (o := 0) (cs := [.int .i64 r.batch, .int .i64 r.index, .bool r.filled, .bool r.cell.is_, .int .i64 r.cell.value]) (A' := #[.int .i64 r.batch, .int .i64 r.index, .bool r.filled, .bool r.cell.is_, .int .i64 r.cell.value]) rfl rfl ti71 rfl rfl rfl rfl rfl oneAll (leb rfl) rfl ?_
  intro w4 H4
  refine wl_nil ?_
  have hS5 : St w0 S0 [blkH vb #[.int .i64 r.batch, .int .i64 r.index, .int .i64 r.key.table, .int .i64 r.key.row, .bool r.filled, .bool r.cell.is_, .int .i64 r.cell.value] 104] w4 [] := H4.pick' [] rfl rfl
  refine wh_back hS5 ?_
  refine wh_done (by kernel_rfl) ?_
  refine thn ?_
  refine ret_ ?_
  refine finV1 Tryz.results55 (RV.blk rfl Tryz.underlying71 rfl ti71 rfl (H4.blk 0 rfl) (leb rfl)) ?_
  exact ⟨_, ⟨rfl, rfl⟩, H4.pick' [] rfl rfl⟩
theorem indexI_tr (a : Option Addr) (n c : Nat) (l : List Int) (x : Int) (j : Nat) (hn : n ≤ 4611686018427387904) (hj : l[j]? = some x) (hno : ∀ i y, i < j → l[i]? = some y → y ≠ x) : Tr Tryz.prog 56 [.slice a n c, .int .i64 x] [rdH encI 1 a n c l] [] (fun v m => v = .int .i64 ((j : Nat) : Int) ∧ m = []) := by
  intro w0 S0 H0
  have hl := (rd_len (H0.rdR 0 Le.rfl)).1
  have hjl := (List.getElem?_eq_some_iff.1 hj).1
  refine enterR Tryz.func56 rfl Tryz.ntmps56 rfl ?_
  intro g0
  refine seq_ ?_
  refine region_ ?_
  refine wl_valE (v := .int .i64 (0 : Int)) rfl (rf_assign rfl) rfl ?_
  refine wl_nil ?_
  refine thn ?_
  refine seq_ ?_
  refine seq_ ?_
  refine region_ ?_
  refine wl_valE (v := .slice a n c) rfl (rf_move rfl) rfl ?_
  refine wl_valE (v := .int .i64 ((n : Nat) : Int)) rfl (rf_len_slice Tryz.underlying57 rfl rfl) rfl ?_
  refine wl_valE (v := .int .i64 (0 : Int)) rfl (rf_move rfl) rfl ?_
  refine wl_nil ?_
  refine thn ?_
  refine block_ ?_
  refine loop_ (fun qk_ qf_ qw_ => ∃ (g : Nat → Value) (k : Nat), qf_ = upds g [(0, .slice a n c), (1, .int .i64 x), (7, .int .i64 ((n : Nat) : Int)), (8, .int .i64 ((k : Nat) : Int))] ∧ qk_ = n - k ∧ (k ≤ j) ∧ St w0 S0 [rdH encI 1 a n c l] qw_ []) (n - 0) ?_ ?_
  · refine ⟨_, 0, upds_self ⟨rfl, rfl, rfl, rfl, trivial⟩, rfl, Nat.zero_le _, H0.pick' [] rfl rfl⟩
  · rintro lk0 _ wl0 ⟨gl0, k, rfl, hlk0, hk, HL0⟩
    refine seq_ ?_
    refine region_ ?_
    refine wl_valE (v := .bool (decide (((k : Nat) : Int) < ((n : Nat) : Int)))) rfl (rf_lss rfl rfl rfl rfl) rfl ?_
    refine wl_nil ?_
    refine thn ?_
    refine seq_ ?_
    refine cond_ (t := decide (((k : Nat) : Int) < ((n : Nat) : Int))) rfl rfl (fun c9 => ?_) (fun c9 => ?_)
    · have c9p := of_decide_eq_true c9
      refine skip_ ?_
      refine thn ?_
      refine seq_ ?_
      refine block_ ?_
      refine seq_ ?_
      refine region_ ?_
      refine wl_valE (v := .int .i64 ((k : Nat) : Int)) rfl (rf_move rfl) rfl ?_
      refine wl_valE (v := .int .i64 ((k : Nat) : Int)) rfl (rf_assign rfl) rfl ?_
      refine wl_nil ?_
      refine thn ?_
      refine seq_ ?_
      have hn1 := rd_len (HL0.rdR 0 Le.rfl)
      obtain ⟨y, hy⟩ : ∃ q_, l[k]? = some q_ := ⟨_, List.getElem?_eq_getElem (by omega)⟩
      refine region_ ?_
      refine wl_valE (v := .int .i64 x) rfl (rf_move rfl) rfl ?_
      refine wl_valE (v := .slice a n c) rfl (rf_move rfl) rfl ?_
      refine wl_valE (v := .int .i64 ((k : Nat) : Int)) rfl (rf_move rfl) rfl ?_
      refine wl_valE (v := .pointer (some ⟨ab a, ao a + k * 1, none⟩)) rfl (rf_indexAddrH Tryz.underlying57 ti3 rfl rfl rfl rfl (by omega) (by omega) (HL0.rdR 0 Le.rfl)) rfl ?_
      refine wl_valE (v := .int .i64 y) rfl (rf_load Tryz.underlying3 rfl rfl rfl (rd_el (HL0.rdR 0 Le.rfl) hy 0 _ rfl)) rfl ?_
      refine wl_valE (v := .bool (decide (x = y))) rfl (rf_eql rfl rfl rfl rfl) rfl ?_
      refine wl_nil ?_
      refine thn ?_
      refine cond_ (t := decide (x = y)) rfl rfl (fun c16 => ?_) (fun c16 => ?_)
      · have c16p := of_decide_eq_true c16
        refine seq_ ?_
        refine region_ ?_
        refine wl_valE (v := .int .i64 ((k : Nat) : Int)) rfl (rf_move rfl) rfl ?_
        refine wl_valE (v := .int .i64 ((k : Nat) : Int)) rfl (rf_assign rfl) rfl ?_
        refine wl_nil ?_
        refine thn ?_
        refine ret_ ?_
        refine blr (thr (thr (blr (thr ?_))))
        refine fin1 (v := .int .i64 ((k : Nat) : Int)) Tryz.results56 rfl rfl ?_
        exact ⟨_, ⟨by rcases Nat.lt_or_eq_of_le hk with h | h; exact absurd c16p.symm (hno k y h hy); rw [h], rfl⟩, HL0.pick' [] rfl rfl⟩
      · have c16p := of_decide_eq_false c16
        refine skip_ ?_
        refine bln ?_
        refine thn ?_
        refine region_ ?_
        refine wl_valE (v := .int .i64 ((k + 1 : Nat) : Int)) rfl (rf_add rfl rfl rfl rfl (IntWalk.i64_in _ (by omega))) rfl ?_
        refine wl_valE (v := .int .i64 ((k + 1 : Nat) : Int)) rfl (rf_move rfl) rfl ?_
        refine wl_nil ?_
        refine thn ?_
        refine ⟨n - (k + 1), _, rfl, (by omega), _, k + 1, upds_self ⟨rfl, rfl, rfl, rfl, trivial⟩, rfl, by rcases Nat.lt_or_eq_of_le hk with h | h; exact h; subst h; rw [hj] at hy; cases hy; exact absurd rfl c16p, HL0.pick' [] rfl rfl⟩
    · have c9p := of_decide_eq_false c9
      omega
theorem beforeN_tr (s : Nat) (st : StS) (x : Int) (hv : st.ver x = none) : Tr Tryz.prog 22 [.pointer (some ⟨s, 0, none⟩), .int .i64 x] [stoH s st] [] (fun v m => v = .int .i64 0 ∧ m = []) := by
  intro w0 S0 H0
  obtain ⟨hh, hs, H1⟩ := stoR H0 0 rfl
  try dsimp only [List.cons_append, List.nil_append] at H1
  have hgn := hs.getN hv
  refine enterR Tryz.func22 rfl Tryz.ntmps22 rfl ?_
  intro g0
  refine seq_ ?_
  refine region_ ?_
  refine wl_valE (v := .int .i64 (0 : Int)) rfl (rf_assign rfl) rfl ?_
  refine wl_nil ?_
  refine thn ?_
  refine seq_ ?_
  refine region_ ?_
  refine wl_valE (v := .pointer (some ⟨s, 0, none⟩)) rfl (rf_move rfl) rfl ?_
  refine wl_valE (v := .pointer (some ⟨s, 0, none⟩)) rfl (rf_nilCheckP rfl rfl) rfl ?_
  refine wl_valE (v := .pointer (some ⟨s, 3, none⟩)) rfl (rf_fieldAddr Tryz.underlying61 rfl ti59 rfl rfl) rfl ?_
  refine wl_valE (v := .map (some hh.vr)) rfl (rf_load Tryz.underlying59 rfl rfl rfl ((H1.blkR 1 rfl).cell rfl)) rfl ?_
  refine wl_valE (v := .int .i64 x) rfl (rf_move rfl) rfl ?_
  refine wl_valE (v := .tuple #[.pointer none, .bool false]) rfl (rf_lookup2 (a := x) klI3 Tryz.underlying59 ti100 rfl rfl rfl rfl (H1.mapR 2 rfl)) (by rw [hgn]; rfl) ?_
  refine wl_valE (v := .tuple #[.pointer none, .bool false]) rfl (rf_move rfl) rfl ?_
  refine wl_valE (v := .pointer none) rfl (rf_extract rfl rfl rfl) rfl ?_
  refine wl_valE (v := .bool false) rfl (rf_extract rfl rfl rfl) rfl ?_
  refine wl_valE (v := .pointer none) rfl (rf_assign rfl) rfl ?_
  refine wl_valE (v := .bool false) rfl (rf_assign rfl) rfl ?_
  refine wl_nil ?_
  refine thn ?_
  refine seq_ ?_
  refine seq_ ?_
  refine region_ ?_
  refine wl_valE (v := .bool false) rfl (rf_move rfl) rfl ?_
  refine wl_valE (v := .bool true) rfl (rf_not rfl rfl) rfl ?_
  refine wl_nil ?_
  refine thn ?_
  refine condT rfl rfl ?_
  refine seq_ ?_
  refine region_ ?_
  refine wl_valE (v := .int .i64 (0 : Int)) rfl (rf_assign rfl) rfl ?_
  refine wl_nil ?_
  refine thn ?_
  refine ret_ ?_
  refine thr ?_
  refine fin1 (v := .int .i64 (0 : Int)) Tryz.results22 rfl rfl ?_
  exact ⟨_, ⟨rfl, rfl⟩, (H1.weakR 1 rfl).pick' [] rfl rfl⟩
theorem beforeS_tr (s : Nat) (st : StS) (x : Int) (r : VerR) (hv : st.ver x = some r) (hl : st.last ≤ 17592186044415) : Tr Tryz.prog 22 [.pointer (some ⟨s, 0, none⟩), .int .i64 x] [stoH s st] [] (fun v m => v = .int .i64 (prevF (st.ch r.key) x 0) ∧ m = []) := by
  intro w0 S0 H0
  obtain ⟨hh, hs, H1⟩ := stoR H0 0 rfl
  try dsimp only [List.cons_append, List.nil_append] at H1
  obtain ⟨vb, hgvb, H2⟩ := stoVer H1 3 rfl hv
  try dsimp only [List.cons_append, List.nil_append] at H2
  try dsimp only [putsH, setH, List.cons_append, List.nil_append] at H2
  have H3 := stoCh H2 3 rfl r.key
  try dsimp only [List.cons_append, List.nil_append] at H3
  obtain ⟨j, hj, hjno⟩ := hs.inv.at hv
  have hpv := prevF_at 0 hj (fun i y hi hy => hjno i y (by omega) hy)
  have hjl := (List.getElem?_eq_some_iff.1 hj).1
  have hchl := hs.inv.len r.key
  refine enterR Tryz.func22 rfl Tryz.ntmps22 rfl ?_
  intro g0
  refine seq_ ?_
  refine region_ ?_
  refine wl_valE (v := .int .i64 (0 : Int)) rfl (rf_assign rfl) rfl ?_
  refine wl_nil ?_
  refine thn ?_
  refine seq_ ?_
  refine region_ ?_
  refine wl_valE (v := .pointer (some ⟨s, 0, none⟩)) rfl (rf_move rfl) rfl ?_
  refine wl_valE (v := .pointer (some ⟨s, 0, none⟩)) rfl (rf_nilCheckP rfl rfl) rfl ?_
  refine wl_valE (v := .pointer (some ⟨s, 3, none⟩)) rfl (rf_fieldAddr Tryz.underlying61 rfl ti59 rfl rfl) rfl ?_
  refine wl_valE (v := .map (some hh.vr)) rfl (rf_load Tryz.underlying59 rfl rfl rfl ((H3.blkR 1 rfl).cell rfl)) rfl ?_
  refine wl_valE (v := .int .i64 x) rfl (rf_move rfl) rfl ?_
  refine wl_valE (v := .tuple #[.pointer (some ⟨vb, 0, none⟩), .bool true]) rfl (rf_lookup2 (a := x) klI3 Tryz.underlying59 ti100 rfl rfl rfl rfl (H3.mapR 2 rfl)) (by rw [hgvb]; rfl) ?_
  refine wl_valE (v := .tuple #[.pointer (some ⟨vb, 0, none⟩), .bool true]) rfl (rf_move rfl) rfl ?_
  refine wl_valE (v := .pointer (some ⟨vb, 0, none⟩)) rfl (rf_extract rfl rfl rfl) rfl ?_
  refine wl_valE (v := .bool true) rfl (rf_extract rfl rfl rfl) rfl ?_
  refine wl_valE (v := .pointer (some ⟨vb, 0, none⟩)) rfl (rf_assign rfl) rfl ?_
  refine wl_valE (v := .bool true) rfl (rf_assign rfl) rfl ?_
  refine wl_nil ?_
  refine thn ?_
  refine seq_ ?_
  refine seq_ ?_
  refine region_ ?_
  refine wl_valE (v := .bool true) rfl (rf_move rfl) rfl ?_
  refine wl_valE (v := .bool false) rfl (rf_not rfl rfl) rfl ?_
  refine wl_nil ?_
  refine thn ?_
  refine condF rfl rfl ?_
  refine skip_ ?_
  refine thn ?_
  refine seq_ ?_
  refine region_q mixedP (by kernel_rfl) ?_
  refine qt_valE (v := .pointer (some ⟨s, 0, none⟩)) rfl (fun wq hq => rf_move rfl) rfl ?_
  refine qt_valE (v := .pointer (some ⟨s, 0, none⟩)) rfl (fun wq hq => rf_nilCheckP rfl rfl) rfl ?_
  refine qt_valE (v := .pointer (some ⟨s, 4, none⟩)) rfl (fun wq hq => rf_fieldAddr Tryz.underlying61 rfl ti54 rfl rfl) rfl ?_
  refine qt_valE (v := .pointer (some ⟨hh.bd, 0, none⟩)) rfl (fun wq hq => rf_load Tryz.underlying54 rfl rfl rfl (((H3.keep hq).blkR 1 rfl).cell rfl)) rfl ?_
  refine qt_valE (v := .pointer (some ⟨vb, 0, none⟩)) rfl (fun wq hq => rf_move rfl) rfl ?_
  refine qt_valE (v := .pointer (some ⟨vb, 0, none⟩)) rfl (fun wq hq => rf_nilCheckP rfl rfl) rfl ?_
  refine qt_valE (v := .pointer (some ⟨vb, 2, none⟩)) rfl (fun wq hq => rf_fieldAddr Tryz.underlying104 rfl ti41 rfl rfl) rfl ?_
  refine qt_valE (v := .agg #[.int .i64 r.key.table, .int .i64 r.key.row]) rfl (fun wq hq => rf_loadBlk Tryz.underlying41 rfl ti41 rfl rfl ((H3.keep hq).blkR 4 rfl) (leb rfl)) rfl ?_
  refine qt_ret (v := .tuple #[.slice ((chainV hh.ls r.key).a) ((st.ch r.key).length) ((chainV hh.ls r.key).c), .bool ((dgetC hh.ls r.key).isSome)]) rfl (fun wq hq => ((getF_tr r.key).quiet (H3.keep hq) (.ro 3 Le.rfl .nil) (by rintro _ _ ⟨rfl, rfl⟩; exact rfl)).mono (fun _ _ h => ⟨h.1, hq.trans h.2⟩)) (fun wq hq => rf_call Tryz.call45 rfl rfl) ?_
  refine qt_valE (v := .tuple #[.slice ((chainV hh.ls r.key).a) ((st.ch r.key).length) ((chainV hh.ls r.key).c), .bool ((dgetC hh.ls r.key).isSome)]) rfl (fun wq hq => rf_move rfl) rfl ?_
  refine qt_valE (v := .slice ((chainV hh.ls r.key).a) ((st.ch r.key).length) ((chainV hh.ls r.key).c)) rfl (fun wq hq => rf_extract rfl rfl rfl) rfl ?_
  refine qt_valE (v := .bool ((dgetC hh.ls r.key).isSome)) rfl (fun wq hq => rf_extract rfl rfl rfl) rfl ?_
  refine qt_valE (v := .slice ((chainV hh.ls r.key).a) ((st.ch r.key).length) ((chainV hh.ls r.key).c)) rfl (fun wq hq => rf_assign rfl) rfl ?_
  refine qt_valE (v := .bool ((dgetC hh.ls r.key).isSome)) rfl (fun wq hq => rf_assign rfl) rfl ?_
  refine qt_nil ?_
  intro w4 hk4
  have H4 := H3.keep hk4
  refine thn ?_
  refine seq_ ?_
  refine seq_ ?_
  refine region_ ?_
  refine wl_valE (v := .slice ((chainV hh.ls r.key).a) ((st.ch r.key).length) ((chainV hh.ls r.key).c)) rfl (rf_move rfl) rfl ?_
  refine wl_valE (v := .int .i64 x) rfl (rf_move rfl) rfl ?_
  refine wl_tr H4 rfl [] (indexI_tr ((chainV hh.ls r.key).a) ((st.ch r.key).length) ((chainV hh.ls r.key).c) (st.ch r.key) x j (by omega) hj (fun i y hi hy => hjno i y (by omega) hy)) rfl (.ro 5 Le.rfl .nil) (rf_call Tryz.call56 rfl rfl) rfl ?_
  rintro _ w5 _ ⟨rfl, rfl⟩ H5
  refine wl_valE (v := .int .i64 ((j : Nat) : Int)) rfl (rf_assign rfl) rfl ?_
  refine wl_nil ?_
  refine thn ?_
  refine seq_ ?_
  refine region_ ?_
  refine wl_valE (v := .int .i64 ((j : Nat) : Int)) rfl (rf_move rfl) rfl ?_
  refine wl_valE (v := .bool (decide ((0 : Int) < ((j : Nat) : Int)))) rfl (rf_gtr rfl rfl rfl rfl) rfl ?_
  refine wl_nil ?_
  refine thn ?_
  refine cond_ (t := decide ((0 : Int) < ((j : Nat) : Int))) rfl rfl (fun c37 => ?_) (fun c37 => ?_)
  · have c37p := of_decide_eq_true c37
    refine seq_ ?_
    have hn6 := rd_len (H5.rdR 5 Le.rfl)
    obtain ⟨y, hy⟩ : ∃ q_, (st.ch r.key)[j - 1]? = some q_ := ⟨_, List.getElem?_eq_getElem (by omega)⟩
    refine region_ ?_
    refine wl_valE (v := .slice ((chainV hh.ls r.key).a) ((st.ch r.key).length) ((chainV hh.ls r.key).c)) rfl (rf_move rfl) rfl ?_
    refine wl_valE (v := .int .i64 ((j : Nat) : Int)) rfl (rf_move rfl) rfl ?_
    refine wl_valE (v := .int .i64 ((j - 1 : Nat) : Int)) rfl (rf_sub rfl rfl rfl rfl (by rw [IntWalk.i64_in _ (by omega)]; omega)) rfl ?_
    refine wl_valE (v := .pointer (some ⟨ab ((chainV hh.ls r.key).a), ao ((chainV hh.ls r.key).a) + (j - 1) * 1, none⟩)) rfl (rf_indexAddrH Tryz.underlying57 ti3 rfl rfl rfl rfl (by omega) (by omega) (H5.rdR 5 Le.rfl)) rfl ?_
    refine wl_valE (v := .int .i64 y) rfl (rf_load Tryz.underlying3 rfl rfl rfl (rd_el (H5.rdR 5 Le.rfl) hy 0 _ rfl)) rfl ?_
    refine wl_valE (v := .int .i64 y) rfl (rf_assign rfl) rfl ?_
    refine wl_nil ?_
    refine thn ?_
    refine ret_ ?_
    refine thr ?_
    refine fin1 (v := .int .i64 y) Tryz.results22 rfl rfl ?_
    exact ⟨_, ⟨by rw [hpv, if_neg (by omega), hy]; rfl, rfl⟩, (H5.weakR 1 rfl).pick' [] rfl rfl⟩
  · have c37p := of_decide_eq_false c37
    refine skip_ ?_
    refine thn ?_
    refine seq_ ?_
    refine region_ ?_
    refine wl_valE (v := .int .i64 (0 : Int)) rfl (rf_assign rfl) rfl ?_
    refine wl_nil ?_
    refine thn ?_
    refine ret_ ?_
    refine fin1 (v := .int .i64 (0 : Int)) Tryz.results22 rfl rfl ?_
    exact ⟨_, ⟨by rw [hpv, if_pos (by omega)], rfl⟩, (H5.weakR 1 rfl).pick' [] rfl rfl⟩
theorem before_tr (s : Nat) (st : StS) (x : Int) (hl : st.last ≤ 17592186044415) : Tr Tryz.prog 22 [.pointer (some ⟨s, 0, none⟩), .int .i64 x] [stoH s st] [] fun v m => v = .int .i64 (befF st x) ∧ m = [] := by
  unfold befF
  cases hv : st.ver x with
  | none => exact beforeN_tr s st x hv
  | some r => exact beforeS_tr s st x r hv hl
theorem chain_tr (s : Nat) (st : StS) (k : Key) (hl : st.last ≤ 2932031007400) : Tr Tryz.prog 28 [.pointer (some ⟨s, 0, none⟩), .agg #[.int .i64 k.table, .int .i64 k.row]] [stoH s st] [] (fun v m => ∃ a c, v = .slice a (chnF st k).length c ∧ m = [slH encVer 5 71 a (chnF st k).length c (chnF st k)]) := by
  intro w0 S0 H0
  obtain ⟨hh, hs, H1⟩ := stoR H0 0 rfl
  try dsimp only [List.cons_append, List.nil_append] at H1
  have H2 := stoCh H1 3 rfl k
  try dsimp only [List.cons_append, List.nil_append] at H2
  try dsimp only [putsH, setH, List.cons_append, List.nil_append] at H2
  have hchl := hs.inv.len k
  refine enterR Tryz.func28 rfl Tryz.ntmps28 rfl ?_
  intro g0
  refine seq_ ?_
  refine region_ ?_
  refine wl_boxH H2 (v := .agg #[.int .i64 k.table, .int .i64 k.row]) rfl rfl ?_
  intro b3 w4 H4
  refine wl_valE (v := .slice none 0 0) rfl (rf_assign rfl) rfl ?_
  refine wl_nil ?_
  refine thn ?_
  refine seq_ ?_
  refine region_q mixedP (by kernel_rfl) ?_
  refine qt_valE (v := .pointer (some ⟨s, 0, none⟩)) rfl (fun wq hq => rf_move rfl) rfl ?_
  refine qt_valE (v := .pointer (some ⟨s, 0, none⟩)) rfl (fun wq hq => rf_nilCheckP rfl rfl) rfl ?_
  refine qt_valE (v := .pointer (some ⟨s, 4, none⟩)) rfl (fun wq hq => rf_fieldAddr Tryz.underlying61 rfl ti54 rfl rfl) rfl ?_
  refine qt_valE (v := .pointer (some ⟨hh.bd, 0, none⟩)) rfl (fun wq hq => rf_load Tryz.underlying54 rfl rfl rfl (((H4.keep hq).blkR 1 rfl).cell rfl)) rfl ?_
  refine qt_valE (v := .agg #[.int .i64 k.table, .int .i64 k.row]) rfl (fun wq hq => rf_loadBlk Tryz.underlying41 rfl ti41 rfl rfl ((H4.keep hq).blk 0 rfl) (leb rfl)) rfl ?_
  refine qt_ret (v := .tuple #[.slice ((chainV hh.ls k).a) ((st.ch k).length) ((chainV hh.ls k).c), .bool ((dgetC hh.ls k).isSome)]) rfl (fun wq hq => ((getF_tr k).quiet (H4.keep hq) (.ro 3 Le.rfl .nil) (by rintro _ _ ⟨rfl, rfl⟩; exact rfl)).mono (fun _ _ h => ⟨h.1, hq.trans h.2⟩)) (fun wq hq => rf_call Tryz.call45 rfl rfl) ?_
  refine qt_valE (v := .tuple #[.slice ((chainV hh.ls k).a) ((st.ch k).length) ((chainV hh.ls k).c), .bool ((dgetC hh.ls k).isSome)]) rfl (fun wq hq => rf_move rfl) rfl ?_
  refine qt_valE (v := .slice ((chainV hh.ls k).a) ((st.ch k).length) ((chainV hh.ls k).c)) rfl (fun wq hq => rf_extract rfl rfl rfl) rfl ?_
  refine qt_valE (v := .bool ((dgetC hh.ls k).isSome)) rfl (fun wq hq => rf_extract rfl rfl rfl) rfl ?_
  refine qt_valE (v := .slice ((chainV hh.ls k).a) ((st.ch k).length) ((chainV hh.ls k).c)) rfl (fun wq hq => rf_assign rfl) rfl ?_
  refine qt_valE (v := .bool ((dgetC hh.ls k).isSome)) rfl (fun wq hq => rf_assign rfl) rfl ?_
  refine qt_nil ?_
  intro w5 hk5
  have H5 := H4.keep hk5
  refine thn ?_
  refine seq_ ?_
  refine region_ ?_
  refine wl_valE (v := .slice none 0 0) rfl (rf_assign rfl) rfl ?_
  refine wl_nil ?_
  refine thn ?_
  refine seq_ ?_
  refine seq_ ?_
  refine region_ ?_
  refine wl_valE (v := .slice ((chainV hh.ls k).a) ((st.ch k).length) ((chainV hh.ls k).c)) rfl (rf_move rfl) rfl ?_
  refine wl_valE (v := .int .i64 (((st.ch k).length : Nat) : Int)) rfl (rf_len_slice Tryz.underlying57 rfl rfl) rfl ?_
  refine wl_valE (v := .int .i64 ((((st.ch k).length : Nat) : Int) - (1 : Int))) rfl (rf_sub rfl rfl rfl rfl (IntWalk.i64_in _ (by omega))) rfl ?_
  refine wl_valE (v := .int .i64 ((((st.ch k).length : Nat) : Int) - (1 : Int))) rfl (rf_assign rfl) rfl ?_
  refine wl_nil ?_
  refine thn ?_
  refine block_ ?_
  have H6 := H5.addNil encVer 5 71 (α := Ver)
  refine loop_ (fun qk_ qf_ qw_ => ∃ (g : Nat → Value) (q m : Nat) (l : List Ver) (wa : Option Addr) (wc : Nat), qf_ = upds g [(0, .pointer (some ⟨s, 0, none⟩)), (5, .slice ((chainV hh.ls k).a) ((st.ch k).length) ((chainV hh.ls k).c)), (7, .slice wa m wc), (8, .int .i64 ((q : Int) - 1))] ∧ qk_ = q ∧ (q ≤ (st.ch k).length ∧ m + q = (st.ch k).length) ∧ (l = ((st.ch k).drop q).reverse.map (fun v => verT (verF st v))) ∧ St w0 S0 [stoH s st, blkH s #[.int .i64 st.room, .int .i64 st.parts, .int .i64 st.last, .map (some hh.vr), .pointer (some ⟨hh.bd, 0, none⟩)] 61, mapH iv pv hh.vr hh.m, fixH s st hh, rdH encI 1 ((chainV hh.ls k).a) ((st.ch k).length) ((chainV hh.ls k).c) (st.ch k)] qw_ [blkH b3 #[.int .i64 k.table, .int .i64 k.row] 41, slH encVer 5 71 wa m wc l]) (((st.ch k).length)) ?_ ?_
  · refine ⟨_, (st.ch k).length, 0, [], none, 0, upds_self ⟨rfl, rfl, rfl, rfl, trivial⟩, rfl, ⟨Nat.le_refl _, Nat.zero_add _⟩, by rw [drop_all (Nat.le_refl _)]; rfl, H6.pick' [0, 1] rfl rfl⟩
  · rintro lk0 _ wl0 ⟨gl0, q, m, l, wa, wc, rfl, hlk0, hq, hlq, HL0⟩
    refine seq_ ?_
    refine seq_ ?_
    refine region_ ?_
    refine wl_valE (v := .int .i64 ((q : Int) - 1)) rfl (rf_move rfl) rfl ?_
    refine wl_valE (v := .bool (decide ((0 : Int) ≤ (q : Int) - 1))) rfl (rf_geq rfl rfl rfl rfl) rfl ?_
    refine wl_nil ?_
    refine thn ?_
    refine cond_ (t := decide ((0 : Int) ≤ (q : Int) - 1)) rfl rfl (fun c22 => ?_) (fun c22 => ?_)
    · have c22p := of_decide_eq_true c22
      obtain ⟨p, rfl⟩ : ∃ p, q = p + 1 := ⟨q - 1, by omega⟩
      have hn7 := rd_len (HL0.rdR 4 Le.rfl)
      obtain ⟨v0, hv0⟩ : ∃ q_, (st.ch k)[p]? = some q_ := ⟨_, List.getElem?_eq_getElem (by omega)⟩
      obtain ⟨r0, hr0, _⟩ := hs.inv.chv k v0 (List.mem_of_getElem? hv0)
      obtain ⟨vb, hgvb, H8⟩ := stoVer HL0 3 rfl hr0
      try dsimp only [List.cons_append, List.nil_append] at H8
      refine skip_ ?_
      refine thn ?_
      refine seq_ ?_
      refine block_ ?_
      refine region_h (S := (fun wq => St w0 S0 [stoH s st, blkH s #[.int .i64 st.room, .int .i64 st.parts, .int .i64 st.last, .map (some hh.vr), .pointer (some ⟨hh.bd, 0, none⟩)] 61, mapH iv pv hh.vr hh.m, fixH s st hh, rdH encI 1 ((chainV hh.ls k).a) ((st.ch k).length) ((chainV hh.ls k).c) (st.ch k), blkH vb #[.int .i64 r0.batch, .int .i64 r0.index, .int .i64 r0.key.table, .int .i64 r0.key.row, .bool r0.filled, .bool r0.cell.is_, .int .i64 r0.cell.value] 104] wq [])) mixedP ?_
      intro w9 hk9
      have H9 := H8.keep hk9
      have hS9 : St w0 S0 [stoH s st, blkH s #[.int .i64 st.room, .int .i64 st.parts, .int .i64 st.last, .map (some hh.vr), .pointer (some ⟨hh.bd, 0, none⟩)] 61, mapH iv pv hh.vr hh.m, fixH s st hh, rdH encI 1 ((chainV hh.ls k).a) ((st.ch k).length) ((chainV hh.ls k).c) (st.ch k), blkH vb #[.int .i64 r0.batch, .int .i64 r0.index, .int .i64 r0.key.table, .int .i64 r0.key.row, .bool r0.filled, .bool r0.cell.is_, .int .i64 r0.cell.value] 104] w9 [] := H9.pick' [] rfl rfl
      refine wh_take (i := 0) (v := .slice wa m wc) rfl (by kernel_rfl) (by kernel_rfl) (by kernel_rfl) hS9 rfl (fun wq hq => rf_move rfl) rfl ?_
      refine wh_take (i := 1) (v := .pointer (some ⟨s, 0, none⟩)) rfl (by kernel_rfl) (by kernel_rfl) (by kernel_rfl) hS9 rfl (fun wq hq => rf_move rfl) rfl ?_
      refine wh_take (i := 2) (v := .pointer (some ⟨s, 0, none⟩)) rfl (by kernel_rfl) (by kernel_rfl) (by kernel_rfl) hS9 rfl (fun wq hq => rf_nilCheckP rfl rfl) rfl ?_
      refine wh_take (i := 3) (v := .pointer (some ⟨s, 3, none⟩)) rfl (by kernel_rfl) (by kernel_rfl) (by kernel_rfl) hS9 rfl (fun wq hq => rf_fieldAddr Tryz.underlying61 rfl ti59 rfl rfl) rfl ?_
      refine wh_take (i := 4) (v := .map (some hh.vr)) rfl (by kernel_rfl) (by kernel_rfl) (by kernel_rfl) hS9 rfl (fun wq hq => rf_load Tryz.underlying59 rfl rfl rfl ((hq.blkR 1 rfl).cell rfl)) rfl ?_
      refine wh_take (i := 5) (v := .slice ((chainV hh.ls k).a) ((st.ch k).length) ((chainV hh.ls k).c)) rfl (by kernel_rfl) (by kernel_rfl) (by kernel_rfl) hS9 rfl (fun wq hq => rf_move rfl) rfl ?_
      refine wh_take (i := 6) (v := .int .i64 ((p : Nat) : Int)) rfl (by kernel_rfl) (by kernel_rfl) (by kernel_rfl) hS9 rfl (fun wq hq => rf_move rfl) (congrArg (Value.int .i64) (by omega)) ?_
      refine wh_take (i := 7) (v := .pointer (some ⟨ab ((chainV hh.ls k).a), ao ((chainV hh.ls k).a) + p * 1, none⟩)) rfl (by kernel_rfl) (by kernel_rfl) (by kernel_rfl) hS9 rfl (fun wq hq => rf_indexAddrH Tryz.underlying57 ti3 rfl rfl rfl rfl (by omega) (by omega) (hq.rdR 4 Le.rfl)) rfl ?_
      refine wh_take (i := 8) (v := .int .i64 v0) rfl (by kernel_rfl) (by kernel_rfl) (by kernel_rfl) hS9 rfl (fun wq hq => rf_load Tryz.underlying3 rfl rfl rfl (rd_el (hq.rdR 4 Le.rfl) hv0 0 _ rfl)) rfl ?_
      refine wh_take (i := 9) (v := .pointer (some ⟨vb, 0, none⟩)) rfl (by kernel_rfl) (by kernel_rfl) (by kernel_rfl) hS9 rfl (fun wq hq => rf_lookup (a := v0) klI3 Tryz.underlying59 ti100 rfl rfl rfl rfl (hq.mapR 2 rfl)) (by rw [hgvb]; rfl) ?_
      refine wh_one (i := 10) (by kernel_rfl) rfl ?_
      refine wl_tr H9 rfl [] (told_tr vb r0) rfl (.ro 5 Le.rfl .nil) (rf_call Tryz.call55 rfl rfl) rfl ?_
      rintro _ w10 _ ⟨rfl, rfl⟩ H10
      refine wl_nil ?_
      have hS11 : St w0 S0 [stoH s st, blkH s #[.int .i64 st.room, .int .i64 st.parts, .int .i64 st.last, .map (some hh.vr), .pointer (some ⟨hh.bd, 0, none⟩)] 61, mapH iv pv hh.vr hh.m, fixH s st hh, rdH encI 1 ((chainV hh.ls k).a) ((st.ch k).length) ((chainV hh.ls k).c) (st.ch k), blkH vb #[.int .i64 r0.batch, .int .i64 r0.index, .int .i64 r0.key.table, .int .i64 r0.key.row, .bool r0.filled, .bool r0.cell.is_, .int .i64 r0.cell.value] 104] w10 [] := H10.pick' [] rfl rfl
      refine wh_back hS11 ?_
      refine wh_one (i := 11) (by kernel_rfl) rfl ?_
      refine wl_buildSliceH (enc := encVer) H10 [verT r0] encVer_len Tryz.underlying81 ti71 rfl rfl rfl (.cons rfl rfl rfl rfl rfl rfl .nil) ?_
      intro a12 w13 H13
      refine wl_nil ?_
      have hS14 : St w0 S0 [stoH s st, blkH s #[.int .i64 st.room, .int .i64 st.parts, .int .i64 st.last, .map (some hh.vr), .pointer (some ⟨hh.bd, 0, none⟩)] 61, mapH iv pv hh.vr hh.m, fixH s st hh, rdH encI 1 ((chainV hh.ls k).a) ((st.ch k).length) ((chainV hh.ls k).c) (st.ch k), blkH vb #[.int .i64 r0.batch, .int .i64 r0.index, .int .i64 r0.key.table, .int .i64 r0.key.row, .bool r0.filled, .bool r0.cell.is_, .int .i64 r0.cell.value] 104] w13 [] := H13.pick' [] rfl rfl
      refine wh_back hS14 ?_
      refine wh_one (i := 12) (by kernel_rfl) rfl ?_
      refine wl_appendH (enc := encVer) (N := m + 1) H13 1 rfl rfl encVer_len encVer_one Tryz.underlying81 ti71 rfl rfl rfl rfl rfl (H13.rdO 2 slH_rd) rfl (by omega) (by omega) ?_
      intro a15 c15 w15 hc15 hd15 H15
      try dsimp only [putsH, setH, List.cons_append, List.nil_append] at H15
      refine wl_nil ?_
      have hS16 : St w0 S0 [stoH s st, blkH s #[.int .i64 st.room, .int .i64 st.parts, .int .i64 st.last, .map (some hh.vr), .pointer (some ⟨hh.bd, 0, none⟩)] 61, mapH iv pv hh.vr hh.m, fixH s st hh, rdH encI 1 ((chainV hh.ls k).a) ((st.ch k).length) ((chainV hh.ls k).c) (st.ch k), blkH vb #[.int .i64 r0.batch, .int .i64 r0.index, .int .i64 r0.key.table, .int .i64 r0.key.row, .bool r0.filled, .bool r0.cell.is_, .int .i64 r0.cell.value] 104] w15 [] := H15.pick' [] rfl rfl
      refine wh_back hS16 ?_
      refine wh_take (i := 13) (v := .slice a15 (m + 1) c15) rfl (by kernel_rfl) (by kernel_rfl) (by kernel_rfl) hS16 rfl (fun wq hq => rf_assign rfl) rfl ?_
      refine wh_done (by kernel_rfl) ?_
      refine bln ?_
      refine thn ?_
      refine region_ ?_
      refine wl_valE (v := .int .i64 (((p + 1) : Int) - 1)) rfl (rf_move rfl) rfl ?_
      refine wl_valE (v := .int .i64 ((p : Int) - 1)) rfl (rf_sub rfl rfl rfl rfl (by rw [IntWalk.i64_in _ (by omega)]; omega)) rfl ?_
      refine wl_valE (v := .int .i64 ((p : Int) - 1)) rfl (rf_assign rfl) rfl ?_
      refine wl_nil ?_
      refine thn ?_
      refine ⟨p, _, rfl, (by omega), _, p, m + 1, l ++ ([verT r0]), a15, c15, upds_self ⟨rfl, rfl, rfl, rfl, trivial⟩, rfl, ⟨by omega, by omega⟩, by rw [hlq, drop_rev hv0, List.map_append]; simp [verF, hr0, verT], (H15.weakR 5 rfl).pick' [0, 1] rfl rfl⟩
    · have c22p := of_decide_eq_false c22
      obtain rfl : q = 0 := by omega
      refine exit_ ?_
      refine thx (thx (blx ?_))
      refine thn ?_
      refine seq_ ?_
      refine region_ ?_
      refine wl_valE (v := .slice wa m wc) rfl (rf_move rfl) rfl ?_
      refine wl_valE (v := .slice wa m wc) rfl (rf_assign rfl) rfl ?_
      refine wl_nil ?_
      refine thn ?_
      refine ret_ ?_
      refine fin1 (v := .slice wa m wc) Tryz.results28 rfl rfl ?_
      have hll : l = chnF st k := by rw [hlq, List.drop_zero]; rfl
      have hml : m = (chnF st k).length := by unfold chnF; simp; omega
      subst hll
      exact ⟨_, ⟨wa, wc, by rw [hml], by rw [hml]; rfl⟩, (HL0.weakR 1 rfl).pick' [1] rfl rfl⟩
theorem eachF_tr (s : Nat) (st : StS) (h : StH) (p : Int) (hl : st.last ≤ 2932031007400) : Tr Tryz.prog 58 [.pointer (some ⟨h.bd, 0, none⟩), .int .i64 p] [fixH s st h] [] (fun v m => ∃ tb a c R, (RowOfC (partLC h.ls p) R ∧ (R.length : Int) ≤ st.last) ∧ v = .func (.func 66) #[] #[.pointer (some ⟨tb, 0, none⟩)] ∧ m = [blkH tb #[.slice a R.length c] 127, slH encSlotC 4 124 a R.length c R]) := by
  intro w0 S0 H0
  refine enterR Tryz.func58 rfl Tryz.ntmps58 rfl ?_
  intro g0
  refine seq_ ?_
  refine region_ ?_
  refine wl_valE (v := .nilFunc) rfl (rf_assign rfl) rfl ?_
  refine wl_nil ?_
  refine thn ?_
  refine seq_ ?_
  refine region_ ?_
  refine wl_valE (v := .pointer (some ⟨h.bd, 0, none⟩)) rfl (rf_move rfl) rfl ?_
  refine wl_valE (v := .int .i64 p) rfl (rf_move rfl) rfl ?_
  refine wl_tr H0 rfl [] (rowF_tr p (by omega)) rfl (.ro 0 Le.rfl .nil) (rf_call Tryz.call65 rfl rfl) rfl ?_
  rintro _ w1 _ ⟨ra, rc, R9, hR9, rfl, rfl⟩ H1
  refine wl_allocH H1 ti127 ?_
  intro tb w3 H3
  refine wl_storeH H3 1 (v := .slice ra R9.length rc) (A' := #[.slice ra R9.length rc]) rfl rfl ti127 rfl rfl rfl rfl rfl (ltb rfl) rfl ?_
  intro w4 H4
  refine wl_nil ?_
  refine thn ?_
  refine seq_ ?_
  refine region_ ?_
  refine wl_valE (v := .func (.func 66) #[] #[.pointer (some ⟨tb, 0, none⟩)]) rfl (rf_makeFunc (vfs := []) (vcs := [.pointer (some ⟨tb, 0, none⟩)]) rfl rfl rfl rfl) rfl ?_
  refine wl_valE (v := .func (.func 66) #[] #[.pointer (some ⟨tb, 0, none⟩)]) rfl (rf_assign rfl) rfl ?_
  refine wl_nil ?_
  refine thn ?_
  refine ret_ ?_
  refine fin1 (v := .func (.func 66) #[] #[.pointer (some ⟨tb, 0, none⟩)]) Tryz.results58 rfl rfl ?_
  exact ⟨_, ⟨_, _, _, _, hR9, rfl, rfl⟩, H4.pick' [1, 0] rfl rfl⟩
theorem eachC_it (tb : Nat) (a : Option Addr) (c : Nat) (R : List SlotC) (hRn : R.length ≤ 9223372036854775806) : IterC Tryz.prog 66 #[.pointer (some ⟨tb, 0, none⟩)] (fun s => #[.agg (encKey s.key).toArray, .slice s.val.a s.val.n s.val.c]) R (fun W => Blk W tb (.cells #[.slice a R.length c] 127 (0, 0)) ∧ ∃ S, (rdH encSlotC 4 a R.length c R).P W S) := by
  intro ln J Jx w0 hJk hJxk hRep hY h0
  obtain ⟨S0, hS0⟩ : ∃ S : Nat → Prop, S = fun _ => True := ⟨_, rfl⟩
  have H0 : St w0 S0 [] w0 [sinceH (J 0)] := by rw [hS0]; exact St.base h0
  rw [show (#[.func (.yield ln) #[] #[]] ++ #[.pointer (some ⟨tb, 0, none⟩)] : Array Value) = [.func (.yield ln) #[] #[], .pointer (some ⟨tb, 0, none⟩)].toArray from by simp]
  show Ret Tryz.prog 66 [.func (.yield ln) #[] #[], .pointer (some ⟨tb, 0, none⟩)] w0 (fun _ B => J R.length B ∨ Jx B)
  refine enterR Tryz.func66 rfl Tryz.ntmps66 rfl ?_
  intro g0
  refine seq_ ?_
  obtain ⟨WJ1, hJ1, hkJ1⟩ := H0.since 0 rfl
  obtain ⟨hblk1, hrd1⟩ := hRep _ _ (hJk _ _ _ hJ1 hkJ1)
  refine region_ ?_
  refine wl_valE (v := .slice a R.length c) rfl (rf_load Tryz.underlying127 rfl rfl rfl (hblk1.cell rfl)) rfl ?_
  refine wl_valE (v := .int .i64 ((R.length : Nat) : Int)) rfl (rf_len_slice Tryz.underlying127 rfl rfl) rfl ?_
  refine wl_valE (v := .int .i64 (0 : Int)) rfl (rf_move rfl) rfl ?_
  refine wl_nil ?_
  refine thn ?_
  refine block_ ?_
  refine loop_ (fun qk_ qf_ qw_ => ∃ (g : Nat → Value) (i : Nat) (wb : World), qf_ = upds g [(0, .func (.yield ln) #[] #[]), (5, .slice a R.length c), (6, .int .i64 ((R.length : Nat) : Int)), (7, .int .i64 ((i : Nat) : Int))] ∧ qk_ = R.length - i ∧ (i ≤ R.length) ∧ St wb S0 [] qw_ [sinceH (J i)]) (R.length - 0) ?_ ?_
  · refine ⟨_, 0, w0, upds_self ⟨rfl, rfl, rfl, rfl, trivial⟩, rfl, Nat.zero_le _, H0.pick' [0] rfl rfl⟩
  · rintro lk0 _ wl0 ⟨gl0, i, wb, rfl, hlk0, hi, HL0⟩
    refine seq_ ?_
    refine region_ ?_
    refine wl_valE (v := .bool (decide (((i : Nat) : Int) < ((R.length : Nat) : Int)))) rfl (rf_lss rfl rfl rfl rfl) rfl ?_
    refine wl_nil ?_
    refine thn ?_
    refine seq_ ?_
    refine cond_ (t := decide (((i : Nat) : Int) < ((R.length : Nat) : Int))) rfl rfl (fun c8 => ?_) (fun c8 => ?_)
    · have c8p := of_decide_eq_true c8
      refine skip_ ?_
      refine thn ?_
      refine seq_ ?_
      refine block_ ?_
      refine seq_ ?_
      obtain ⟨WJ2, hJ2, hkJ2⟩ := HL0.since 0 rfl
      obtain ⟨hblk2, hrd2⟩ := hRep _ _ (hJk _ _ _ hJ2 hkJ2)
      have hn3 := rd_len hrd2
      obtain ⟨xs, hxs⟩ : ∃ q_, R[i]? = some q_ := ⟨_, List.getElem?_eq_getElem (by omega)⟩
      refine region_ ?_
      refine wl_valE (v := .pointer (some ⟨ab a, ao a + i * 4, none⟩)) rfl (rf_indexAddrH Tryz.underlying127 ti124 rfl rfl rfl rfl (by omega) (by omega) hrd2) rfl ?_
      refine wl_valE (v := .agg #[.int .i64 xs.key.table, .int .i64 xs.key.row, .slice xs.val.a xs.val.n xs.val.c, .int .i64 xs.came]) rfl (rf_loadAgg (cs := [.int .i64 xs.key.table, .int .i64 xs.key.row, .slice xs.val.a xs.val.n xs.val.c, .int .i64 xs.came]) Tryz.underlying124 rfl ti124 rfl rfl (el_sub' (rd_el hrd2 hxs) 0 4 rfl) rfl) rfl ?_
      refine wl_allocH HL0 ti124 ?_
      intro b4 w5 H5
      refine wl_storeAggH H5 1 (o := 0) (cs := [.int .i64 xs.key.table, .int .i64 xs.key.row, .slice xs.val.a xs.val.n xs.val.c, .int .i64 xs.came]) (A' := #[.int .i64 xs.key.table, .int .i64 xs.key.row, .slice xs.val.a xs.val.n xs.val.c, .int .i64 xs.came]) rfl rfl ti124 rfl rfl rfl rfl rfl oneAll (leb rfl) rfl ?_
      intro w6 H6
      refine wl_nil ?_
      refine thn ?_
      refine seq_ ?_
      refine region_y 5 rfl ?_
      refine wl_valE (v := .func (.yield ln) #[] #[]) rfl (rf_move rfl) rfl ?_
      refine wl_valE (v := .pointer (some ⟨b4, 0, none⟩)) rfl (rf_fieldAddr Tryz.underlying124 rfl ti41 rfl rfl) rfl ?_
      refine wl_valE (v := .agg #[.int .i64 xs.key.table, .int .i64 xs.key.row]) rfl (rf_loadBlk Tryz.underlying41 rfl ti41 rfl rfl (H6.blk 1 rfl) (leb rfl)) rfl ?_
      refine wl_valE (v := .pointer (some ⟨b4, 2, none⟩)) rfl (rf_fieldAddr Tryz.underlying124 rfl ti57 rfl rfl) rfl ?_
      refine wl_valE (v := .slice xs.val.a xs.val.n xs.val.c) rfl (rf_load Tryz.underlying57 rfl rfl rfl ((H6.blk 1 rfl).cell rfl)) rfl ?_
      obtain ⟨WJ, hJ, hkJ⟩ := H6.since 0 rfl
      refine wl_nil ?_
      refine yq (xs := [Go.Operand.tmp 13, Go.Operand.tmp 15]) (vs := [.agg #[.int .i64 xs.key.table, .int .i64 xs.key.row], .slice xs.val.a xs.val.n xs.val.c]) rfl rfl rfl rfl rfl (hY i xs _ hxs (hJk _ _ _ hJ hkJ)) (fun by3 wy3 hy3 => ?_)
      cases by3 with
      | true =>
        have Hy3 : St wy3 S0 [] wy3 [sinceH (J (i + 1))] := by rw [hS0]; exact St.base hy3
        refine wl_valE (v := .bool false) rfl (rf_not rfl rfl) rfl ?_
        refine wl_nil ?_
        refine thn ?_
        refine condF rfl rfl ?_
        refine skip_ ?_
        refine bln ?_
        refine thn ?_
        refine region_ ?_
        refine wl_valE (v := .int .i64 ((i + 1 : Nat) : Int)) rfl (rf_add rfl rfl rfl rfl (IntWalk.i64_in _ (by omega))) rfl ?_
        refine wl_valE (v := .int .i64 ((i + 1 : Nat) : Int)) rfl (rf_move rfl) rfl ?_
        refine wl_nil ?_
        refine thn ?_
        refine ⟨R.length - (i + 1), _, rfl, (by omega), _, i + 1, wy3, upds_self ⟨rfl, rfl, rfl, rfl, trivial⟩, rfl, by omega, Hy3.pick' [0] rfl rfl⟩
      | false =>
        have Hy3 : St wy3 S0 [] wy3 [sinceH (Jx)] := by rw [hS0]; exact St.base hy3
        refine wl_valE (v := .bool true) rfl (rf_not rfl rfl) rfl ?_
        refine wl_nil ?_
        refine thn ?_
        refine condT rfl rfl ?_
        refine ret_ ?_
        refine blr (thr (thr (blr ?_)))
        refine fin0 Tryz.results66 ?_
        obtain ⟨WZ, hZ, hkZ⟩ := Hy3.since 0 rfl
        exact .inr (hJxk _ _ hZ hkZ)
    · have c8p := of_decide_eq_false c8
      refine exit_ ?_
      refine thx (thx (blx ?_))
      refine fin_ ?_
      refine fin0 Tryz.results66 ?_
      obtain rfl : i = R.length := by omega
      obtain ⟨WZ, hZ, hkZ⟩ := HL0.since 0 rfl
      exact .inl (hJk _ _ _ hZ hkZ)
theorem keys_tr (s : Nat) (st : StS) (p : Int) (hl : st.last ≤ 2932031007400) : Tr Tryz.prog 32 [.pointer (some ⟨s, 0, none⟩), .int .i64 p] [stoH s st] [] (fun v m => ∃ a c l, (IsKeys st p l ∧ (l.length : Int) ≤ st.last) ∧ v = .slice a l.length c ∧ m = [slH encKey 2 41 a l.length c l]) := by
  intro w0 S0 H0
  have HM := H0.addMks
  dsimp only [List.cons_append, List.nil_append] at HM
  obtain ⟨hh, hs, H1⟩ := stoR HM 0 rfl
  try dsimp only [List.cons_append, List.nil_append] at H1
  refine enterM Tryz.func32 rfl Tryz.ntmps32 rfl ?_
  intro g0
  refine seq_ ?_
  refine region_ ?_
  refine wl_valE (v := .slice none 0 0) rfl (rf_assign rfl) rfl ?_
  refine wl_nil ?_
  refine thn ?_
  refine wrD rfl ?_
  refine seq_ ?_
  refine region_ ?_
  refine wl_allocH H1 ti85 ?_
  intro bl w3 H3
  refine wl_nil ?_
  refine thn ?_
  refine wrD rfl ?_
  refine seq_ ?_
  refine seq_ ?_
  refine region_ ?_
  refine wl_valE (v := .pointer (some ⟨s, 0, none⟩)) rfl (rf_move rfl) rfl ?_
  refine wl_valE (v := .pointer (some ⟨s, 0, none⟩)) rfl (rf_nilCheckP rfl rfl) rfl ?_
  refine wl_valE (v := .pointer (some ⟨s, 4, none⟩)) rfl (rf_fieldAddr Tryz.underlying61 rfl ti54 rfl rfl) rfl ?_
  refine wl_valE (v := .pointer (some ⟨hh.bd, 0, none⟩)) rfl (rf_load Tryz.underlying54 rfl rfl rfl ((H3.blkR 1 rfl).cell rfl)) rfl ?_
  refine wl_valE (v := .int .i64 p) rfl (rf_move rfl) rfl ?_
  refine wl_tr H3 rfl [] (eachF_tr s st hh p (by omega)) rfl (.ro 3 Le.rfl .nil) (rf_call Tryz.call58 rfl rfl) rfl ?_
  rintro _ w4 _ ⟨tb, ea, ec, ER, hER, rfl, rfl⟩ H4
  try dsimp only [putsH, setH, List.cons_append, List.nil_append] at H4
  refine wl_nil ?_
  refine thn ?_
  refine wrD rfl ?_
  refine block_ ?_
  have H5 := H4.addNil encKey 2 41 (α := Key)
  refine rangeO (Ds := []) H5 0 rfl rfl rfl rfl rfl rfl (by exact Tryz.call66) (eachC_it tb ea ec ER (by omega)) (fun _ _ => rfl) (fun Df0 lpf0 j qw_ => ∃ (wa : Option Addr) (wc : Nat), St w0 S0 [stoH s st, blkH s #[.int .i64 st.room, .int .i64 st.parts, .int .i64 st.last, .map (some hh.vr), .pointer (some ⟨hh.bd, 0, none⟩)] 61, mapH iv pv hh.vr hh.m, fixH s st hh] qw_ [mksH (Df0 :: []), blkH bl #[.slice wa j wc] 85, blkH tb #[.slice ea ER.length ec] 127, slH encSlotC 4 124 ea ER.length ec ER, slH encKey 2 41 wa j wc (ksC (ER.take j)), anyH lpf0]) (fun Df0 lpf0 qe_ qw_ => False) ?_ ?_ ?_ ?_ ?_ ?_ ?_
  · rintro Df0 lpf0 j WA WB ⟨wa, wc, HA⟩ hkA
    exact ⟨wa, wc, HA.anyKp 5 rfl rfl hkA⟩
  · exact fun _ _ _ _ _ h _ => h
  · rintro Df0 lpf0 j Wf0 ⟨wa, wc, HRf0⟩
    exact ⟨HRf0.blk 2 rfl, HRf0.rdO 3 slH_rd⟩
  · intro Df0 lpf0 Wf0 Hf0
    try dsimp only [putsH, setH, List.cons_append, List.nil_append] at Hf0
    exact ⟨none, 0, Hf0.pick' [0, 1, 2, 3, 4, 5] rfl rfl⟩
  · rintro Df0 lpf0 j xr Wf0 rbf0 hxr ⟨wa, wc, HAf0⟩ hrbf0 hrdf0
    have HRf0 := HAf0.anyLoop 5 rfl rfl hrbf0 hrdf0
    dsimp only [setH] at HRf0
    have hjl := (List.getElem?_eq_some_iff.1 hxr).1
    refine region_ ?_
    refine wl_allocH HRf0 ti41 ?_
    intro bk w7 H7
    refine wl_storeAggH H7 6 (o := 0) (cs := [.int .i64 xr.key.table, .int .i64 xr.key.row]) (A' := #[.int .i64 xr.key.table, .int .i64 xr.key.row]) rfl rfl ti41 rfl rfl rfl rfl rfl oneAll (leb rfl) rfl ?_
    intro w8 H8
    refine wl_nil ?_
    refine apn ⟨(H8.loopBlk 5 rfl).1, fun W2f0 rb2f0 hk2f0 hb2f0 hd2f0 => ?_⟩
    have H2f0 := H8.loopTurn 5 rfl rfl hk2f0 hb2f0 hd2f0
    dsimp only [setH, putsH, List.cons_append, List.nil_append] at H2f0
    refine block_ ?_
    refine region_ ?_
    refine wl_valE (v := .slice wa j wc) rfl (rf_load Tryz.underlying85 rfl rfl rfl ((H2f0.blk 1 rfl).cell rfl)) rfl ?_
    refine wl_valE (v := .agg #[.int .i64 xr.key.table, .int .i64 xr.key.row]) rfl (rf_loadBlk Tryz.underlying41 rfl ti41 rfl rfl (H2f0.blk 6 rfl) (leb rfl)) rfl ?_
    refine wl_buildSliceH (enc := encKey) H2f0 [xr.key] encKey_len Tryz.underlying85 ti41 rfl rfl rfl (.cons rfl rfl rfl rfl rfl rfl .nil) ?_
    intro a9 w10 H10
    refine wl_appendH (enc := encKey) (N := j + 1) H10 4 rfl rfl encKey_len encKey_one Tryz.underlying85 ti41 rfl rfl rfl rfl rfl (H10.rdO 7 slH_rd) rfl (by omega) (by omega) ?_
    intro a11 c11 w11 hc11 hd11 H11
    refine wl_storeH H11 1 (v := .slice a11 (j + 1) c11) (A' := #[.slice a11 (j + 1) c11]) rfl rfl ti85 rfl rfl rfl rfl rfl (ltb rfl) rfl ?_
    intro w12 H12
    refine wl_nil ?_
    refine bln ?_
    have hrw13 : (ksC (ER.take j)) ++ ([xr.key]) = ksC (ER.take (j + 1)) := by unfold ksC; rw [List.take_add_one, hxr, Option.toList_some, List.map_append]; rfl
    rw [hrw13] at H12
    refine rb_n H12 5 rfl ?_
    have H14 := H12.le 5 loopH_any rfl
    exact ⟨a11, c11, H14.pick' [0, 1, 2, 3, 4, 5] rfl rfl⟩
  · rintro Df0 lpf0 Wf0 ⟨wa, wc, HDf0⟩
    refine bln ?_
    refine thn ?_
    refine wrD rfl ?_
    refine seq_ ?_
    have hks : (ksC ER).Nodup ∧ ∀ k, k ∈ ksC ER ↔ st.ch k ≠ [] ∧ ((hashF k : Nat) : Int) % st.parts = p := rows_keys hs hER.1
    have hrw15 : ksC (ER.take ER.length) = ksC ER := by rw [List.take_length]
    rw [hrw15] at HDf0
    refine region_ ?_
    refine wl_valE (v := .slice wa ER.length wc) rfl (rf_load Tryz.underlying85 rfl rfl rfl ((HDf0.blk 1 rfl).cell rfl)) rfl ?_
    refine wl_tr HDf0 rfl [] (sortKeys_tr wa ER.length wc (ksC ER) (by omega) (fun k hk => keys_ok hs.inv ((hks.2 k).1 hk).1) hks.1) rfl (.own 4 rfl slH_rd .nil) (rf_call Tryz.call59 rfl rfl) rfl ?_
    rintro _ w16 _ ⟨as9, cs9, ls9, hls9, rfl, rfl⟩ H16
    refine wl_valE (v := .tuple #[.slice as9 ER.length cs9, .int .i64 0]) rfl (rf_move rfl) rfl ?_
    refine wl_valE (v := .slice as9 ER.length cs9) rfl (rf_extract rfl rfl rfl) rfl ?_
    refine wl_valE (v := .int .i64 0) rfl (rf_extract rfl rfl rfl) rfl ?_
    refine wl_storeH H16 1 (v := .slice as9 ER.length cs9) (A' := #[.slice as9 ER.length cs9]) rfl rfl ti85 rfl rfl rfl rfl rfl (ltb rfl) rfl ?_
    intro w17 H17
    refine wl_nil ?_
    refine thn ?_
    refine wrD rfl ?_
    refine seq_ ?_
    refine region_ ?_
    refine wl_valE (v := .slice as9 ER.length cs9) rfl (rf_load Tryz.underlying85 rfl rfl rfl ((H17.blk 1 rfl).cell rfl)) rfl ?_
    refine wl_valE (v := .slice as9 ER.length cs9) rfl (rf_assign rfl) rfl ?_
    refine wl_nil ?_
    refine thn ?_
    refine wrD rfl ?_
    refine ret_ ?_
    refine finM (Ds := Df0 :: []) H17 0 rfl rfl rfl (fun w18 H18 => ?_)
    refine fin1 (v := .slice as9 ER.length cs9) Tryz.results32 rfl rfl ?_
    exact ⟨_, ⟨as9, cs9, ls9, ⟨⟨⟨fun k hk => keys_ok hs.inv (((hls9.1.mem_iff.trans (hks.2 k)).1 hk).1), hls9.2⟩, fun k => hls9.1.mem_iff.trans (hks.2 k)⟩, by have := hER.2; rw [hls9.1.length_eq, ksC_len]; exact this⟩, by rw [hls9.1.length_eq, ksC_len], by rw [hls9.1.length_eq, ksC_len]; rfl⟩, (H18.weakR 1 rfl).pick' [6] rfl rfl⟩
  · exact fun _ _ _ _ h _ => h.elim
end Go.Proofs.YtojcddlpkfhodaaGreat.W
