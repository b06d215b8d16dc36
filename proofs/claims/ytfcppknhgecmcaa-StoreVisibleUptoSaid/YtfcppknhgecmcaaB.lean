import Derived.Test.YtfcppknhgecmcaaWk
import Derived.Test.YtfcppknhgecmcaaProg
import Derived.KernelRfl
namespace Go.Proofs.Ytfcppknhgecmcaa.W
open Go Go.Wk
set_option linter.unusedVariables false
theorem mixedP : Try.prog.follows .mixedOrders = true := by kernel_rfl
structure Sv where
  a : Option Addr
  n : Nat
  c : Nat
structure Cell where
  is_ : Bool
  value : Int
deriving DecidableEq
structure Key where
  table : Int
  row : Int
deriving DecidableEq
structure Place where
  batch : Int
  index : Int
deriving DecidableEq
structure Ver where
  batch : Int
  index : Int
  filled : Bool
  cell : Cell
deriving DecidableEq
def encCell (x : Cell) : List Value := [.bool x.is_, .int .i64 x.value]
theorem encCell_len (x : Cell) : (encCell x).length = 2 := rfl
theorem encCell_one (x : Cell) : ∀ u ∈ encCell x, u.oneCell' = true := by simp [encCell, Value.oneCell']
def encKey (x : Key) : List Value := [.int .i64 x.table, .int .i64 x.row]
theorem encKey_len (x : Key) : (encKey x).length = 2 := rfl
theorem encKey_one (x : Key) : ∀ u ∈ encKey x, u.oneCell' = true := by simp [encKey, Value.oneCell']
def encVer (x : Ver) : List Value := [.int .i64 x.batch, .int .i64 x.index, .bool x.filled, .bool x.cell.is_, .int .i64 x.cell.value]
theorem encVer_len (x : Ver) : (encVer x).length = 5 := rfl
theorem encVer_one (x : Ver) : ∀ u ∈ encVer x, u.oneCell' = true := by simp [encVer, Value.oneCell']
def encPlace (x : Place) : List Value := [.int .i64 x.batch, .int .i64 x.index]
theorem encPlace_len (x : Place) : (encPlace x).length = 2 := rfl
theorem encPlace_one (x : Place) : ∀ u ∈ encPlace x, u.oneCell' = true := by simp [encPlace, Value.oneCell']
def encI (x : Int) : List Value := [.int .i64 x]
theorem encI_len (x : Int) : (encI x).length = 1 := rfl
theorem encI_one (x : Int) : ∀ u ∈ encI x, u.oneCell' = true := by simp [encI, Value.oneCell']
def encB (x : Bool) : List Value := [.bool x]
theorem encB_len (x : Bool) : (encB x).length = 1 := rfl
theorem encB_one (x : Bool) : ∀ u ∈ encB x, u.oneCell' = true := by simp [encB, Value.oneCell']
theorem Cell.ext_iff' {x y : Cell} : x = y ↔ x.is_ = y.is_ ∧ x.value = y.value := by cases x; cases y; simp
theorem ti2 : TI Try.prog 2 (some (.int .i64 0)) 1 8 := by unfold TI; kernel_rfl
theorem ti3 : TI Try.prog 3 (some (.int .i64 0)) 1 8 := by unfold TI; kernel_rfl
theorem ti4 : TI Try.prog 4 (some (.bool false)) 1 1 := by unfold TI; kernel_rfl
theorem ti5 : TI Try.prog 5 (some (.int .u8 0)) 1 1 := by unfold TI; kernel_rfl
theorem ti22 : TI Try.prog 22 (some (.slice none 0 0)) 1 24 := by unfold TI; kernel_rfl
theorem ti30 : TI Try.prog 30 (some (.agg #[.int .i64 0, .int .i64 0])) 2 16 := by unfold TI; kernel_rfl
theorem ti32 : TI Try.prog 32 (some (.agg #[.bool false, .int .i64 0])) 2 16 := by unfold TI; kernel_rfl
theorem ti34 : TI Try.prog 34 (some (.agg #[.int .i64 0, .int .i64 0, .int .i64 0, .int .i64 0, .bool false, .bool false, .int .i64 0, .int .i64 0])) 8 64 := by unfold TI; kernel_rfl
theorem ti35 : TI Try.prog 35 (some (.pointer none)) 1 8 := by unfold TI; kernel_rfl
theorem ti36 : TI Try.prog 36 (some (.slice none 0 0)) 1 24 := by unfold TI; kernel_rfl
theorem ti38 : TI Try.prog 38 (some (.agg #[.pointer none, .slice none 0 0, .int .i64 0, .int .i64 0])) 4 48 := by unfold TI; kernel_rfl
theorem ti39 : TI Try.prog 39 (some (.slice none 0 0)) 1 24 := by unfold TI; kernel_rfl
theorem ti42 : TI Try.prog 42 (some (.agg #[.int .i64 0, .int .i64 0])) 2 16 := by unfold TI; kernel_rfl
theorem ti44 : TI Try.prog 44 (some (.agg #[.int .i64 0, .int .i64 0, .int .i64 0, .int .i64 0, .int .i64 0, .bool false, .bool false, .int .i64 0])) 8 64 := by unfold TI; kernel_rfl
theorem ti58 : TI Try.prog 58 (some (.map none)) 1 8 := by unfold TI; kernel_rfl
theorem ti59 : TI Try.prog 59 (some (.pointer none)) 1 8 := by unfold TI; kernel_rfl
theorem ti61 : TI Try.prog 61 (some (.agg #[.int .i64 0, .int .i64 0, .int .i64 0, .map none, .pointer none])) 5 40 := by unfold TI; kernel_rfl
theorem ti64 : TI Try.prog 64 (some (.agg #[.int .i64 0, .int .i64 0, .int .i64 0, .int .i64 0, .bool false, .bool false, .int .i64 0])) 7 56 := by unfold TI; kernel_rfl
theorem ti65 : TI Try.prog 65 (some (.pointer none)) 1 8 := by unfold TI; kernel_rfl
theorem ti68 : TI Try.prog 68 (some (.nilFunc)) 1 8 := by unfold TI; kernel_rfl
theorem ti75 : TI Try.prog 75 (some (.agg #[.int .i64 0, .int .i64 0, .slice none 0 0, .int .i64 0])) 4 48 := by unfold TI; kernel_rfl
theorem ti77 : TI Try.prog 77 (some (.map none)) 1 8 := by unfold TI; kernel_rfl
theorem ti78 : TI Try.prog 78 (some (.slice none 0 0)) 1 24 := by unfold TI; kernel_rfl
theorem ti80 : TI Try.prog 80 (some (.agg #[.nilFunc, .slice none 0 0, .int .i64 0, .int .i64 0])) 4 48 := by unfold TI; kernel_rfl
theorem ti81 : TI Try.prog 81 (some (.agg #[.int .u8 0, .int .u8 0, .int .u8 0, .int .u8 0, .int .u8 0, .int .u8 0, .int .u8 0, .int .u8 0, .int .u8 0, .int .u8 0])) 10 10 := by unfold TI; kernel_rfl
theorem eqA32 (d : Nat) (w : World) (x0 y0 : Bool) (x1 y1 : Int) : (Op.equalIn (d + 2) 32 (.agg #[.bool x0, .int .i64 x1]) (.agg #[.bool y0, .int .i64 y1])).run Try.prog w = .ok ((decide (x0 = y0) && decide (x1 = y1))) w := by
  refine eqA_of Try.underlying32 (by kernel_rfl) ?_
  refine eqf_cons rfl (part_one Try.underlying4 rfl rfl) (part_one Try.underlying4 rfl rfl) (eq_bool (d := d + 0) Try.underlying4) ?_
  exact eqf_last rfl (part_one Try.underlying2 rfl rfl) (part_one Try.underlying2 rfl rfl) (eq_int (d := d + 0) Try.underlying2)
theorem eqA103 (d : Nat) (w : World) (x0 y0 : Int) (x1 y1 : Int) (x2 y2 : Bool) (x3 y3 : Bool) (x4 y4 : Int) : (Op.equalIn (d + 3) 103 (.agg #[.int .i64 x0, .int .i64 x1, .bool x2, .bool x3, .int .i64 x4]) (.agg #[.int .i64 y0, .int .i64 y1, .bool y2, .bool y3, .int .i64 y4])).run Try.prog w = .ok ((decide (x0 = y0) && (decide (x1 = y1) && (decide (x2 = y2) && ((decide (x3 = y3) && decide (x4 = y4))))))) w := by
  refine eqA_of Try.underlying103 (by kernel_rfl) ?_
  refine eqf_cons rfl (part_one Try.underlying3 rfl rfl) (part_one Try.underlying3 rfl rfl) (eq_int (d := d + 1) Try.underlying3) ?_
  refine eqf_cons rfl (part_one Try.underlying3 rfl rfl) (part_one Try.underlying3 rfl rfl) (eq_int (d := d + 1) Try.underlying3) ?_
  refine eqf_cons rfl (part_one Try.underlying4 rfl rfl) (part_one Try.underlying4 rfl rfl) (eq_bool (d := d + 1) Try.underlying4) ?_
  exact eqf_last rfl (part_agg Try.underlying32 rfl ti32) (part_agg Try.underlying32 rfl ti32) (eqA32 (d + 0) w _ _ _ _)
theorem eqA30 (d : Nat) (w : World) (x0 y0 : Int) (x1 y1 : Int) : (Op.equalIn (d + 2) 30 (.agg #[.int .i64 x0, .int .i64 x1]) (.agg #[.int .i64 y0, .int .i64 y1])).run Try.prog w = .ok ((decide (x0 = y0) && decide (x1 = y1))) w := by
  refine eqA_of Try.underlying30 (by kernel_rfl) ?_
  refine eqf_cons rfl (part_one Try.underlying3 rfl rfl) (part_one Try.underlying3 rfl rfl) (eq_int (d := d + 0) Try.underlying3) ?_
  exact eqf_last rfl (part_one Try.underlying2 rfl rfl) (part_one Try.underlying2 rfl rfl) (eq_int (d := d + 0) Try.underlying2)
theorem eqA42 (d : Nat) (w : World) (x0 y0 : Int) (x1 y1 : Int) : (Op.equalIn (d + 2) 42 (.agg #[.int .i64 x0, .int .i64 x1]) (.agg #[.int .i64 y0, .int .i64 y1])).run Try.prog w = .ok ((decide (x0 = y0) && decide (x1 = y1))) w := by
  refine eqA_of Try.underlying42 (by kernel_rfl) ?_
  refine eqf_cons rfl (part_one Try.underlying3 rfl rfl) (part_one Try.underlying3 rfl rfl) (eq_int (d := d + 0) Try.underlying3) ?_
  exact eqf_last rfl (part_one Try.underlying3 rfl rfl) (part_one Try.underlying3 rfl rfl) (eq_int (d := d + 0) Try.underlying3)
theorem eqCell (x y : Cell) (w : World) : (Op.equalIn 10000 32 (.agg (encCell x).toArray) (.agg (encCell y).toArray)).run Try.prog w = .ok (decide (x = y)) w := by
  have h := eqA32 9998 w x.is_ y.is_ x.value y.value
  have e : decide (x = y) = (decide (x.is_ = y.is_) && decide (x.value = y.value)) := by
    rw [Bool.eq_iff_iff]; cases x; cases y; simp
  rw [e]; exact h
theorem eqVer (x y : Ver) (w : World) : (Op.equalIn 10000 103 (.agg (encVer x).toArray) (.agg (encVer y).toArray)).run Try.prog w = .ok (decide (x = y)) w := by
  have h := eqA103 9997 w x.batch y.batch x.index y.index x.filled y.filled x.cell.is_ y.cell.is_ x.cell.value y.cell.value
  have e : decide (x = y) = (decide (x.batch = y.batch) && (decide (x.index = y.index) && (decide (x.filled = y.filled) && ((decide (x.cell.is_ = y.cell.is_) && decide (x.cell.value = y.cell.value)))))) := by
    rw [Bool.eq_iff_iff]; cases x; cases y; simp [Cell.ext_iff']
  rw [e]; exact h
theorem eqKey (x y : Key) (w : World) : (Op.equalIn 10000 30 (.agg (encKey x).toArray) (.agg (encKey y).toArray)).run Try.prog w = .ok (decide (x = y)) w := by
  have h := eqA30 9998 w x.table y.table x.row y.row
  have e : decide (x = y) = (decide (x.table = y.table) && decide (x.row = y.row)) := by
    rw [Bool.eq_iff_iff]; cases x; cases y; simp
  rw [e]; exact h
theorem eqPlace (x y : Place) (w : World) : (Op.equalIn 10000 42 (.agg (encPlace x).toArray) (.agg (encPlace y).toArray)).run Try.prog w = .ok (decide (x = y)) w := by
  have h := eqA42 9998 w x.batch y.batch x.index y.index
  have e : decide (x = y) = (decide (x.batch = y.batch) && decide (x.index = y.index)) := by
    rw [Bool.eq_iff_iff]; cases x; cases y; simp
  rw [e]; exact h
theorem klI3 : KL Try.prog 3 (fun x : Int => Value.int .i64 x) := KL.now Try.underlying3 (fun a b => by simp [Instr.sameNow]; rfl) (fun w em a => by kernel_rfl) (fun a => by simp [Instr.sameBits])
theorem klKey : KL Try.prog 30 (fun x : Key => Value.agg (encKey x).toArray) := KL.ask Try.underlying30 (fun a v => rfl) (fun w a b => eqKey a b w) (fun w em a => by kernel_rfl) (fun a => by simp [Instr.sameBits, encKey])
end Go.Proofs.Ytfcppknhgecmcaa.W
