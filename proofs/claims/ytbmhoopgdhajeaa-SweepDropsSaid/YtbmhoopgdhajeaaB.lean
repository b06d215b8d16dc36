import Derived.Test.YtbmhoopgdhajeaaWk
import Derived.Test.YtbmhoopgdhajeaaProg
import Derived.KernelRfl
namespace Go.Proofs.Ytbmhoopgdhajeaa.W
open Go Go.Wk
set_option linter.unusedVariables false
theorem mixedP : Try.prog.follows .mixedOrders = true := by kernel_rfl
structure Cell where
  is_ : Bool
  value : Int
deriving DecidableEq
structure Key where
  table : Int
  row : Int
deriving DecidableEq
structure Place where
  batch : Int
  index : Int
deriving DecidableEq
structure Ver where
  batch : Int
  index : Int
  filled : Bool
  cell : Cell
deriving DecidableEq
def encCell (x : Cell) : List Value := [.bool x.is_, .int .i64 x.value]
theorem encCell_len (x : Cell) : (encCell x).length = 2 := rfl
theorem encCell_one (x : Cell) : ∀ u ∈ encCell x, u.oneCell' = true := by simp [encCell, Value.oneCell']
def encKey (x : Key) : List Value := [.int .i64 x.table, .int .i64 x.row]
theorem encKey_len (x : Key) : (encKey x).length = 2 := rfl
theorem encKey_one (x : Key) : ∀ u ∈ encKey x, u.oneCell' = true := by simp [encKey, Value.oneCell']
def encVer (x : Ver) : List Value := [.int .i64 x.batch, .int .i64 x.index, .bool x.filled, .bool x.cell.is_, .int .i64 x.cell.value]
theorem encVer_len (x : Ver) : (encVer x).length = 5 := rfl
theorem encVer_one (x : Ver) : ∀ u ∈ encVer x, u.oneCell' = true := by simp [encVer, Value.oneCell']
def encPlace (x : Place) : List Value := [.int .i64 x.batch, .int .i64 x.index]
theorem encPlace_len (x : Place) : (encPlace x).length = 2 := rfl
theorem encPlace_one (x : Place) : ∀ u ∈ encPlace x, u.oneCell' = true := by simp [encPlace, Value.oneCell']
def encI (x : Int) : List Value := [.int .i64 x]
theorem encI_len (x : Int) : (encI x).length = 1 := rfl
theorem encI_one (x : Int) : ∀ u ∈ encI x, u.oneCell' = true := by simp [encI, Value.oneCell']
def encB (x : Bool) : List Value := [.bool x]
theorem encB_len (x : Bool) : (encB x).length = 1 := rfl
theorem encB_one (x : Bool) : ∀ u ∈ encB x, u.oneCell' = true := by simp [encB, Value.oneCell']
theorem Cell.ext_iff' {x y : Cell} : x = y ↔ x.is_ = y.is_ ∧ x.value = y.value := by cases x; cases y; simp
theorem ti2 : TI Try.prog 2 (some (.int .i64 0)) 1 8 := by unfold TI; kernel_rfl
theorem ti3 : TI Try.prog 3 (some (.int .i64 0)) 1 8 := by unfold TI; kernel_rfl
theorem ti4 : TI Try.prog 4 (some (.bool false)) 1 1 := by unfold TI; kernel_rfl
theorem ti5 : TI Try.prog 5 (some (.int .u8 0)) 1 1 := by unfold TI; kernel_rfl
theorem ti6 : TI Try.prog 6 (some (.int .u8 0)) 1 1 := by unfold TI; kernel_rfl
theorem ti7 : TI Try.prog 7 (some (.agg #[.int .i64 0, .int .i64 0, .bool false, .int .u8 0])) 4 24 := by unfold TI; kernel_rfl
theorem ti8 : TI Try.prog 8 (some (.agg #[.int .i64 0, .int .i64 0, .bool false, .int .u8 0])) 4 24 := by unfold TI; kernel_rfl
theorem ti9 : TI Try.prog 9 (some (.string ⟨#[]⟩)) 1 16 := by unfold TI; kernel_rfl
theorem ti10 : TI Try.prog 10 (some (.string ⟨#[]⟩)) 1 16 := by unfold TI; kernel_rfl
theorem ti11 : TI Try.prog 11 (some (.string ⟨#[]⟩)) 1 16 := by unfold TI; kernel_rfl
theorem ti12 : TI Try.prog 12 (some (.int .u64 0)) 1 8 := by unfold TI; kernel_rfl
theorem ti13 : TI Try.prog 13 (some (.agg #[.string ⟨#[]⟩, .int .u64 0])) 2 24 := by unfold TI; kernel_rfl
theorem ti14 : TI Try.prog 14 (some (.agg #[.string ⟨#[]⟩, .int .u64 0])) 2 24 := by unfold TI; kernel_rfl
theorem ti15 : TI Try.prog 15 (some (.pointer none)) 1 8 := by unfold TI; kernel_rfl
theorem ti16 : TI Try.prog 16 (some (.pointer none)) 1 8 := by unfold TI; kernel_rfl
theorem ti17 : TI Try.prog 17 (some (.pointer none)) 1 8 := by unfold TI; kernel_rfl
theorem ti18 : TI Try.prog 18 (some (.agg #[.pointer none])) 1 8 := by unfold TI; kernel_rfl
theorem ti19 : TI Try.prog 19 (some (.agg #[.pointer none])) 1 8 := by unfold TI; kernel_rfl
theorem ti20 : TI Try.prog 20 (some (.nilIface)) 1 16 := by unfold TI; kernel_rfl
theorem ti21 : TI Try.prog 21 (some (.int .i32 0)) 1 4 := by unfold TI; kernel_rfl
theorem ti22 : TI Try.prog 22 (some (.slice none 0 0)) 1 24 := by unfold TI; kernel_rfl
theorem ti23 : TI Try.prog 23 (some (.slice none 0 0)) 1 24 := by unfold TI; kernel_rfl
theorem ti24 : TI Try.prog 24 (some (.agg #[.bool false, .int .i64 0])) 2 16 := by unfold TI; kernel_rfl
theorem ti25 : TI Try.prog 25 (some (.agg #[.bool false, .int .i64 0])) 2 16 := by unfold TI; kernel_rfl
theorem ti26 : TI Try.prog 26 (some (.agg #[.int .i64 0, .int .i64 0, .bool false, .bool false, .int .i64 0])) 5 40 := by unfold TI; kernel_rfl
theorem ti27 : TI Try.prog 27 (some (.agg #[.int .i64 0, .int .i64 0, .bool false, .bool false, .int .i64 0])) 5 40 := by unfold TI; kernel_rfl
theorem ti28 : TI Try.prog 28 (some (.slice none 0 0)) 1 24 := by unfold TI; kernel_rfl
theorem ti37 : TI Try.prog 37 (some (.agg #[.pointer none, .pointer none, .pointer none, .string ⟨#[]⟩])) 4 40 := by unfold TI; kernel_rfl
theorem ti38 : TI Try.prog 38 (some (.agg #[.pointer none, .pointer none, .pointer none, .string ⟨#[]⟩])) 4 40 := by unfold TI; kernel_rfl
theorem ti39 : TI Try.prog 39 (some (.agg #[])) 0 0 := by unfold TI; kernel_rfl
theorem ti40 : TI Try.prog 40 (some (.agg #[])) 0 0 := by unfold TI; kernel_rfl
theorem ti41 : TI Try.prog 41 (some (.agg #[])) 0 0 := by unfold TI; kernel_rfl
theorem ti43 : TI Try.prog 43 (some (.int .u32 0)) 1 4 := by unfold TI; kernel_rfl
theorem ti44 : TI Try.prog 44 (some (.int .u8 0)) 1 1 := by unfold TI; kernel_rfl
theorem ti45 : TI Try.prog 45 (some (.int .u8 0)) 1 1 := by unfold TI; kernel_rfl
theorem ti47 : TI Try.prog 47 (some (.pointer none)) 1 8 := by unfold TI; kernel_rfl
theorem ti48 : TI Try.prog 48 (some (.int .i32 0)) 1 4 := by unfold TI; kernel_rfl
theorem ti49 : TI Try.prog 49 (some (.int .i32 0)) 1 4 := by unfold TI; kernel_rfl
theorem ti50 : TI Try.prog 50 (some (.agg #[.int .u64 0, .int .u64 0, .int .u32 0, .int .u8 0, .int .u8 0, .int .u8 0, .int .u8 0, .nilFunc, .pointer none, .int .i32 0, .int .i32 0])) 11 48 := by unfold TI; kernel_rfl
theorem ti51 : TI Try.prog 51 (some (.agg #[.int .u64 0, .int .u64 0, .int .u32 0, .int .u8 0, .int .u8 0, .int .u8 0, .int .u8 0, .nilFunc, .pointer none, .int .i32 0, .int .i32 0])) 11 48 := by unfold TI; kernel_rfl
theorem ti52 : TI Try.prog 52 (some (.pointer none)) 1 8 := by unfold TI; kernel_rfl
theorem eqA25 (d : Nat) (w : World) (x0 y0 : Bool) (x1 y1 : Int) : (Op.equalIn (d + 2) 25 (.agg #[.bool x0, .int .i64 x1]) (.agg #[.bool y0, .int .i64 y1])).run Try.prog w = .ok ((decide (x0 = y0) && decide (x1 = y1))) w := by
  refine eqA_of Try.underlying25 (by kernel_rfl) ?_
  refine eqf_cons rfl (part_one Try.underlying4 rfl rfl) (part_one Try.underlying4 rfl rfl) (eq_bool (d := d + 0) Try.underlying4) ?_
  exact eqf_last rfl (part_one Try.underlying2 rfl rfl) (part_one Try.underlying2 rfl rfl) (eq_int (d := d + 0) Try.underlying2)
theorem eqA27 (d : Nat) (w : World) (x0 y0 : Int) (x1 y1 : Int) (x2 y2 : Bool) (x3 y3 : Bool) (x4 y4 : Int) : (Op.equalIn (d + 3) 27 (.agg #[.int .i64 x0, .int .i64 x1, .bool x2, .bool x3, .int .i64 x4]) (.agg #[.int .i64 y0, .int .i64 y1, .bool y2, .bool y3, .int .i64 y4])).run Try.prog w = .ok ((decide (x0 = y0) && (decide (x1 = y1) && (decide (x2 = y2) && ((decide (x3 = y3) && decide (x4 = y4))))))) w := by
  refine eqA_of Try.underlying27 (by kernel_rfl) ?_
  refine eqf_cons rfl (part_one Try.underlying3 rfl rfl) (part_one Try.underlying3 rfl rfl) (eq_int (d := d + 1) Try.underlying3) ?_
  refine eqf_cons rfl (part_one Try.underlying3 rfl rfl) (part_one Try.underlying3 rfl rfl) (eq_int (d := d + 1) Try.underlying3) ?_
  refine eqf_cons rfl (part_one Try.underlying4 rfl rfl) (part_one Try.underlying4 rfl rfl) (eq_bool (d := d + 1) Try.underlying4) ?_
  exact eqf_last rfl (part_agg Try.underlying25 rfl ti25) (part_agg Try.underlying25 rfl ti25) (eqA25 (d + 0) w _ _ _ _)
theorem eqCell (x y : Cell) (w : World) : (Op.equalIn 10000 25 (.agg (encCell x).toArray) (.agg (encCell y).toArray)).run Try.prog w = .ok (decide (x = y)) w := by
  have h := eqA25 9998 w x.is_ y.is_ x.value y.value
  have e : decide (x = y) = (decide (x.is_ = y.is_) && decide (x.value = y.value)) := by
    rw [Bool.eq_iff_iff]; cases x; cases y; simp
  rw [e]; exact h
theorem eqVer (x y : Ver) (w : World) : (Op.equalIn 10000 27 (.agg (encVer x).toArray) (.agg (encVer y).toArray)).run Try.prog w = .ok (decide (x = y)) w := by
  have h := eqA27 9997 w x.batch y.batch x.index y.index x.filled y.filled x.cell.is_ y.cell.is_ x.cell.value y.cell.value
  have e : decide (x = y) = (decide (x.batch = y.batch) && (decide (x.index = y.index) && (decide (x.filled = y.filled) && ((decide (x.cell.is_ = y.cell.is_) && decide (x.cell.value = y.cell.value)))))) := by
    rw [Bool.eq_iff_iff]; cases x; cases y; simp [Cell.ext_iff']
  rw [e]; exact h
end Go.Proofs.Ytbmhoopgdhajeaa.W
