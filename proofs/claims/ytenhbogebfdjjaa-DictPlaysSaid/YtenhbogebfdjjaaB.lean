import Derived.Test.YtenhbogebfdjjaaWk
import Derived.Test.YtenhbogebfdjjaaProg
import Derived.KernelRfl
namespace Go.Proofs.Ytenhbogebfdjjaa.W
open Go Go.Wk
set_option linter.unusedVariables false
theorem mixedP : Try.prog.follows .mixedOrders = true := by kernel_rfl
structure Sv where
  a : Option Addr
  n : Nat
  c : Nat
structure Cell where
  is_ : Bool
  value : Int
deriving DecidableEq
structure Key where
  table : Int
  row : Int
deriving DecidableEq
structure Place where
  batch : Int
  index : Int
deriving DecidableEq
structure Ver where
  batch : Int
  index : Int
  filled : Bool
  cell : Cell
deriving DecidableEq
def encCell (x : Cell) : List Value := [.bool x.is_, .int .i64 x.value]
theorem encCell_len (x : Cell) : (encCell x).length = 2 := rfl
theorem encCell_one (x : Cell) : ∀ u ∈ encCell x, u.oneCell' = true := by simp [encCell, Value.oneCell']
def encKey (x : Key) : List Value := [.int .i64 x.table, .int .i64 x.row]
theorem encKey_len (x : Key) : (encKey x).length = 2 := rfl
theorem encKey_one (x : Key) : ∀ u ∈ encKey x, u.oneCell' = true := by simp [encKey, Value.oneCell']
def encVer (x : Ver) : List Value := [.int .i64 x.batch, .int .i64 x.index, .bool x.filled, .bool x.cell.is_, .int .i64 x.cell.value]
theorem encVer_len (x : Ver) : (encVer x).length = 5 := rfl
theorem encVer_one (x : Ver) : ∀ u ∈ encVer x, u.oneCell' = true := by simp [encVer, Value.oneCell']
def encPlace (x : Place) : List Value := [.int .i64 x.batch, .int .i64 x.index]
theorem encPlace_len (x : Place) : (encPlace x).length = 2 := rfl
theorem encPlace_one (x : Place) : ∀ u ∈ encPlace x, u.oneCell' = true := by simp [encPlace, Value.oneCell']
def encI (x : Int) : List Value := [.int .i64 x]
theorem encI_len (x : Int) : (encI x).length = 1 := rfl
theorem encI_one (x : Int) : ∀ u ∈ encI x, u.oneCell' = true := by simp [encI, Value.oneCell']
def encB (x : Bool) : List Value := [.bool x]
theorem encB_len (x : Bool) : (encB x).length = 1 := rfl
theorem encB_one (x : Bool) : ∀ u ∈ encB x, u.oneCell' = true := by simp [encB, Value.oneCell']
theorem Cell.ext_iff' {x y : Cell} : x = y ↔ x.is_ = y.is_ ∧ x.value = y.value := by cases x; cases y; simp
theorem ti2 : TI Try.prog 2 (some (.int .i64 0)) 1 8 := by unfold TI; kernel_rfl
theorem ti3 : TI Try.prog 3 (some (.int .i64 0)) 1 8 := by unfold TI; kernel_rfl
theorem ti4 : TI Try.prog 4 (some (.bool false)) 1 1 := by unfold TI; kernel_rfl
theorem ti28 : TI Try.prog 28 (some (.agg #[.int .i64 0, .int .i64 0])) 2 16 := by unfold TI; kernel_rfl
theorem ti29 : TI Try.prog 29 (some (.nilFunc)) 1 8 := by unfold TI; kernel_rfl
theorem ti34 : TI Try.prog 34 (some (.agg #[.int .i64 0, .int .i64 0, .int .i64 0, .int .i64 0, .int .i64 0, .bool false])) 6 48 := by unfold TI; kernel_rfl
theorem ti38 : TI Try.prog 38 (some (.slice none 0 0)) 1 24 := by unfold TI; kernel_rfl
theorem ti42 : TI Try.prog 42 (some (.slice none 0 0)) 1 24 := by unfold TI; kernel_rfl
theorem ti44 : TI Try.prog 44 (some (.agg #[.nilFunc, .slice none 0 0, .int .i64 0, .int .i64 0])) 4 48 := by unfold TI; kernel_rfl
theorem ti45 : TI Try.prog 45 (some (.map none)) 1 8 := by unfold TI; kernel_rfl
theorem ti48 : TI Try.prog 48 (some (.agg #[.int .i64 0, .slice none 0 0])) 2 32 := by unfold TI; kernel_rfl
theorem ti57 : TI Try.prog 57 (some (.agg #[.int .i64 0, .int .i64 0, .int .i64 0, .int .i64 0])) 4 32 := by unfold TI; kernel_rfl
theorem ti61 : TI Try.prog 61 (some (.agg #[.int .i64 0, .int .i64 0, .int .i64 0, .int .i64 0])) 4 32 := by unfold TI; kernel_rfl
theorem eqA28 (d : Nat) (w : World) (x0 y0 : Int) (x1 y1 : Int) : (Op.equalIn (d + 2) 28 (.agg #[.int .i64 x0, .int .i64 x1]) (.agg #[.int .i64 y0, .int .i64 y1])).run Try.prog w = .ok ((decide (x0 = y0) && decide (x1 = y1))) w := by
  refine eqA_of Try.underlying28 (by kernel_rfl) ?_
  refine eqf_cons rfl (part_one Try.underlying3 rfl rfl) (part_one Try.underlying3 rfl rfl) (eq_int (d := d + 0) Try.underlying3) ?_
  exact eqf_last rfl (part_one Try.underlying2 rfl rfl) (part_one Try.underlying2 rfl rfl) (eq_int (d := d + 0) Try.underlying2)
theorem eqKey (x y : Key) (w : World) : (Op.equalIn 10000 28 (.agg (encKey x).toArray) (.agg (encKey y).toArray)).run Try.prog w = .ok (decide (x = y)) w := by
  have h := eqA28 9998 w x.table y.table x.row y.row
  have e : decide (x = y) = (decide (x.table = y.table) && decide (x.row = y.row)) := by
    rw [Bool.eq_iff_iff]; cases x; cases y; simp
  rw [e]; exact h
theorem klKey : KL Try.prog 28 (fun x : Key => Value.agg (encKey x).toArray) := KL.ask Try.underlying28 (fun a v => rfl) (fun w a b => eqKey a b w) (fun w em a => by kernel_rfl) (fun a => by simp [Instr.sameBits, encKey])
end Go.Proofs.Ytenhbogebfdjjaa.W
