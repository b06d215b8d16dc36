import Derived.Test.YtngpghddmehmhaaWk
import Derived.Test.YtngpghddmehmhaaProg
import Derived.KernelRfl
namespace Go.Proofs.Ytngpghddmehmhaa.W
open Go Go.Wk
set_option linter.unusedVariables false
theorem mixedP : Try.prog.follows .mixedOrders = true := by kernel_rfl
structure Sv where
  a : Option Addr
  n : Nat
  c : Nat
structure Cell where
  is_ : Bool
  value : Int
deriving DecidableEq
structure Key where
  table : Int
  row : Int
deriving DecidableEq
structure Place where
  batch : Int
  index : Int
deriving DecidableEq
structure Ver where
  batch : Int
  index : Int
  filled : Bool
  cell : Cell
deriving DecidableEq
def encCell (x : Cell) : List Value := [.bool x.is_, .int .i64 x.value]
theorem encCell_len (x : Cell) : (encCell x).length = 2 := rfl
theorem encCell_one (x : Cell) : ∀ u ∈ encCell x, u.oneCell' = true := by simp [encCell, Value.oneCell']
def encKey (x : Key) : List Value := [.int .i64 x.table, .int .i64 x.row]
theorem encKey_len (x : Key) : (encKey x).length = 2 := rfl
theorem encKey_one (x : Key) : ∀ u ∈ encKey x, u.oneCell' = true := by simp [encKey, Value.oneCell']
def encVer (x : Ver) : List Value := [.int .i64 x.batch, .int .i64 x.index, .bool x.filled, .bool x.cell.is_, .int .i64 x.cell.value]
theorem encVer_len (x : Ver) : (encVer x).length = 5 := rfl
theorem encVer_one (x : Ver) : ∀ u ∈ encVer x, u.oneCell' = true := by simp [encVer, Value.oneCell']
def encPlace (x : Place) : List Value := [.int .i64 x.batch, .int .i64 x.index]
theorem encPlace_len (x : Place) : (encPlace x).length = 2 := rfl
theorem encPlace_one (x : Place) : ∀ u ∈ encPlace x, u.oneCell' = true := by simp [encPlace, Value.oneCell']
def encI (x : Int) : List Value := [.int .i64 x]
theorem encI_len (x : Int) : (encI x).length = 1 := rfl
theorem encI_one (x : Int) : ∀ u ∈ encI x, u.oneCell' = true := by simp [encI, Value.oneCell']
def encStr (x : ByteArray) : List Value := [.string x]
theorem encStr_len (x : ByteArray) : (encStr x).length = 1 := rfl
theorem encStr_one (x : ByteArray) : ∀ u ∈ encStr x, u.oneCell' = true := by simp [encStr, Value.oneCell']
def encB (x : Bool) : List Value := [.bool x]
theorem encB_len (x : Bool) : (encB x).length = 1 := rfl
theorem encB_one (x : Bool) : ∀ u ∈ encB x, u.oneCell' = true := by simp [encB, Value.oneCell']
theorem Cell.ext_iff' {x y : Cell} : x = y ↔ x.is_ = y.is_ ∧ x.value = y.value := by cases x; cases y; simp
theorem ti3 : TI Try.prog 3 (some (.int .i64 0)) 1 8 := by unfold TI; kernel_rfl
theorem ti4 : TI Try.prog 4 (some (.bool false)) 1 1 := by unfold TI; kernel_rfl
theorem ti9 : TI Try.prog 9 (some (.string ⟨#[]⟩)) 1 16 := by unfold TI; kernel_rfl
theorem ti28 : TI Try.prog 28 (some (.agg #[.int .i64 0, .int .i64 0])) 2 16 := by unfold TI; kernel_rfl
theorem ti30 : TI Try.prog 30 (some (.nilFunc)) 1 8 := by unfold TI; kernel_rfl
theorem ti34 : TI Try.prog 34 (some (.agg #[.string ⟨#[]⟩, .int .i64 0, .bool false])) 3 32 := by unfold TI; kernel_rfl
theorem ti40 : TI Try.prog 40 (some (.slice none 0 0)) 1 24 := by unfold TI; kernel_rfl
theorem ti42 : TI Try.prog 42 (some (.agg #[.nilFunc, .slice none 0 0, .int .i64 0, .int .i64 0])) 4 48 := by unfold TI; kernel_rfl
theorem ti43 : TI Try.prog 43 (some (.map none)) 1 8 := by unfold TI; kernel_rfl
theorem ti46 : TI Try.prog 46 (some (.agg #[.string ⟨#[]⟩, .int .i64 0, .int .i64 0, .int .i64 0])) 4 40 := by unfold TI; kernel_rfl
theorem klStr9 : KL Try.prog 9 (fun x : ByteArray => Value.string x) := KL.now Try.underlying9 (fun a b => by show some (a == b) = _; rw [bab]) (fun w em a => by kernel_rfl) (fun a => by simp [Instr.sameBits, bab])
end Go.Proofs.Ytngpghddmehmhaa.W
