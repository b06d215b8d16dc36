import Derived.Test.YtphllgfbjfajfaaWh
import Derived.Test.YtphllgfbjfajfaaProg
import Derived.KernelRfl
namespace Go.Proofs.Ytphllgfbjfajfaa.W
open Go Go.Wk
set_option linter.unusedVariables false
theorem mixedP : Try.prog.follows .mixedOrders = true := by kernel_rfl
structure Cell where
  is_ : Bool
  value : Int
deriving DecidableEq
structure Key where
  table : Int
  row : Int
deriving DecidableEq
structure Place where
  batch : Int
  index : Int
deriving DecidableEq
structure Ver where
  batch : Int
  index : Int
  filled : Bool
  cell : Cell
deriving DecidableEq
def encCell (x : Cell) : List Value := [.bool x.is_, .int .i64 x.value]
theorem encCell_len (x : Cell) : (encCell x).length = 2 := rfl
theorem encCell_one (x : Cell) : ∀ u ∈ encCell x, u.oneCell' = true := by simp [encCell, Value.oneCell']
def encKey (x : Key) : List Value := [.int .i64 x.table, .int .i64 x.row]
theorem encKey_len (x : Key) : (encKey x).length = 2 := rfl
theorem encKey_one (x : Key) : ∀ u ∈ encKey x, u.oneCell' = true := by simp [encKey, Value.oneCell']
def encVer (x : Ver) : List Value := [.int .i64 x.batch, .int .i64 x.index, .bool x.filled, .bool x.cell.is_, .int .i64 x.cell.value]
theorem encVer_len (x : Ver) : (encVer x).length = 5 := rfl
theorem encVer_one (x : Ver) : ∀ u ∈ encVer x, u.oneCell' = true := by simp [encVer, Value.oneCell']
def encPlace (x : Place) : List Value := [.int .i64 x.batch, .int .i64 x.index]
theorem encPlace_len (x : Place) : (encPlace x).length = 2 := rfl
theorem encPlace_one (x : Place) : ∀ u ∈ encPlace x, u.oneCell' = true := by simp [encPlace, Value.oneCell']
def encI (x : Int) : List Value := [.int .i64 x]
theorem encI_len (x : Int) : (encI x).length = 1 := rfl
theorem encI_one (x : Int) : ∀ u ∈ encI x, u.oneCell' = true := by simp [encI, Value.oneCell']
def encStr (x : ByteArray) : List Value := [.string x]
theorem encStr_len (x : ByteArray) : (encStr x).length = 1 := rfl
theorem encStr_one (x : ByteArray) : ∀ u ∈ encStr x, u.oneCell' = true := by simp [encStr, Value.oneCell']
def encB (x : Bool) : List Value := [.bool x]
theorem encB_len (x : Bool) : (encB x).length = 1 := rfl
theorem encB_one (x : Bool) : ∀ u ∈ encB x, u.oneCell' = true := by simp [encB, Value.oneCell']
theorem Cell.ext_iff' {x y : Cell} : x = y ↔ x.is_ = y.is_ ∧ x.value = y.value := by cases x; cases y; simp
theorem ti1 : TI Try.prog 1 (some (.nilFunc)) 1 8 := by unfold TI; kernel_rfl
theorem ti2 : TI Try.prog 2 (some (.int .i64 0)) 1 8 := by unfold TI; kernel_rfl
theorem ti3 : TI Try.prog 3 (some (.int .i64 0)) 1 8 := by unfold TI; kernel_rfl
theorem ti4 : TI Try.prog 4 (some (.bool false)) 1 1 := by unfold TI; kernel_rfl
theorem ti5 : TI Try.prog 5 (some (.int .u8 0)) 1 1 := by unfold TI; kernel_rfl
theorem ti6 : TI Try.prog 6 (some (.int .u8 0)) 1 1 := by unfold TI; kernel_rfl
theorem ti7 : TI Try.prog 7 (some (.agg #[.int .i64 0, .int .i64 0, .bool false, .int .u8 0])) 4 24 := by unfold TI; kernel_rfl
theorem ti8 : TI Try.prog 8 (some (.agg #[.int .i64 0, .int .i64 0, .bool false, .int .u8 0])) 4 24 := by unfold TI; kernel_rfl
theorem ti9 : TI Try.prog 9 (some (.string (ByteArray.mk #[]))) 1 16 := by unfold TI; kernel_rfl
theorem ti10 : TI Try.prog 10 (some (.string (ByteArray.mk #[]))) 1 16 := by unfold TI; kernel_rfl
theorem ti11 : TI Try.prog 11 (some (.string (ByteArray.mk #[]))) 1 16 := by unfold TI; kernel_rfl
theorem ti12 : TI Try.prog 12 (some (.int .u64 0)) 1 8 := by unfold TI; kernel_rfl
theorem ti13 : TI Try.prog 13 (some (.agg #[.string (ByteArray.mk #[]), .int .u64 0])) 2 24 := by unfold TI; kernel_rfl
theorem ti14 : TI Try.prog 14 (some (.agg #[.string (ByteArray.mk #[]), .int .u64 0])) 2 24 := by unfold TI; kernel_rfl
theorem ti15 : TI Try.prog 15 (some (.pointer none)) 1 8 := by unfold TI; kernel_rfl
theorem ti16 : TI Try.prog 16 (some (.pointer none)) 1 8 := by unfold TI; kernel_rfl
theorem ti17 : TI Try.prog 17 (some (.pointer none)) 1 8 := by unfold TI; kernel_rfl
theorem ti18 : TI Try.prog 18 (some (.agg #[.pointer none])) 1 8 := by unfold TI; kernel_rfl
theorem ti19 : TI Try.prog 19 (some (.agg #[.pointer none])) 1 8 := by unfold TI; kernel_rfl
theorem ti20 : TI Try.prog 20 (some (.nilIface)) 1 16 := by unfold TI; kernel_rfl
theorem ti21 : TI Try.prog 21 (some (.int .i32 0)) 1 4 := by unfold TI; kernel_rfl
theorem ti22 : TI Try.prog 22 (some (.agg #[.int .i64 0, .int .i64 0, .int .i64 0, .int .i64 0, .int .i64 0])) 5 40 := by unfold TI; kernel_rfl
theorem ti23 : TI Try.prog 23 (some (.agg #[.int .i64 0, .int .i64 0, .int .i64 0, .int .i64 0, .int .i64 0])) 5 40 := by unfold TI; kernel_rfl
theorem ti24 : TI Try.prog 24 (some (.slice none 0 0)) 1 24 := by unfold TI; kernel_rfl
theorem ti25 : TI Try.prog 25 (some (.nilFunc)) 1 8 := by unfold TI; kernel_rfl
theorem ti26 : TI Try.prog 26 (some (.pointer none)) 1 8 := by unfold TI; kernel_rfl
theorem ti28 : TI Try.prog 28 (some (.nilFunc)) 1 8 := by unfold TI; kernel_rfl
theorem ti29 : TI Try.prog 29 (some (.nilFunc)) 1 8 := by unfold TI; kernel_rfl
theorem ti30 : TI Try.prog 30 (some (.slice none 0 0)) 1 24 := by unfold TI; kernel_rfl
theorem ti31 : TI Try.prog 31 (some (.agg #[.int .i64 0, .int .i64 0, .int .i64 0, .int .i64 0, .slice none 0 0])) 5 56 := by unfold TI; kernel_rfl
theorem ti32 : TI Try.prog 32 (some (.agg #[.int .i64 0, .int .i64 0, .int .i64 0, .int .i64 0, .slice none 0 0])) 5 56 := by unfold TI; kernel_rfl
theorem ti33 : TI Try.prog 33 (some (.agg #[.string (ByteArray.mk #[]), .int .i64 0, .int .i64 0, .int .i64 0, .int .i64 0, .slice none 0 0])) 6 72 := by unfold TI; kernel_rfl
theorem ti34 : TI Try.prog 34 (some (.agg #[.string (ByteArray.mk #[]), .int .i64 0, .int .i64 0, .int .i64 0, .int .i64 0, .slice none 0 0])) 6 72 := by unfold TI; kernel_rfl
theorem ti35 : TI Try.prog 35 (some (.pointer none)) 1 8 := by unfold TI; kernel_rfl
theorem ti36 : TI Try.prog 36 (some (.pointer none)) 1 8 := by unfold TI; kernel_rfl
theorem ti37 : TI Try.prog 37 (some (.pointer none)) 1 8 := by unfold TI; kernel_rfl
theorem ti38 : TI Try.prog 38 (some (.pointer none)) 1 8 := by unfold TI; kernel_rfl
theorem ti39 : TI Try.prog 39 (some (.pointer none)) 1 8 := by unfold TI; kernel_rfl
theorem ti40 : TI Try.prog 40 (some (.pointer none)) 1 8 := by unfold TI; kernel_rfl
theorem ti41 : TI Try.prog 41 (some (.slice none 0 0)) 1 24 := by unfold TI; kernel_rfl
theorem ti42 : TI Try.prog 42 (some (.agg #[.pointer none, .pointer none, .pointer none, .pointer none, .pointer none, .pointer none, .slice none 0 0, .slice none 0 0])) 8 96 := by unfold TI; kernel_rfl
theorem ti43 : TI Try.prog 43 (some (.agg #[.pointer none, .pointer none, .pointer none, .pointer none, .pointer none, .pointer none, .slice none 0 0, .slice none 0 0])) 8 96 := by unfold TI; kernel_rfl
theorem ti44 : TI Try.prog 44 (some (.int .i64 0)) 1 8 := by unfold TI; kernel_rfl
theorem ti46 : TI Try.prog 46 (some (.nilFunc)) 1 8 := by unfold TI; kernel_rfl
theorem ti48 : TI Try.prog 48 (some (.nilFunc)) 1 8 := by unfold TI; kernel_rfl
theorem ti49 : TI Try.prog 49 (some (.nilFunc)) 1 8 := by unfold TI; kernel_rfl
theorem ti51 : TI Try.prog 51 (some (.nilFunc)) 1 8 := by unfold TI; kernel_rfl
theorem ti53 : TI Try.prog 53 (some (.nilFunc)) 1 8 := by unfold TI; kernel_rfl
theorem ti54 : TI Try.prog 54 (some (.nilFunc)) 1 8 := by unfold TI; kernel_rfl
theorem ti56 : TI Try.prog 56 (some (.nilFunc)) 1 8 := by unfold TI; kernel_rfl
theorem ti57 : TI Try.prog 57 (some (.nilFunc)) 1 8 := by unfold TI; kernel_rfl
theorem ti59 : TI Try.prog 59 (some (.nilFunc)) 1 8 := by unfold TI; kernel_rfl
theorem ti60 : TI Try.prog 60 (some (.pointer none)) 1 8 := by unfold TI; kernel_rfl
theorem ti62 : TI Try.prog 62 (some (.nilFunc)) 1 8 := by unfold TI; kernel_rfl
theorem ti63 : TI Try.prog 63 (some (.agg #[.int .i64 0, .int .i64 0])) 2 16 := by unfold TI; kernel_rfl
theorem ti64 : TI Try.prog 64 (some (.agg #[.int .i64 0, .int .i64 0])) 2 16 := by unfold TI; kernel_rfl
theorem ti65 : TI Try.prog 65 (some (.slice none 0 0)) 1 24 := by unfold TI; kernel_rfl
theorem ti66 : TI Try.prog 66 (some (.nilFunc)) 1 8 := by unfold TI; kernel_rfl
theorem ti67 : TI Try.prog 67 (some (.map none)) 1 8 := by unfold TI; kernel_rfl
theorem ti68 : TI Try.prog 68 (some (.agg #[.int .i64 0, .int .i64 0, .int .i64 0, .map none, .pointer none])) 5 40 := by unfold TI; kernel_rfl
theorem ti69 : TI Try.prog 69 (some (.agg #[.int .i64 0, .int .i64 0, .int .i64 0, .map none, .pointer none])) 5 40 := by unfold TI; kernel_rfl
theorem ti70 : TI Try.prog 70 (some (.slice none 0 0)) 1 24 := by unfold TI; kernel_rfl
theorem ti71 : TI Try.prog 71 (some (.agg #[.int .i64 0, .int .i64 0, .slice none 0 0, .int .i64 0])) 4 48 := by unfold TI; kernel_rfl
theorem ti72 : TI Try.prog 72 (some (.agg #[.int .i64 0, .int .i64 0, .slice none 0 0, .int .i64 0])) 4 48 := by unfold TI; kernel_rfl
theorem ti73 : TI Try.prog 73 (some (.map none)) 1 8 := by unfold TI; kernel_rfl
theorem ti74 : TI Try.prog 74 (some (.slice none 0 0)) 1 24 := by unfold TI; kernel_rfl
theorem ti75 : TI Try.prog 75 (some (.agg #[.pointer none, .int .i64 0, .int .i64 0, .int .i64 0, .int .i64 0, .map none, .slice none 0 0, .slice none 0 0])) 8 96 := by unfold TI; kernel_rfl
theorem ti76 : TI Try.prog 76 (some (.agg #[.pointer none, .int .i64 0, .int .i64 0, .int .i64 0, .int .i64 0, .map none, .slice none 0 0, .slice none 0 0])) 8 96 := by unfold TI; kernel_rfl
theorem ti77 : TI Try.prog 77 (some (.slice none 0 0)) 1 24 := by unfold TI; kernel_rfl
theorem ti78 : TI Try.prog 78 (some (.agg #[.int .i64 0, .bool false, .slice none 0 0, .int .i64 0])) 4 48 := by unfold TI; kernel_rfl
theorem ti79 : TI Try.prog 79 (some (.agg #[.int .i64 0, .bool false, .slice none 0 0, .int .i64 0])) 4 48 := by unfold TI; kernel_rfl
theorem ti80 : TI Try.prog 80 (some (.slice none 0 0)) 1 24 := by unfold TI; kernel_rfl
theorem ti81 : TI Try.prog 81 (some (.agg #[.pointer none, .int .i64 0, .int .i64 0, .int .i64 0, .slice none 0 0, .int .i64 0, .slice none 0 0, .slice none 0 0, .slice none 0 0, .slice none 0 0])) 10 160 := by unfold TI; kernel_rfl
theorem ti82 : TI Try.prog 82 (some (.agg #[.pointer none, .int .i64 0, .int .i64 0, .int .i64 0, .slice none 0 0, .int .i64 0, .slice none 0 0, .slice none 0 0, .slice none 0 0, .slice none 0 0])) 10 160 := by unfold TI; kernel_rfl
theorem ti84 : TI Try.prog 84 (some (.nilFunc)) 1 8 := by unfold TI; kernel_rfl
theorem ti85 : TI Try.prog 85 (some (.nilFunc)) 1 8 := by unfold TI; kernel_rfl
theorem ti86 : TI Try.prog 86 (some (.agg #[.int .i64 0, .int .i64 0])) 2 16 := by unfold TI; kernel_rfl
theorem ti87 : TI Try.prog 87 (some (.agg #[.int .i64 0, .int .i64 0])) 2 16 := by unfold TI; kernel_rfl
theorem ti88 : TI Try.prog 88 (some (.slice none 0 0)) 1 24 := by unfold TI; kernel_rfl
theorem ti89 : TI Try.prog 89 (some (.agg #[.pointer none, .pointer none, .slice none 0 0, .slice none 0 0])) 4 64 := by unfold TI; kernel_rfl
theorem ti90 : TI Try.prog 90 (some (.agg #[.pointer none, .pointer none, .slice none 0 0, .slice none 0 0])) 4 64 := by unfold TI; kernel_rfl
theorem ti92 : TI Try.prog 92 (some (.nilFunc)) 1 8 := by unfold TI; kernel_rfl
theorem ti93 : TI Try.prog 93 (some (.slice none 0 0)) 1 24 := by unfold TI; kernel_rfl
theorem ti94 : TI Try.prog 94 (some (.agg #[.pointer none, .pointer none, .slice none 0 0, .slice none 0 0])) 4 64 := by unfold TI; kernel_rfl
theorem ti95 : TI Try.prog 95 (some (.agg #[.pointer none, .pointer none, .slice none 0 0, .slice none 0 0])) 4 64 := by unfold TI; kernel_rfl
theorem ti96 : TI Try.prog 96 (some (.int .u64 0)) 1 8 := by unfold TI; kernel_rfl
theorem ti97 : TI Try.prog 97 (some (.slice none 0 0)) 1 24 := by unfold TI; kernel_rfl
theorem ti98 : TI Try.prog 98 (some (.agg #[.nilFunc, .slice none 0 0, .int .i64 0, .int .i64 0])) 4 48 := by unfold TI; kernel_rfl
theorem ti99 : TI Try.prog 99 (some (.agg #[.nilFunc, .slice none 0 0, .int .i64 0, .int .i64 0])) 4 48 := by unfold TI; kernel_rfl
theorem ti100 : TI Try.prog 100 (some (.map none)) 1 8 := by unfold TI; kernel_rfl
theorem ti101 : TI Try.prog 101 (some (.nilFunc)) 1 8 := by unfold TI; kernel_rfl
theorem ti102 : TI Try.prog 102 (some (.agg #[.int .u8 0, .int .u8 0, .int .u8 0, .int .u8 0, .int .u8 0, .int .u8 0, .int .u8 0, .int .u8 0, .int .u8 0, .int .u8 0])) 10 10 := by unfold TI; kernel_rfl
theorem ti103 : TI Try.prog 103 (some (.nilFunc)) 1 8 := by unfold TI; kernel_rfl
theorem ti104 : TI Try.prog 104 (some (.map none)) 1 8 := by unfold TI; kernel_rfl
theorem ti106 : TI Try.prog 106 (some (.nilFunc)) 1 8 := by unfold TI; kernel_rfl
theorem ti107 : TI Try.prog 107 (some (.nilFunc)) 1 8 := by unfold TI; kernel_rfl
theorem ti108 : TI Try.prog 108 (some (.nilFunc)) 1 8 := by unfold TI; kernel_rfl
theorem ti109 : TI Try.prog 109 (some (.int .u64 0)) 1 8 := by unfold TI; kernel_rfl
theorem ti111 : TI Try.prog 111 (some (.nilFunc)) 1 8 := by unfold TI; kernel_rfl
theorem ti113 : TI Try.prog 113 (some (.nilFunc)) 1 8 := by unfold TI; kernel_rfl
theorem ti114 : TI Try.prog 114 (some (.nilFunc)) 1 8 := by unfold TI; kernel_rfl
theorem ti115 : TI Try.prog 115 (some (.nilFunc)) 1 8 := by unfold TI; kernel_rfl
theorem ti116 : TI Try.prog 116 (some (.nilFunc)) 1 8 := by unfold TI; kernel_rfl
theorem ti117 : TI Try.prog 117 (some (.nilFunc)) 1 8 := by unfold TI; kernel_rfl
theorem ti118 : TI Try.prog 118 (some (.nilFunc)) 1 8 := by unfold TI; kernel_rfl
theorem ti119 : TI Try.prog 119 (some (.nilFunc)) 1 8 := by unfold TI; kernel_rfl
theorem ti120 : TI Try.prog 120 (some (.nilFunc)) 1 8 := by unfold TI; kernel_rfl
theorem ti121 : TI Try.prog 121 (some (.nilFunc)) 1 8 := by unfold TI; kernel_rfl
theorem ti122 : TI Try.prog 122 (some (.nilFunc)) 1 8 := by unfold TI; kernel_rfl
theorem ti123 : TI Try.prog 123 (some (.agg #[.string (ByteArray.mk #[]), .string (ByteArray.mk #[]), .string (ByteArray.mk #[]), .string (ByteArray.mk #[]), .string (ByteArray.mk #[]), .string (ByteArray.mk #[]), .string (ByteArray.mk #[]), .string (ByteArray.mk #[]), .string (ByteArray.mk #[]), .string (ByteArray.mk #[]), .string (ByteArray.mk #[]), .string (ByteArray.mk #[]), .string (ByteArray.mk #[]), .string (ByteArray.mk #[]), .string (ByteArray.mk #[]), .string (ByteArray.mk #[]), .string (ByteArray.mk #[]), .string (ByteArray.mk #[]), .string (ByteArray.mk #[]), .string (ByteArray.mk #[]), .string (ByteArray.mk #[]), .string (ByteArray.mk #[]), .string (ByteArray.mk #[]), .string (ByteArray.mk #[]), .string (ByteArray.mk #[]), .string (ByteArray.mk #[]), .string (ByteArray.mk #[]), .string (ByteArray.mk #[]), .string (ByteArray.mk #[]), .string (ByteArray.mk #[]), .string (ByteArray.mk #[]), .string (ByteArray.mk #[]), .string (ByteArray.mk #[]), .string (ByteArray.mk #[]), .string (ByteArray.mk #[]), .string (ByteArray.mk #[]), .string (ByteArray.mk #[])])) 37 592 := by unfold TI; kernel_rfl
theorem ti124 : TI Try.prog 124 (some (.nilFunc)) 1 8 := by unfold TI; kernel_rfl
theorem ti125 : TI Try.prog 125 (some (.nilFunc)) 1 8 := by unfold TI; kernel_rfl
theorem ti126 : TI Try.prog 126 (some (.agg #[.pointer none, .pointer none, .pointer none, .string (ByteArray.mk #[])])) 4 40 := by unfold TI; kernel_rfl
theorem ti127 : TI Try.prog 127 (some (.agg #[.pointer none, .pointer none, .pointer none, .string (ByteArray.mk #[])])) 4 40 := by unfold TI; kernel_rfl
theorem ti128 : TI Try.prog 128 (some (.agg #[])) 0 0 := by unfold TI; kernel_rfl
theorem ti129 : TI Try.prog 129 (some (.agg #[])) 0 0 := by unfold TI; kernel_rfl
theorem ti130 : TI Try.prog 130 (some (.agg #[])) 0 0 := by unfold TI; kernel_rfl
theorem ti131 : TI Try.prog 131 (some (.nilFunc)) 1 8 := by unfold TI; kernel_rfl
theorem ti132 : TI Try.prog 132 (some (.int .u32 0)) 1 4 := by unfold TI; kernel_rfl
theorem ti133 : TI Try.prog 133 (some (.int .u8 0)) 1 1 := by unfold TI; kernel_rfl
theorem ti134 : TI Try.prog 134 (some (.int .u8 0)) 1 1 := by unfold TI; kernel_rfl
theorem ti135 : TI Try.prog 135 (some (.nilFunc)) 1 8 := by unfold TI; kernel_rfl
theorem ti136 : TI Try.prog 136 (some (.pointer none)) 1 8 := by unfold TI; kernel_rfl
theorem ti137 : TI Try.prog 137 (some (.int .i32 0)) 1 4 := by unfold TI; kernel_rfl
theorem ti138 : TI Try.prog 138 (some (.int .i32 0)) 1 4 := by unfold TI; kernel_rfl
theorem ti139 : TI Try.prog 139 (some (.agg #[.int .u64 0, .int .u64 0, .int .u32 0, .int .u8 0, .int .u8 0, .int .u8 0, .int .u8 0, .nilFunc, .pointer none, .int .i32 0, .int .i32 0])) 11 48 := by unfold TI; kernel_rfl
theorem ti140 : TI Try.prog 140 (some (.agg #[.int .u64 0, .int .u64 0, .int .u32 0, .int .u8 0, .int .u8 0, .int .u8 0, .int .u8 0, .nilFunc, .pointer none, .int .i32 0, .int .i32 0])) 11 48 := by unfold TI; kernel_rfl
theorem ti141 : TI Try.prog 141 (some (.nilFunc)) 1 8 := by unfold TI; kernel_rfl
theorem ti142 : TI Try.prog 142 (some (.nilFunc)) 1 8 := by unfold TI; kernel_rfl
theorem ti143 : TI Try.prog 143 (some (.nilFunc)) 1 8 := by unfold TI; kernel_rfl
theorem ti144 : TI Try.prog 144 (some (.nilFunc)) 1 8 := by unfold TI; kernel_rfl
theorem ti145 : TI Try.prog 145 (some (.slice none 0 0)) 1 24 := by unfold TI; kernel_rfl
theorem ti146 : TI Try.prog 146 (some (.pointer none)) 1 8 := by unfold TI; kernel_rfl
theorem ti147 : TI Try.prog 147 (some (.agg #[.bool false, .int .i64 0])) 2 16 := by unfold TI; kernel_rfl
theorem ti148 : TI Try.prog 148 (some (.agg #[.bool false, .int .i64 0])) 2 16 := by unfold TI; kernel_rfl
theorem ti149 : TI Try.prog 149 (some (.agg #[.int .i64 0, .int .i64 0, .bool false, .bool false, .int .i64 0])) 5 40 := by unfold TI; kernel_rfl
theorem ti150 : TI Try.prog 150 (some (.agg #[.int .i64 0, .int .i64 0, .bool false, .bool false, .int .i64 0])) 5 40 := by unfold TI; kernel_rfl
theorem ti151 : TI Try.prog 151 (some (.agg #[.int .i64 0, .int .i64 0, .int .i64 0, .int .i64 0, .int .i64 0, .bool false, .bool false, .int .i64 0])) 8 64 := by unfold TI; kernel_rfl
theorem ti152 : TI Try.prog 152 (some (.agg #[.int .i64 0, .int .i64 0, .int .i64 0, .int .i64 0, .int .i64 0, .bool false, .bool false, .int .i64 0])) 8 64 := by unfold TI; kernel_rfl
theorem ti153 : TI Try.prog 153 (some (.pointer none)) 1 8 := by unfold TI; kernel_rfl
theorem ti154 : TI Try.prog 154 (some (.agg #[.int .i64 0, .int .i64 0, .int .i64 0])) 3 24 := by unfold TI; kernel_rfl
theorem ti155 : TI Try.prog 155 (some (.agg #[.int .i64 0, .int .i64 0, .int .i64 0])) 3 24 := by unfold TI; kernel_rfl
theorem ti156 : TI Try.prog 156 (some (.slice none 0 0)) 1 24 := by unfold TI; kernel_rfl
theorem ti157 : TI Try.prog 157 (some (.slice none 0 0)) 1 24 := by unfold TI; kernel_rfl
theorem ti158 : TI Try.prog 158 (some (.slice none 0 0)) 1 24 := by unfold TI; kernel_rfl
theorem ti159 : TI Try.prog 159 (some (.agg #[.int .i64 0, .int .i64 0, .slice none 0 0, .int .i64 0])) 4 48 := by unfold TI; kernel_rfl
theorem ti160 : TI Try.prog 160 (some (.agg #[.int .i64 0, .int .i64 0, .slice none 0 0, .int .i64 0])) 4 48 := by unfold TI; kernel_rfl
theorem ti161 : TI Try.prog 161 (some (.pointer none)) 1 8 := by unfold TI; kernel_rfl
theorem ti162 : TI Try.prog 162 (some (.agg #[.int .i64 0, .int .i64 0])) 2 16 := by unfold TI; kernel_rfl
theorem ti163 : TI Try.prog 163 (some (.agg #[.int .i64 0, .int .i64 0])) 2 16 := by unfold TI; kernel_rfl
theorem ti164 : TI Try.prog 164 (some (.nilFunc)) 1 8 := by unfold TI; kernel_rfl
theorem ti165 : TI Try.prog 165 (some (.agg #[.int .i64 0, .int .i64 0, .int .i64 0, .int .i64 0, .bool false, .bool false, .int .i64 0])) 7 56 := by unfold TI; kernel_rfl
theorem ti166 : TI Try.prog 166 (some (.agg #[.int .i64 0, .int .i64 0, .int .i64 0, .int .i64 0, .bool false, .bool false, .int .i64 0])) 7 56 := by unfold TI; kernel_rfl
theorem ti167 : TI Try.prog 167 (some (.slice none 0 0)) 1 24 := by unfold TI; kernel_rfl
theorem ti168 : TI Try.prog 168 (some (.agg #[.slice none 0 0, .int .i64 0, .int .i64 0])) 3 40 := by unfold TI; kernel_rfl
theorem ti169 : TI Try.prog 169 (some (.agg #[.slice none 0 0, .int .i64 0, .int .i64 0])) 3 40 := by unfold TI; kernel_rfl
theorem ti170 : TI Try.prog 170 (some (.slice none 0 0)) 1 24 := by unfold TI; kernel_rfl
theorem ti171 : TI Try.prog 171 (some (.slice none 0 0)) 1 24 := by unfold TI; kernel_rfl
theorem ti172 : TI Try.prog 172 (some (.agg #[.int .i64 0, .slice none 0 0, .slice none 0 0, .slice none 0 0])) 4 80 := by unfold TI; kernel_rfl
theorem ti173 : TI Try.prog 173 (some (.agg #[.int .i64 0, .slice none 0 0, .slice none 0 0, .slice none 0 0])) 4 80 := by unfold TI; kernel_rfl
theorem ti174 : TI Try.prog 174 (some (.agg #[.int .i64 0, .int .i64 0, .slice none 0 0, .slice none 0 0, .slice none 0 0, .slice none 0 0, .slice none 0 0, .slice none 0 0])) 8 160 := by unfold TI; kernel_rfl
theorem ti175 : TI Try.prog 175 (some (.agg #[.int .i64 0, .int .i64 0, .slice none 0 0, .slice none 0 0, .slice none 0 0, .slice none 0 0, .slice none 0 0, .slice none 0 0])) 8 160 := by unfold TI; kernel_rfl
theorem ti176 : TI Try.prog 176 (some (.slice none 0 0)) 1 24 := by unfold TI; kernel_rfl
theorem ti177 : TI Try.prog 177 (some (.agg #[.bool false, .int .i64 0, .int .i64 0, .slice none 0 0, .slice none 0 0])) 5 72 := by unfold TI; kernel_rfl
theorem ti178 : TI Try.prog 178 (some (.agg #[.bool false, .int .i64 0, .int .i64 0, .slice none 0 0, .slice none 0 0])) 5 72 := by unfold TI; kernel_rfl
theorem ti179 : TI Try.prog 179 (some (.agg #[.int .i64 0, .int .i64 0, .slice none 0 0, .slice none 0 0, .slice none 0 0, .slice none 0 0, .slice none 0 0, .slice none 0 0, .int .i64 0, .bool false, .int .i64 0, .int .i64 0, .slice none 0 0, .slice none 0 0])) 14 240 := by unfold TI; kernel_rfl
theorem ti180 : TI Try.prog 180 (some (.agg #[.int .i64 0, .int .i64 0, .slice none 0 0, .slice none 0 0, .slice none 0 0, .slice none 0 0, .slice none 0 0, .slice none 0 0, .int .i64 0, .bool false, .int .i64 0, .int .i64 0, .slice none 0 0, .slice none 0 0])) 14 240 := by unfold TI; kernel_rfl
theorem ti181 : TI Try.prog 181 (some (.pointer none)) 1 8 := by unfold TI; kernel_rfl
theorem ti182 : TI Try.prog 182 (some (.pointer none)) 1 8 := by unfold TI; kernel_rfl
theorem ti183 : TI Try.prog 183 (some (.agg #[.int .i64 0, .int .i64 0, .slice none 0 0, .slice none 0 0, .slice none 0 0, .slice none 0 0, .slice none 0 0, .slice none 0 0, .int .i64 0, .bool false, .int .i64 0, .int .i64 0, .slice none 0 0, .slice none 0 0])) 14 240 := by unfold TI; kernel_rfl
theorem ti184 : TI Try.prog 184 (some (.agg #[.int .i64 0, .int .i64 0, .slice none 0 0, .slice none 0 0, .slice none 0 0, .slice none 0 0, .slice none 0 0, .slice none 0 0, .int .i64 0, .bool false, .int .i64 0, .int .i64 0, .slice none 0 0, .slice none 0 0])) 14 240 := by unfold TI; kernel_rfl
theorem ti185 : TI Try.prog 185 (some (.pointer none)) 1 8 := by unfold TI; kernel_rfl
theorem ti186 : TI Try.prog 186 (some (.slice none 0 0)) 1 24 := by unfold TI; kernel_rfl
theorem ti187 : TI Try.prog 187 (some (.agg #[.bool false, .int .i64 0, .int .i64 0, .slice none 0 0, .slice none 0 0, .int .i64 0])) 6 80 := by unfold TI; kernel_rfl
theorem ti188 : TI Try.prog 188 (some (.agg #[.bool false, .int .i64 0, .int .i64 0, .slice none 0 0, .slice none 0 0, .int .i64 0])) 6 80 := by unfold TI; kernel_rfl
theorem ti189 : TI Try.prog 189 (some (.agg #[.int .i64 0, .int .i64 0, .int .i64 0, .int .i64 0, .slice none 0 0, .slice none 0 0, .slice none 0 0, .slice none 0 0, .slice none 0 0, .slice none 0 0, .slice none 0 0, .pointer none, .bool false, .int .i64 0, .int .i64 0, .slice none 0 0, .slice none 0 0, .int .i64 0, .int .i64 0])) 19 296 := by unfold TI; kernel_rfl
theorem ti190 : TI Try.prog 190 (some (.agg #[.int .i64 0, .int .i64 0, .int .i64 0, .int .i64 0, .slice none 0 0, .slice none 0 0, .slice none 0 0, .slice none 0 0, .slice none 0 0, .slice none 0 0, .slice none 0 0, .pointer none, .bool false, .int .i64 0, .int .i64 0, .slice none 0 0, .slice none 0 0, .int .i64 0, .int .i64 0])) 19 296 := by unfold TI; kernel_rfl
theorem ti191 : TI Try.prog 191 (some (.nilFunc)) 1 8 := by unfold TI; kernel_rfl
theorem ti192 : TI Try.prog 192 (some (.pointer none)) 1 8 := by unfold TI; kernel_rfl
theorem ti193 : TI Try.prog 193 (some (.agg #[.int .i64 0, .int .i64 0, .slice none 0 0, .pointer none, .bool false, .bool false, .int .i64 0, .int .i64 0, .slice none 0 0, .slice none 0 0, .int .i64 0, .int .i64 0])) 12 144 := by unfold TI; kernel_rfl
theorem ti194 : TI Try.prog 194 (some (.agg #[.int .i64 0, .int .i64 0, .slice none 0 0, .pointer none, .bool false, .bool false, .int .i64 0, .int .i64 0, .slice none 0 0, .slice none 0 0, .int .i64 0, .int .i64 0])) 12 144 := by unfold TI; kernel_rfl
theorem ti195 : TI Try.prog 195 (some (.nilFunc)) 1 8 := by unfold TI; kernel_rfl
theorem ti196 : TI Try.prog 196 (some (.agg #[.nilFunc, .nilFunc, .nilFunc, .nilFunc, .nilFunc, .nilFunc, .nilFunc, .nilFunc, .nilFunc, .nilFunc, .nilFunc, .nilFunc, .nilFunc, .nilFunc, .nilFunc, .nilFunc, .nilFunc, .nilFunc, .nilFunc, .nilFunc, .nilFunc, .nilFunc, .nilFunc, .nilFunc, .nilFunc, .nilFunc, .nilFunc, .nilFunc, .nilFunc, .nilFunc, .nilFunc, .nilFunc, .nilFunc, .nilFunc, .nilFunc, .nilFunc, .nilFunc])) 37 296 := by unfold TI; kernel_rfl
theorem ti199 : TI Try.prog 199 (some (.agg #[.int .i64 0, .int .i64 0])) 2 16 := by unfold TI; kernel_rfl
theorem ti200 : TI Try.prog 200 (some (.agg #[.int .i64 0, .int .i64 0])) 2 16 := by unfold TI; kernel_rfl
theorem ti201 : TI Try.prog 201 (some (.agg #[.int .i64 0, .int .i64 0, .int .i64 0, .int .i64 0, .slice none 0 0, .slice none 0 0, .slice none 0 0, .slice none 0 0, .slice none 0 0, .slice none 0 0, .slice none 0 0, .int .i64 0, .int .i64 0, .bool false, .int .i64 0, .int .i64 0])) 16 240 := by unfold TI; kernel_rfl
theorem ti202 : TI Try.prog 202 (some (.agg #[.int .i64 0, .int .i64 0, .int .i64 0, .int .i64 0, .slice none 0 0, .slice none 0 0, .slice none 0 0, .slice none 0 0, .slice none 0 0, .slice none 0 0, .slice none 0 0, .int .i64 0, .int .i64 0, .bool false, .int .i64 0, .int .i64 0])) 16 240 := by unfold TI; kernel_rfl
theorem eqA64 (d : Nat) (w : World) (x0 y0 : Int) (x1 y1 : Int) : (Op.equalIn (d + 2) 64 (.agg #[.int .i64 x0, .int .i64 x1]) (.agg #[.int .i64 y0, .int .i64 y1])).run Try.prog w = .ok ((decide (x0 = y0) && decide (x1 = y1))) w := by
  refine eqA_of Try.underlying64 (by kernel_rfl) ?_
  refine eqf_cons rfl (part_one Try.underlying3 rfl rfl) (part_one Try.underlying3 rfl rfl) (eq_int (d := d + 0) Try.underlying3) ?_
  exact eqf_last rfl (part_one Try.underlying2 rfl rfl) (part_one Try.underlying2 rfl rfl) (eq_int (d := d + 0) Try.underlying2)
theorem eqKey (x y : Key) (w : World) : (Op.equalIn 10000 64 (.agg (encKey x).toArray) (.agg (encKey y).toArray)).run Try.prog w = .ok (decide (x = y)) w := by
  have h := eqA64 9998 w x.table y.table x.row y.row
  have e : decide (x = y) = (decide (x.table = y.table) && decide (x.row = y.row)) := by
    rw [Bool.eq_iff_iff]; cases x; cases y; simp
  rw [e]; exact h
theorem klI3 : KL Try.prog 3 (fun x : Int => Value.int .i64 x) := KL.now Try.underlying3 (fun a b => by simp [Instr.sameNow]; rfl) (fun w em a => by kernel_rfl) (fun a => by simp [Instr.sameBits])
theorem klStr9 : KL Try.prog 9 (fun x : ByteArray => Value.string x) := KL.now Try.underlying9 (fun a b => by show some (a == b) = _; rw [bab]) (fun w em a => by kernel_rfl) (fun a => by simp [Instr.sameBits, bab])
theorem klKey : KL Try.prog 64 (fun x : Key => Value.agg (encKey x).toArray) := KL.ask Try.underlying64 (fun a v => rfl) (fun w a b => eqKey a b w) (fun w em a => by kernel_rfl) (fun a => by simp [Instr.sameBits, encKey])
end Go.Proofs.Ytphllgfbjfajfaa.W
