import Derived.Test.YtojcddlpkfhodaaGreatWh
import Derived.Test.YtojcddlpkfhodaaGreatProg
import Derived.KernelRfl
namespace Go.Proofs.YtojcddlpkfhodaaGreat.W
open Go Go.Wk
set_option linter.unusedVariables false
theorem mixedP : Tryz.prog.follows .mixedOrders = true := by kernel_rfl
structure Cell where
  is_ : Bool
  value : Int
deriving DecidableEq
structure Key where
  table : Int
  row : Int
deriving DecidableEq
structure Place where
  batch : Int
  index : Int
deriving DecidableEq
structure Ver where
  batch : Int
  index : Int
  filled : Bool
  cell : Cell
deriving DecidableEq
def encCell (x : Cell) : List Value := [.bool x.is_, .int .i64 x.value]
theorem encCell_len (x : Cell) : (encCell x).length = 2 := rfl
theorem encCell_one (x : Cell) : ∀ u ∈ encCell x, u.oneCell' = true := by simp [encCell, Value.oneCell']
def encKey (x : Key) : List Value := [.int .i64 x.table, .int .i64 x.row]
theorem encKey_len (x : Key) : (encKey x).length = 2 := rfl
theorem encKey_one (x : Key) : ∀ u ∈ encKey x, u.oneCell' = true := by simp [encKey, Value.oneCell']
def encVer (x : Ver) : List Value := [.int .i64 x.batch, .int .i64 x.index, .bool x.filled, .bool x.cell.is_, .int .i64 x.cell.value]
theorem encVer_len (x : Ver) : (encVer x).length = 5 := rfl
theorem encVer_one (x : Ver) : ∀ u ∈ encVer x, u.oneCell' = true := by simp [encVer, Value.oneCell']
def encPlace (x : Place) : List Value := [.int .i64 x.batch, .int .i64 x.index]
theorem encPlace_len (x : Place) : (encPlace x).length = 2 := rfl
theorem encPlace_one (x : Place) : ∀ u ∈ encPlace x, u.oneCell' = true := by simp [encPlace, Value.oneCell']
def encI (x : Int) : List Value := [.int .i64 x]
theorem encI_len (x : Int) : (encI x).length = 1 := rfl
theorem encI_one (x : Int) : ∀ u ∈ encI x, u.oneCell' = true := by simp [encI, Value.oneCell']
def encStr (x : ByteArray) : List Value := [.string x]
theorem encStr_len (x : ByteArray) : (encStr x).length = 1 := rfl
theorem encStr_one (x : ByteArray) : ∀ u ∈ encStr x, u.oneCell' = true := by simp [encStr, Value.oneCell']
def encB (x : Bool) : List Value := [.bool x]
theorem encB_len (x : Bool) : (encB x).length = 1 := rfl
theorem encB_one (x : Bool) : ∀ u ∈ encB x, u.oneCell' = true := by simp [encB, Value.oneCell']
theorem Cell.ext_iff' {x y : Cell} : x = y ↔ x.is_ = y.is_ ∧ x.value = y.value := by cases x; cases y; simp
theorem ti1 : TI Tryz.prog 1 (some (.nilFunc)) 1 8 := by unfold TI; kernel_rfl
theorem ti2 : TI Tryz.prog 2 (some (.int .i64 0)) 1 8 := by unfold TI; kernel_rfl
theorem ti3 : TI Tryz.prog 3 (some (.int .i64 0)) 1 8 := by unfold TI; kernel_rfl
theorem ti4 : TI Tryz.prog 4 (some (.bool false)) 1 1 := by unfold TI; kernel_rfl
theorem ti5 : TI Tryz.prog 5 (some (.int .u8 0)) 1 1 := by unfold TI; kernel_rfl
theorem ti6 : TI Tryz.prog 6 (some (.int .u8 0)) 1 1 := by unfold TI; kernel_rfl
theorem ti7 : TI Tryz.prog 7 (some (.agg #[.int .i64 0, .int .i64 0, .bool false, .int .u8 0])) 4 24 := by unfold TI; kernel_rfl
theorem ti8 : TI Tryz.prog 8 (some (.agg #[.int .i64 0, .int .i64 0, .bool false, .int .u8 0])) 4 24 := by unfold TI; kernel_rfl
theorem ti9 : TI Tryz.prog 9 (some (.string ⟨#[]⟩)) 1 16 := by unfold TI; kernel_rfl
theorem ti10 : TI Tryz.prog 10 (some (.string ⟨#[]⟩)) 1 16 := by unfold TI; kernel_rfl
theorem ti11 : TI Tryz.prog 11 (some (.string ⟨#[]⟩)) 1 16 := by unfold TI; kernel_rfl
theorem ti12 : TI Tryz.prog 12 (some (.int .u64 0)) 1 8 := by unfold TI; kernel_rfl
theorem ti13 : TI Tryz.prog 13 (some (.agg #[.string ⟨#[]⟩, .int .u64 0])) 2 24 := by unfold TI; kernel_rfl
theorem ti14 : TI Tryz.prog 14 (some (.agg #[.string ⟨#[]⟩, .int .u64 0])) 2 24 := by unfold TI; kernel_rfl
theorem ti15 : TI Tryz.prog 15 (some (.pointer none)) 1 8 := by unfold TI; kernel_rfl
theorem ti16 : TI Tryz.prog 16 (some (.pointer none)) 1 8 := by unfold TI; kernel_rfl
theorem ti17 : TI Tryz.prog 17 (some (.pointer none)) 1 8 := by unfold TI; kernel_rfl
theorem ti18 : TI Tryz.prog 18 (some (.agg #[.pointer none])) 1 8 := by unfold TI; kernel_rfl
theorem ti19 : TI Tryz.prog 19 (some (.agg #[.pointer none])) 1 8 := by unfold TI; kernel_rfl
theorem ti20 : TI Tryz.prog 20 (some (.nilIface)) 1 16 := by unfold TI; kernel_rfl
theorem ti21 : TI Tryz.prog 21 (some (.int .i32 0)) 1 4 := by unfold TI; kernel_rfl
theorem ti22 : TI Tryz.prog 22 (some (.agg #[.int .i64 0, .int .i64 0])) 2 16 := by unfold TI; kernel_rfl
theorem ti23 : TI Tryz.prog 23 (some (.agg #[.int .i64 0, .int .i64 0])) 2 16 := by unfold TI; kernel_rfl
theorem ti24 : TI Tryz.prog 24 (some (.slice none 0 0)) 1 24 := by unfold TI; kernel_rfl
theorem ti25 : TI Tryz.prog 25 (some (.agg #[.int .i64 0, .int .i64 0, .int .i64 0, .int .i64 0])) 4 32 := by unfold TI; kernel_rfl
theorem ti26 : TI Tryz.prog 26 (some (.pointer none)) 1 8 := by unfold TI; kernel_rfl
theorem ti27 : TI Tryz.prog 27 (some (.agg #[.pointer none, .pointer none])) 2 16 := by unfold TI; kernel_rfl
theorem ti28 : TI Tryz.prog 28 (some (.pointer none)) 1 8 := by unfold TI; kernel_rfl
theorem ti29 : TI Tryz.prog 29 (some (.agg #[.pointer none, .pointer none])) 2 16 := by unfold TI; kernel_rfl
theorem ti30 : TI Tryz.prog 30 (some (.int .i64 0)) 1 8 := by unfold TI; kernel_rfl
theorem ti32 : TI Tryz.prog 32 (some (.nilFunc)) 1 8 := by unfold TI; kernel_rfl
theorem ti34 : TI Tryz.prog 34 (some (.nilFunc)) 1 8 := by unfold TI; kernel_rfl
theorem ti35 : TI Tryz.prog 35 (some (.pointer none)) 1 8 := by unfold TI; kernel_rfl
theorem ti36 : TI Tryz.prog 36 (some (.slice none 0 0)) 1 24 := by unfold TI; kernel_rfl
theorem ti37 : TI Tryz.prog 37 (some (.slice none 0 0)) 1 24 := by unfold TI; kernel_rfl
theorem ti38 : TI Tryz.prog 38 (some (.agg #[.slice none 0 0, .slice none 0 0, .slice none 0 0, .slice none 0 0])) 4 96 := by unfold TI; kernel_rfl
theorem ti39 : TI Tryz.prog 39 (some (.agg #[.slice none 0 0, .slice none 0 0, .slice none 0 0, .slice none 0 0])) 4 96 := by unfold TI; kernel_rfl
theorem ti40 : TI Tryz.prog 40 (some (.agg #[.int .i64 0, .int .i64 0])) 2 16 := by unfold TI; kernel_rfl
theorem ti41 : TI Tryz.prog 41 (some (.agg #[.int .i64 0, .int .i64 0])) 2 16 := by unfold TI; kernel_rfl
theorem ti42 : TI Tryz.prog 42 (some (.agg #[.bool false, .int .i64 0])) 2 16 := by unfold TI; kernel_rfl
theorem ti43 : TI Tryz.prog 43 (some (.agg #[.bool false, .int .i64 0])) 2 16 := by unfold TI; kernel_rfl
theorem ti44 : TI Tryz.prog 44 (some (.agg #[.int .i64 0, .int .i64 0, .int .i64 0, .int .i64 0, .int .i64 0, .int .i64 0, .int .i64 0, .bool false, .int .i64 0, .bool false])) 10 80 := by unfold TI; kernel_rfl
theorem ti45 : TI Tryz.prog 45 (some (.agg #[.int .i64 0, .int .i64 0, .int .i64 0, .int .i64 0, .int .i64 0, .int .i64 0, .int .i64 0, .bool false, .int .i64 0, .bool false])) 10 80 := by unfold TI; kernel_rfl
theorem ti46 : TI Tryz.prog 46 (some (.nilFunc)) 1 8 := by unfold TI; kernel_rfl
theorem ti47 : TI Tryz.prog 47 (some (.nilFunc)) 1 8 := by unfold TI; kernel_rfl
theorem ti48 : TI Tryz.prog 48 (some (.slice none 0 0)) 1 24 := by unfold TI; kernel_rfl
theorem ti49 : TI Tryz.prog 49 (some (.agg #[.int .i64 0, .int .i64 0, .slice none 0 0, .int .i64 0])) 4 48 := by unfold TI; kernel_rfl
theorem ti50 : TI Tryz.prog 50 (some (.agg #[.int .i64 0, .int .i64 0, .slice none 0 0, .int .i64 0])) 4 48 := by unfold TI; kernel_rfl
theorem ti51 : TI Tryz.prog 51 (some (.nilFunc)) 1 8 := by unfold TI; kernel_rfl
theorem ti52 : TI Tryz.prog 52 (some (.nilFunc)) 1 8 := by unfold TI; kernel_rfl
theorem ti53 : TI Tryz.prog 53 (some (.nilFunc)) 1 8 := by unfold TI; kernel_rfl
theorem ti54 : TI Tryz.prog 54 (some (.pointer none)) 1 8 := by unfold TI; kernel_rfl
theorem ti56 : TI Tryz.prog 56 (some (.nilFunc)) 1 8 := by unfold TI; kernel_rfl
theorem ti57 : TI Tryz.prog 57 (some (.slice none 0 0)) 1 24 := by unfold TI; kernel_rfl
theorem ti58 : TI Tryz.prog 58 (some (.nilFunc)) 1 8 := by unfold TI; kernel_rfl
theorem ti59 : TI Tryz.prog 59 (some (.map none)) 1 8 := by unfold TI; kernel_rfl
theorem ti60 : TI Tryz.prog 60 (some (.agg #[.int .i64 0, .int .i64 0, .int .i64 0, .map none, .pointer none])) 5 40 := by unfold TI; kernel_rfl
theorem ti61 : TI Tryz.prog 61 (some (.agg #[.int .i64 0, .int .i64 0, .int .i64 0, .map none, .pointer none])) 5 40 := by unfold TI; kernel_rfl
theorem ti63 : TI Tryz.prog 63 (some (.nilFunc)) 1 8 := by unfold TI; kernel_rfl
theorem ti65 : TI Tryz.prog 65 (some (.nilFunc)) 1 8 := by unfold TI; kernel_rfl
theorem ti66 : TI Tryz.prog 66 (some (.nilFunc)) 1 8 := by unfold TI; kernel_rfl
theorem ti67 : TI Tryz.prog 67 (some (.nilFunc)) 1 8 := by unfold TI; kernel_rfl
theorem ti68 : TI Tryz.prog 68 (some (.nilFunc)) 1 8 := by unfold TI; kernel_rfl
theorem ti69 : TI Tryz.prog 69 (some (.nilFunc)) 1 8 := by unfold TI; kernel_rfl
theorem ti70 : TI Tryz.prog 70 (some (.agg #[.int .i64 0, .int .i64 0, .bool false, .bool false, .int .i64 0])) 5 40 := by unfold TI; kernel_rfl
theorem ti71 : TI Tryz.prog 71 (some (.agg #[.int .i64 0, .int .i64 0, .bool false, .bool false, .int .i64 0])) 5 40 := by unfold TI; kernel_rfl
theorem ti73 : TI Tryz.prog 73 (some (.nilFunc)) 1 8 := by unfold TI; kernel_rfl
theorem ti75 : TI Tryz.prog 75 (some (.nilFunc)) 1 8 := by unfold TI; kernel_rfl
theorem ti77 : TI Tryz.prog 77 (some (.nilFunc)) 1 8 := by unfold TI; kernel_rfl
theorem ti79 : TI Tryz.prog 79 (some (.nilFunc)) 1 8 := by unfold TI; kernel_rfl
theorem ti80 : TI Tryz.prog 80 (some (.nilFunc)) 1 8 := by unfold TI; kernel_rfl
theorem ti81 : TI Tryz.prog 81 (some (.slice none 0 0)) 1 24 := by unfold TI; kernel_rfl
theorem ti82 : TI Tryz.prog 82 (some (.nilFunc)) 1 8 := by unfold TI; kernel_rfl
theorem ti83 : TI Tryz.prog 83 (some (.nilFunc)) 1 8 := by unfold TI; kernel_rfl
theorem ti84 : TI Tryz.prog 84 (some (.nilFunc)) 1 8 := by unfold TI; kernel_rfl
theorem ti85 : TI Tryz.prog 85 (some (.slice none 0 0)) 1 24 := by unfold TI; kernel_rfl
theorem ti86 : TI Tryz.prog 86 (some (.nilFunc)) 1 8 := by unfold TI; kernel_rfl
theorem ti87 : TI Tryz.prog 87 (some (.nilFunc)) 1 8 := by unfold TI; kernel_rfl
theorem ti88 : TI Tryz.prog 88 (some (.nilFunc)) 1 8 := by unfold TI; kernel_rfl
theorem ti89 : TI Tryz.prog 89 (some (.nilFunc)) 1 8 := by unfold TI; kernel_rfl
theorem ti90 : TI Tryz.prog 90 (some (.nilFunc)) 1 8 := by unfold TI; kernel_rfl
theorem ti91 : TI Tryz.prog 91 (some (.int .u64 0)) 1 8 := by unfold TI; kernel_rfl
theorem ti92 : TI Tryz.prog 92 (some (.slice none 0 0)) 1 24 := by unfold TI; kernel_rfl
theorem ti93 : TI Tryz.prog 93 (some (.agg #[.nilFunc, .slice none 0 0, .int .i64 0, .int .i64 0])) 4 48 := by unfold TI; kernel_rfl
theorem ti94 : TI Tryz.prog 94 (some (.agg #[.nilFunc, .slice none 0 0, .int .i64 0, .int .i64 0])) 4 48 := by unfold TI; kernel_rfl
theorem ti95 : TI Tryz.prog 95 (some (.map none)) 1 8 := by unfold TI; kernel_rfl
theorem ti96 : TI Tryz.prog 96 (some (.agg #[.int .u8 0, .int .u8 0, .int .u8 0, .int .u8 0, .int .u8 0, .int .u8 0, .int .u8 0, .int .u8 0, .int .u8 0, .int .u8 0])) 10 10 := by unfold TI; kernel_rfl
theorem ti97 : TI Tryz.prog 97 (some (.nilFunc)) 1 8 := by unfold TI; kernel_rfl
theorem ti99 : TI Tryz.prog 99 (some (.nilFunc)) 1 8 := by unfold TI; kernel_rfl
theorem ti100 : TI Tryz.prog 100 (some (.pointer none)) 1 8 := by unfold TI; kernel_rfl
theorem ti101 : TI Tryz.prog 101 (some (.agg #[.int .i64 0, .int .i64 0])) 2 16 := by unfold TI; kernel_rfl
theorem ti102 : TI Tryz.prog 102 (some (.agg #[.int .i64 0, .int .i64 0])) 2 16 := by unfold TI; kernel_rfl
theorem ti103 : TI Tryz.prog 103 (some (.agg #[.int .i64 0, .int .i64 0, .int .i64 0, .int .i64 0, .bool false, .bool false, .int .i64 0])) 7 56 := by unfold TI; kernel_rfl
theorem ti104 : TI Tryz.prog 104 (some (.agg #[.int .i64 0, .int .i64 0, .int .i64 0, .int .i64 0, .bool false, .bool false, .int .i64 0])) 7 56 := by unfold TI; kernel_rfl
theorem ti105 : TI Tryz.prog 105 (some (.nilFunc)) 1 8 := by unfold TI; kernel_rfl
theorem ti106 : TI Tryz.prog 106 (some (.nilFunc)) 1 8 := by unfold TI; kernel_rfl
theorem ti107 : TI Tryz.prog 107 (some (.nilFunc)) 1 8 := by unfold TI; kernel_rfl
theorem ti108 : TI Tryz.prog 108 (some (.nilFunc)) 1 8 := by unfold TI; kernel_rfl
theorem ti109 : TI Tryz.prog 109 (some (.agg #[.int .i64 0, .int .i64 0, .int .i64 0, .int .i64 0, .int .i64 0, .bool false, .bool false, .int .i64 0])) 8 64 := by unfold TI; kernel_rfl
theorem ti110 : TI Tryz.prog 110 (some (.agg #[.int .i64 0, .int .i64 0, .int .i64 0, .int .i64 0, .int .i64 0, .bool false, .bool false, .int .i64 0])) 8 64 := by unfold TI; kernel_rfl
theorem ti112 : TI Tryz.prog 112 (some (.nilFunc)) 1 8 := by unfold TI; kernel_rfl
theorem ti113 : TI Tryz.prog 113 (some (.nilFunc)) 1 8 := by unfold TI; kernel_rfl
theorem ti114 : TI Tryz.prog 114 (some (.nilFunc)) 1 8 := by unfold TI; kernel_rfl
theorem ti115 : TI Tryz.prog 115 (some (.nilFunc)) 1 8 := by unfold TI; kernel_rfl
theorem ti116 : TI Tryz.prog 116 (some (.nilFunc)) 1 8 := by unfold TI; kernel_rfl
theorem ti117 : TI Tryz.prog 117 (some (.nilFunc)) 1 8 := by unfold TI; kernel_rfl
theorem ti118 : TI Tryz.prog 118 (some (.nilFunc)) 1 8 := by unfold TI; kernel_rfl
theorem ti120 : TI Tryz.prog 120 (some (.nilFunc)) 1 8 := by unfold TI; kernel_rfl
theorem ti121 : TI Tryz.prog 121 (some (.nilFunc)) 1 8 := by unfold TI; kernel_rfl
theorem ti122 : TI Tryz.prog 122 (some (.int .u64 0)) 1 8 := by unfold TI; kernel_rfl
theorem ti123 : TI Tryz.prog 123 (some (.agg #[.int .i64 0, .int .i64 0, .slice none 0 0, .int .i64 0])) 4 48 := by unfold TI; kernel_rfl
theorem ti124 : TI Tryz.prog 124 (some (.agg #[.int .i64 0, .int .i64 0, .slice none 0 0, .int .i64 0])) 4 48 := by unfold TI; kernel_rfl
theorem ti126 : TI Tryz.prog 126 (some (.nilFunc)) 1 8 := by unfold TI; kernel_rfl
theorem ti127 : TI Tryz.prog 127 (some (.slice none 0 0)) 1 24 := by unfold TI; kernel_rfl
theorem ti128 : TI Tryz.prog 128 (some (.nilFunc)) 1 8 := by unfold TI; kernel_rfl
theorem ti129 : TI Tryz.prog 129 (some (.nilFunc)) 1 8 := by unfold TI; kernel_rfl
theorem ti130 : TI Tryz.prog 130 (some (.nilFunc)) 1 8 := by unfold TI; kernel_rfl
theorem ti131 : TI Tryz.prog 131 (some (.nilFunc)) 1 8 := by unfold TI; kernel_rfl
theorem ti132 : TI Tryz.prog 132 (some (.nilFunc)) 1 8 := by unfold TI; kernel_rfl
theorem ti133 : TI Tryz.prog 133 (some (.nilFunc)) 1 8 := by unfold TI; kernel_rfl
theorem ti134 : TI Tryz.prog 134 (some (.nilFunc)) 1 8 := by unfold TI; kernel_rfl
theorem ti135 : TI Tryz.prog 135 (some (.nilFunc)) 1 8 := by unfold TI; kernel_rfl
theorem ti136 : TI Tryz.prog 136 (some (.nilFunc)) 1 8 := by unfold TI; kernel_rfl
theorem ti137 : TI Tryz.prog 137 (some (.nilFunc)) 1 8 := by unfold TI; kernel_rfl
theorem ti138 : TI Tryz.prog 138 (some (.nilFunc)) 1 8 := by unfold TI; kernel_rfl
theorem ti139 : TI Tryz.prog 139 (some (.nilFunc)) 1 8 := by unfold TI; kernel_rfl
theorem ti140 : TI Tryz.prog 140 (some (.nilFunc)) 1 8 := by unfold TI; kernel_rfl
theorem ti141 : TI Tryz.prog 141 (some (.nilFunc)) 1 8 := by unfold TI; kernel_rfl
theorem ti142 : TI Tryz.prog 142 (some (.nilFunc)) 1 8 := by unfold TI; kernel_rfl
theorem ti143 : TI Tryz.prog 143 (some (.nilFunc)) 1 8 := by unfold TI; kernel_rfl
theorem ti144 : TI Tryz.prog 144 (some (.nilFunc)) 1 8 := by unfold TI; kernel_rfl
theorem ti145 : TI Tryz.prog 145 (some (.nilFunc)) 1 8 := by unfold TI; kernel_rfl
theorem ti146 : TI Tryz.prog 146 (some (.nilFunc)) 1 8 := by unfold TI; kernel_rfl
theorem ti147 : TI Tryz.prog 147 (some (.int .i64 0)) 1 8 := by unfold TI; kernel_rfl
theorem ti149 : TI Tryz.prog 149 (some (.nilFunc)) 1 8 := by unfold TI; kernel_rfl
theorem ti150 : TI Tryz.prog 150 (some (.nilFunc)) 1 8 := by unfold TI; kernel_rfl
theorem ti151 : TI Tryz.prog 151 (some (.nilFunc)) 1 8 := by unfold TI; kernel_rfl
theorem ti153 : TI Tryz.prog 153 (some (.nilFunc)) 1 8 := by unfold TI; kernel_rfl
theorem ti154 : TI Tryz.prog 154 (some (.nilFunc)) 1 8 := by unfold TI; kernel_rfl
theorem ti155 : TI Tryz.prog 155 (some (.int .u32 0)) 1 4 := by unfold TI; kernel_rfl
theorem ti156 : TI Tryz.prog 156 (some (.nilFunc)) 1 8 := by unfold TI; kernel_rfl
theorem ti157 : TI Tryz.prog 157 (some (.nilFunc)) 1 8 := by unfold TI; kernel_rfl
theorem ti158 : TI Tryz.prog 158 (some (.nilFunc)) 1 8 := by unfold TI; kernel_rfl
theorem ti159 : TI Tryz.prog 159 (some (.nilFunc)) 1 8 := by unfold TI; kernel_rfl
theorem ti160 : TI Tryz.prog 160 (some (.nilFunc)) 1 8 := by unfold TI; kernel_rfl
theorem ti161 : TI Tryz.prog 161 (some (.nilFunc)) 1 8 := by unfold TI; kernel_rfl
theorem ti162 : TI Tryz.prog 162 (some (.nilFunc)) 1 8 := by unfold TI; kernel_rfl
theorem ti163 : TI Tryz.prog 163 (some (.int .u64 0)) 1 8 := by unfold TI; kernel_rfl
theorem ti164 : TI Tryz.prog 164 (some (.nilFunc)) 1 8 := by unfold TI; kernel_rfl
theorem ti165 : TI Tryz.prog 165 (some (.nilFunc)) 1 8 := by unfold TI; kernel_rfl
theorem ti166 : TI Tryz.prog 166 (some (.nilFunc)) 1 8 := by unfold TI; kernel_rfl
theorem ti167 : TI Tryz.prog 167 (some (.pointer none)) 1 8 := by unfold TI; kernel_rfl
theorem ti168 : TI Tryz.prog 168 (some (.nilFunc)) 1 8 := by unfold TI; kernel_rfl
theorem ti169 : TI Tryz.prog 169 (some (.nilFunc)) 1 8 := by unfold TI; kernel_rfl
theorem ti170 : TI Tryz.prog 170 (some (.nilFunc)) 1 8 := by unfold TI; kernel_rfl
theorem ti171 : TI Tryz.prog 171 (some (.pointer none)) 1 8 := by unfold TI; kernel_rfl
theorem ti172 : TI Tryz.prog 172 (some (.nilFunc)) 1 8 := by unfold TI; kernel_rfl
theorem ti173 : TI Tryz.prog 173 (some (.nilFunc)) 1 8 := by unfold TI; kernel_rfl
theorem ti174 : TI Tryz.prog 174 (some (.nilFunc)) 1 8 := by unfold TI; kernel_rfl
theorem ti175 : TI Tryz.prog 175 (some (.agg #[.pointer none, .pointer none, .pointer none, .string ⟨#[]⟩])) 4 40 := by unfold TI; kernel_rfl
theorem ti176 : TI Tryz.prog 176 (some (.agg #[.pointer none, .pointer none, .pointer none, .string ⟨#[]⟩])) 4 40 := by unfold TI; kernel_rfl
theorem ti177 : TI Tryz.prog 177 (some (.agg #[])) 0 0 := by unfold TI; kernel_rfl
theorem ti178 : TI Tryz.prog 178 (some (.agg #[])) 0 0 := by unfold TI; kernel_rfl
theorem ti179 : TI Tryz.prog 179 (some (.agg #[])) 0 0 := by unfold TI; kernel_rfl
theorem ti180 : TI Tryz.prog 180 (some (.int .u8 0)) 1 1 := by unfold TI; kernel_rfl
theorem ti181 : TI Tryz.prog 181 (some (.int .u8 0)) 1 1 := by unfold TI; kernel_rfl
theorem ti182 : TI Tryz.prog 182 (some (.nilFunc)) 1 8 := by unfold TI; kernel_rfl
theorem ti183 : TI Tryz.prog 183 (some (.pointer none)) 1 8 := by unfold TI; kernel_rfl
theorem ti184 : TI Tryz.prog 184 (some (.int .i32 0)) 1 4 := by unfold TI; kernel_rfl
theorem ti185 : TI Tryz.prog 185 (some (.int .i32 0)) 1 4 := by unfold TI; kernel_rfl
theorem ti186 : TI Tryz.prog 186 (some (.agg #[.int .u64 0, .int .u64 0, .int .u32 0, .int .u8 0, .int .u8 0, .int .u8 0, .int .u8 0, .nilFunc, .pointer none, .int .i32 0, .int .i32 0])) 11 48 := by unfold TI; kernel_rfl
theorem ti187 : TI Tryz.prog 187 (some (.agg #[.int .u64 0, .int .u64 0, .int .u32 0, .int .u8 0, .int .u8 0, .int .u8 0, .int .u8 0, .nilFunc, .pointer none, .int .i32 0, .int .i32 0])) 11 48 := by unfold TI; kernel_rfl
theorem ti188 : TI Tryz.prog 188 (some (.pointer none)) 1 8 := by unfold TI; kernel_rfl
theorem eqA43 (d : Nat) (w : World) (x0 y0 : Bool) (x1 y1 : Int) : (Op.equalIn (d + 2) 43 (.agg #[.bool x0, .int .i64 x1]) (.agg #[.bool y0, .int .i64 y1])).run Tryz.prog w = .ok ((decide (x0 = y0) && decide (x1 = y1))) w := by
  refine eqA_of Tryz.underlying43 (by kernel_rfl) ?_
  refine eqf_cons rfl (part_one Tryz.underlying4 rfl rfl) (part_one Tryz.underlying4 rfl rfl) (eq_bool (d := d + 0) Tryz.underlying4) ?_
  exact eqf_last rfl (part_one Tryz.underlying2 rfl rfl) (part_one Tryz.underlying2 rfl rfl) (eq_int (d := d + 0) Tryz.underlying2)
theorem eqA71 (d : Nat) (w : World) (x0 y0 : Int) (x1 y1 : Int) (x2 y2 : Bool) (x3 y3 : Bool) (x4 y4 : Int) : (Op.equalIn (d + 3) 71 (.agg #[.int .i64 x0, .int .i64 x1, .bool x2, .bool x3, .int .i64 x4]) (.agg #[.int .i64 y0, .int .i64 y1, .bool y2, .bool y3, .int .i64 y4])).run Tryz.prog w = .ok ((decide (x0 = y0) && (decide (x1 = y1) && (decide (x2 = y2) && ((decide (x3 = y3) && decide (x4 = y4))))))) w := by
  refine eqA_of Tryz.underlying71 (by kernel_rfl) ?_
  refine eqf_cons rfl (part_one Tryz.underlying3 rfl rfl) (part_one Tryz.underlying3 rfl rfl) (eq_int (d := d + 1) Tryz.underlying3) ?_
  refine eqf_cons rfl (part_one Tryz.underlying3 rfl rfl) (part_one Tryz.underlying3 rfl rfl) (eq_int (d := d + 1) Tryz.underlying3) ?_
  refine eqf_cons rfl (part_one Tryz.underlying4 rfl rfl) (part_one Tryz.underlying4 rfl rfl) (eq_bool (d := d + 1) Tryz.underlying4) ?_
  exact eqf_last rfl (part_agg Tryz.underlying43 rfl ti43) (part_agg Tryz.underlying43 rfl ti43) (eqA43 (d + 0) w _ _ _ _)
theorem eqA41 (d : Nat) (w : World) (x0 y0 : Int) (x1 y1 : Int) : (Op.equalIn (d + 2) 41 (.agg #[.int .i64 x0, .int .i64 x1]) (.agg #[.int .i64 y0, .int .i64 y1])).run Tryz.prog w = .ok ((decide (x0 = y0) && decide (x1 = y1))) w := by
  refine eqA_of Tryz.underlying41 (by kernel_rfl) ?_
  refine eqf_cons rfl (part_one Tryz.underlying3 rfl rfl) (part_one Tryz.underlying3 rfl rfl) (eq_int (d := d + 0) Tryz.underlying3) ?_
  exact eqf_last rfl (part_one Tryz.underlying2 rfl rfl) (part_one Tryz.underlying2 rfl rfl) (eq_int (d := d + 0) Tryz.underlying2)
theorem eqA102 (d : Nat) (w : World) (x0 y0 : Int) (x1 y1 : Int) : (Op.equalIn (d + 2) 102 (.agg #[.int .i64 x0, .int .i64 x1]) (.agg #[.int .i64 y0, .int .i64 y1])).run Tryz.prog w = .ok ((decide (x0 = y0) && decide (x1 = y1))) w := by
  refine eqA_of Tryz.underlying102 (by kernel_rfl) ?_
  refine eqf_cons rfl (part_one Tryz.underlying3 rfl rfl) (part_one Tryz.underlying3 rfl rfl) (eq_int (d := d + 0) Tryz.underlying3) ?_
  exact eqf_last rfl (part_one Tryz.underlying3 rfl rfl) (part_one Tryz.underlying3 rfl rfl) (eq_int (d := d + 0) Tryz.underlying3)
theorem eqCell (x y : Cell) (w : World) : (Op.equalIn 10000 43 (.agg (encCell x).toArray) (.agg (encCell y).toArray)).run Tryz.prog w = .ok (decide (x = y)) w := by
  have h := eqA43 9998 w x.is_ y.is_ x.value y.value
  have e : decide (x = y) = (decide (x.is_ = y.is_) && decide (x.value = y.value)) := by
    rw [Bool.eq_iff_iff]; cases x; cases y; simp
  rw [e]; exact h
theorem eqVer (x y : Ver) (w : World) : (Op.equalIn 10000 71 (.agg (encVer x).toArray) (.agg (encVer y).toArray)).run Tryz.prog w = .ok (decide (x = y)) w := by
  have h := eqA71 9997 w x.batch y.batch x.index y.index x.filled y.filled x.cell.is_ y.cell.is_ x.cell.value y.cell.value
  have e : decide (x = y) = (decide (x.batch = y.batch) && (decide (x.index = y.index) && (decide (x.filled = y.filled) && ((decide (x.cell.is_ = y.cell.is_) && decide (x.cell.value = y.cell.value)))))) := by
    rw [Bool.eq_iff_iff]; cases x; cases y; simp [Cell.ext_iff']
  rw [e]; exact h
theorem eqKey (x y : Key) (w : World) : (Op.equalIn 10000 41 (.agg (encKey x).toArray) (.agg (encKey y).toArray)).run Tryz.prog w = .ok (decide (x = y)) w := by
  have h := eqA41 9998 w x.table y.table x.row y.row
  have e : decide (x = y) = (decide (x.table = y.table) && decide (x.row = y.row)) := by
    rw [Bool.eq_iff_iff]; cases x; cases y; simp
  rw [e]; exact h
theorem eqPlace (x y : Place) (w : World) : (Op.equalIn 10000 102 (.agg (encPlace x).toArray) (.agg (encPlace y).toArray)).run Tryz.prog w = .ok (decide (x = y)) w := by
  have h := eqA102 9998 w x.batch y.batch x.index y.index
  have e : decide (x = y) = (decide (x.batch = y.batch) && decide (x.index = y.index)) := by
    rw [Bool.eq_iff_iff]; cases x; cases y; simp
  rw [e]; exact h
theorem klI3 : KL Tryz.prog 3 (fun x : Int => Value.int .i64 x) := KL.now Tryz.underlying3 (fun a b => by simp [Instr.sameNow]; rfl) (fun w em a => by kernel_rfl) (fun a => by simp [Instr.sameBits])
theorem klKey : KL Tryz.prog 41 (fun x : Key => Value.agg (encKey x).toArray) := KL.ask Tryz.underlying41 (fun a v => rfl) (fun w a b => eqKey a b w) (fun w em a => by kernel_rfl) (fun a => by simp [Instr.sameBits, encKey])
end Go.Proofs.YtojcddlpkfhodaaGreat.W
