import Derived.Test.YtiidihgimcebgaaB
import Derived.KernelRfl
namespace Go.Proofs.Ytiidihgimcebgaa.W
open Go Go.Wk
set_option linter.unusedVariables false
set_option linter.unusedSimpArgs false

structure Cho where
  left : Int
  bh : List (Option Nat)
def encOP (x : Option Nat) : List Value := [.pointer (x.map fun b => ⟨b, 0, none⟩)]
theorem encOP_len (x : Option Nat) : (encOP x).length = 1 := rfl
theorem encOP_one (x : Option Nat) : ∀ u ∈ encOP x, u.oneCell' = true := by cases x <;> exact oneAll
def ifv (x : Option Nat) : Value := match x with | none => .nilIface | some b => .iface 30 (.pointer (some ⟨b, 0, none⟩))
/-- a task: nil, or the chore at that block -/
def encT (x : Option Nat) : List Value := [ifv x]
theorem encT_len (x : Option Nat) : (encT x).length = 1 := rfl
theorem encT_one (x : Option Nat) : ∀ u ∈ encT x, u.oneCell' = true := by cases x <;> exact oneAll
def pof (ps : List Nat) (i : Nat) : Nat := ps.getD i 0
def ppf (ps : List Nat) : Option Nat → Option Nat := Option.map (pof ps)
def clip (s : Int) : Int := min (max s 0) 65536
def withinF (n m : Int) : Int := if m < 1 then 0 else n % m
theorem within_eq {n m : Int} (h : ¬ m < 1) : (if n.tmod m < 0 then n.tmod m + m else n.tmod m) = withinF n m := by
  unfold withinF
  rw [if_neg h, Int.tmod_eq_emod]
  have h1 := Int.emod_nonneg n (show m ≠ 0 by omega)
  have h2 := Int.emod_lt_of_pos n (show 0 < m by omega)
  split
  · omega
  · rename_i h3
    have h4 : ((m.natAbs : Nat) : Int) = m := by omega
    by_cases h5 : n % m = 0
    · exact absurd (.inr (Int.dvd_of_emod_eq_zero h5)) h3
    · split <;> omega
theorem tmod_in {n m : Int} (h : ¬ m < 1) : -m < n.tmod m ∧ n.tmod m < m := by
  rw [Int.tmod_eq_emod]
  have h1 := Int.emod_nonneg n (show m ≠ 0 by omega)
  have h2 := Int.emod_lt_of_pos n (show 0 < m by omega)
  have h4 : ((m.natAbs : Nat) : Int) = m := by omega
  split <;> omega
theorem withinF_in {n m : Int} (h : 1 ≤ m) : 0 ≤ withinF n m ∧ withinF n m < m := by
  unfold withinF
  rw [if_neg (by omega)]
  exact ⟨Int.emod_nonneg n (by omega), Int.emod_lt_of_pos n (by omega)⟩
def pL : Int → List Nat → Int
  | left, [] => left
  | left, x :: r => if left < 0 then left else pL (left - 1 - x) r
theorem pL_neg {x : Int} (h : x < 0) : ∀ l, pL x l = x
  | [] => rfl
  | _ :: _ => by simp only [pL]; rw [if_pos h]
def totF : List Int → Int
  | [] => 0
  | s :: r => clip s + totF r
structure MakeR where
  steps : Int
  behind : Sv
  bl : List Int
def encMake (x : MakeR) : List Value := [.int .i64 x.steps, .slice x.behind.a x.behind.n x.behind.c]
theorem encMake_len (x : MakeR) : (encMake x).length = 2 := rfl
theorem encMake_one (x : MakeR) : ∀ u ∈ encMake x, u.oneCell' = true := oneAll
structure OpR where
  kind : Int
  n : Int
  picks : Sv
  pl : List Int
def encOp (x : OpR) : List Value := [.int .i64 x.kind, .int .i64 x.n, .slice x.picks.a x.picks.n x.picks.c]
theorem encOp_len (x : OpR) : (encOp x).length = 3 := rfl
theorem encOp_one (x : OpR) : ∀ u ∈ encOp x, u.oneCell' = true := oneAll
structure RCho where
  left : Int
  behind : Sv
def encRCho (x : RCho) : List Value := [.int .i64 x.left, .slice x.behind.a x.behind.n x.behind.c]
theorem encRCho_len (x : RCho) : (encRCho x).length = 2 := rfl
theorem encRCho_one (x : RCho) : ∀ u ∈ encRCho x, u.oneCell' = true := oneAll
def choreH (ps : List Nat) (i : Nat) (c : Cho) : HP := repH (fun (x : Sv) => True) fun x => [blkH (pof ps i) #[.int .i64 c.left, .slice x.a x.n x.c] 55, slH encOP 1 30 x.a x.n x.c (c.bh.map (ppf ps))]
theorem choreH.open_ {w0 w : World} {S0 : Nat → Prop} {R L : List HP} {ps : List Nat} {i : Nat} {c : Cho} (H : St w0 S0 R w L) (k : Nat) (hA : getH L k = choreH ps i c) (hlt : hasH L k = true) : ∃ x : Sv, (True) ∧ St w0 S0 R w (putsH L [k] [blkH (pof ps i) #[.int .i64 c.left, .slice x.a x.n x.c] 55, slH encOP 1 30 x.a x.n x.c (c.bh.map (ppf ps))]) := H.open_ k hA hlt
theorem choreH.openR {w0 w : World} {S0 : Nat → Prop} {R L : List HP} {ps : List Nat} {i : Nat} {c : Cho} (H : St w0 S0 R w L) (k : Nat) (hA : getH R k = choreH ps i c) : ∃ x : Sv, (True) ∧ St w0 S0 (R ++ [blkH (pof ps i) #[.int .i64 c.left, .slice x.a x.n x.c] 55, slH encOP 1 30 x.a x.n x.c (c.bh.map (ppf ps))]) w L := H.openR k hA
theorem choreH.close_ {w0 w : World} {S0 : Nat → Prop} {R L : List HP} {ps : List Nat} {i : Nat} {c : Cho} (H : St w0 S0 R w L) (is : List Nat) (x : Sv) (hx : True) (hM : pickH L is = [blkH (pof ps i) #[.int .i64 c.left, .slice x.a x.n x.c] 55, slH encOP 1 30 x.a x.n x.c (c.bh.map (ppf ps))]) (hi : okI L is = true) : St w0 S0 R w (putsH L is [choreH ps i c]) := H.close_ is x hx hM hi
attribute [irreducible] choreH
def lineH (p : Nat) (ps : List Nat) (ts : List (Option Nat)) (steps : Int) : HP := repH (fun (x : Sv) => True) fun x => [blkH p #[.slice x.a x.n x.c, .int .i64 steps] 59, slH encT 1 57 x.a x.n x.c (ts.map (ppf ps))]
theorem lineH.open_ {w0 w : World} {S0 : Nat → Prop} {R L : List HP} {p : Nat} {ps : List Nat} {ts : List (Option Nat)} {steps : Int} (H : St w0 S0 R w L) (k : Nat) (hA : getH L k = lineH p ps ts steps) (hlt : hasH L k = true) : ∃ x : Sv, (True) ∧ St w0 S0 R w (putsH L [k] [blkH p #[.slice x.a x.n x.c, .int .i64 steps] 59, slH encT 1 57 x.a x.n x.c (ts.map (ppf ps))]) := H.open_ k hA hlt
theorem lineH.openR {w0 w : World} {S0 : Nat → Prop} {R L : List HP} {p : Nat} {ps : List Nat} {ts : List (Option Nat)} {steps : Int} (H : St w0 S0 R w L) (k : Nat) (hA : getH R k = lineH p ps ts steps) : ∃ x : Sv, (True) ∧ St w0 S0 (R ++ [blkH p #[.slice x.a x.n x.c, .int .i64 steps] 59, slH encT 1 57 x.a x.n x.c (ts.map (ppf ps))]) w L := H.openR k hA
theorem lineH.close_ {w0 w : World} {S0 : Nat → Prop} {R L : List HP} {p : Nat} {ps : List Nat} {ts : List (Option Nat)} {steps : Int} (H : St w0 S0 R w L) (is : List Nat) (x : Sv) (hx : True) (hM : pickH L is = [blkH p #[.slice x.a x.n x.c, .int .i64 steps] 59, slH encT 1 57 x.a x.n x.c (ts.map (ppf ps))]) (hi : okI L is = true) : St w0 S0 R w (putsH L is [lineH p ps ts steps]) := H.close_ is x hx hM hi
attribute [irreducible] lineH

/-- the chores, in the order in which they were made -/
def chL (ps : List Nat) : Nat → List Cho → List HP
  | _, [] => []
  | k, c :: r => choreH ps k c :: chL ps (k + 1) r
def ChH (ps : List Nat) (cs : List Cho) : HP := allH (chL ps 0 cs)
theorem chL_get {ps : List Nat} : ∀ {cs : List Cho} {k i : Nat} {c : Cho}, cs[i]? = some c → getH (chL ps k cs) i = choreH ps (k + i) c
  | _ :: _, k, 0, c, h => by cases h; rfl
  | _ :: cs, k, i + 1, c, h => by
    show getH (chL ps (k + 1) cs) i = _
    rw [chL_get (cs := cs) (by simpa using h)]; congr 1; omega
theorem chL_set {ps : List Nat} : ∀ {cs : List Cho} {k i : Nat} {c : Cho}, setH (chL ps k cs) i (choreH ps (k + i) c) = chL ps k (cs.set i c)
  | [], _, _, _ => rfl
  | _ :: _, k, 0, c => rfl
  | d :: cs, k, i + 1, c => by
    show choreH ps k d :: setH (chL ps (k + 1) cs) i _ = choreH ps k d :: chL ps (k + 1) (cs.set i c)
    rw [show k + (i + 1) = (k + 1) + i by omega, chL_set (cs := cs)]
theorem chL_len {ps : List Nat} : ∀ {cs : List Cho} {k : Nat}, (chL ps k cs).length = cs.length
  | [], _ => rfl
  | _ :: cs, k => congrArg (· + 1) (chL_len (cs := cs))
theorem chL_app {ps : List Nat} {c : Cho} : ∀ {cs : List Cho} {k : Nat}, chL ps k (cs ++ [c]) = chL ps k cs ++ [choreH ps (k + cs.length) c]
  | [], _ => rfl
  | d :: cs, k => by
    show choreH ps k d :: chL ps (k + 1) (cs ++ [c]) = choreH ps k d :: (chL ps (k + 1) cs ++ _)
    rw [chL_app (cs := cs), List.length_cons]; congr 3; congr 1; omega
def ChHole (ps : List Nat) (cs : List Cho) (i : Nat) : HP := allH (setH (chL ps 0 cs) i emp)
theorem ChH.take {w0 w : World} {S0 : Nat → Prop} {R L : List HP} {ps : List Nat} {cs : List Cho} {i : Nat} {c : Cho} (H : St w0 S0 R w L) (k : Nat) (hA : getH L k = ChH ps cs) (hlt : hasH L k = true) (hc : cs[i]? = some c) : St w0 S0 R w (setH L k (ChHole ps cs i) ++ [choreH ps i c]) :=
  H.takeI k i hA hlt (by rw [chL_len]; exact (List.getElem?_eq_some_iff.1 hc).1) (by have := chL_get (ps := ps) (k := 0) hc; simpa using this)
theorem ChH.give {w0 w : World} {S0 : Nat → Prop} {R L : List HP} {ps : List Nat} {cs : List Cho} {i : Nat} {c d : Cho} (H : St w0 S0 R w L) (k j : Nat) (hA : getH L k = ChHole ps cs i) (hB : getH L j = choreH ps i d) (hi : okI L [k, j] = true) (hc : cs[i]? = some c) : St w0 S0 R w (setH (setH L k (ChH ps (cs.set i d))) j emp) := by
  have hl := (List.getElem?_eq_some_iff.1 hc).1
  have h := H.giveI k j i hA hB hi (by rw [setH_len, chL_len]; exact hl) (getH_set_same (by rw [chL_len]; exact hl))
  rw [setH_set] at h
  have e : setH (chL ps 0 cs) i (choreH ps i d) = chL ps 0 (cs.set i d) := by have := chL_set (ps := ps) (cs := cs) (k := 0) (i := i) (c := d); simpa using this
  rw [e] at h; exact h
def leftOf (cs : List Cho) (i : Nat) : Int := ((cs[i]?).map (·.left)).getD 0
theorem leftOf_at {cs : List Cho} {j : Nat} {d : Cho} (h : cs[j]? = some d) : leftOf cs j = d.left := by unfold leftOf; rw [h]; rfl
def okb (cs : List Cho) : Option Nat → Bool | none => true | some j => decide (leftOf cs j ≤ 0)
/-- has a chore a step to take? -/
def rdyC (cs : List Cho) (c : Cho) : Bool := decide (c.left ≠ 0) && c.bh.all (okb cs)
def rdy (cs : List Cho) (i : Nat) : Bool := match cs[i]? with | some c => rdyC cs c | none => false
def stepC (cs : List Cho) (i : Nat) : List Cho := match cs[i]? with | some c => if rdyC cs c then cs.set i { c with left := c.left - 1 } else cs | none => cs
/-- every number in behind is one of a chore -/
def OkB (cs : List Cho) : Prop := ∀ (i : Nat) (c : Cho), cs[i]? = some c → 0 ≤ c.left ∧ c.left ≤ 65536 ∧ ∀ j, some j ∈ c.bh → j < cs.length
def LIM : Nat := 4398046511104
structure WfC (cs : List Cho) (ts : List (Option Nat)) : Prop where
  hok : OkB cs
  hbl : ∀ (i : Nat) (c : Cho), cs[i]? = some c → c.bh.length ≤ 4398046511104
  hts : ∀ i, some i ∈ ts → i < cs.length
  htl : ts.length ≤ 4398046511104
def totL : List Cho → Nat
  | [] => 0
  | c :: r => c.left.toNat + totL r
theorem totL_set : ∀ {cs : List Cho} {i : Nat} {c d : Cho}, cs[i]? = some c → totL (cs.set i d) + c.left.toNat = totL cs + d.left.toNat
  | c :: r, 0, _, d, h => by cases h; simp only [List.set, totL]; omega
  | c :: r, i + 1, x, d, h => by
    have := totL_set (cs := r) (i := i) (c := x) (d := d) (by simpa using h)
    simp only [List.set, totL]; omega
theorem stepC_len (cs : List Cho) (i : Nat) : (stepC cs i).length = cs.length := by
  unfold stepC
  split
  · split
    · simp
    · rfl
  · rfl
theorem WfC.step {cs : List Cho} {ts : List (Option Nat)} (h : WfC cs ts) (i : Nat) : WfC (stepC cs i) ts := by
  have key : ∀ c, cs[i]? = some c → rdyC cs c = true → WfC (cs.set i { c with left := c.left - 1 }) ts := fun c hc hr => by
    have h1 := h.hok i c hc
    have hl : c.left ≠ 0 := by intro e; unfold rdyC at hr; rw [e] at hr; simp at hr
    refine ⟨fun j d hd => ?_, fun j d hd => ?_, fun j hj => by rw [List.length_set]; exact h.hts j hj, h.htl⟩
    · rw [List.getElem?_set] at hd
      split at hd
      · split at hd
        · cases hd; refine ⟨?_, ?_, fun q hq => by rw [List.length_set]; exact h1.2.2 q hq⟩ <;> show _ <;> simp only [] <;> omega
        · cases hd
      · have := h.hok j d hd
        exact ⟨this.1, this.2.1, fun q hq => by rw [List.length_set]; exact this.2.2 q hq⟩
    · rw [List.getElem?_set] at hd
      split at hd
      · split at hd
        · cases hd; exact h.hbl i c hc
        · cases hd
      · exact h.hbl j d hd
  unfold stepC
  split
  · rename_i c hc
    split
    · rename_i hr; exact key c hc hr
    · exact h
  · exact h
def rdyL (cs : List Cho) : Nat → List (Option Nat) → List Int
  | _, [] => []
  | k, t :: r => (match t with | some i => bif rdy cs i then [((k : Nat) : Int)] else [] | none => []) ++ rdyL cs (k + 1) r
end Go.Proofs.Ytiidihgimcebgaa.W
