/- THE WALK KIT: frames as functions, the world by what is kept, one lemma an operation. -/
import Derived.WalkKit
import Derived.Deep.Quiet
import Derived.IntWalk
import Derived.Laws.Cells
import Derived.Laws.Entries
import Derived.Laws.CopyRow
import Derived.Laws.AppendOwn
import Derived.Laws.StructEq
import Derived.StillTail
import Derived.OrdersIn
import Derived.LoopNIn
import Derived.KernelRfl
import Derived.MapKept
import Derived.Laws.Sem
import Derived.OrdersHeld
import Derived.Maps.RangeRun
import Derived.Shelf.SlSortCmp.NoneTotal
import Derived.RangeFuncIn
import Derived.RangeFuncLeaves
import Derived.RangeFuncRecord
import Derived.TacticsIn
namespace Go.Wk
set_option linter.unusedVariables false

/-! ## 1. Frames as functions -/
def upd (f : Nat → Value) (d : Nat) (v : Value) : Nat → Value := fun t => bif Nat.beq t d then v else f t
theorem upd_same (f : Nat → Value) (d : Nat) (v : Value) : upd f d v d = v := by simp [upd]
theorem upd_ne (f : Nat → Value) {d t : Nat} (v : Value) (h : t ≠ d) : upd f d v t = f t := by
  simp only [upd]
  have : Nat.beq t d = false := by
    cases hb : Nat.beq t d with
    | false => rfl
    | true => exact absurd (Nat.eq_of_beq_eq_true hb) h
  rw [this]; rfl
theorem upd_self {f : Nat → Value} {d : Nat} {v : Value} (h : f d = v) : f = upd f d v := by
  funext t
  by_cases e : t = d
  · subst e; rw [upd_same, h]
  · rw [upd_ne _ _ e]

structure NN where
  n : Nat
  ds : List Deferred
  ro : Option Nat
def WI (ro : Option Nat) : Fence := { Fence.wide with round := ro }
theorem WI_room (ro : Option Nat) (k : Nat) : (WI ro).room k := fun _ h => by simp [WI, Fence.wide] at h
theorem WI_steps {ro : Option Nat} {P : Program} {m m' : Machine} : StepsIn (Machine.fenced P (WI ro)) P m m' ↔ Steps P m m' := stepsIn_wide
theorem WI_none : WI none = Fence.wide := rfl
/-- What is proved of a code: at a frame of a function's own (ro: none) or of a round's (ro: its loop's record). -/
def wr (n : NN) (P : Program) (c : Code) (Q : Exit → Act → World → Prop) (a : Act) (w : World) : Prop := ¬ LetsOut Q → c.wpIn (WI n.ro) 0 P Q a w
def fr (n : NN) (f : Nat → Value) : Act := { tmps := Array.ofFn (n := n.n) fun i => f i.val, defers := n.ds }
def ev (f : Nat → Value) : Operand → Value
  | .tmp t => f t
  | .const v => v
  | .global g => .pointer (some ⟨g, 0, none⟩)
  | .func k => .func (.func k) #[] #[]
def okx (n : NN) : Operand → Bool
  | .tmp t => Nat.blt t n.n
  | _ => true
theorem fr_get {n : NN} {f : Nat → Value} {t : Nat} (h : t < n.n) : (fr n f).tmps[t]? = some (f t) := by
  simp [fr, h]
theorem eval_fr {n : NN} {f : Nat → Value} {x : Operand} (h : okx n x = true) : (fr n f).eval x = ev f x := by
  cases x with
  | tmp t =>
    have ht : t < n.n := Nat.lt_of_succ_le (by simpa [okx, Nat.blt] using h)
    simp [Act.eval, ev, Array.getD_eq_getD_getElem?, fr_get ht]
  | _ => rfl
theorem fr_put (n : NN) (f : Nat → Value) (d : Nat) (v : Value) : (fr n f).put (some d) v = fr n (upd f d v) := by
  simp only [Act.put, fr]
  congr 1
  apply Array.ext
  · simp
  · intro i h1 h2
    simp only [Array.size_setIfInBounds, Array.size_ofFn] at h1
    rw [Array.getElem_setIfInBounds (by simpa using h1)]
    simp only [Array.getElem_ofFn]
    split
    · rename_i e; subst e; rw [upd_same]
    · rename_i e; rw [upd_ne _ _ (fun h => e h.symm)]
theorem fr_put_none (n : NN) (f : Nat → Value) (v : Value) : (fr n f).put none v = fr n f := rfl
def putD (f : Nat → Value) (d : Option Nat) (v : Value) : Nat → Value := match d with | some d => upd f d v | none => f
theorem fr_putD (n : NN) (f : Nat → Value) (d : Option Nat) (v : Value) : (fr n f).put d v = fr n (putD f d v) := by
  cases d with
  | some d => exact fr_put n f d v
  | none => rfl

/-- What is left of a region: behind a name that nothing opens by itself. -/
def WL (P : Program) (ops : Array Oper) (Q : Exit → Act → World → Prop) (l : List Oper) (n : NN) (f : Nat → Value) (w : World) : Prop := wpList P ops Q l (fr n f) w
def WQ (P : Program) (ops : Array Oper) (C : World → Prop) (Z : Act → Prop) (l : List Oper) (n : NN) (f : Nat → Value) : Prop := wpQuiet P ops C Z l (fr n f)
def WS (P : Program) (ops : Array Oper) (w : World) (Z : Act → Prop) (l : List Oper) (n : NN) (f : Nat → Value) : Prop := wpStill P ops w Z l (fr n f)
/-! ## 2. Control -/
section
variable {P : Program} {n : NN} {f : Nat → Value} {w : World} {Q : Exit → Act → World → Prop}

theorem enter {k : FuncId} {fn : Func} {c : Code} {args : List Value} {m : Nat} {R : Ending → World → Prop} (hR : ∀ w, ¬ R .outgrown w) (hf : P.funcs[k]? = some fn) (hb : fn.body = some c) (hm : fn.ntmps = m)
    (hle : Nat.ble args.length m = true) (h : ∀ f : Nat → Value, (∀ i v, args[i]? = some v → f i = v) → wr ⟨m, [], none⟩ P c (bodyPost P fn R) (fr ⟨m, [], none⟩ f) w) : Calls P k args.toArray w R := by
  refine calls_of_wp hf hb ?_
  have hle' : args.length ≤ m := Nat.le_of_ble_eq_true hle
  have e : ({ tmps := args.toArray ++ Array.replicate (fn.ntmps - args.toArray.size) undef, defers := [] } : Act) = fr ⟨m, [], none⟩ (fun i => args.getD i undef) := by
    simp only [fr]
    congr 1
    apply Array.ext
    · simp [hm]; omega
    · intro i h1 h2
      simp only [Array.size_ofFn] at h2
      simp only [Array.getElem_ofFn]
      rw [Array.getElem_append]
      split
      · rename_i hi
        simp only [List.size_toArray] at hi
        simp [List.getD_eq_getElem?_getD, List.getElem?_eq_getElem hi]
      · rename_i hi
        simp only [List.size_toArray] at hi
        simp [List.getD_eq_getElem?_getD, List.getElem?_eq_none (Nat.not_lt.1 hi)]
  rw [e]
  exact wpIn_wide.1 (h _ (fun i v hv => by simp [List.getD_eq_getElem?_getD, hv]) (fun ⟨a, w, h⟩ => hR w h))

theorem letsThen {K : Act → World → Prop} (h : ¬ LetsOut Q) : ¬ LetsOut (Exit.then K Q) := fun ⟨a, w, x⟩ => h ⟨a, w, x⟩
theorem letsBlock {id : Nat} (h : ¬ LetsOut Q) : ¬ LetsOut (Exit.inBlock id Q) := fun ⟨a, w, x⟩ => h ⟨a, w, x⟩
theorem wr_mono {c : Code} {a : Act} {Q' : Exit → Act → World → Prop} (h : wr n P c Q a w) (hq : ∀ e a w, Q e a w → Q' e a w) : wr n P c Q' a w := fun ho =>
  wpIn_mono (h (fun ⟨a, w, x⟩ => ho ⟨a, w, hq _ _ _ x⟩)) hq
theorem seq_ {x y : Code} (h : wr n P x (Exit.then (wr n P y Q) Q) (fr n f) w) : wr n P (Code.seq x y) Q (fr n f) w := fun ho =>
  wpIn_seq (wpIn_mono (h (letsThen ho)) fun e a w hq => by cases e <;> first | exact hq ho | exact hq)
theorem block_ {id : Nat} {c : Code} (h : wr n P c (Exit.inBlock id Q) (fr n f) w) : wr n P (Code.block id c) Q (fr n f) w := fun ho => wpIn_block (h (letsBlock ho))

/-! ### a region's rules, from those of a function's own frame -/
def nodef (l : List Oper) : Bool := l.all fun o => match o.op with | .defer _ => false | _ => true
theorem nodef_at {l : List Oper} (h : nodef l = true) {i : Nat} {o : Oper} (ho : l.toArray[i]? = some o) : ∀ c, o.op ≠ .defer c := by
  intro c hc
  have hm : o ∈ l := List.mem_of_getElem? (by simpa using ho)
  have := List.all_eq_true.1 h o hm
  rw [hc] at this; cases this
theorem calls_in {ro : Option Nat} {k : FuncId} {args : Array Value} {R : Ending → World → Prop} (h : Calls P k args w R) : CallsIn (WI ro) (0 - 1) P k args w R := callsIn_wide.2 h
theorem rows_in {ro : Option Nat} {row : String} {args : Array Value} {R : Value → World → Prop} (h : Rows P row args w R) : RowsIn (WI ro) (0 - 1) P row args w R :=
  fun c cs _ => let ⟨v, w', r, s⟩ := h c cs; ⟨v, w', r, WI_steps.2 s⟩
theorem op_in {ro : Option Nat} {o : Oper} {a : Act} {K K' : Act → World → Prop} (hd : ∀ c, o.op ≠ .defer c) (hK : ∀ a w, K a w → K' a w) (h : o.wp P a w K Q) : o.wpIn (WI ro) 0 P a w K' Q := by
  refine ⟨fun _ _ => trivial, ?_⟩
  rw [show (WI ro).round = ro from rfl, Oper.semAt_eq _ _ _ hd]
  unfold Oper.wp at h
  generalize (execOp a.eval o).run P w = r at *
  cases r with
  | ok x w' =>
    cases x <;> simp only [Oper.upon] at h <;> simp only [Oper.uponIn]
    case value u => exact hK _ _ h
    case skip => exact hK _ _ h
    case defer d => exact hK _ _ h
    case enter f args => exact ⟨fun e => by simp [WI, Fence.wide] at e, calls_in (Calls.mono h fun e w'' he => by cases e <;> first | exact hK _ _ he | exact he)⟩
    case row row args => exact ⟨fun e => by simp [WI, Fence.wide] at e, rows_in (Rows.mono h fun v w'' he => hK _ _ he)⟩
  | halt x w' => cases x <;> simp only [Oper.upon] at h <;> simp only [Oper.uponIn] <;> exact h
theorem ops_in {ro : Option Nat} {l : List Oper} (hd : nodef l = true) (ho : ¬ LetsOut Q) : ∀ (is : List Nat) (a : Act) (w : World), wpOps P l.toArray Q is a w → wpOpsIn (WI ro) 0 P l.toArray Q is a w := by
  intro is
  induction is with
  | nil => exact fun a w h => h
  | cons i rest ih =>
    intro a w h
    simp only [wpOps] at h
    simp only [wpOpsIn]
    cases hi : l.toArray[i]? with
    | none => simp only [hi] at h; exact ih _ _ h
    | some o =>
      simp only [hi] at h
      by_cases hw : Region.wanted o (yielded l.toArray a.tmps) = true
      · simp only [hw, if_true] at h ⊢
        rcases h with h | ⟨_, h⟩
        · exact op_in (nodef_at hd hi) ih h
        · exact absurd h ho
      · simp only [hw, if_false, Bool.false_eq_true] at h ⊢
        exact ⟨fun _ _ => trivial, ih _ _ h⟩
theorem any_in {ro : Option Nat} {md : Region.Mode} {l : List Oper} (hd : nodef l = true) (ho : ¬ LetsOut Q) : ∀ (k : Nat) (listed : Array Bool) (a : Act) (w : World), wpAny P md l.toArray Q k listed a w → wpAnyIn (WI ro) 0 P md l.toArray Q k listed a w := by
  intro k
  induction k with
  | zero => exact fun listed a w h => h
  | succ k ih =>
    intro listed a w h
    refine ⟨h.1, fun i hi => ?_⟩
    have h := h.2 i hi
    unfold wpOp at h
    unfold wpOpIn
    cases hi : l.toArray[i]? with
    | none => simp only [hi] at h; exact ih _ _ _ h
    | some o =>
      simp only [hi] at h
      by_cases hw : Region.wanted o (yielded l.toArray a.tmps) = true
      · simp only [hw, if_true] at h ⊢
        rcases h with h | ⟨_, h⟩
        · exact op_in (nodef_at hd hi) (ih _) h
        · exact absurd h ho
      · simp only [hw, if_false, Bool.false_eq_true] at h ⊢
        exact ⟨fun _ _ => trivial, ih _ _ _ h⟩
theorem region_ {id : Nat} {l : List Oper} (h : WL P l.toArray Q l n f w) (hd : nodef l = true := by kernel_rfl) : wr n P (Code.region id l.toArray false) Q (fr n f) w := fun ho =>
  wpIn_region (ops_in hd ho _ _ _ (by
    rw [List.range_eq_range', show l.toArray.size = l.length by simp, wpOps_eq_wpList l 0 (fun j => by simp)]; exact h))
theorem region_any {id : Nat} {l : List Oper} {a : Act} (hd : nodef l = true) (hm : P.follows .mixedOrders = true)
    (h : wpAny P .any l.toArray Q l.toArray.size (Array.replicate l.toArray.size false) a { w with drawn := w.drawn + 1 }) : wr n P (Code.region id l.toArray true) Q a w := fun ho =>
  wpIn_region_any hm (any_in hd ho _ _ _ _ h)

theorem skip_ (h : Q .normal (fr n f) w) : wr n P Code.skip Q (fr n f) w := fun _ => wpIn_skip h
theorem exit_ {id : Nat} (h : Q (.exit id) (fr n f) w) : wr n P (Code.exit id) Q (fr n f) w := fun _ => wpIn_exit h
theorem ret_ (h : Q .ret (fr n f) w) : wr n P Code.ret Q (fr n f) w := fun _ => wpIn_ret h
theorem condT {c : Operand} {x y : Code} (ho : okx n c = true) (hc : ev f c = .bool true) (ht : wr n P x Q (fr n f) w) : wr n P (Code.cond c x y) Q (fr n f) w := fun hl =>
  wpIn_cond_true ((eval_fr ho).trans hc) (ht hl)
theorem condF {c : Operand} {x y : Code} (ho : okx n c = true) (hc : ev f c = .bool false) (ht : wr n P y Q (fr n f) w) : wr n P (Code.cond c x y) Q (fr n f) w := fun hl =>
  wpIn_cond_false ((eval_fr ho).trans hc) (ht hl)
theorem cond_ {c : Operand} {x y : Code} {t : Bool} (ho : okx n c = true) (hc : ev f c = .bool t) (ht : t = true → wr n P x Q (fr n f) w)
    (hf : t = false → wr n P y Q (fr n f) w) : wr n P (Code.cond c x y) Q (fr n f) w := by
  cases t
  · exact condF ho hc (hf rfl)
  · exact condT ho hc (ht rfl)

/-- A loop by a relation that counts down. -/
theorem loop_ {c : Code} (I : Nat → (Nat → Value) → World → Prop) (k : Nat) (h0 : I k f w)
    (round : ∀ k f w, I k f w → wr n P c (Exit.then (fun a' w' => ∃ k' f', a' = fr n f' ∧ k' < k ∧ I k' f' w') Q) (fr n f) w) : wr n P (Code.loop c) Q (fr n f) w := fun ho => by
  have key : ∀ m k f w, k ≤ m → I k f w → Code.roundsIn (WI n.ro) 0 P c Q (m + 1) (fr n f) w := by
    intro m
    induction m with
    | zero =>
      intro k f w hk hI
      rw [roundsIn_succ]
      refine wpIn_mono (round k f w hI (letsThen ho)) fun e a w hq => ?_
      cases e with
      | normal => obtain ⟨k', f', rfl, hlt, hI'⟩ := hq; omega
      | _ => exact hq
    | succ m ih =>
      intro k f w hk hI
      rw [roundsIn_succ]
      refine wpIn_mono (round k f w hI (letsThen ho)) fun e a w hq => ?_
      cases e with
      | normal => obtain ⟨k', f', rfl, hlt, hI'⟩ := hq; exact ih k' f' w (by omega) hI'
      | _ => exact hq
  exact wpIn_loop_rounds (k + 1) (key k k f w (Nat.le_refl _) h0)
end
end Go.Wk

namespace Go.Wk
set_option linter.unusedVariables false

/-! ## 3. The world -/
/-- Block b holds o. -/
def Blk (w : World) (b : Nat) (o : Obj) : Prop := w.heap[b]? = some o
/-- From w to w': nothing but the blocks of S has turned, and what is new. -/
structure Kp (S : Nat → Prop) (w w' : World) : Prop where
  os : w'.os = w.os
  tape : w'.tape = w.tape
  output : w'.output = w.output
  size : w.heap.size ≤ w'.heap.size
  block : ∀ k, k < w.heap.size → ¬ S k → w'.heap[k]? = w.heap[k]?
  drawn : w.drawn ≤ w'.drawn
def none_ : Nat → Prop := fun _ => False
theorem Kp.refl {S : Nat → Prop} (w : World) : Kp S w w := ⟨rfl, rfl, rfl, Nat.le_refl _, fun _ _ _ => rfl, Nat.le_refl _⟩
theorem Kp.trans {S : Nat → Prop} {a b c : World} (h : Kp S a b) (k : Kp S b c) : Kp S a c :=
  ⟨k.os.trans h.os, k.tape.trans h.tape, k.output.trans h.output, Nat.le_trans h.size k.size, fun i hi hs => (k.block i (Nat.lt_of_lt_of_le hi h.size) hs).trans (h.block i hi hs), Nat.le_trans h.drawn k.drawn⟩
theorem Kp.mono {S T : Nat → Prop} {w w' : World} (h : Kp S w w') (hs : ∀ b, b < w.heap.size → S b → T b) : Kp T w w' :=
  ⟨h.os, h.tape, h.output, h.size, fun k hk ht => h.block k hk (fun h' => ht (hs k hk h')), h.drawn⟩
/-- Two steps; what is new since the first may turn in the second. -/
theorem Kp.comp {S T : Nat → Prop} {a b c : World} (h : Kp S a b) (k : Kp T b c) (ht : ∀ i, i < a.heap.size → T i → S i) : Kp S a c :=
  ⟨k.os.trans h.os, k.tape.trans h.tape, k.output.trans h.output, Nat.le_trans h.size k.size, fun i hi hs =>
    (k.block i (Nat.lt_of_lt_of_le hi h.size) (fun h' => hs (ht i hi h'))).trans (h.block i hi hs), Nat.le_trans h.drawn k.drawn⟩
theorem Kp.of_none {S : Nat → Prop} {w w' : World} (h : Kp none_ w w') : Kp S w w' := h.mono (fun _ _ h => h.elim)
theorem Blk.lt {w : World} {b : Nat} {o : Obj} (h : Blk w b o) : b < w.heap.size := (Array.getElem?_eq_some_iff.1 h).1
theorem Blk.kp {S : Nat → Prop} {w w' : World} {b : Nat} {o : Obj} (h : Blk w b o) (hk : Kp S w w') (hs : ¬ S b) : Blk w' b o := (hk.block b h.lt hs).trans h
theorem Blk.keep {w w' : World} {b : Nat} {o : Obj} (h : Blk w b o) (hk : Kp none_ w w') : Blk w' b o := h.kp hk (fun h => h)
theorem Blk.eq {w : World} {b : Nat} {o o' : Obj} (h : Blk w b o) (h' : Blk w b o') : o = o' := Option.some.inj (h.symm.trans h')
theorem Kp.below {S : Nat → Prop} {w w' : World} {B : Nat} (h : Kp S w w') (hB : B ≤ w.heap.size) (hs : ∀ b, S b → B ≤ b) : Go.RowKit.Below B w w' :=
  ⟨h.os, h.tape, h.output, h.size, fun k hk => h.block k (by omega) (fun h' => by have := hs k h'; omega)⟩
theorem Kp.drewN (w : World) (k : Nat) : Kp none_ w (w.drewN k) := ⟨rfl, rfl, rfl, Nat.le_refl _, fun _ _ _ => rfl, Nat.le_add_right _ _⟩
theorem Kp.drew (w : World) : Kp none_ w w.drew := ⟨rfl, rfl, rfl, Nat.le_refl _, fun _ _ _ => rfl, Nat.le_add_right _ _⟩
theorem Kp.cell {S : Nat → Prop} {w w' : World} (hk : Kp S w w') {a : Addr} {v : Value} (h : w.cell? a = some v) (hs : ¬ S a.block) : w'.cell? a = some v :=
  (World.cell?_of_block (w := w) (hk.block a.block (World.block_lt_of_cell? w a h) hs)).trans h

theorem Blk.cell {w : World} {b : Nat} {cs : Array Value} {e : TypeId} {fz : Nat × Nat} (h : Blk w b (.cells cs e fz)) {i : Nat} {v : Value} (hv : cs[i]? = some v) : w.cell? ⟨b, i, none⟩ = some v := by
  simp only [World.cell?]
  rw [show w.heap[b]? = some (.cells cs e fz) from h]
  simpa using hv
theorem Blk.frozen {w : World} {b : Nat} {cs : Array Value} {e : TypeId} (h : Blk w b (.cells cs e (0, 0))) (i : Nat) : w.frozen? ⟨b, i, none⟩ = false := by
  simp only [World.frozen?]
  rw [show w.heap[b]? = some (.cells cs e (0, 0)) from h]
  simp
theorem Blk.set {w : World} {b : Nat} {cs : Array Value} {e : TypeId} {fz : Nat × Nat} (h : Blk w b (.cells cs e fz)) (i : Nat) (v : Value) : Blk (w.setCell ⟨b, i, none⟩ v) b (.cells (cs.setIfInBounds i v) e fz) := by
  have hb := h.lt
  have h' : w.heap[b]? = some (.cells cs e fz) := h
  simp only [Blk, World.setCell, Array.getElem?_modify]
  simp [h']
theorem Kp.set (w : World) (b i : Nat) (v : Value) : Kp (fun k => k = b) w (w.setCell ⟨b, i, none⟩ v) :=
  ⟨rfl, rfl, rfl, by simp [World.setCell], fun k hk hs => Go.RowKit.Below.heap_setCell w ⟨b, i, none⟩ v k hs, Nat.le_refl _⟩
theorem Kp.alloc (w : World) (o : Obj) : Kp none_ w (w.alloc o) := ⟨rfl, rfl, rfl, by simp, fun k hk _ => Go.RowKit.Below.heap_alloc w o k hk, Nat.le_refl _⟩
theorem Blk.new (w : World) (o : Obj) : Blk (w.alloc o) w.heap.size o := heap_alloc_new w o

/-! ## 4. Operations, one by one -/
section
variable {P : Program} {n : NN} {f : Nat → Value} {w : World} {Q : Exit → Act → World → Prop} {ops : Array Oper} {rest : List Oper} {d : Option Nat} {ty : TypeId} {ps : String} {es : Array Edge}

theorem wl_nil (h : Q .normal (fr n f) w) : WL P ops Q [] n f w := h
theorem wl_val {o : Oper} {v : Value} {w' : World} (hg : o.guard = none) (hr : (execOp (fr n f).eval o).run P w = .ok (.value v) w') (h : WL P ops Q rest n (putD f o.dst v) w') : WL P ops Q (o :: rest) n f w :=
  wpList_plain hg fun K hK => by
    unfold Oper.wp
    rw [hr]
    show K ((fr n f).put o.dst v) w'
    rw [fr_putD]
    exact hK _ _ h
theorem wl_skip {o : Oper} {w' : World} (hg : o.guard = none) (hr : (execOp (fr n f).eval o).run P w = .ok .skip w') (h : WL P ops Q rest n (putD f o.dst undef) w') : WL P ops Q (o :: rest) n f w :=
  wpList_plain hg fun K hK => by
    unfold Oper.wp
    rw [hr]
    show K ((fr n f).put o.dst undef) w'
    rw [fr_putD]
    exact hK _ _ h
theorem wl_call {o : Oper} {k : FuncId} {args : Array Value} {R : Ending → World → Prop} (hg : o.guard = none) (hr : (execOp (fr n f).eval o).run P w = .ok (.enter k args) w) (hc : Calls P k args w R)
    (h : ∀ e w', R e w' → ∃ v, e = .returned v ∧ WL P ops Q rest n (putD f o.dst v) w') : WL P ops Q (o :: rest) n f w :=
  wpList_plain hg fun K hK => by
    unfold Oper.wp
    rw [hr]
    show Calls P k args w _
    refine hc.mono fun e w' hR => ?_
    obtain ⟨v, rfl, h2⟩ := h e w' hR
    show K ((fr n f).put o.dst v) w'
    rw [fr_putD]
    exact hK _ _ h2

theorem wl_move {x : Operand} (hx : okx n x = true) (h : WL P ops Q rest n (putD f d (ev f x)) w) : WL P ops Q (⟨d, .move x, ty, ps, es, none⟩ :: rest) n f w :=
  wl_val rfl (by simp only [execOp]; rw [eval_fr hx]; rfl) h
theorem wl_assign {x : Operand} (hx : okx n x = true) (h : WL P ops Q rest n (putD f d (ev f x)) w) : WL P ops Q (⟨d, .assign x, ty, ps, es, none⟩ :: rest) n f w :=
  wl_val rfl (by simp only [execOp]; rw [eval_fr hx]; rfl) h
theorem wl_pick {c a b : Operand} {t : Bool} (hoc : okx n c = true) (hoa : okx n a = true) (hob : okx n b = true) (hc : ev f c = .bool t) (h : WL P ops Q rest n (putD f d (bif t then ev f a else ev f b)) w) : WL P ops Q (⟨d, .pick c a b, ty, ps, es, none⟩ :: rest) n f w :=
  wl_val rfl (by simp only [execOp]; rw [eval_fr hoc, eval_fr hoa, eval_fr hob, hc]; cases t <;> rfl) h
theorem wl_extract {x : Operand} {i : Nat} {vs : Array Value} {v : Value} (hx : okx n x = true) (hv : ev f x = .tuple vs) (hi : vs[i]? = some v) (h : WL P ops Q rest n (putD f d v) w) : WL P ops Q (⟨d, .extract x i, ty, ps, es, none⟩ :: rest) n f w :=
  wl_val rfl (by simp only [execOp]; rw [eval_fr hx, hv]; simp [Instr.extract, hi]) h
theorem wl_nilCheckP {x : Operand} {a : Addr} (hx : okx n x = true) (hv : ev f x = .pointer (some a)) (h : WL P ops Q rest n (putD f d (.pointer (some a))) w) : WL P ops Q (⟨d, .nilCheck x, ty, ps, es, none⟩ :: rest) n f w :=
  wl_val rfl (by simp only [execOp]; rw [eval_fr hx, hv]; rfl) h
theorem wl_nilCheckF {x : Operand} {k : FuncId} {fs cs : Array Value} (hx : okx n x = true) (hv : ev f x = .func (.func k) fs cs) (h : WL P ops Q rest n (putD f d (.func (.func k) fs cs)) w) : WL P ops Q (⟨d, .nilCheck x, ty, ps, es, none⟩ :: rest) n f w :=
  wl_val rfl (by simp only [execOp]; rw [eval_fr hx, hv]; rfl) h
theorem wl_not {x : Operand} {t : TypeId} {b : Bool} (hx : okx n x = true) (hv : ev f x = .bool b) (h : WL P ops Q rest n (putD f d (.bool (!b))) w) : WL P ops Q (⟨d, .unOp .not t x, ty, ps, es, none⟩ :: rest) n f w :=
  wl_val rfl (by simp only [execOp]; rw [eval_fr hx, hv]; rfl) h
theorem wl_neg {x : Operand} {t : TypeId} {k : IntKind} {a : Int} (hx : okx n x = true) (hv : ev f x = .int k a) (h : WL P ops Q rest n (putD f d (.int k (k.wrap (0 - a)))) w) : WL P ops Q (⟨d, .unOp .neg t x, ty, ps, es, none⟩ :: rest) n f w :=
  wl_val rfl (by simp only [execOp]; rw [eval_fr hx, hv]; rfl) h
end
end Go.Wk

namespace Go.Wk
set_option linter.unusedVariables false

/-! ## 5. Type facts -/
def isAggD : TypeDesc → Bool
  | .struct _ | .array _ _ => true
  | _ => false
section
variable {P : Program} {w : World} {t : TypeId}
theorem run_typeInfo {i : TypeInfo} (h : P.info? t = some i) : (typeInfo t).run P w = .ok i w := by simp [typeInfo, h]
/-- zero, size and bytes of a type -/
def TI (P : Program) (t : TypeId) (z : Option Value) (size bytes : Nat) : Prop := (P.info? t).map (fun i => (i.zero, i.size, i.bytes)) = some (z, size, bytes)
theorem TI.get {z : Option Value} {size bytes : Nat} (h : TI P t z size bytes) : ∃ i, P.info? t = some i ∧ i.zero = z ∧ i.size = size ∧ i.bytes = bytes := by
  simp only [TI, Option.map_eq_some_iff, Prod.mk.injEq] at h
  obtain ⟨i, h1, h2, h3, h4⟩ := h
  exact ⟨i, h1, h2, h3, h4⟩
theorem run_sizeOf' {z : Option Value} {size bytes : Nat} (h : TI P t z size bytes) : (sizeOf t).run P w = .ok size w := by
  obtain ⟨i, h1, h2, h3, h4⟩ := h.get
  simp [sizeOf, typeInfo, h1, h3]
theorem run_zeroValue' {z : Value} {size bytes : Nat} (h : TI P t (some z) size bytes) : (zeroValue t).run P w = .ok z w := by
  obtain ⟨i, h1, h2, h3, h4⟩ := h.get
  simp [zeroValue, typeInfo, h1, h2]
theorem run_isAgg' {d : TypeDesc} (h : P.underlying t = some d) : (isAgg t).run P w = .ok (isAggD d) w := by
  cases d <;> simp [isAgg, run_underlying h, isAggD]
end
theorem add_at (b o k : Nat) : (⟨b, o, none⟩ : Addr).add k = ⟨b, o + k, none⟩ := by
  unfold Addr.add; split
  · rename_i h; subst h; rfl
  · rfl

/-! ## 6. Run facts of operations that leave the world alone -/
section
variable {P : Program} {n : NN} {f : Nat → Value} {w : World} {d : Option Nat} {ty : TypeId} {ps : String} {es : Array Edge}

theorem rf_move {x : Operand} (hx : okx n x = true) : (execOp (fr n f).eval ⟨d, .move x, ty, ps, es, none⟩).run P w = .ok (.value (ev f x)) w := by
  simp only [execOp]; rw [eval_fr hx]; rfl
theorem rf_assign {x : Operand} (hx : okx n x = true) : (execOp (fr n f).eval ⟨d, .assign x, ty, ps, es, none⟩).run P w = .ok (.value (ev f x)) w := by
  simp only [execOp]; rw [eval_fr hx]; rfl
theorem rf_pick {c a b : Operand} {t : Bool} (hoc : okx n c = true) (hoa : okx n a = true) (hob : okx n b = true) (hc : ev f c = .bool t) : (execOp (fr n f).eval ⟨d, .pick c a b, ty, ps, es, none⟩).run P w = .ok (.value (bif t then ev f a else ev f b)) w := by
  simp only [execOp]; rw [eval_fr hoc, eval_fr hoa, eval_fr hob, hc]; cases t <;> rfl
theorem rf_extract {x : Operand} {i : Nat} {vs : Array Value} {v : Value} (hx : okx n x = true) (hv : ev f x = .tuple vs) (hi : vs[i]? = some v) : (execOp (fr n f).eval ⟨d, .extract x i, ty, ps, es, none⟩).run P w = .ok (.value v) w := by
  simp only [execOp]; rw [eval_fr hx, hv]; simp [Instr.extract, hi]
theorem rf_nilCheckP {x : Operand} {a : Addr} (hx : okx n x = true) (hv : ev f x = .pointer (some a)) : (execOp (fr n f).eval ⟨d, .nilCheck x, ty, ps, es, none⟩).run P w = .ok (.value (.pointer (some a))) w := by
  simp only [execOp]; rw [eval_fr hx, hv]; rfl
theorem rf_nilCheckF {x : Operand} {k : FuncId} {fs cs : Array Value} (hx : okx n x = true) (hv : ev f x = .func (.func k) fs cs) : (execOp (fr n f).eval ⟨d, .nilCheck x, ty, ps, es, none⟩).run P w = .ok (.value (.func (.func k) fs cs)) w := by
  simp only [execOp]; rw [eval_fr hx, hv]; rfl
theorem rf_not {x : Operand} {t : TypeId} {b : Bool} (hx : okx n x = true) (hv : ev f x = .bool b) : (execOp (fr n f).eval ⟨d, .unOp .not t x, ty, ps, es, none⟩).run P w = .ok (.value (.bool (!b))) w := by
  simp only [execOp]; rw [eval_fr hx, hv]; rfl
theorem rf_neg {x : Operand} {t : TypeId} {k : IntKind} {a : Int} (hx : okx n x = true) (hv : ev f x = .int k a) : (execOp (fr n f).eval ⟨d, .unOp .neg t x, ty, ps, es, none⟩).run P w = .ok (.value (.int k (k.wrap (0 - a)))) w := by
  simp only [execOp]; rw [eval_fr hx, hv]; rfl
theorem rf_makeFunc {fn : Fn} {fs cs : List Operand} {vfs vcs : List Value} (hf : fs.all (okx n) = true) (hc : cs.all (okx n) = true) (h1 : fs.map (ev f) = vfs) (h2 : cs.map (ev f) = vcs) :
    (execOp (fr n f).eval ⟨d, .makeFunc fn fs.toArray cs.toArray, ty, ps, es, none⟩).run P w = .ok (.value (.func fn vfs.toArray vcs.toArray)) w := by
  have e : ∀ xs : List Operand, xs.all (okx n) = true → xs.map (fr n f).eval = xs.map (ev f) := by
    intro xs hx
    exact List.map_congr_left fun a ha => eval_fr (List.all_eq_true.1 hx a ha)
  simp only [execOp, Instr.makeFunc, List.map_toArray]; rw [e fs hf, e cs hc, h1, h2]; rfl

theorem rf_load {t : TypeId} {x : Operand} {td : TypeDesc} {a : Addr} {v : Value} (hu : P.underlying t = some td) (hna : isAggD td = false) (hx : okx n x = true) (hv : ev f x = .pointer (some a)) (hc : w.cell? a = some v) :
    (execOp (fr n f).eval ⟨d, .load t x, ty, ps, es, none⟩).run P w = .ok (.value v) w := by
  simp only [execOp]; rw [eval_fr hx, hv]
  simp [Instr.loadAt, Instr.sureAddr, loadVar, run_isAgg' hu, hna, hc]
theorem rf_loadAgg {t : TypeId} {x : Operand} {td : TypeDesc} {a : Addr} {z : Option Value} {size bytes : Nat} {cs : List Value} (hu : P.underlying t = some td) (hag : isAggD td = true) (hi : TI P t z size bytes) (hx : okx n x = true) (hv : ev f x = .pointer (some a))
    (hc : ∀ j v, cs[j]? = some v → w.cell? (a.add j) = some v) (hl : cs.length = size) :
    (execOp (fr n f).eval ⟨d, .load t x, ty, ps, es, none⟩).run P w = .ok (.value (.agg cs.toArray)) w := by
  simp only [execOp]; rw [eval_fr hx, hv]
  subst hl
  simp [Instr.loadAt, Instr.sureAddr, loadVar, run_isAgg' hu, hag, run_sizeOf' hi, run_loadCells_list w a cs hc]
theorem rf_fieldAddr {s : TypeId} {x : Operand} {k : Nat} {fs : Array Field} {fl : Field} {b o : Nat} {z : Option Value} {size bytes : Nat} (hu : P.underlying s = some (.struct fs)) (hf : fs[k]? = some fl) (hi : TI P fl.type z (size + 1) bytes) (hx : okx n x = true) (hv : ev f x = .pointer (some ⟨b, o, none⟩)) :
    (execOp (fr n f).eval ⟨d, .fieldAddr s x k, ty, ps, es, none⟩).run P w = .ok (.value (.pointer (some ⟨b, o + fl.offset, none⟩))) w := by
  simp only [execOp]; rw [eval_fr hx, hv]
  simp [Instr.fieldAt, run_underlying hu, hf, Instr.sureAddr, fieldPlace, run_sizeOf' hi, add_at]
theorem rf_field {s : TypeId} {x : Operand} {k : Nat} {fs : Array Field} {fl : Field} {cs : Array Value} {td : TypeDesc} {v : Value} (hu : P.underlying s = some (.struct fs)) (hf : fs[k]? = some fl) (hut : P.underlying fl.type = some td) (hna : isAggD td = false) (hx : okx n x = true) (hv : ev f x = .agg cs) (hc : cs[fl.offset]? = some v) :
    (execOp (fr n f).eval ⟨d, .field s x k, ty, ps, es, none⟩).run P w = .ok (.value v) w := by
  simp only [execOp]; rw [eval_fr hx, hv]
  simp [Instr.field, run_underlying hu, hf, part, run_isAgg' hut, hna, asAgg, hc]
theorem rf_fieldAgg {s : TypeId} {x : Operand} {k : Nat} {fs : Array Field} {fl : Field} {cs : Array Value} {td : TypeDesc} {z : Option Value} {size bytes : Nat} (hu : P.underlying s = some (.struct fs)) (hf : fs[k]? = some fl) (hut : P.underlying fl.type = some td) (hag : isAggD td = true) (hi : TI P fl.type z size bytes) (hx : okx n x = true) (hv : ev f x = .agg cs) :
    (execOp (fr n f).eval ⟨d, .field s x k, ty, ps, es, none⟩).run P w = .ok (.value (.agg (cs.extract fl.offset (fl.offset + size)))) w := by
  simp only [execOp]; rw [eval_fr hx, hv]
  simp [Instr.field, run_underlying hu, hf, part, run_isAgg' hut, hag, asAgg, run_sizeOf' hi]
theorem rf_indexAddr {t e : TypeId} {x ix : Operand} {b o len cap : Nat} {k : IntKind} {i : Int} {z : Option Value} {size bytes : Nat} (hu : P.underlying t = some (.slice e)) (hi : TI P e z size bytes) (hx : okx n x = true) (hix : okx n ix = true)
    (hv : ev f x = .slice (some ⟨b, o, none⟩) len cap) (hiv : ev f ix = .int k i) (h0 : 0 ≤ i) (h1 : i < len) :
    (execOp (fr n f).eval ⟨d, .indexAddr t x ix, ty, ps, es, none⟩).run P w = .ok (.value (.pointer (some ⟨b, o + i.toNat * size, none⟩))) w := by
  simp only [execOp]; rw [eval_fr hx, hv, eval_fr hix, hiv]
  simp [Instr.indexAt, run_underlying hu, asIntOf, h0, h1, run_sizeOf' hi, add_at]
theorem rf_len_slice {t e : TypeId} {x : Operand} {a : Option Addr} {len cap : Nat} (hu : P.underlying t = some (.slice e)) (hx : okx n x = true) (hv : ev f x = .slice a len cap) :
    (execOp (fr n f).eval ⟨d, .call { callee := .builtin .len, args := #[x], argTypes := #[t] }, ty, ps, es, none⟩).run P w = .ok (.value (.int .i64 len)) w := by
  simp [execOp, resolve, invoke, builtin, eval_fr hx, hv, Builtin.len_, run_underlying hu, goInt]
theorem rf_len_string {t : TypeId} {x : Operand} {s : ByteArray} (hu : P.underlying t = some .string) (hx : okx n x = true) (hv : ev f x = .string s) :
    (execOp (fr n f).eval ⟨d, .call { callee := .builtin .len, args := #[x], argTypes := #[t] }, ty, ps, es, none⟩).run P w = .ok (.value (.int .i64 s.size)) w := by
  simp [execOp, resolve, invoke, builtin, eval_fr hx, hv, Builtin.len_, run_underlying hu, goInt]
theorem rf_len_map {t kt e : TypeId} {x : Operand} {r : Nat} {ms : Array MapEntry} {cl : Nat} (hu : P.underlying t = some (.map kt e)) (hx : okx n x = true) (hv : ev f x = .map (some r)) (hb : Blk w r (.map ms cl)) :
    (execOp (fr n f).eval ⟨d, .call { callee := .builtin .len, args := #[x], argTypes := #[t] }, ty, ps, es, none⟩).run P w = .ok (.value (.int .i64 ms.size)) w := by
  have hb' : w.heap[r]? = some (.map ms cl) := hb
  have hg : (getObj r).run P w = .ok (.map ms cl) w := by simp [getObj, Sem.run, hb']
  simp [execOp, resolve, invoke, builtin, eval_fr hx, hv, Builtin.len_, run_underlying hu, goInt, hg]

/-! integers -/
theorem rf_lss {t yt : TypeId} {x y : Operand} {k : IntKind} {a b : Int} (hx : okx n x = true) (hy : okx n y = true) (hv : ev f x = .int k a) (hw : ev f y = .int k b) : (execOp (fr n f).eval ⟨d, .binOp .lss t x y yt, ty, ps, es, none⟩).run P w = .ok (.value (.bool (decide (a < b)))) w := by
  simp [execOp, eval_fr hx, eval_fr hy, hv, hw, eqGuard, binOp, Op.intCmp]
theorem rf_leq {t yt : TypeId} {x y : Operand} {k : IntKind} {a b : Int} (hx : okx n x = true) (hy : okx n y = true) (hv : ev f x = .int k a) (hw : ev f y = .int k b) : (execOp (fr n f).eval ⟨d, .binOp .leq t x y yt, ty, ps, es, none⟩).run P w = .ok (.value (.bool (decide (a ≤ b)))) w := by
  simp [execOp, eval_fr hx, eval_fr hy, hv, hw, eqGuard, binOp, Op.intCmp]
theorem rf_gtr {t yt : TypeId} {x y : Operand} {k : IntKind} {a b : Int} (hx : okx n x = true) (hy : okx n y = true) (hv : ev f x = .int k a) (hw : ev f y = .int k b) : (execOp (fr n f).eval ⟨d, .binOp .gtr t x y yt, ty, ps, es, none⟩).run P w = .ok (.value (.bool (decide (b < a)))) w := by
  simp [execOp, eval_fr hx, eval_fr hy, hv, hw, eqGuard, binOp, Op.intCmp]
theorem rf_geq {t yt : TypeId} {x y : Operand} {k : IntKind} {a b : Int} (hx : okx n x = true) (hy : okx n y = true) (hv : ev f x = .int k a) (hw : ev f y = .int k b) : (execOp (fr n f).eval ⟨d, .binOp .geq t x y yt, ty, ps, es, none⟩).run P w = .ok (.value (.bool (decide (b ≤ a)))) w := by
  simp [execOp, eval_fr hx, eval_fr hy, hv, hw, eqGuard, binOp, Op.intCmp]
theorem rf_eql {t yt : TypeId} {x y : Operand} {k : IntKind} {a b : Int} (hx : okx n x = true) (hy : okx n y = true) (hv : ev f x = .int k a) (hw : ev f y = .int k b) : (execOp (fr n f).eval ⟨d, .binOp .eql t x y yt, ty, ps, es, none⟩).run P w = .ok (.value (.bool (decide (a = b)))) w := by
  have e : (a == b) = decide (a = b) := by rw [Bool.eq_iff_iff]; simp
  simp [execOp, eval_fr hx, eval_fr hy, hv, hw, eqGuard, binOp, Op.intCmp, e]
theorem rf_neq {t yt : TypeId} {x y : Operand} {k : IntKind} {a b : Int} (hx : okx n x = true) (hy : okx n y = true) (hv : ev f x = .int k a) (hw : ev f y = .int k b) : (execOp (fr n f).eval ⟨d, .binOp .neq t x y yt, ty, ps, es, none⟩).run P w = .ok (.value (.bool (decide (a ≠ b)))) w := by
  have e : (a != b) = decide (a ≠ b) := by rw [Bool.eq_iff_iff]; simp
  simp [execOp, eval_fr hx, eval_fr hy, hv, hw, eqGuard, binOp, Op.intCmp, e]
theorem rf_add {t yt : TypeId} {x y : Operand} {k : IntKind} {a b c : Int} (hx : okx n x = true) (hy : okx n y = true) (hv : ev f x = .int k a) (hw : ev f y = .int k b) (hc : k.wrap (a + b) = c) : (execOp (fr n f).eval ⟨d, .binOp .add t x y yt, ty, ps, es, none⟩).run P w = .ok (.value (.int k c)) w := by
  subst hc; simp [execOp, eval_fr hx, eval_fr hy, hv, hw, eqGuard, binOp, Op.intArith]
theorem rf_sub {t yt : TypeId} {x y : Operand} {k : IntKind} {a b c : Int} (hx : okx n x = true) (hy : okx n y = true) (hv : ev f x = .int k a) (hw : ev f y = .int k b) (hc : k.wrap (a - b) = c) : (execOp (fr n f).eval ⟨d, .binOp .sub t x y yt, ty, ps, es, none⟩).run P w = .ok (.value (.int k c)) w := by
  subst hc; simp [execOp, eval_fr hx, eval_fr hy, hv, hw, eqGuard, binOp, Op.intArith]
theorem rf_mul {t yt : TypeId} {x y : Operand} {k : IntKind} {a b c : Int} (hx : okx n x = true) (hy : okx n y = true) (hv : ev f x = .int k a) (hw : ev f y = .int k b) (hc : k.wrap (a * b) = c) : (execOp (fr n f).eval ⟨d, .binOp .mul t x y yt, ty, ps, es, none⟩).run P w = .ok (.value (.int k c)) w := by
  subst hc; simp [execOp, eval_fr hx, eval_fr hy, hv, hw, eqGuard, binOp, Op.intArith]
theorem rf_rem {t yt : TypeId} {x y : Operand} {k : IntKind} {a b c : Int} (hx : okx n x = true) (hy : okx n y = true) (hv : ev f x = .int k a) (hw : ev f y = .int k b) (h0 : b ≠ 0) (hc : a.tmod b = c) : (execOp (fr n f).eval ⟨d, .binOp .rem t x y yt, ty, ps, es, none⟩).run P w = .ok (.value (.int k c)) w := by
  subst hc; simp [execOp, eval_fr hx, eval_fr hy, hv, hw, eqGuard, binOp, Op.intDiv, h0]
theorem rf_quo {t yt : TypeId} {x y : Operand} {k : IntKind} {a b c : Int} (hx : okx n x = true) (hy : okx n y = true) (hv : ev f x = .int k a) (hw : ev f y = .int k b) (h0 : b ≠ 0) (hc : k.wrap (a.tdiv b) = c) : (execOp (fr n f).eval ⟨d, .binOp .quo t x y yt, ty, ps, es, none⟩).run P w = .ok (.value (.int k c)) w := by
  subst hc; simp [execOp, eval_fr hx, eval_fr hy, hv, hw, eqGuard, binOp, Op.intDiv, h0]
theorem rf_conv {src dst : TypeId} {x : Operand} {td : TypeDesc} {k k' : IntKind} {a c : Int} (hs : P.underlying src = some td) (hd : P.underlying dst = some (.int k')) (hx : okx n x = true) (hv : ev f x = .int k a) (hc : k'.wrap a = c) : (execOp (fr n f).eval ⟨d, .convert src dst x, ty, ps, es, none⟩).run P w = .ok (.value (.int k' c)) w := by
  subst hc; simp [execOp, eval_fr hx, hv, convert, run_underlying hs, run_underlying hd, Conv.intToInt]
end
end Go.Wk

namespace Go.Wk
set_option linter.unusedVariables false

def spl (A : Array Value) (o : Nat) (cs : List Value) : Array Value := (A.toList.take o ++ cs ++ A.toList.drop (o + cs.length)).toArray
theorem spl_size {A : Array Value} {o : Nat} {cs : List Value} (h : o + cs.length ≤ A.size) : (spl A o cs).size = A.size := by
  simp [spl]; omega
theorem spl_get_in {A : Array Value} {o : Nat} {cs : List Value} (h : o + cs.length ≤ A.size) (j : Nat) (hj : j < cs.length) : (spl A o cs)[o + j]? = cs[j]? := by
  simp only [spl, List.getElem?_toArray]
  rw [List.append_assoc, List.getElem?_append_right (by simp; omega)]
  simp only [List.length_take, Array.length_toList]
  rw [List.getElem?_append_left (by omega)]
  congr 1
  omega
theorem spl_get_out {A : Array Value} {o : Nat} {cs : List Value} (h : o + cs.length ≤ A.size) (i : Nat) (hi : i < o ∨ o + cs.length ≤ i) : (spl A o cs)[i]? = A[i]? := by
  simp only [spl, List.getElem?_toArray]
  rw [List.append_assoc]
  rcases hi with hi | hi
  · rw [List.getElem?_append_left (by simp; omega), List.getElem?_take_of_lt hi]
    simp
  · rw [List.getElem?_append_right (by simp; omega)]
    simp only [List.length_take, Array.length_toList]
    rw [List.getElem?_append_right (by omega), List.getElem?_drop]
    simp only [Array.getElem?_toList]
    congr 1
    omega
theorem spl_one {A : Array Value} {o : Nat} {v : Value} (h : o < A.size) : spl A o [v] = A.setIfInBounds o v := by
  apply Array.ext_getElem?
  intro i
  rw [Array.getElem?_setIfInBounds]
  by_cases e : i = o
  · subst e
    have := spl_get_in (A := A) (o := i) (cs := [v]) (by simp; omega) 0 (by simp)
    rw [Nat.add_zero] at this
    rw [this]
    simp [h]
  · rw [spl_get_out (by simp; omega) i (by simp; omega), if_neg (fun h => e h.symm)]

theorem Kp.setRow (w : World) (b : Nat) (cs : Array Value) : Kp (fun k => k = b) w (w.setRow b cs) :=
  ⟨rfl, rfl, rfl, by simp [World.setRow], fun k hk hs => setRow_other w b k cs hs, Nat.le_refl _⟩

section
variable {P : Program} {n : NN} {f : Nat → Value} {w : World} {Q : Exit → Act → World → Prop} {ops : Array Oper} {rest : List Oper} {d : Option Nat} {ty : TypeId} {ps : String} {es : Array Edge}

/-! ## 7. Calls -/
def Callable (P : Program) (k : FuncId) : Prop := ∀ (args : Array Value) (w : World), (callFunc k args).run P w = .ok (.enter k args) w
theorem Callable.run {k : FuncId} (h : Callable P k) (args : Array Value) : (callFunc k args).run P w = .ok (.enter k args) w := h args w
/-- A call that comes back. -/
def Ret (P : Program) (k : FuncId) (vs : List Value) (w : World) (Φ : Value → World → Prop) : Prop := Calls P k vs.toArray w fun e w' => ∃ v, e = .returned v ∧ Φ v w'
theorem Ret.mono {k : FuncId} {vs : List Value} {Φ Ψ : Value → World → Prop} (h : Ret P k vs w Φ) (hi : ∀ v w', Φ v w' → Ψ v w') : Ret P k vs w Ψ :=
  Calls.mono h fun _ _ ⟨v, he, hv⟩ => ⟨v, he, hi _ _ hv⟩
theorem map_eval {l : List Operand} {vs : List Value} (ho : l.all (okx n) = true) (hv : l.map (ev f) = vs) : (l.toArray).map (fr n f).eval = vs.toArray := by
  have : l.map (fr n f).eval = l.map (ev f) := List.map_congr_left fun a ha => eval_fr (List.all_eq_true.1 ho a ha)
  rw [List.map_toArray, this, hv]
theorem rf_call {k : FuncId} {l : List Operand} {ats : Array TypeId} {vs : List Value} (hk : Callable P k) (ho : l.all (okx n) = true) (hv : l.map (ev f) = vs) :
    (execOp (fr n f).eval ⟨d, .call { callee := .value (.func k), args := l.toArray, argTypes := ats }, ty, ps, es, none⟩).run P w = .ok (.enter k vs.toArray) w := by
  simp only [execOp, resolve, map_eval ho hv]
  simp [Act.eval, Deferred.ofValue, invoke, hk.run]
theorem rf_callv {x : Operand} {k : FuncId} {l : List Operand} {ats : Array TypeId} {vs fs cs : List Value} (hk : Callable P k) (hx : okx n x = true) (hxv : ev f x = .func (.func k) fs.toArray cs.toArray) (ho : l.all (okx n) = true) (hv : l.map (ev f) = vs) :
    (execOp (fr n f).eval ⟨d, .call { callee := .value x, args := l.toArray, argTypes := ats }, ty, ps, es, none⟩).run P w = .ok (.enter k (fs ++ vs ++ cs).toArray) w := by
  simp only [execOp, resolve, map_eval ho hv]
  rw [eval_fr hx, hxv]
  simp [Deferred.ofValue, invoke, hk.run]
theorem wl_ret {o : Oper} {k : FuncId} {vs : List Value} {Φ : Value → World → Prop} (hg : o.guard = none) (hc : Ret P k vs w Φ) (hr : (execOp (fr n f).eval o).run P w = .ok (.enter k vs.toArray) w)
    (h : ∀ v w', Φ v w' → WL P ops Q rest n (putD f o.dst v) w') : WL P ops Q (o :: rest) n f w :=
  wl_call hg hr hc fun e w' ⟨v, he, hv⟩ => ⟨v, he, h v w' hv⟩

/-! ## 8. What makes memory or writes it -/
theorem wl_new {o : Oper} {v : Value → Value} {ob : Obj} (hg : o.guard = none) (hr : (execOp (fr n f).eval o).run P w = .ok (.value (v (.pointer (some ⟨w.heap.size, 0, none⟩)))) (w.alloc ob))
    (h : ∀ b w', w.heap.size ≤ b → Kp none_ w w' → Blk w' b ob → WL P ops Q rest n (putD f o.dst (v (.pointer (some ⟨b, 0, none⟩)))) w') : WL P ops Q (o :: rest) n f w :=
  wl_val hg hr (h _ _ (Nat.le_refl _) (Kp.alloc w ob) (Blk.new w ob))
theorem wl_alloc {t : TypeId} {z : Value} {size bytes : Nat} (hi : TI P t (some z) size bytes)
    (h : ∀ b w', w.heap.size ≤ b → Kp none_ w w' → Blk w' b (.cells z.cells t (0, 0)) → WL P ops Q rest n (putD f d (.pointer (some ⟨b, 0, none⟩))) w') :
    WL P ops Q (⟨d, .alloc t, ty, ps, es, none⟩ :: rest) n f w := by
  refine wl_val rfl (v := .pointer (some ⟨w.heap.size, 0, none⟩)) (w' := w.alloc (.cells z.cells t (0, 0))) ?_ (h _ _ (Nat.le_refl _) (Kp.alloc w _) (Blk.new w _))
  simp [execOp, Instr.alloc, run_zeroValue' hi, newVar, newRow]
theorem wl_box {t : TypeId} {x : Operand} {v : Value} (hx : okx n x = true) (hv : ev f x = v)
    (h : ∀ b w', w.heap.size ≤ b → Kp none_ w w' → Blk w' b (.cells v.cells t (0, 0)) → WL P ops Q rest n (putD f d (.pointer (some ⟨b, 0, none⟩))) w') :
    WL P ops Q (⟨d, .box t x, ty, ps, es, none⟩ :: rest) n f w := by
  refine wl_val rfl (v := .pointer (some ⟨w.heap.size, 0, none⟩)) (w' := w.alloc (.cells v.cells t (0, 0))) ?_ (h _ _ (Nat.le_refl _) (Kp.alloc w _) (Blk.new w _))
  simp [execOp, Instr.box, eval_fr hx, hv, newVar, newRow]
theorem wl_makeMap {t : TypeId} (h : ∀ b w', w.heap.size ≤ b → Kp none_ w w' → Blk w' b (.map #[] 0) → WL P ops Q rest n (putD f d (.map (some b))) w') :
    WL P ops Q (⟨d, .makeMap t none, ty, ps, es, none⟩ :: rest) n f w := by
  refine wl_val rfl (v := .map (some w.heap.size)) (w' := w.alloc (.map #[] 0)) ?_ (h _ _ (Nat.le_refl _) (Kp.alloc w _) (Blk.new w _))
  simp [execOp, Instr.makeMap]

theorem run_storeVar' {t : TypeId} {z : Option Value} {size bytes b o : Nat} {A : Array Value} {e : TypeId} {v : Value} (hi : TI P t z size bytes) (hl : v.cells.toList.length = size) (h1 : ∀ u ∈ v.cells.toList, u.oneCell' = true)
    (hb : Blk w b (.cells A e (0, 0))) (ho : o + size ≤ A.size) : (storeVar t ⟨b, o, none⟩ v).run P w = .ok () (w.setRow b (spl A o v.cells.toList)) := by
  have hsz : v.cells.size = size := by simpa using hl
  have := run_storeCells_at P b o e v.cells.toList 0 A w hb (by simpa [hsz] using ho) h1
  simp only [Nat.add_zero] at this
  simp only [storeVar, Sem.run_bind, run_sizeOf' hi, Result.andThen_ok]
  rw [if_neg (by simpa using hsz)]
  exact this
theorem wl_store {t : TypeId} {x y : Operand} {v : Value} {z : Option Value} {bytes b o : Nat} {A : Array Value} {e : TypeId} (hi : TI P t z 1 bytes) (hx : okx n x = true) (hy : okx n y = true) (hv : ev f x = .pointer (some ⟨b, o, none⟩)) (hw : ev f y = v) (h1 : v.oneCell' = true)
    (hb : Blk w b (.cells A e (0, 0))) (ho : o < A.size) (h : ∀ w', Kp (fun k => k = b) w w' → Blk w' b (.cells (A.setIfInBounds o v) e (0, 0)) → WL P ops Q rest n (putD f d undef) w') :
    WL P ops Q (⟨d, .store t x y, ty, ps, es, none⟩ :: rest) n f w := by
  have hc : v.cells = #[v] := by cases v <;> first | rfl | cases h1
  refine wl_skip rfl (w' := w.setRow b (spl A o v.cells.toList)) ?_ (h _ (Kp.setRow w b _) ?_)
  · simp only [execOp]
    rw [eval_fr hx, hv, eval_fr hy, hw]
    have := run_storeVar' (v := v) (o := o) hi (by simp [hc]) (by simpa [hc] using h1) hb (by omega)
    simp [Instr.storeAt, Instr.sureAddr, this]
  · rw [hc, spl_one ho]
    exact setRow_heap w b A _ e (0, 0) hb
theorem wl_storeAgg {t : TypeId} {x y : Operand} {cs : List Value} {z : Option Value} {size bytes b o : Nat} {A : Array Value} {e : TypeId} (hi : TI P t z size bytes) (hx : okx n x = true) (hy : okx n y = true) (hv : ev f x = .pointer (some ⟨b, o, none⟩)) (hw : ev f y = .agg cs.toArray) (hl : cs.length = size) (h1 : ∀ u ∈ cs, u.oneCell' = true)
    (hb : Blk w b (.cells A e (0, 0))) (ho : o + size ≤ A.size) (h : ∀ w', Kp (fun k => k = b) w w' → Blk w' b (.cells (spl A o cs) e (0, 0)) → WL P ops Q rest n (putD f d undef) w') :
    WL P ops Q (⟨d, .store t x y, ty, ps, es, none⟩ :: rest) n f w := by
  refine wl_skip rfl (w' := w.setRow b (spl A o cs)) ?_ (h _ (Kp.setRow w b _) (setRow_heap w b A _ e (0, 0) hb))
  simp only [execOp]
  rw [eval_fr hx, hv, eval_fr hy, hw]
  have := run_storeVar' (v := .agg cs.toArray) hi (by simpa [Value.cells] using hl) (by simpa [Value.cells] using h1) hb ho
  simp only [Value.cells] at this
  simp [Instr.storeAt, Instr.sureAddr, this]

theorem wl_makeSlice {t e : TypeId} {x y : Operand} {z : Value} {size bytes : Nat} {l c : Nat} (hu : P.underlying t = some (.slice e)) (hi : TI P e (some z) size bytes) (hz : z.cells.size = size) (hx : okx n x = true) (hy : okx n y = true) (hv : ev f x = .int .i64 l) (hw : ev f y = .int .i64 c)
    (hlc : l ≤ c) (hc : c ≤ 9223372036854775807) (hb : bytes * c ≤ 281474976710656)
    (h : ∀ b w', w.heap.size ≤ b → Kp none_ w w' → Blk w' b (.cells ((List.replicate c z.cells.toList).flatten.toArray) e (0, 0)) → WL P ops Q rest n (putD f d (.slice (some ⟨b, 0, none⟩) l c)) w') :
    WL P ops Q (⟨d, .makeSlice t x y, ty, ps, es, none⟩ :: rest) n f w := by
  have ec : IntKind.i64.wrap (c : Int) = c := IntWalk.i64_in _ (by omega)
  have el : IntKind.i64.wrap (l : Int) = l := IntWalk.i64_in _ (by omega)
  have earr : ((Array.range (c * size)).map fun i => z.cells[i % z.cells.size]!) = (List.replicate c z.cells.toList).flatten.toArray := by
    subst hz
    apply Array.ext_getElem?
    intro i
    simp only [Array.getElem?_map, List.getElem?_toArray]
    have key : ∀ (c i : Nat), i < c * z.cells.size → (List.replicate c z.cells.toList).flatten[i]? = some (z.cells[i % z.cells.size]!) := by
      intro c
      induction c with
      | zero => intro i hi; omega
      | succ c ih =>
        intro i hi
        rw [List.replicate_succ, List.flatten_cons]
        by_cases h1 : i < z.cells.size
        · rw [List.getElem?_append_left (by simpa using h1), Nat.mod_eq_of_lt h1]
          simp [h1]
        · have hp : 0 < z.cells.size := by
            rcases Nat.eq_zero_or_pos z.cells.size with h0 | h0
            · rw [h0] at hi; omega
            · exact h0
          rw [List.getElem?_append_right (by simp; omega), Array.length_toList, ih (i - z.cells.size) (by rw [Nat.succ_mul] at hi; omega)]
          congr 2
          exact (Nat.mod_eq_sub_mod (by omega)).symm
    by_cases hi : i < c * z.cells.size
    · rw [key c i hi]; simp [hi]
    · rw [List.getElem?_eq_none (by
        have : (List.replicate c z.cells.toList).flatten.length = c * z.cells.size := by simp [List.length_flatten]
        rw [this]; omega)]
      simp
      omega
  refine wl_val rfl (v := .slice (some ⟨w.heap.size, 0, none⟩) l c) (w' := w.alloc (.cells ((List.replicate c z.cells.toList).flatten.toArray) e (0, 0))) ?_ (h _ _ (Nat.le_refl _) (Kp.alloc w _) (Blk.new w _))
  obtain ⟨i, hi1, hi2, hi3, hi4⟩ := hi.get
  simp only [execOp]
  rw [eval_fr hx, hv, eval_fr hy, hw]
  have hnc : ¬ (281474976710656 : Int) < (bytes : Int) * (c : Int) := by
    have : (bytes : Int) * (c : Int) = ((bytes * c : Nat) : Int) := by simp
    rw [this]; omega
  have a1 : ¬ (c : Int) < 0 := by omega
  have a2 : ¬ (l : Int) < 0 := by omega
  have a3 : ¬ c < l := by omega
  by_cases h0 : c * size = 0
  · have earr' : (List.replicate c z.cells.toList).flatten.toArray = #[] := by
      rw [← earr, h0]; simp
    simp [Instr.makeSlice, run_underlying hu, asInt, asIntOf, run_typeInfo hi1, hi4, ec, el, hnc, a1, a2, a3, h0, newRow, run_sizeOf' hi, earr']
    exact congrArg (fun x => w.alloc (.cells x e)) (Array.eq_empty_of_size_eq_zero (by simp))
  · simp [Instr.makeSlice, run_underlying hu, asInt, asIntOf, run_typeInfo hi1, hi4, ec, el, hnc, a1, a2, a3, h0, newRow, run_sizeOf' hi, run_zeroValue' hi, earr]
end
end Go.Wk

namespace Go.Wk
set_option linter.unusedVariables false

def upds (g : Nat → Value) : List (Nat × Value) → Nat → Value
  | [] => g
  | p :: r => upd (upds g r) p.1 p.2
def AllEq (f : Nat → Value) : List (Nat × Value) → Prop
  | [] => True
  | p :: r => f p.1 = p.2 ∧ AllEq f r
theorem upds_self {f : Nat → Value} : ∀ {l : List (Nat × Value)}, AllEq f l → f = upds f l
  | [], _ => rfl
  | p :: r, h => by
    have h2 := upds_self h.2
    show f = upd (upds f r) p.1 p.2
    rw [← h2]
    exact upd_self h.1
def enumA : Nat → List Value → List (Nat × Value)
  | _, [] => []
  | i, v :: r => (i, v) :: enumA (i + 1) r
theorem allEq_enumA {f : Nat → Value} : ∀ {l : List Value} {k : Nat}, (∀ i v, l[i]? = some v → f (k + i) = v) → AllEq f (enumA k l)
  | [], _, _ => trivial
  | v :: r, k, h => ⟨h 0 v rfl, allEq_enumA fun i u hu => by
      have := h (i + 1) u (by simpa using hu)
      rw [show k + 1 + i = k + (i + 1) from by omega]
      exact this⟩

section
variable {P : Program} {n : NN} {f : Nat → Value} {a : Act} {w : World} {Q : Exit → Act → World → Prop} {K : Act → World → Prop} {id id' : Nat}
theorem thn (h : K a w) : Exit.then K Q .normal a w := h
theorem thx (h : Q (.exit id) a w) : Exit.then K Q (.exit id) a w := h
theorem thr (h : Q .ret a w) : Exit.then K Q .ret a w := h
theorem bln (h : Q .normal a w) : Exit.inBlock id Q .normal a w := h
theorem blr (h : Q .ret a w) : Exit.inBlock id Q .ret a w := h
theorem blx (h : Q .normal a w) : Exit.inBlock id Q (.exit id) a w := by simpa [Exit.inBlock] using h
theorem blo (hne : Nat.beq id' id = false) (h : Q (.exit id') a w) : Exit.inBlock id Q (.exit id') a w := by
  have : id' ≠ id := fun e => by rw [e] at hne; simp at hne
  simpa [Exit.inBlock, this] using h

theorem wl_valE {ops : Array Oper} {rest : List Oper} {f : Nat → Value} {o : Oper} {v0 v : Value} {w' : World} (hg : o.guard = none) (hr : (execOp (fr n f).eval o).run P w = .ok (.value v0) w') (hv : v0 = v) (h : WL P ops Q rest n (putD f o.dst v) w') : WL P ops Q (o :: rest) n f w := by
  subst hv; exact wl_val hg hr h
theorem rf_pickT {f : Nat → Value} {d : Option Nat} {ty : TypeId} {ps : String} {es : Array Edge} {c a b : Operand} {t : Bool} (hoc : okx n c = true) (hoa : okx n a = true) (hc : ev f c = .bool t) (ht : t = true) : (execOp (fr n f).eval ⟨d, .pick c a b, ty, ps, es, none⟩).run P w = .ok (.value (ev f a)) w := by
  subst ht; simp only [execOp]; rw [eval_fr hoc, eval_fr hoa, hc]; rfl
theorem rf_pickF {f : Nat → Value} {d : Option Nat} {ty : TypeId} {ps : String} {es : Array Edge} {c a b : Operand} {t : Bool} (hoc : okx n c = true) (hoa : okx n b = true) (hc : ev f c = .bool t) (ht : t = false) : (execOp (fr n f).eval ⟨d, .pick c a b, ty, ps, es, none⟩).run P w = .ok (.value (ev f b)) w := by
  subst ht; simp only [execOp]; rw [eval_fr hoc, eval_fr hoa, hc]; rfl
def RetE (Φ : Value → World → Prop) : Ending → World → Prop := fun e w' => ∃ v, e = .returned v ∧ Φ v w'
theorem enterR {k : FuncId} {fn : Func} {c : Code} {args : List Value} {m : Nat} {Φ : Value → World → Prop} (hf : P.funcs[k]? = some fn) (hb : fn.body = some c) (hm : fn.ntmps = m)
    (hle : Nat.ble args.length m = true) (h : ∀ g : Nat → Value, wr ⟨m, [], none⟩ P c (bodyPost P fn (RetE Φ)) (fr ⟨m, [], none⟩ (upds g (enumA 0 args))) w) : Ret P k args w Φ :=
  enter (fun w h => by obtain ⟨v, h, _⟩ := h; cases h) hf hb hm hle fun f hf' => by
    have := upds_self (allEq_enumA (f := f) (l := args) (k := 0) (fun i v hv => by rw [Nat.zero_add]; exact hf' i v hv))
    rw [this]
    exact h f

theorem fin0 {fn : Func} {Φ : Value → World → Prop} (hr : fn.results = #[]) (h : Φ (.tuple #[]) w) (hds : n.ds = [] := by rfl) : bodyPost P fn (RetE Φ) .ret (fr n f) w :=
  ⟨hds, .tuple #[], by simp [results, hr], _, rfl, h⟩
theorem getD_fr {t : Nat} (ht : Nat.blt t n.n = true) : (fr n f).tmps.getD t undef = f t := by
  have h1 : t < n.n := Nat.lt_of_succ_le (by simpa [Nat.blt] using ht)
  rw [Array.getD_eq_getD_getElem?, fr_get h1]; rfl
theorem g_fr {t : Nat} (ht : Nat.blt t n.n = true) : ((fr n f).tmps[t]?).getD undef = f t := by
  rw [← Array.getD_eq_getD_getElem?]; exact getD_fr ht
theorem fin1 {fn : Func} {Φ : Value → World → Prop} {t : Nat} {v : Value} (hr : fn.results = #[.tmp t]) (ht : Nat.blt t n.n = true) (hv : f t = v) (h : Φ v w) (hds : n.ds = [] := by rfl) : bodyPost P fn (RetE Φ) .ret (fr n f) w :=
  ⟨hds, v, by simp only [results, hr]; simp [g_fr ht, hv], _, rfl, h⟩
theorem fin2 {fn : Func} {Φ : Value → World → Prop} {t u : Nat} {v1 v2 : Value} (hr : fn.results = #[.tmp t, .tmp u]) (ht : Nat.blt t n.n = true) (hu : Nat.blt u n.n = true) (hv1 : f t = v1) (hv2 : f u = v2) (h : Φ (.tuple #[v1, v2]) w) (hds : n.ds = [] := by rfl) : bodyPost P fn (RetE Φ) .ret (fr n f) w :=
  ⟨hds, _, by simp only [results, hr]; simp [g_fr ht, g_fr hu, hv1, hv2], _, rfl, h⟩
theorem fin3 {fn : Func} {Φ : Value → World → Prop} {t u s : Nat} {v1 v2 v3 : Value} (hr : fn.results = #[.tmp t, .tmp u, .tmp s]) (ht : Nat.blt t n.n = true) (hu : Nat.blt u n.n = true) (hs : Nat.blt s n.n = true) (hv1 : f t = v1) (hv2 : f u = v2) (hv3 : f s = v3) (h : Φ (.tuple #[v1, v2, v3]) w) (hds : n.ds = [] := by rfl) : bodyPost P fn (RetE Φ) .ret (fr n f) w :=
  ⟨hds, _, by simp only [results, hr]; simp [g_fr ht, g_fr hu, g_fr hs, hv1, hv2, hv3], _, rfl, h⟩
theorem fin_ {fn : Func} {R : Ending → World → Prop} (h : bodyPost P fn R .ret a w) : bodyPost P fn R .normal a w := h

/-! ways that meet again -/
def Cut (n : NN) (J : (Nat → Value) → World → Prop) (Q : Exit → Act → World → Prop) : Exit → Act → World → Prop
  | .normal, a, w => ∃ f, a = fr n f ∧ J f w
  | e, a, w => Q e a w
theorem cut_ {c : Code} (J : (Nat → Value) → World → Prop) (h : wr n P c (Cut n J Q) (fr n f) w) (hn : ∀ f w, J f w → Q .normal (fr n f) w) : wr n P c Q (fr n f) w :=
  wr_mono h fun e a w hq => by
    cases e with
    | normal => obtain ⟨f, rfl, hJ⟩ := hq; exact hn f w hJ
    | _ => exact hq
theorem cxn {J : (Nat → Value) → World → Prop} (h : J f w) : Cut n J Q .normal (fr n f) w := ⟨f, rfl, h⟩
theorem cxx {J : (Nat → Value) → World → Prop} (h : Q (.exit id) a w) : Cut n J Q (.exit id) a w := h
theorem cxr {J : (Nat → Value) → World → Prop} (h : Q .ret a w) : Cut n J Q .ret a w := h
/-! results that lie in memory -/
inductive RV (P : Program) (n : NN) (f : Nat → Value) (w : World) : ResultVar → Value → Prop
  | tmp {t : Nat} {v : Value} (ht : Nat.blt t n.n = true) (hv : f t = v) : RV P n f w (.tmp t) v
  | cell {t : Nat} {ty : TypeId} {td : TypeDesc} {a : Addr} {v : Value} (ht : Nat.blt t n.n = true) (hu : P.underlying ty = some td) (hna : isAggD td = false) (hv : f t = .pointer (some a)) (hc : w.cell? a = some v) : RV P n f w (.cell t ty) v
  | agg {t : Nat} {ty : TypeId} {td : TypeDesc} {a : Addr} {z : Option Value} {size bytes : Nat} {cs : List Value} (ht : Nat.blt t n.n = true) (hu : P.underlying ty = some td) (hag : isAggD td = true) (hi : TI P ty z size bytes) (hv : f t = .pointer (some a)) (hl : cs.length = size)
      (hc : ∀ j u, cs[j]? = some u → w.cell? (a.add j) = some u) : RV P n f w (.cell t ty) (.agg cs.toArray)
def rvSem (tmps : Array Value) : ResultVar → Sem Value
  | .tmp t => pure (tmps.getD t undef)
  | .cell a t => do loadVar t (← asAddr (tmps.getD a undef))
theorem results_eq (fn : Func) (tmps : Array Value) : results fn tmps = (do
    let vs ← fn.results.mapM (rvSem tmps)
    pure (if h : vs.size = 1 then vs[0] else .tuple vs)) := rfl
theorem RV.run {r : ResultVar} {v : Value} (h : RV P n f w r v) : (rvSem (fr n f).tmps r).run P w = .ok v w := by
  cases h with
  | tmp ht hv => simp only [rvSem, getD_fr ht, hv, Sem.run_pure]
  | cell ht hu hna hv hc =>
    simp only [rvSem, Sem.run_bind, getD_fr ht, hv]
    simp [asAddr, loadVar, run_isAgg' hu, hna, hc]
  | agg ht hu hag hi hv hl hc =>
    subst hl
    simp only [rvSem, Sem.run_bind, getD_fr ht, hv]
    simp [asAddr, loadVar, run_isAgg' hu, hag, run_sizeOf' hi, run_loadCells_list w _ _ hc]
theorem finV1 {fn : Func} {Φ : Value → World → Prop} {r : ResultVar} {v : Value} (hr : fn.results = #[r]) (h1 : RV P n f w r v) (h : Φ v w) (hds : n.ds = [] := by rfl) : bodyPost P fn (RetE Φ) .ret (fr n f) w :=
  ⟨hds, v, by
    have e1 := h1.run
    rw [results_eq, hr]
    simp [e1], _, rfl, h⟩
theorem finV2 {fn : Func} {Φ : Value → World → Prop} {r s : ResultVar} {v u : Value} (hr : fn.results = #[r, s]) (h1 : RV P n f w r v) (h2 : RV P n f w s u) (h : Φ (.tuple #[v, u]) w) (hds : n.ds = [] := by rfl) : bodyPost P fn (RetE Φ) .ret (fr n f) w :=
  ⟨hds, .tuple #[v, u], by
    have e1 := h1.run
    have e2 := h2.run
    rw [results_eq, hr]
    simp [e1, e2], _, rfl, h⟩
/-! guards -/
theorem yielded_fr {ops : Array Oper} {j d : Nat} {b : Bool} (hj : (ops[j]?).bind (·.dst) = some d) (hd : Nat.blt d n.n = true) (hv : f d = .bool b) : yielded ops (fr n f).tmps j = some b := by
  have h1 : d < n.n := Nat.lt_of_succ_le (by simpa [Nat.blt] using hd)
  simp only [yielded, hj, Option.bind_some]
  rw [fr_get h1, hv]
section
variable {ops : Array Oper} {rest : List Oper} {op : Op} {dst : Option Tmp} {ty : TypeId} {ps : String} {es : Array Edge} {j d : Nat} {b t : Bool}
theorem wl_guardT (hj : (ops[j]?).bind (·.dst) = some d) (hd : Nat.blt d n.n = true) (hv : f d = .bool t) (ht : t = b) (h : WL P ops Q (⟨dst, op, ty, ps, es, none⟩ :: rest) n f w) : WL P ops Q (⟨dst, op, ty, ps, es, some (j, b)⟩ :: rest) n f w := by
  have hy := yielded_fr hj hd hv
  unfold WL wpList at h ⊢
  rw [if_pos (by simp [Region.wanted, hy, ht])]
  rw [if_pos (by simp [Region.wanted])] at h
  exact h
theorem wl_guardF (hj : (ops[j]?).bind (·.dst) = some d) (hd : Nat.blt d n.n = true) (hv : f d = .bool t) (ht : t = !b) (h : WL P ops Q rest n (putD f dst undef) w) : WL P ops Q (⟨dst, op, ty, ps, es, some (j, b)⟩ :: rest) n f w := by
  have hy := yielded_fr hj hd hv
  unfold WL wpList
  rw [if_neg (by subst ht; simp [Region.wanted, hy])]
  rw [fr_putD]
  exact h
end

theorem condT' {c : Operand} {x y : Code} {t : Bool} (ho : okx n c = true) (hc : ev f c = .bool t) (ht : t = true) (h : wr n P x Q (fr n f) w) : wr n P (Code.cond c x y) Q (fr n f) w := condT ho (by rw [hc, ht]) h
theorem condF' {c : Operand} {x y : Code} {t : Bool} (ho : okx n c = true) (hc : ev f c = .bool t) (ht : t = false) (h : wr n P y Q (fr n f) w) : wr n P (Code.cond c x y) Q (fr n f) w := condF ho (by rw [hc, ht]) h
theorem bnotT {b : Bool} (h : (!b) = true) : b = false := by cases b <;> simp_all
theorem bnotF {b : Bool} (h : (!b) = false) : b = true := by cases b <;> simp_all
theorem RV.blk {t : Nat} {ty : TypeId} {td : TypeDesc} {b o : Nat} {A : Array Value} {e : TypeId} {fz : Nat × Nat} {z : Option Value} {size bytes : Nat} (ht : Nat.blt t n.n = true) (hu : P.underlying ty = some td) (hag : isAggD td = true) (hi : TI P ty z size bytes) (hv : f t = .pointer (some ⟨b, o, none⟩))
    (hb : Blk w b (.cells A e fz)) (hfit : o + size ≤ A.size) : RV P n f w (.cell t ty) (.agg ((A.toList.drop o).take size).toArray) :=
  .agg ht hu hag hi hv (by simp; omega) (fun j u hj => by
    rw [add_at]
    refine hb.cell ?_
    rw [List.getElem?_take] at hj
    split at hj
    · rw [List.getElem?_drop] at hj
      simpa using hj
    · cases hj)
theorem yielded_undef {ops : Array Oper} {j d : Nat} (hj : (ops[j]?).bind (·.dst) = some d) (hd : Nat.blt d n.n = true) (hv : f d = undef) : yielded ops (fr n f).tmps j = none := by
  have h1 : d < n.n := Nat.lt_of_succ_le (by simpa [Nat.blt] using hd)
  simp only [yielded, hj, Option.bind_some]
  rw [fr_get h1, hv]; rfl
theorem wl_guardS {ops : Array Oper} {rest : List Oper} {op : Op} {dst : Option Tmp} {ty : TypeId} {ps : String} {es : Array Edge} {j d : Nat} {b : Bool} (hj : (ops[j]?).bind (·.dst) = some d) (hd : Nat.blt d n.n = true) (hv : f d = undef) (h : WL P ops Q rest n (putD f dst undef) w) : WL P ops Q (⟨dst, op, ty, ps, es, some (j, b)⟩ :: rest) n f w := by
  have hy := yielded_undef hj hd hv
  unfold WL wpList
  rw [if_neg (by simp [Region.wanted, hy])]
  rw [fr_putD]
  exact h
theorem qt_guardS {ops : Array Oper} {rest : List Oper} {C : World → Prop} {Z : Act → Prop} {op : Op} {dst : Option Tmp} {ty : TypeId} {ps : String} {es : Array Edge} {j d : Nat} {b : Bool} (hj : (ops[j]?).bind (·.dst) = some d) (hd : Nat.blt d n.n = true) (hv : f d = undef) (h : WQ P ops C Z rest n (putD f dst undef)) : WQ P ops C Z (⟨dst, op, ty, ps, es, some (j, b)⟩ :: rest) n f := by
  have hy := yielded_undef hj hd hv
  unfold WQ wpQuiet
  rw [if_neg (by simp [Region.wanted, hy])]
  rw [fr_putD]
  exact h

/-! regions that draw their order -/
section
variable {ops : Array Oper} {rest : List Oper} {C : World → Prop} {Z : Act → Prop}
theorem any_quiet {a : Act} {ops : Array Oper} {Q : Exit → Act → World → Prop} (hB : Region.lexB .any ops = true) (hC : C { w with drawn := w.drawn + 1 })
    (h : wpQuiet P ops C (fun a' => ∀ w', C w' → Q .normal a' w') ops.toList a) : wpAny P .any ops Q ops.size (Array.replicate ops.size false) a { w with drawn := w.drawn + 1 } := by
  simp only [Region.lexB, Bool.and_eq_true] at hB
  refine wpAny_of_quiet (Q := fun a' => ∀ w', C w' → Q .normal a' w') (fun _ w' hw' h => h w' hw') _ _ _ _ hC ?_
  have := wpAnyQ_lex (C := C) (md := .any) hB.1 ops.toList 0 (Array.replicate ops.size false) a (by simp) (by simpa using hB.2) h
  simpa using this
theorem region_q {l : List Oper} (hm : P.follows .mixedOrders = true) (hB : Region.lexB .any l.toArray = true)
    (h : WQ P l.toArray (Kp none_ w) (fun a' => ∀ w', Kp none_ w w' → Q .normal a' w') l n f) (hd : nodef l = true := by kernel_rfl) : wr n P (Code.region id l.toArray true) Q (fr n f) w :=
  region_any hd hm (any_quiet (C := Kp none_ w) hB ⟨rfl, rfl, rfl, Nat.le_refl _, fun _ _ _ => rfl, Nat.le_add_right _ _⟩ (by unfold WQ at h; simpa using h))
theorem qt_nil (h : Z (fr n f)) : WQ P ops C Z [] n f := h
theorem qt_val {o : Oper} {v : Value} (hg : o.guard = none) (hr : ∀ w', C w' → (execOp (fr n f).eval o).run P w' = .ok (.value v) w') (h : WQ P ops C Z rest n (putD f o.dst v)) : WQ P ops C Z (o :: rest) n f := by
  unfold WQ wpQuiet
  rw [if_pos (by simp [Region.wanted, hg])]
  refine ⟨v, fun w' hw' => ?_, by rw [fr_putD]; exact h⟩
  unfold Oper.quietAt
  rw [hr w' hw']
  exact ⟨rfl, rfl⟩
theorem qt_valE {o : Oper} {v0 v : Value} (hg : o.guard = none) (hr : ∀ w', C w' → (execOp (fr n f).eval o).run P w' = .ok (.value v0) w') (hv : v0 = v) (h : WQ P ops C Z rest n (putD f o.dst v)) : WQ P ops C Z (o :: rest) n f := by
  subst hv; exact qt_val hg hr h
theorem qt_ret {o : Oper} {v : Value} {k : FuncId} {vs : List Value} (hg : o.guard = none) (hc : ∀ w', C w' → Ret P k vs w' (fun u w'' => u = v ∧ C w'')) (hr : ∀ w', C w' → (execOp (fr n f).eval o).run P w' = .ok (.enter k vs.toArray) w')
    (h : WQ P ops C Z rest n (putD f o.dst v)) : WQ P ops C Z (o :: rest) n f := by
  unfold WQ wpQuiet
  rw [if_pos (by simp [Region.wanted, hg])]
  refine ⟨v, fun w' hw' => ?_, by rw [fr_putD]; exact h⟩
  unfold Oper.quietAt
  rw [hr w' hw']
  exact ⟨rfl, Calls.mono (hc w' hw') fun e w'' ⟨u, he, hu, hC⟩ => ⟨by rw [he, hu], hC⟩⟩
variable {op : Op} {dst : Option Tmp} {ty : TypeId} {ps : String} {es : Array Edge} {j d : Nat} {b t : Bool}
theorem qt_guardT (hj : (ops[j]?).bind (·.dst) = some d) (hd : Nat.blt d n.n = true) (hv : f d = .bool t) (ht : t = b) (h : WQ P ops C Z (⟨dst, op, ty, ps, es, none⟩ :: rest) n f) : WQ P ops C Z (⟨dst, op, ty, ps, es, some (j, b)⟩ :: rest) n f := by
  have hy := yielded_fr hj hd hv
  unfold WQ wpQuiet at h ⊢
  rw [if_pos (by simp [Region.wanted, hy, ht])]
  rw [if_pos (by simp [Region.wanted])] at h
  exact h
theorem qt_guardF (hj : (ops[j]?).bind (·.dst) = some d) (hd : Nat.blt d n.n = true) (hv : f d = .bool t) (ht : t = !b) (h : WQ P ops C Z rest n (putD f dst undef)) : WQ P ops C Z (⟨dst, op, ty, ps, es, some (j, b)⟩ :: rest) n f := by
  have hy := yielded_fr hj hd hv
  unfold WQ wpQuiet
  rw [if_neg (by subst ht; simp [Region.wanted, hy])]
  rw [fr_putD]
  exact h
end
end
end Go.Wk

namespace Go.Wk
set_option linter.unusedVariables false

theorem bool_tf (b : Bool) : b = true ∨ b = false := by cases b <;> simp

theorem Blk.seg {w : World} {b : Nat} {A : Array Value} {e : TypeId} {fz : Nat × Nat} (h : Blk w b (.cells A e fz)) {o size : Nat} : ∀ j u, ((A.toList.drop o).take size)[j]? = some u → w.cell? ((⟨b, o, none⟩ : Addr).add j) = some u := by
  intro j u hj
  rw [add_at]
  refine h.cell ?_
  rw [List.getElem?_take] at hj
  split at hj
  · rw [List.getElem?_drop] at hj
    simpa using hj
  · cases hj
section
variable {P : Program} {n : NN} {f : Nat → Value} {w : World} {d : Option Nat} {ty : TypeId} {ps : String} {es : Array Edge}
theorem rf_loadBlk {t : TypeId} {x : Operand} {td : TypeDesc} {b o : Nat} {A : Array Value} {e : TypeId} {fz : Nat × Nat} {z : Option Value} {size bytes : Nat} (hu : P.underlying t = some td) (hag : isAggD td = true) (hi : TI P t z size bytes) (hx : okx n x = true) (hv : ev f x = .pointer (some ⟨b, o, none⟩))
    (hb : Blk w b (.cells A e fz)) (hfit : o + size ≤ A.size) :
    (execOp (fr n f).eval ⟨d, .load t x, ty, ps, es, none⟩).run P w = .ok (.value (.agg ((A.toList.drop o).take size).toArray)) w :=
  rf_loadAgg hu hag hi hx hv hb.seg (by simp; omega)
end

/-! ## 9. Slices that are read -/
section
variable {α : Type} (enc : α → List Value) (sz : Nat)
def Rd (w : World) (F : Nat → Prop) (v : Value) (l : List α) : Prop :=
  ∃ a cap, v = .slice a l.length cap ∧ l.length ≤ cap ∧ (0 < l.length → ∃ b o, a = some ⟨b, o, none⟩ ∧ F b ∧ b < w.heap.size ∧ ∀ i x, l[i]? = some x → ∀ j u, (enc x)[j]? = some u → w.cell? ⟨b, o + i * sz + j, none⟩ = some u)
/-- ... that is the call's own: it may be written. -/
def Sl (e : TypeId) (w : World) (F : Nat → Prop) (v : Value) (l : List α) : Prop :=
  (v = .slice none 0 0 ∧ l = []) ∨ ∃ b o cap A, v = .slice (some ⟨b, o, none⟩) l.length cap ∧ F b ∧ Blk w b (.cells A e (0, 0)) ∧ l.length ≤ cap ∧ cap ≤ 9223372036854775807 ∧ o + cap * sz ≤ A.size ∧
    ∀ i x, l[i]? = some x → ∀ j u, (enc x)[j]? = some u → A[o + i * sz + j]? = some u
variable {enc sz} {w w' : World} {F S : Nat → Prop} {v : Value} {l : List α} {e : TypeId}
theorem Rd.kp (h : Rd enc sz w F v l) (hk : Kp S w w') (hs : ∀ b, F b → ¬ S b) : Rd enc sz w' F v l := by
  obtain ⟨a, cap, h1, h2, h3⟩ := h
  refine ⟨a, cap, h1, h2, fun hp => ?_⟩
  obtain ⟨b, o, h4, h5, h6, h7⟩ := h3 hp
  exact ⟨b, o, h4, h5, Nat.lt_of_lt_of_le h6 hk.size, fun i x hx j u hu => hk.cell (h7 i x hx j u hu) (hs b h5)⟩
theorem Rd.keep (h : Rd enc sz w F v l) (hk : Kp none_ w w') : Rd enc sz w' F v l := h.kp hk (fun _ _ h => h)
theorem Sl.kp (h : Sl enc sz e w F v l) (hk : Kp S w w') (hs : ∀ b, F b → ¬ S b) : Sl enc sz e w' F v l := by
  rcases h with h | ⟨b, o, cap, A, h1, h2, h3, h4⟩
  · exact .inl h
  · exact .inr ⟨b, o, cap, A, h1, h2, h3.kp hk (hs b h2), h4⟩
theorem Sl.keep (h : Sl enc sz e w F v l) (hk : Kp none_ w w') : Sl enc sz e w' F v l := h.kp hk (fun _ _ h => h)
theorem Sl.mono {G : Nat → Prop} (h : Sl enc sz e w F v l) (hs : ∀ b, F b → G b) : Sl enc sz e w G v l := by
  rcases h with h | ⟨b, o, cap, A, h1, h2, h3⟩
  · exact .inl h
  · exact .inr ⟨b, o, cap, A, h1, hs b h2, h3⟩
theorem Rd.mono {G : Nat → Prop} (h : Rd enc sz w F v l) (hs : ∀ b, F b → G b) : Rd enc sz w G v l := by
  obtain ⟨a, cap, h1, h2, h3⟩ := h
  refine ⟨a, cap, h1, h2, fun hp => ?_⟩
  obtain ⟨b, o, h4, h5, h6⟩ := h3 hp
  exact ⟨b, o, h4, hs b h5, h6⟩
theorem Sl.rd (h : Sl enc sz e w F v l) : Rd enc sz w F v l := by
  rcases h with ⟨rfl, rfl⟩ | ⟨b, o, cap, A, h1, h2, h3, h4, h5, h6, h7⟩
  · exact ⟨none, 0, rfl, Nat.le_refl _, fun h => by simp at h⟩
  · exact ⟨some ⟨b, o, none⟩, cap, h1, h4, fun _ => ⟨b, o, rfl, h2, h3.lt, fun i x hx j u hu => h3.cell (h7 i x hx j u hu)⟩⟩
theorem Sl.nil (w : World) (F : Nat → Prop) : Sl enc sz e w F (.slice none 0 0) [] := .inl ⟨rfl, rfl⟩
theorem Rd.nil (w : World) (F : Nat → Prop) : Rd enc sz w F (.slice none 0 0) [] := ⟨none, 0, rfl, Nat.le_refl _, fun h => by simp at h⟩
/-- where there is an element -/
theorem Rd.get (h : Rd enc sz w F v l) (hp : 0 < l.length) : ∃ b o cap, v = .slice (some ⟨b, o, none⟩) l.length cap ∧ l.length ≤ cap ∧ F b ∧ b < w.heap.size ∧ ∀ i x, l[i]? = some x → ∀ j u, (enc x)[j]? = some u → w.cell? ⟨b, o + i * sz + j, none⟩ = some u := by
  obtain ⟨a, cap, h1, h2, h3⟩ := h
  obtain ⟨b, o, rfl, h5⟩ := h3 hp
  exact ⟨b, o, cap, h1, h2, h5⟩
theorem Rd.form (h : Rd enc sz w F v l) : ∃ a cap, v = .slice a l.length cap ∧ l.length ≤ cap := let ⟨a, cap, h1, h2, _⟩ := h; ⟨a, cap, h1, h2⟩
theorem Rd.take {a : Option Addr} {n cap : Nat} (h : Rd enc sz w F (.slice a n cap) l) (k : Nat) (hk : k ≤ l.length) : Rd enc sz w F (.slice a k cap) (l.take k) := by
  obtain ⟨a', cap', h1, h2, h3⟩ := h
  cases h1
  have hl : (l.take k).length = k := by simp; omega
  refine ⟨a, cap, by rw [hl], by omega, fun hp => ?_⟩
  obtain ⟨b, o, h4, h5, h6, h7⟩ := h3 (by omega)
  refine ⟨b, o, h4, h5, h6, fun i x hx => h7 i x ?_⟩
  rw [List.getElem?_take] at hx
  split at hx
  · exact hx
  · cases hx
end

theorem el_cells {w : World} {b o sz i : Nat} {cs : List Value} (h : ∀ j u, cs[j]? = some u → w.cell? ⟨b, o + i * sz + j, none⟩ = some u) : ∀ j u, cs[j]? = some u → w.cell? ((⟨b, o + i * sz, none⟩ : Addr).add j) = some u :=
  fun j u hj => by rw [add_at]; exact h j u hj

theorem el1 {w : World} {b o i : Nat} {u : Value} (h : w.cell? ⟨b, o + i * 1 + 0, none⟩ = some u) : w.cell? ⟨b, o + i, none⟩ = some u := by simpa using h

/-! ## 10. Append -/
section
variable {P : Program} {w : World}
theorem run_firstCells' (size n : Nat) (a : Option Addr) (len cap : Nat) (cs : List Value) (hl : cs.length = n * size) (h : 0 < cs.length → ∃ b o, a = some ⟨b, o, none⟩ ∧ ∀ j v, cs[j]? = some v → w.cell? ⟨b, o + j, none⟩ = some v) :
    (Builtin.firstCells size n (.slice a len cap)).run P w = .ok cs.toArray w := by
  rcases Nat.eq_zero_or_pos cs.length with h0 | h0
  · have : cs = [] := List.eq_nil_of_length_eq_zero h0
    subst this
    cases a with
    | none => simp [Builtin.firstCells]
    | some a => simp only [Builtin.firstCells]; rw [← hl]; simp [loadCells, loadCellsFrom]
  · obtain ⟨b, o, rfl, h2⟩ := h h0
    exact run_firstCells_some (P := P) w size n ⟨b, o, none⟩ len cap cs hl (fun j v hj => by rw [add_at]; exact h2 j v hj)
/-- There is room. -/
theorem run_append_room' (t ty e : TypeId) {z : Option Value} {size bytes : Nat} (ht : P.underlying t = some (.slice e)) (hi : TI P e z size bytes) (g o sLen sCap : Nat) (A : Array Value) (et : TypeId) (hg : Blk w g (.cells A et (0, 0)))
    (a : Option Addr) (m c : Nat) (news : List Value) (hl : news.length = m * size) (hnews : 0 < news.length → ∃ b o, a = some ⟨b, o, none⟩ ∧ ∀ j v, news[j]? = some v → w.cell? ⟨b, o + j, none⟩ = some v) (h1 : ∀ u ∈ news, u.oneCell' = true)
    (hroom : sLen + m ≤ sCap) (hfit : o + sLen * size + news.length ≤ A.size) :
    (Builtin.append_ #[t, t] ty #[.slice (some ⟨g, o, none⟩) sLen sCap, .slice a m c]).run P w = .ok (.slice (some ⟨g, o, none⟩) (sLen + m) sCap) (w.setRow g (spl A (o + sLen * size) news)) := by
  obtain ⟨i, hi1, hi2, hi3, hi4⟩ := hi.get
  subst hi3
  have hf := run_firstCells' (P := P) (w := w) i.size m a m c news hl hnews
  have hst := run_storeCells_at P g (o + sLen * i.size) et news 0 A w hg (by simpa using hfit) h1
  simp only [Nat.add_zero] at hst
  simp [Builtin.append_, run_underlying ht, sizeOf, typeInfo, hi1, Builtin.lenOf, hroom, hf, add_at, hst, spl]
/-- A new row is made. -/
theorem run_append_grow' (t ty e : TypeId) {z : Value} {size bytes : Nat} (ht : P.underlying t = some (.slice e)) (hi : TI P e (some z) size bytes) (s : Option Addr) (sLen sCap : Nat) (olds : List Value) (hlo : olds.length = sLen * size)
    (holds : 0 < olds.length → ∃ b o, s = some ⟨b, o, none⟩ ∧ ∀ j v, olds[j]? = some v → w.cell? ⟨b, o + j, none⟩ = some v)
    (a : Option Addr) (m c : Nat) (news : List Value) (hl : news.length = m * size) (hnews : 0 < news.length → ∃ b o, a = some ⟨b, o, none⟩ ∧ ∀ j v, news[j]? = some v → w.cell? ⟨b, o + j, none⟩ = some v)
    (hg : sCap < sLen + m) (h63 : sLen + m ≤ 9223372036854775807) (hfit : Builtin.nextslicecap (sLen + m) sCap * bytes ≤ 281474976710656) :
    (Builtin.append_ #[t, t] ty #[.slice s sLen sCap, .slice a m c]).run P w =
      .ok (.slice (some ⟨w.heap.size, 0, none⟩) (sLen + m) (grownCap w (sLen + m) sCap e))
        (w.drew.alloc (.cells (olds.toArray ++ news.toArray ++ Builtin.zeroCells z.cells (grownCap w (sLen + m) sCap e - (sLen + m))) e)) := by
  obtain ⟨i, hi1, hi2, hi3, hi4⟩ := hi.get
  subst hi3 hi4
  have hn : ¬ (sLen + m ≤ sCap) := by omega
  have h63' : ¬ (9223372036854775807 < ((sLen : Int) + (m : Int))) := by omega
  have hfit' : ¬ (281474976710656 < Builtin.nextslicecap (sLen + m) sCap * i.bytes) := by omega
  have hf1 := run_firstCells' (P := P) (w := w.drew) i.size sLen s sLen sCap olds hlo (fun h => by
    obtain ⟨b, o, h1, h2⟩ := holds h
    exact ⟨b, o, h1, fun j v hj => h2 j v hj⟩)
  have hf2 := run_firstCells' (P := P) (w := w.drew) i.size m a m c news hl (fun h => by
    obtain ⟨b, o, h1, h2⟩ := hnews h
    exact ⟨b, o, h1, fun j v hj => h2 j v hj⟩)
  simp [Builtin.append_, run_underlying ht, sizeOf, typeInfo, hi1, Builtin.lenOf, hn, IntKind.max, IntKind.signed, IntKind.bits, h63', hfit', Question.forced, zeroValue, hi2, newRow]
  rw [hf1]
  simp only [Result.andThen_ok]
  rw [hf2]
  simp only [Result.andThen_ok, grownCap]
  congr 2
  congr 1
  apply Array.ext'
  simp [List.append_assoc]

/-! cells of a row of elements -/
theorem flat_get {α : Type} {enc : α → List Value} {sz : Nat} (hsz : ∀ x, (enc x).length = sz) : ∀ (l : List α) (i : Nat) (x : α), l[i]? = some x → ∀ j u, (enc x)[j]? = some u → (l.flatMap enc)[i * sz + j]? = some u
  | [], i, x, h, _, _, _ => by simp at h
  | y :: r, 0, x, h, j, u, hu => by
    have : y = x := by simpa using h
    subst this
    rw [List.flatMap_cons, Nat.zero_mul, Nat.zero_add, List.getElem?_append_left (by
      rcases Nat.lt_or_ge j (enc y).length with h1 | h1
      · exact h1
      · rw [List.getElem?_eq_none h1] at hu; cases hu)]
    exact hu
  | y :: r, i + 1, x, h, j, u, hu => by
    have h' : r[i]? = some x := by simpa using h
    rw [List.flatMap_cons, List.getElem?_append_right (by rw [hsz, Nat.succ_mul]; omega), hsz]
    rw [show (i + 1) * sz + j - sz = i * sz + j from by rw [Nat.succ_mul]; omega]
    exact flat_get hsz r i x h' j u hu
theorem flat_length {α : Type} {enc : α → List Value} {sz : Nat} (hsz : ∀ x, (enc x).length = sz) (l : List α) : (l.flatMap enc).length = l.length * sz := by
  induction l with
  | nil => simp
  | cons x r ih => rw [List.flatMap_cons, List.length_append, hsz, ih, List.length_cons, Nat.succ_mul]; omega
/-- and back: a cell of the row is a cell of an element -/
theorem flat_inv {α : Type} {enc : α → List Value} {sz : Nat} (hsz : ∀ x, (enc x).length = sz) : ∀ (l : List α) (k : Nat) (u : Value), (l.flatMap enc)[k]? = some u → ∃ i x j, l[i]? = some x ∧ (enc x)[j]? = some u ∧ k = i * sz + j ∧ j < sz
  | [], k, u, h => by simp at h
  | y :: r, k, u, h => by
    rw [List.flatMap_cons] at h
    rcases Nat.lt_or_ge k (enc y).length with h1 | h1
    · rw [List.getElem?_append_left h1] at h
      exact ⟨0, y, k, by simp, h, by omega, by rw [← hsz y]; exact h1⟩
    · rw [List.getElem?_append_right h1] at h
      obtain ⟨i, x, j, h2, h3, h4, h5⟩ := flat_inv hsz r (k - (enc y).length) u h
      refine ⟨i + 1, x, j, by simpa using h2, h3, ?_, h5⟩
      rw [hsz] at h4 h1
      rw [Nat.succ_mul]; omega

variable {α : Type} {enc : α → List Value} {sz : Nat} {n : NN} {f : Nat → Value} {Q : Exit → Act → World → Prop} {ops : Array Oper} {rest : List Oper} {d : Option Nat} {ty : TypeId} {ps : String} {es : Array Edge}
/-- append(s, x...): s the call's own, x read. F: the blocks that s may lie in; what is made lies at or beyond w's size. -/
theorem wl_append {t e : TypeId} {x y : Operand} {z : Value} {bytes : Nat} {F G : Nat → Prop} {v u : Value} {l r : List α} (hsz : ∀ x, (enc x).length = sz) (h1 : ∀ x, ∀ c ∈ enc x, c.oneCell' = true) (hu : P.underlying t = some (.slice e)) (hi : TI P e (some z) sz bytes) (hz : z.cells.size = sz) (hx : okx n x = true) (hy : okx n y = true) (hv : ev f x = v) (hw : ev f y = u)
    (hs : Sl enc sz e w F v l) (hr : Rd enc sz w G u r) (h63 : l.length + r.length ≤ 9223372036854775807) (hb : (l.length + r.length) * bytes ≤ 140737488355328)
    (h : ∀ v' w', Kp F w w' → Sl enc sz e w' (fun b => F b ∨ w.heap.size ≤ b) v' (l ++ r) → WL P ops Q rest n (putD f d v') w') :
    WL P ops Q (⟨d, .call { callee := .builtin .append, args := #[x, y], argTypes := #[t, t] }, ty, ps, es, none⟩ :: rest) n f w := by
  have key : ∃ v' w', (Builtin.append_ #[t, t] ty #[v, u]).run P w = .ok v' w' ∧ Kp F w w' ∧ Sl enc sz e w' (fun b => F b ∨ w.heap.size ≤ b) v' (l ++ r) := by
    obtain ⟨ya, yc, rfl, hyc, hyr⟩ := hr
    have hnl := flat_length hsz r
    have hnews : 0 < (r.flatMap enc).length → ∃ b o, ya = some ⟨b, o, none⟩ ∧ ∀ j v, (r.flatMap enc)[j]? = some v → w.cell? ⟨b, o + j, none⟩ = some v := by
      intro hp
      have hr0 : 0 < r.length := by
        rcases Nat.eq_zero_or_pos r.length with h0 | h0
        · rw [hnl, h0] at hp; omega
        · exact h0
      obtain ⟨b, o, h2, h3, h4, h5⟩ := hyr hr0
      refine ⟨b, o, h2, fun k c hk => ?_⟩
      obtain ⟨i, x, j, h6, h7, h8, h9⟩ := flat_inv hsz r k c hk
      rw [h8, ← Nat.add_assoc]
      exact h5 i x h6 j c h7
    have hone : ∀ c ∈ r.flatMap enc, c.oneCell' = true := by
      intro c hc
      obtain ⟨x, hx, hc⟩ := List.mem_flatMap.1 hc
      exact h1 x c hc
    -- the new row
    have grow : ∀ (s : Option Addr) (cap : Nat), cap < l.length + r.length → (0 < (l.flatMap enc).length → ∃ b o, s = some ⟨b, o, none⟩ ∧ ∀ j v, (l.flatMap enc)[j]? = some v → w.cell? ⟨b, o + j, none⟩ = some v) →
        ∃ v' w', (Builtin.append_ #[t, t] ty #[.slice s l.length cap, .slice ya r.length yc]).run P w = .ok v' w' ∧ Kp F w w' ∧ Sl enc sz e w' (fun b => F b ∨ w.heap.size ≤ b) v' (l ++ r) := by
      intro s cap hc holds
      have hrun := run_append_grow' (P := P) (w := w) t ty e hu hi s l.length cap (l.flatMap enc) (flat_length hsz l) holds ya r.length yc (r.flatMap enc) hnl hnews hc h63 (growslice_fits hc hb)
      refine ⟨_, _, hrun, ((Kp.drew w).trans (Kp.alloc _ _)).of_none, .inr ⟨w.heap.size, 0, _, _, by rw [List.length_append], .inr (Nat.le_refl _), Blk.new w.drew _, ?_, ?_, ?_, ?_⟩⟩
      · rw [List.length_append]; exact grownCap_ge w _ cap e
      · have := grownCap_le_maxLen w (l.length + r.length) cap e (by simp only [maxLen]; omega)
        simpa [maxLen] using this
      · have hge := grownCap_ge w (l.length + r.length) cap e
        simp only [Array.size_append, List.size_toArray, size_zeroCells, hz, flat_length hsz]
        rw [← Nat.add_mul, ← Nat.add_mul, Nat.zero_add]
        exact Nat.mul_le_mul_right _ (by omega)
      · intro i x hx j c hjc
        rw [Nat.zero_add]
        have h6 : (l ++ r).flatMap enc = l.flatMap enc ++ r.flatMap enc := List.flatMap_append
        have h7 := flat_get hsz (l ++ r) i x hx j c hjc
        rw [h6] at h7
        have h8 : i * sz + j < (l.flatMap enc ++ r.flatMap enc).length := (List.getElem?_eq_some_iff.1 h7).1
        rw [Array.getElem?_append_left (by simpa using h8)]
        rw [show (l.flatMap enc).toArray ++ (r.flatMap enc).toArray = (l.flatMap enc ++ r.flatMap enc).toArray from by simp]
        simpa using h7
    rcases hs with ⟨rfl, rfl⟩ | ⟨b, o, cap, A, rfl, hF, hB, hlc, hcm, hfit, hA⟩
    · by_cases h0 : r.length = 0
      · have : r = [] := List.eq_nil_of_length_eq_zero h0
        subst this
        refine ⟨.slice none 0 0, w, ?_, Kp.refl w, .inl ⟨rfl, rfl⟩⟩
        have hf := run_firstCells' (P := P) (w := w) sz 0 ya 0 yc [] (by simp) (fun h => by simp at h)
        simp [Builtin.append_, run_underlying hu, run_sizeOf' hi, Builtin.lenOf, hf]
      · exact grow none 0 (by simp; omega) (fun h => by simp at h)
    · by_cases hroom : l.length + r.length ≤ cap
      · have hfit2 : o + l.length * sz + (r.flatMap enc).length ≤ A.size := by
          rw [hnl, Nat.add_assoc, ← Nat.add_mul]
          exact Nat.le_trans (Nat.add_le_add_left (Nat.mul_le_mul_right _ hroom) _) hfit
        have hrun := run_append_room' (P := P) (w := w) t ty e hu hi b o l.length cap A e hB ya r.length yc (r.flatMap enc) hnl hnews hone hroom hfit2
        refine ⟨_, _, hrun, (Kp.setRow w b _).mono (fun k _ hk => hk ▸ hF), .inr ⟨b, o, cap, spl A (o + l.length * sz) (r.flatMap enc), by rw [List.length_append], .inl hF, setRow_heap w b A _ e (0, 0) hB, by rw [List.length_append]; exact hroom, hcm, by rw [spl_size hfit2]; exact hfit, ?_⟩⟩
        intro i x hx j c hjc
        have hj : j < sz := by
          rw [← hsz x]
          exact (List.getElem?_eq_some_iff.1 hjc).1
        rcases Nat.lt_or_ge i l.length with h2 | h2
        · rw [List.getElem?_append_left h2] at hx
          have h3 : i * sz + j < l.length * sz := by
            have : (i + 1) * sz ≤ l.length * sz := Nat.mul_le_mul_right _ h2
            rw [Nat.succ_mul] at this
            omega
          rw [spl_get_out hfit2 _ (.inl (by omega))]
          exact hA i x hx j c hjc
        · rw [List.getElem?_append_right h2] at hx
          have h3 := flat_get hsz r _ x hx j c hjc
          have h4 : (i - l.length) * sz + j < (r.flatMap enc).length := (List.getElem?_eq_some_iff.1 h3).1
          have h5 : o + i * sz + j = (o + l.length * sz) + ((i - l.length) * sz + j) := by
            have : i * sz = l.length * sz + (i - l.length) * sz := by rw [← Nat.add_mul]; congr 1; omega
            omega
          rw [h5, spl_get_in hfit2 _ h4]
          exact h3
      · refine grow _ cap (by omega) (fun hp => ⟨b, o, rfl, fun k c hk => ?_⟩)
        obtain ⟨i, x, j, h6, h7, h8, h9⟩ := flat_inv hsz l k c hk
        rw [h8, ← Nat.add_assoc]
        exact hB.cell (hA i x h6 j c h7)
  obtain ⟨v', w', hrun, h2, h3⟩ := key
  refine wl_val rfl (v := v') (w' := w') ?_ (h v' w' h2 h3)
  simp only [execOp, resolve, invoke, builtin, Sem.run_bind, Sem.run_pure, Result.andThen_ok, List.map_toArray, List.map_cons, List.map_nil, eval_fr hx, eval_fr hy, hv, hw, hrun]
end
end Go.Wk

namespace Go.Wk
set_option linter.unusedVariables false

/-! ## 11. Equality -/
section
variable {P : Program} {w : World} {d : Nat} {xs ys : Array Value} {fl : Field} {fs : List Field} {a b : Value} {r s : Bool}
theorem eqf_last (hn : (fl.name == "_") = false) (ha : (part fl.type xs fl.offset).run P w = .ok a w) (hb : (part fl.type ys fl.offset).run P w = .ok b w) (he : (Op.equalIn d fl.type a b).run P w = .ok r w) : (Op.eqFields d xs ys [fl]).run P w = .ok r w := by
  have hn' : fl.name ≠ "_" := by simpa using hn
  simp only [Op.eqFields, if_pos hn', Sem.run_bind, ha, hb, he, Result.andThen_ok]
  cases r <;> simp
theorem eqf_cons (hn : (fl.name == "_") = false) (ha : (part fl.type xs fl.offset).run P w = .ok a w) (hb : (part fl.type ys fl.offset).run P w = .ok b w) (he : (Op.equalIn d fl.type a b).run P w = .ok r w) (hr : (Op.eqFields d xs ys fs).run P w = .ok s w) : (Op.eqFields d xs ys (fl :: fs)).run P w = .ok (r && s) w := by
  have hn' : fl.name ≠ "_" := by simpa using hn
  rw [Op.eqFields]
  simp only [if_pos hn', Sem.run_bind, ha, hb, he, Result.andThen_ok]
  cases r
  · simp
  · simpa using hr
theorem eqA_of {t : TypeId} {fs : Array Field} (hu : P.underlying t = some (.struct fs)) (hp : P.stoodInHeld t = false) (h : (Op.eqFields d xs ys fs.toList).run P w = .ok r w) : (Op.equalIn (d + 1) t (.agg xs) (.agg ys)).run P w = .ok r w := by
  have hf : P.fieldsOf t = fs := by simp [Program.fieldsOf, hu]
  rw [run_equalIn_struct (P := P) w d t xs ys (by rw [hf]; exact hu) hp, hf]
  exact h
theorem part_one {t : TypeId} {td : TypeDesc} {cs : Array Value} {o : Nat} {v : Value} (hu : P.underlying t = some td) (hna : isAggD td = false) (h : cs[o]? = some v) : (part t cs o).run P w = .ok v w := by
  simp [part, run_isAgg' hu, hna, h]
theorem part_agg {t : TypeId} {td : TypeDesc} {cs : Array Value} {o : Nat} {z : Option Value} {size bytes : Nat} (hu : P.underlying t = some td) (hag : isAggD td = true) (hi : TI P t z size bytes) : (part t cs o).run P w = .ok (.agg (cs.extract o (o + size))) w := by
  simp [part, run_isAgg' hu, hag, run_sizeOf' hi]
theorem eq_int {t : TypeId} {k k' : IntKind} {x y : Int} (hu : P.underlying t = some (.int k')) : (Op.equalIn (d + 1) t (.int k x) (.int k y)).run P w = .ok (decide (x = y)) w := by
  have e : (x == y) = decide (x = y) := by rw [Bool.eq_iff_iff]; simp
  simp [Op.equalIn, run_underlying hu, e]
theorem eq_bool {t : TypeId} {x y : Bool} (hu : P.underlying t = some .bool) : (Op.equalIn (d + 1) t (.bool x) (.bool y)).run P w = .ok (decide (x = y)) w := by
  have e : (x == y) = decide (x = y) := by rw [Bool.eq_iff_iff]; simp
  simp [Op.equalIn, run_underlying hu, e]
theorem ba_beq (a b : ByteArray) : (a == b) = decide (a = b) := by
  have h : (a == b) = (a.data == b.data) := rfl
  rw [h, Bool.eq_iff_iff, decide_eq_true_eq, beq_iff_eq]
  constructor
  · exact ByteArray.ext
  · intro e; rw [e]
theorem ba_beq' (a b : ByteArray) : (a.toList == b.toList) = decide (a = b) := by rw [← beq_toListBytes]; exact ba_beq a b
theorem eq_string {t : TypeId} {x y : ByteArray} (hu : P.underlying t = some .string) : (Op.equalIn (d + 1) t (.string x) (.string y)).run P w = .ok (decide (x = y)) w := by
  simp [Op.equalIn, run_underlying hu, ba_beq]
end
section
variable {P : Program} {n : NN} {f : Nat → Value} {w : World} {d : Option Nat} {ty : TypeId} {ps : String} {es : Array Edge} {t yt : TypeId} {x y : Operand}
theorem rf_eqlS {xs ys : Array Value} {r : Bool} (hg : P.eqGuardType P.depth t = false) (he : (Op.equalIn 10000 t (.agg xs) (.agg ys)).run P w = .ok r w) (hx : okx n x = true) (hy : okx n y = true) (hv : ev f x = .agg xs) (hw : ev f y = .agg ys) :
    (execOp (fr n f).eval ⟨d, .binOp .eql t x y yt, ty, ps, es, none⟩).run P w = .ok (.value (.bool r)) w := by
  have he' : (Op.equal t (.agg xs) (.agg ys)).run P w = .ok r w := he
  simp [execOp, eval_fr hx, eval_fr hy, hv, hw, eqGuard, hg, binOp, he']
theorem rf_neqS {xs ys : Array Value} {r : Bool} (hg : P.eqGuardType P.depth t = false) (he : (Op.equalIn 10000 t (.agg xs) (.agg ys)).run P w = .ok r w) (hx : okx n x = true) (hy : okx n y = true) (hv : ev f x = .agg xs) (hw : ev f y = .agg ys) :
    (execOp (fr n f).eval ⟨d, .binOp .neq t x y yt, ty, ps, es, none⟩).run P w = .ok (.value (.bool (!r))) w := by
  have he' : (Op.equal t (.agg xs) (.agg ys)).run P w = .ok r w := he
  simp [execOp, eval_fr hx, eval_fr hy, hv, hw, eqGuard, hg, binOp, he']
theorem rf_eqlB {a b : Bool} (hu : P.underlying t = some .bool) (hx : okx n x = true) (hy : okx n y = true) (hv : ev f x = .bool a) (hw : ev f y = .bool b) :
    (execOp (fr n f).eval ⟨d, .binOp .eql t x y yt, ty, ps, es, none⟩).run P w = .ok (.value (.bool (decide (a = b)))) w := by
  have he' : (Op.equal t (.bool a) (.bool b)).run P w = .ok (decide (a = b)) w := eq_bool (d := 9999) hu
  simp [execOp, eval_fr hx, eval_fr hy, hv, hw, eqGuard, binOp, he']
theorem rf_neqB {a b : Bool} (hu : P.underlying t = some .bool) (hx : okx n x = true) (hy : okx n y = true) (hv : ev f x = .bool a) (hw : ev f y = .bool b) :
    (execOp (fr n f).eval ⟨d, .binOp .neq t x y yt, ty, ps, es, none⟩).run P w = .ok (.value (.bool (decide (a ≠ b)))) w := by
  have he' : (Op.equal t (.bool a) (.bool b)).run P w = .ok (decide (a = b)) w := eq_bool (d := 9999) hu
  have e : (!decide (a = b)) = decide (a ≠ b) := by cases a <;> cases b <;> rfl
  rw [← e]
  simp [execOp, eval_fr hx, eval_fr hy, hv, hw, eqGuard, binOp, he']
theorem rf_eqlStr {a b : ByteArray} (hx : okx n x = true) (hy : okx n y = true) (hv : ev f x = .string a) (hw : ev f y = .string b) :
    (execOp (fr n f).eval ⟨d, .binOp .eql t x y yt, ty, ps, es, none⟩).run P w = .ok (.value (.bool (decide (a = b)))) w := by
  simp [execOp, eval_fr hx, eval_fr hy, hv, hw, eqGuard, binOp, Op.stringOp, ba_beq']
theorem rf_neqStr {a b : ByteArray} (hx : okx n x = true) (hy : okx n y = true) (hv : ev f x = .string a) (hw : ev f y = .string b) :
    (execOp (fr n f).eval ⟨d, .binOp .neq t x y yt, ty, ps, es, none⟩).run P w = .ok (.value (.bool (decide (a ≠ b)))) w := by
  simp [execOp, eval_fr hx, eval_fr hy, hv, hw, eqGuard, binOp, Op.stringOp, ba_beq']
/-! pointers against nil -/
theorem rf_eqlPN {e : TypeId} {a : Option Addr} (hu : P.underlying t = some (.pointer e)) (hx : okx n x = true) (hy : okx n y = true) (hv : ev f x = .pointer a) (hw : ev f y = .pointer none) :
    (execOp (fr n f).eval ⟨d, .binOp .eql t x y yt, ty, ps, es, none⟩).run P w = .ok (.value (.bool a.isNone)) w := by
  have he0 : ∀ d, (Op.equalIn (d + 1) t (.pointer a) (.pointer none)).run P w = .ok a.isNone w := by
    intro d; cases a <;> simp [Op.equalIn, run_underlying hu]
  have he' : (Op.equal t (.pointer a) (.pointer none)).run P w = .ok a.isNone w := he0 9999
  simp [execOp, eval_fr hx, eval_fr hy, hv, hw, eqGuard, binOp, he']
theorem rf_neqPN {e : TypeId} {a : Option Addr} (hu : P.underlying t = some (.pointer e)) (hx : okx n x = true) (hy : okx n y = true) (hv : ev f x = .pointer a) (hw : ev f y = .pointer none) :
    (execOp (fr n f).eval ⟨d, .binOp .neq t x y yt, ty, ps, es, none⟩).run P w = .ok (.value (.bool a.isSome)) w := by
  have he0 : ∀ d, (Op.equalIn (d + 1) t (.pointer a) (.pointer none)).run P w = .ok a.isNone w := by
    intro d; cases a <;> simp [Op.equalIn, run_underlying hu]
  have he' : (Op.equal t (.pointer a) (.pointer none)).run P w = .ok a.isNone w := he0 9999
  simp [execOp, eval_fr hx, eval_fr hy, hv, hw, eqGuard, binOp, he']
/-! slices, cut -/
theorem rf_slice {e : TypeId} {lo hi mx : Option Operand} {a : Option Addr} {len cap l h m : Nat} {z : Option Value} {size bytes : Nat} (hu : P.underlying t = some (.slice e)) (hti : TI P e z size bytes) (hx : okx n x = true) (hv : ev f x = .slice a len cap)
    (hmx : match mx with | none => m = cap | some y => okx n y = true ∧ ev f y = .int .i64 (m : Int) ∧ m ≤ cap)
    (hhi : match hi with | none => mx = none ∧ h = len | some y => okx n y = true ∧ ev f y = .int .i64 (h : Int) ∧ h ≤ m)
    (hlo : match lo with | none => l = 0 | some y => okx n y = true ∧ ev f y = .int .i64 (l : Int)) (hl : l ≤ h) :
    (execOp (fr n f).eval ⟨d, .slice t x lo hi mx, ty, ps, es, none⟩).run P w = .ok (.value (.slice (if m = l then a else a.map (·.add (l * size))) (h - l) (m - l))) w := by
  have hsl : ∀ (hv' : Option Value) (mv' : Option Value) (lv' : Option Value),
      (∀ w, (Instr.sliceBounds true len cap lv' hv' mv').run P w = .ok (l, h, m) w) → (Instr.sliceAt t (.slice a len cap) lv' hv' mv').run P w = .ok (.slice (if m = l then a else a.map (·.add (l * size))) (h - l) (m - l)) w := by
    intro hv' mv' lv' hb
    simp only [Instr.sliceAt, Sem.run_bind, run_underlying hu, Result.andThen_ok]
    simp only [Instr.slice, Sem.run_bind, run_underlying hu, Result.andThen_ok, hb w, run_sizeOf' hti]
    rfl
  simp only [execOp]
  rw [eval_fr hx, hv]
  have hb : ∀ w, (Instr.sliceBounds true len cap (lo.map (fr n f).eval) (hi.map (fr n f).eval) (mx.map (fr n f).eval)).run P w = .ok (l, h, m) w := by
    intro w
    have sb : ∀ (y : Nat) (c : BoundsCode) (k : Nat), k ≤ y → (Instr.sliceBound (.int .i64 (k : Int)) y c).run P w = .ok k w := by
      intro y c k hk
      simp [Instr.sliceBound, asIntOf, hk]
    cases mx with
    | none =>
      simp only at hmx
      cases hi with
      | none =>
        simp only at hhi
        cases lo with
        | none =>
          simp only at hlo
          simp [Instr.sliceBounds, hmx, hhi.2, hlo]
        | some yl =>
          simp only at hlo
          have := sb h .sliceB l hl
          rw [← hhi.2]
          simp [Instr.sliceBounds, hmx, hlo.2, eval_fr hlo.1, this]
      | some yh =>
        simp only at hhi
        have h1 := sb cap .sliceAcap h (by omega)
        cases lo with
        | none =>
          simp only at hlo
          simp [Instr.sliceBounds, hmx, hhi.2.1, eval_fr hhi.1, h1, hlo]
        | some yl =>
          simp only at hlo
          have h2 := sb h .sliceB l hl
          simp [Instr.sliceBounds, hmx, hhi.2.1, eval_fr hhi.1, h1, hlo.2, eval_fr hlo.1, h2]
    | some ym =>
      simp only at hmx
      have h0 := sb cap .slice3Acap m hmx.2.2
      cases hi with
      | none => simp only at hhi; cases hhi.1
      | some yh =>
        simp only at hhi
        have h1 := sb m .slice3B h hhi.2.2
        cases lo with
        | none =>
          simp only at hlo
          simp [Instr.sliceBounds, hmx.2.1, eval_fr hmx.1, h0, hhi.2.1, eval_fr hhi.1, h1, hlo]
        | some yl =>
          simp only at hlo
          have h2 := sb h .slice3C l hl
          simp [Instr.sliceBounds, hmx.2.1, eval_fr hmx.1, h0, hhi.2.1, eval_fr hhi.1, h1, hlo.2, eval_fr hlo.1, h2]
  have := hsl (hi.map (fr n f).eval) (mx.map (fr n f).eval) (lo.map (fr n f).eval) hb
  simp only [Sem.run_bind, this, Result.andThen_ok]
  rfl
end
end Go.Wk

namespace Go.Wk
set_option linter.unusedVariables false

/-! ## 12. A region that draws its order, its last operations one behind the other -/
section
variable {P : Program} {n : NN} {f : Nat → Value} {w : World} {Q : Exit → Act → World → Prop} {id : Nat} {ops : Array Oper} {rest : List Oper} {Z : Act → Prop}
theorem any_still_tail {a : Act} {l : List Oper} (n : Nat) (hB : Region.lexTailB .any l.toArray n = true)
    (h : wpStill P l.toArray { w with drawn := w.drawn + 1 } (fun a' => wpList P l.toArray Q (l.drop n) a' { w with drawn := w.drawn + 1 }) (l.take n) a) : wpAny P .any l.toArray Q l.toArray.size (Array.replicate l.toArray.size false) a { w with drawn := w.drawn + 1 } := by
  simp only [Region.lexTailB, Bool.and_eq_true, decide_eq_true_eq] at hB
  obtain ⟨⟨⟨⟨hsel, hn⟩, hs⟩, hc⟩, hlex⟩ := hB
  have hn' : n < l.length := by simpa using hn
  have htl : (l.take n).length = n := by simp; omega
  have hdl : (l.drop n).length = l.toArray.size - n := by simp
  have inv0 : HeadInv .any l.toArray n (Array.replicate l.toArray.size false) :=
    ⟨by simp, fun j oj _ hl => (by rw [getD_replicate_false] at hl; cases hl), fun t _ ht => getD_in (by simpa using ht) (getD_replicate_false _ _)⟩
  have H := wpAnyL_lex (md := .any) (g := l.toArray.size - n) hsel hs hc hn (l.take n) 0 _ a (fun j hj => by
    have hj' : j < n := by rw [htl] at hj; exact hj
    simp [hj']) (by simpa using htl) inv0 (by rw [htl]; exact hlex) h
  have := wpAny_of_head (Q' := Q) (g := l.toArray.size - n) (fun listed a' hL => by
    have := wpAny_of_seq (md := .any) (Q' := Q) (l.drop n) n listed a' { w with drawn := w.drawn + 1 } (fun j => by simp [List.getElem?_drop]) (by rw [hdl]; exact hL.1) hL.2
    rwa [hdl] at this) _ _ _ H
  rw [htl, show n + (l.toArray.size - n) = l.toArray.size by omega] at this
  exact this
theorem region_t {l : List Oper} (k : Nat) (hm : P.follows .mixedOrders = true) (hB : Region.lexTailB .any l.toArray k = true)
    (h : ∀ w1, Kp none_ w w1 → WS P l.toArray w1 (fun a' => wpList P l.toArray Q (l.drop k) a' w1) (l.take k) n f) (hd : nodef l = true := by kernel_rfl) : wr n P (Code.region id l.toArray true) Q (fr n f) w :=
  region_any hd hm (any_still_tail k hB (h _ ⟨rfl, rfl, rfl, Nat.le_refl _, fun _ _ _ => rfl, Nat.le_add_right _ _⟩))
theorem ss_nil (h : Z (fr n f)) : WS P ops w Z [] n f := h
theorem ss_valE {o : Oper} {v0 v : Value} (hg : o.guard = none) (hr : (execOp (fr n f).eval o).run P w = .ok (.value v0) w) (hv : v0 = v) (h : WS P ops w Z rest n (putD f o.dst v)) : WS P ops w Z (o :: rest) n f := by
  subst hv
  unfold WS wpStill
  rw [if_pos (by simp [Region.wanted, hg])]
  unfold Oper.still
  rw [hr]
  refine ⟨rfl, ?_⟩
  rw [fr_putD]; exact h
variable {op : Op} {dst : Option Tmp} {ty : TypeId} {ps : String} {es : Array Edge} {j d : Nat} {b t : Bool}
theorem ss_guardT (hj : (ops[j]?).bind (·.dst) = some d) (hd : Nat.blt d n.n = true) (hv : f d = .bool t) (ht : t = b) (h : WS P ops w Z (⟨dst, op, ty, ps, es, none⟩ :: rest) n f) : WS P ops w Z (⟨dst, op, ty, ps, es, some (j, b)⟩ :: rest) n f := by
  have hy := yielded_fr hj hd hv
  unfold WS wpStill at h ⊢
  rw [if_pos (by simp [Region.wanted, hy, ht])]
  rw [if_pos (by simp [Region.wanted])] at h
  exact h
theorem ss_guardF (hj : (ops[j]?).bind (·.dst) = some d) (hd : Nat.blt d n.n = true) (hv : f d = .bool t) (ht : t = !b) (h : WS P ops w Z rest n (putD f dst undef)) : WS P ops w Z (⟨dst, op, ty, ps, es, some (j, b)⟩ :: rest) n f := by
  have hy := yielded_fr hj hd hv
  unfold WS wpStill
  rw [if_neg (by subst ht; simp [Region.wanted, hy])]
  rw [fr_putD]; exact h
theorem ss_guardS (hj : (ops[j]?).bind (·.dst) = some d) (hd : Nat.blt d n.n = true) (hv : f d = undef) (h : WS P ops w Z rest n (putD f dst undef)) : WS P ops w Z (⟨dst, op, ty, ps, es, some (j, b)⟩ :: rest) n f := by
  have hy := yielded_undef hj hd hv
  unfold WS wpStill
  rw [if_neg (by simp [Region.wanted, hy])]
  rw [fr_putD]; exact h
theorem ss_tail {tl : List Oper} (h : WL P ops Q tl n f w) : WS P ops w (fun a' => wpList P ops Q tl a' w) [] n f := h
theorem ss_split (c : Bool) {l : List Oper} (h1 : c = true → WS P ops w Z l n f) (h2 : c = false → WS P ops w Z l n f) : WS P ops w Z l n f := match c, h1, h2 with | true, h1, _ => h1 rfl | false, _, h2 => h2 rfl
theorem wl_split (c : Bool) {l : List Oper} (h1 : c = true → WL P ops Q l n f w) (h2 : c = false → WL P ops Q l n f w) : WL P ops Q l n f w := match c, h1, h2 with | true, h1, _ => h1 rfl | false, _, h2 => h2 rfl
theorem qt_split (c : Bool) {C : World → Prop} {l : List Oper} (h1 : c = true → WQ P ops C Z l n f) (h2 : c = false → WQ P ops C Z l n f) : WQ P ops C Z l n f := match c, h1, h2 with | true, h1, _ => h1 rfl | false, _, h2 => h2 rfl
end
end Go.Wk

namespace Go.Wk
set_option linter.unusedVariables false

/-! ## 13. Literals -/
def splAll (z : Array Value) : List (Nat × List Value) → Array Value
  | [] => z
  | p :: r => splAll (spl z p.1 p.2) r
theorem foldl_spl : ∀ (l : List Value) (k off : Nat) (A : Array Value), off + k + l.length ≤ A.size → (l.zipIdx k).foldl (fun cs (x : Value × Nat) => cs.setIfInBounds (off + x.2) x.1) A = spl A (off + k) l
  | [], k, off, A, h => by simp [spl, List.take_append_drop]
  | c :: r, k, off, A, h => by
    have h' : off + k + (r.length + 1) ≤ A.size := by simpa using h
    rw [List.zipIdx_cons, List.foldl_cons, foldl_spl r (k + 1) off _ (by simp; omega)]
    apply Array.ext_getElem?
    intro i
    have hs1 : (A.setIfInBounds (off + k) c).size = A.size := by simp
    have hf1 : off + (k + 1) + r.length ≤ (A.setIfInBounds (off + k) c).size := by rw [hs1]; omega
    by_cases h1 : i < off + k ∨ off + k + (r.length + 1) ≤ i
    · rw [spl_get_out hf1 i (by omega), spl_get_out (by simpa using h) i (by simpa using h1), Array.getElem?_setIfInBounds, if_neg (by omega)]
    · by_cases h2 : i = off + k
      · subst h2
        rw [spl_get_out hf1 _ (.inl (by omega)), Array.getElem?_setIfInBounds, if_pos rfl]
        have := spl_get_in (A := A) (o := off + k) (cs := c :: r) (by simpa using h) 0 (by simp)
        rw [Nat.add_zero] at this
        rw [this]; simp; omega
      · obtain ⟨j, hj⟩ : ∃ j, i = off + (k + 1) + j := ⟨i - (off + (k + 1)), by omega⟩
        subst hj
        rw [spl_get_in hf1 j (by omega)]
        have := spl_get_in (A := A) (o := off + k) (cs := c :: r) (by simpa using h) (j + 1) (by simp; omega)
        rw [show off + (k + 1) + j = off + k + (j + 1) from by omega, this]
        simp
/-- parts of a literal: place and value of each -/
inductive BP (n : NN) (f : Nat → Value) (place : Nat → Option (Nat × Nat)) (total : Nat) : List (Nat × Operand) → List (Nat × List Value) → Prop
  | nil : BP n f place total [] []
  | cons {k off size : Nat} {x : Operand} {v : Value} {r : List (Nat × Operand)} {o : List (Nat × List Value)} {cs : List Value} (hp : place k = some (off, size)) (hx : okx n x = true) (hv : ev f x = v) (hc : v.cells.toList = cs) (hs : cs.length = size) (hfit : Nat.ble (off + cs.length) total = true) (h : BP n f place total r o) : BP n f place total ((k, x) :: r) ((off, cs) :: o)
theorem fill_eq {n : NN} {f : Nat → Value} {place : Nat → Option (Nat × Nat)} : ∀ {parts : List (Nat × Operand)} {offs : List (Nat × List Value)} (z : Array Value), BP n f place z.size parts offs → Instr.fill place z (parts.map fun p => (p.1, (fr n f).eval p.2)) = some (splAll z offs)
  | _, _, z, .nil => rfl
  | _, _, z, .cons (k := k) (off := off) (size := size) (x := x) (v := v) (r := r) (o := o) (cs := cs) hp hx hv hc hs hfit h => by
    have hfit' : off + cs.length ≤ z.size := Nat.le_of_ble_eq_true hfit
    have hvs : v.cells.size = size := by rw [← hs, ← hc]; simp
    have hcl : cs.length = v.cells.size := by rw [← hc]; simp
    have he : (fr n f).eval x = v := (eval_fr hx).trans hv
    simp only [List.map_cons, Instr.fill, hp, he]
    rw [if_neg (by simp [hvs]; omega)]
    have hfold : v.cells.zipIdx.foldl (fun cs (x : Value × Nat) => cs.setIfInBounds (off + x.2) x.1) z = spl z off cs := by
      rw [← Array.foldl_toList, Array.toList_zipIdx, hc]
      exact foldl_spl cs 0 off z (by omega)
    have := fill_eq (spl z off cs) (by rw [spl_size hfit']; exact h)
    rw [← hfold] at this
    rw [show splAll z ((off, cs) :: o) = splAll (spl z off cs) o from rfl, ← hfold]
    exact this
section
variable {P : Program} {n : NN} {f : Nat → Value} {w : World} {Q : Exit → Act → World → Prop} {ops : Array Oper} {rest : List Oper} {d : Option Nat} {ty : TypeId} {ps : String} {es : Array Edge}
theorem rf_build {t : TypeId} {fs : Array Field} {z : Value} {size bytes : Nat} {parts : List (Nat × Operand)} {places : Array (Nat × Nat)} {offs : List (Nat × List Value)} (hu : P.underlying t = some (.struct fs)) (hi : TI P t (some z) size bytes)
    (hpl : ∀ w, (fs.mapM fun f => do pure (f.offset, ← sizeOf f.type) : Sem (Array (Nat × Nat))).run P w = .ok places w) (hbp : BP n f (places[·]?) z.cells.size parts offs) :
    (execOp (fr n f).eval ⟨d, .build t parts.toArray, ty, ps, es, none⟩).run P w = .ok (.value (.agg (splAll z.cells offs))) w := by
  have h := fill_eq z.cells hbp
  simp only [execOp, Instr.build, Sem.run_bind, run_zeroValue' hi, run_underlying hu, Result.andThen_ok, hpl]
  rw [show ((parts.toArray.map fun (x : Nat × Operand) => (x.1, (fr n f).eval x.2))).toList = parts.map fun p => (p.1, (fr n f).eval p.2) from by simp]
  rw [h]; rfl
theorem wl_buildSlice0 {t e : TypeId} {z : Option Value} {size bytes : Nat} (hu : P.underlying t = some (.slice e)) (hi : TI P e z size bytes)
    (h : ∀ b w', w.heap.size ≤ b → Kp none_ w w' → Blk w' b (.cells #[] e (0, 0)) → WL P ops Q rest n (putD f d (.slice (some ⟨b, 0, none⟩) 0 0)) w') :
    WL P ops Q (⟨d, .buildSlice t 0 #[], ty, ps, es, none⟩ :: rest) n f w := by
  refine wl_val rfl (v := .slice (some ⟨w.heap.size, 0, none⟩) 0 0) (w' := w.alloc (.cells #[] e (0, 0))) ?_ (h _ _ (Nat.le_refl _) (Kp.alloc w _) (Blk.new w _))
  simp [execOp, Instr.buildSlice, run_underlying hu, run_sizeOf' hi, Instr.fill, newRow]
  exact congrArg (fun x => w.alloc (.cells x e)) (Array.eq_empty_of_size_eq_zero (by simp))
def enumOff (size : Nat) : Nat → List (List Value) → List (Nat × List Value)
  | _, [] => []
  | k, c :: r => (k * size, c) :: enumOff size (k + 1) r
theorem spl_spl {A : Array Value} {o : Nat} {c r : List Value} (h : o + c.length + r.length ≤ A.size) : spl (spl A o c) (o + c.length) r = spl A o (c ++ r) := by
  apply Array.ext_getElem?
  intro i
  have h1 : o + c.length ≤ A.size := by omega
  have h2 : o + c.length + r.length ≤ (spl A o c).size := by rw [spl_size h1]; omega
  have h3 : o + (c ++ r).length ≤ A.size := by simp; omega
  by_cases a1 : i < o
  · rw [spl_get_out h2 i (by omega), spl_get_out h1 i (by omega), spl_get_out h3 i (.inl a1)]
  · by_cases a2 : i < o + c.length
    · obtain ⟨j, rfl⟩ : ∃ j, i = o + j := ⟨i - o, by omega⟩
      rw [spl_get_out h2 _ (.inl a2), spl_get_in h1 j (by omega), spl_get_in h3 j (by simp; omega), List.getElem?_append_left (by omega)]
    · by_cases a3 : i < o + c.length + r.length
      · obtain ⟨j, rfl⟩ : ∃ j, i = o + c.length + j := ⟨i - (o + c.length), by omega⟩
        rw [spl_get_in h2 j (by omega), show o + c.length + j = o + (c.length + j) from by omega, spl_get_in h3 _ (by simp; omega), List.getElem?_append_right (by omega)]
        congr 1; omega
      · rw [spl_get_out h2 i (by omega), spl_get_out h1 i (by omega), spl_get_out h3 i (.inr (by simp; omega))]
theorem splAll_enum {size : Nat} : ∀ (css : List (List Value)) (k : Nat) (A : Array Value), (∀ c ∈ css, c.length = size) → k * size + css.length * size ≤ A.size → splAll A (enumOff size k css) = spl A (k * size) css.flatten
  | [], k, A, _, h => by simp [enumOff, splAll, spl, List.take_append_drop]
  | c :: r, k, A, hc, h => by
    have h1 : c.length = size := hc c (by simp)
    have h' : k * size + (r.length + 1) * size ≤ A.size := by simpa using h
    rw [Nat.succ_mul] at h'
    have hfl : r.flatten.length = r.length * size := by
      have : ∀ (r : List (List Value)), (∀ c ∈ r, c.length = size) → r.flatten.length = r.length * size := by
        intro r
        induction r with
        | nil => intro _; simp
        | cons x r ih => intro h; rw [List.flatten_cons, List.length_append, h x (by simp), ih (fun c hc => h c (by simp [hc])), List.length_cons, Nat.succ_mul]; omega
      exact this r (fun c h => hc c (by simp [h]))
    simp only [enumOff, splAll]
    rw [splAll_enum r (k + 1) _ (fun c h => hc c (by simp [h])) (by rw [spl_size (by omega), Nat.succ_mul]; omega)]
    rw [List.flatten_cons, ← spl_spl (by omega), h1, Nat.succ_mul]
theorem spl_full {A : Array Value} {c : List Value} (h : A.size = c.length) : spl A 0 c = c.toArray := by
  simp [spl, ← h]
theorem wl_buildSlice {t e : TypeId} {z : Value} {size bytes len : Nat} {parts : List (Nat × Operand)} {css : List (List Value)} (hu : P.underlying t = some (.slice e)) (hi : TI P e (some z) size bytes) (hl : css.length = len) (hpos : Nat.ble 1 (len * size) = true) (hsm : Nat.ble (len * size) 16777216 = true)
    (hbp : BP n f (fun i => some (i * size, size)) (len * size) parts (enumOff size 0 css)) (hcs : ∀ c ∈ css, c.length = size)
    (h : ∀ b w', w.heap.size ≤ b → Kp none_ w w' → Blk w' b (.cells css.flatten.toArray e (0, 0)) → WL P ops Q rest n (putD f d (.slice (some ⟨b, 0, none⟩) len len)) w') :
    WL P ops Q (⟨d, .buildSlice t len parts.toArray, ty, ps, es, none⟩ :: rest) n f w := by
  have hp : 1 ≤ len * size := Nat.le_of_ble_eq_true hpos
  have hm : len * size ≤ 16777216 := Nat.le_of_ble_eq_true hsm
  refine wl_val rfl (v := .slice (some ⟨w.heap.size, 0, none⟩) len len) (w' := w.alloc (.cells css.flatten.toArray e (0, 0))) ?_ (h _ _ (Nat.le_refl _) (Kp.alloc w _) (Blk.new w _))
  have hsz : ((Array.range (len * size)).map fun i => z.cells[i % z.cells.size]!).size = len * size := by simp
  have hf := fill_eq ((Array.range (len * size)).map fun i => z.cells[i % z.cells.size]!) (by rw [hsz]; exact hbp)
  have hfl : css.flatten.length = len * size := by
    have : ∀ (r : List (List Value)), (∀ c ∈ r, c.length = size) → r.flatten.length = r.length * size := by
      intro r
      induction r with
      | nil => intro _; simp
      | cons x r ih => intro h; rw [List.flatten_cons, List.length_append, h x (by simp), ih (fun c hc => h c (by simp [hc])), List.length_cons, Nat.succ_mul]; omega
    rw [this css hcs, hl]
  rw [splAll_enum css 0 _ hcs (by rw [hsz, hl]; omega), Nat.zero_mul, spl_full (by rw [hsz, hfl])] at hf
  simp only [execOp, Instr.buildSlice, Sem.run_bind, run_underlying hu, Result.andThen_ok, run_sizeOf' hi]
  rw [if_neg (by omega)]
  have h0 : ¬ len * size = 0 := by omega
  simp only [if_neg h0, Sem.run_bind, run_zeroValue' hi, Result.andThen_ok, Sem.run_pure]
  rw [show ((parts.toArray.map fun (x : Nat × Operand) => (x.1, (fr n f).eval x.2))).toList = parts.map fun p => (p.1, (fr n f).eval p.2) from by simp]
  rw [hf]
  simp [newRow]
end
end Go.Wk

namespace Go.Wk
set_option linter.unusedVariables false

/-! ## 14. A row of elements, known where it lies -/
section
variable {α : Type} (enc : α → List Value) (sz : Nat)
def SlAt (e : TypeId) (w : World) (b o cap : Nat) (l : List α) : Prop :=
  ∃ A, Blk w b (.cells A e (0, 0)) ∧ l.length ≤ cap ∧ cap ≤ 9223372036854775807 ∧ o + cap * sz ≤ A.size ∧ ∀ i x, l[i]? = some x → ∀ j u, (enc x)[j]? = some u → A[o + i * sz + j]? = some u
variable {enc sz} {w w' : World} {F S : Nat → Prop} {v : Value} {l : List α} {e : TypeId} {b o cap : Nat}
theorem SlAt.kp (h : SlAt enc sz e w b o cap l) (hk : Kp S w w') (hs : ¬ S b) : SlAt enc sz e w' b o cap l := let ⟨A, h1, h2⟩ := h; ⟨A, h1.kp hk hs, h2⟩
theorem SlAt.keep (h : SlAt enc sz e w b o cap l) (hk : Kp none_ w w') : SlAt enc sz e w' b o cap l := h.kp hk (fun h => h)
theorem SlAt.lt (h : SlAt enc sz e w b o cap l) : b < w.heap.size := let ⟨_, h1, _⟩ := h; h1.lt
theorem SlAt.le (h : SlAt enc sz e w b o cap l) : l.length ≤ cap := let ⟨_, _, h2, _⟩ := h; h2
theorem SlAt.sl (h : SlAt enc sz e w b o cap l) (hF : F b) : Sl enc sz e w F (.slice (some ⟨b, o, none⟩) l.length cap) l := let ⟨A, h1, h2⟩ := h; .inr ⟨b, o, cap, A, rfl, hF, h1, h2⟩
theorem SlAt.rd (h : SlAt enc sz e w b o cap l) (hF : F b) : Rd enc sz w F (.slice (some ⟨b, o, none⟩) l.length cap) l := (h.sl hF).rd
theorem Sl.at (h : Sl enc sz e w F v l) (hp : 0 < l.length) : ∃ b o cap, v = .slice (some ⟨b, o, none⟩) l.length cap ∧ F b ∧ SlAt enc sz e w b o cap l := by
  rcases h with ⟨_, rfl⟩ | ⟨b, o, cap, A, h1, h2, h3⟩
  · simp at hp
  · exact ⟨b, o, cap, h1, h2, A, h3⟩
theorem Sl.form (h : Sl enc sz e w F v l) : ∃ a cap, v = .slice a l.length cap ∧ l.length ≤ cap := h.rd.form
theorem SlAt.cell (h : SlAt enc sz e w b o cap l) {i : Nat} {x : α} (hx : l[i]? = some x) : ∀ j u, (enc x)[j]? = some u → w.cell? ⟨b, o + i * sz + j, none⟩ = some u :=
  let ⟨A, h1, h2, h3, h4, h5⟩ := h; fun j u hu => h1.cell (h5 i x hx j u hu)
theorem SlAt.of_blk {l : List α} (hsz : ∀ x, (enc x).length = sz) (h63 : l.length ≤ 9223372036854775807) (hb : Blk w b (.cells (l.flatMap enc).toArray e (0, 0))) : SlAt enc sz e w b 0 l.length l := by
  refine ⟨_, hb, Nat.le_refl _, h63, ?_, ?_⟩
  · simp [flat_length hsz]
  · intro i x hx j u hu
    rw [Nat.zero_add]
    simpa using flat_get hsz l i x hx j u hu
theorem SlAt.take (h : SlAt enc sz e w b o cap l) (k : Nat) : SlAt enc sz e w b o cap (l.take k) := by
  obtain ⟨A, h1, h2, h3, h4, h5⟩ := h
  refine ⟨A, h1, by simp; omega, h3, h4, fun i x hx => h5 i x ?_⟩
  rw [List.getElem?_take] at hx
  split at hx
  · exact hx
  · cases hx
theorem SlAt.drop (h : SlAt enc sz e w b o cap l) (k : Nat) (hk : k ≤ cap) : SlAt enc sz e w b (o + k * sz) (cap - k) (l.drop k) := by
  obtain ⟨A, h1, h2, h3, h4, h5⟩ := h
  refine ⟨A, h1, by simp; omega, by omega, ?_, fun i x hx j u hu => ?_⟩
  · rw [Nat.add_assoc, ← Nat.add_mul, show k + (cap - k) = cap from by omega]; exact h4
  · rw [List.getElem?_drop] at hx
    have := h5 (k + i) x hx j u hu
    rw [Nat.add_mul] at this
    rw [show o + k * sz + i * sz + j = o + (k * sz + i * sz) + j from by omega]
    exact this
theorem flatMap_encB (f : Bool → List Value) (hf : ∀ x, f x = [.bool x]) (l : List Bool) : l.flatMap f = l.map Value.bool := by
  induction l with
  | nil => rfl
  | cons x r ih => rw [List.flatMap_cons, ih, hf]; rfl
/-- An element, or a part of one, is written. -/
theorem SlAt.wrote {l : List α} {i : Nat} {x y : α} {c : List Value} {j : Nat} {A : Array Value} (hsz : ∀ x, (enc x).length = sz) (h2 : l.length ≤ cap) (h3 : cap ≤ 9223372036854775807) (h4 : o + cap * sz ≤ A.size) (h5 : ∀ i x, l[i]? = some x → ∀ j u, (enc x)[j]? = some u → A[o + i * sz + j]? = some u)
    (hx : l[i]? = some x) (hj : j + c.length ≤ sz) (hy : enc y = (enc x).take j ++ c ++ (enc x).drop (j + c.length)) (hb : Blk w' b (.cells (spl A (o + i * sz + j) c) e (0, 0))) : SlAt enc sz e w' b o cap (l.set i y) := by
  have hi : i < l.length := (List.getElem?_eq_some_iff.1 hx).1
  have him : (i + 1) * sz ≤ cap * sz := Nat.mul_le_mul_right _ (by omega)
  rw [Nat.succ_mul] at him
  have hfit : o + i * sz + j + c.length ≤ A.size := by omega
  refine ⟨_, hb, by simpa using h2, h3, by rw [spl_size hfit]; exact h4, ?_⟩
  intro k z hz m u hu
  have hm : m < sz := by rw [← hsz z]; exact (List.getElem?_eq_some_iff.1 hu).1
  by_cases hk : k = i
  · subst hk
    rw [List.getElem?_set_self hi] at hz
    cases hz
    rw [hy] at hu
    have hlx := hsz x
    by_cases a1 : m < j
    · rw [List.append_assoc, List.getElem?_append_left (by simp; omega), List.getElem?_take_of_lt a1] at hu
      rw [spl_get_out hfit _ (.inl (by omega))]
      exact h5 _ x hx m u hu
    · by_cases a2 : m < j + c.length
      · rw [List.append_assoc, List.getElem?_append_right (by simp; omega)] at hu
        rw [List.getElem?_append_left (by simp; omega)] at hu
        obtain ⟨q, rfl⟩ : ∃ q, m = j + q := ⟨m - j, by omega⟩
        rw [show o + k * sz + (j + q) = o + k * sz + j + q from by omega, spl_get_in hfit q (by omega)]
        rw [← hu]; congr 1; simp; omega
      · rw [List.append_assoc, List.getElem?_append_right (by simp; omega), List.getElem?_append_right (by simp; omega), List.getElem?_drop] at hu
        rw [spl_get_out hfit _ (.inr (by omega))]
        refine h5 _ x hx m u ?_
        rw [← hu]; congr 1; simp; omega
  · rw [List.getElem?_set_ne (fun e => hk e.symm)] at hz
    rcases Nat.lt_or_ge k i with a1 | a1
    · have h6 : (k + 1) * sz ≤ i * sz := Nat.mul_le_mul_right _ (by omega)
      rw [Nat.succ_mul] at h6
      rw [spl_get_out hfit _ (.inl (by omega))]
      exact h5 k z hz m u hu
    · have h6 : (i + 1) * sz ≤ k * sz := Nat.mul_le_mul_right _ (by omega)
      rw [Nat.succ_mul] at h6
      rw [spl_get_out hfit _ (.inr (by omega))]
      exact h5 k z hz m u hu
variable {P : Program} {n : NN} {f : Nat → Value} {Q : Exit → Act → World → Prop} {ops : Array Oper} {rest : List Oper} {d : Option Nat} {ty : TypeId} {ps : String} {es : Array Edge}
/-- l[i] = v, or a part of it -/
theorem wl_storeEl {t : TypeId} {x y : Operand} {u : Value} {c : List Value} {i j size bytes at_ : Nat} {p q : α} {z : Option Value} (hsz : ∀ x, (enc x).length = sz) (hi : TI P t z size bytes) (hx : okx n x = true) (hy : okx n y = true) (hv : ev f x = .pointer (some ⟨b, at_, none⟩)) (hat : at_ = o + i * sz + j) (hw : ev f y = u) (hc : u.cells.toList = c) (hcl : c.length = size) (hone : ∀ a ∈ c, a.oneCell' = true)
    (hs : SlAt enc sz e w b o cap l) (hp : l[i]? = some p) (hj : j + c.length ≤ sz) (hq : enc q = (enc p).take j ++ c ++ (enc p).drop (j + c.length)) (h : ∀ w', Kp (fun k => k = b) w w' → SlAt enc sz e w' b o cap (l.set i q) → WL P ops Q rest n (putD f d undef) w') :
    WL P ops Q (⟨d, .store t x y, ty, ps, es, none⟩ :: rest) n f w := by
  obtain ⟨A, h1, h2, h3, h4, h5⟩ := hs
  have hil : i < l.length := (List.getElem?_eq_some_iff.1 hp).1
  have him : (i + 1) * sz ≤ cap * sz := Nat.mul_le_mul_right _ (by omega)
  rw [Nat.succ_mul] at him
  subst hat
  refine wl_skip rfl (w' := w.setRow b (spl A (o + i * sz + j) c)) ?_ (h _ (Kp.setRow w b _) (SlAt.wrote hsz h2 h3 h4 h5 hp hj hq (setRow_heap w b A _ e (0, 0) h1)))
  simp only [execOp]
  rw [eval_fr hx, hv, eval_fr hy, hw]
  have := run_storeVar' (v := u) (o := o + i * sz + j) hi (by rw [hc]; exact hcl) (by rw [hc]; exact hone) h1 (by omega)
  rw [hc] at this
  simp [Instr.storeAt, Instr.sureAddr, this]
end
section
variable {P : Program} {n : NN} {f : Nat → Value} {w : World} {d : Option Nat} {ty : TypeId} {ps : String} {es : Array Edge} {t e : TypeId} {x y y2 : Operand} {a : Option Addr} {len cap h m l : Nat} {z : Option Value} {size bytes : Nat}
/-- x[:h] -/
theorem rf_sliceTo (hu : P.underlying t = some (.slice e)) (hti : TI P e z size bytes) (hx : okx n x = true) (hv : ev f x = .slice a len cap) (hy : okx n y = true) (hw : ev f y = .int .i64 (h : Int)) (hh : h ≤ cap) :
    (execOp (fr n f).eval ⟨d, .slice t x none (some y) none, ty, ps, es, none⟩).run P w = .ok (.value (.slice a h cap)) w := by
  have := rf_slice (P := P) (w := w) (d := d) (ty := ty) (ps := ps) (es := es) (lo := none) (hi := some y) (mx := none) (l := 0) (h := h) (m := cap) hu hti hx hv rfl ⟨hy, hw, hh⟩ rfl (Nat.zero_le _)
  rw [this]
  congr 2
  simp [Addr.add]
/-- x[:h:m] -/
theorem rf_sliceTo3 (hu : P.underlying t = some (.slice e)) (hti : TI P e z size bytes) (hx : okx n x = true) (hv : ev f x = .slice a len cap) (hy : okx n y = true) (hw : ev f y = .int .i64 (h : Int)) (hy2 : okx n y2 = true) (hw2 : ev f y2 = .int .i64 (m : Int)) (hh : h ≤ m) (hm : m ≤ cap) :
    (execOp (fr n f).eval ⟨d, .slice t x none (some y) (some y2), ty, ps, es, none⟩).run P w = .ok (.value (.slice a h m)) w := by
  have := rf_slice (P := P) (w := w) (d := d) (ty := ty) (ps := ps) (es := es) (lo := none) (hi := some y) (mx := some y2) (l := 0) (h := h) (m := m) hu hti hx hv ⟨hy2, hw2, hm⟩ ⟨hy, hw, hh⟩ rfl (Nat.zero_le _)
  rw [this]
  congr 2
  simp [Addr.add]
/-- x[l:] -/
theorem rf_sliceFrom (hu : P.underlying t = some (.slice e)) (hti : TI P e z size bytes) (hx : okx n x = true) (hv : ev f x = .slice a len cap) (hy : okx n y = true) (hw : ev f y = .int .i64 (l : Int)) (hl : l ≤ len) :
    (execOp (fr n f).eval ⟨d, .slice t x (some y) none none, ty, ps, es, none⟩).run P w = .ok (.value (.slice (if cap = l then a else a.map (·.add (l * size))) (len - l) (cap - l))) w :=
  rf_slice (P := P) (w := w) (lo := some y) (hi := none) (mx := none) (l := l) (h := len) (m := cap) hu hti hx hv rfl ⟨rfl, rfl⟩ ⟨hy, hw⟩ hl
end
end Go.Wk

namespace Go.Wk
set_option linter.unusedVariables false

/-! ## 15. A slice that may be grown: the call's own, or full -/
section
variable {α : Type} (enc : α → List Value) (sz : Nat)
def Ap (e : TypeId) (w : World) (F G : Nat → Prop) (v : Value) (l : List α) : Prop := Sl enc sz e w F v l ∨ (∃ a, v = .slice a l.length l.length ∧ Rd enc sz w G v l)
variable {enc sz} {w w' : World} {F S : Nat → Prop} {v : Value} {l : List α} {e : TypeId}
theorem Ap.kp {G : Nat → Prop} (h : Ap enc sz e w F G v l) (hk : Kp S w w') (h1 : ∀ b, F b → ¬ S b) (h2 : ∀ b, G b → ¬ S b) : Ap enc sz e w' F G v l := by
  rcases h with h | ⟨a, e1, hr⟩
  · exact .inl (h.kp hk h1)
  · exact .inr ⟨a, e1, hr.kp hk h2⟩
theorem Ap.keep {G : Nat → Prop} (h : Ap enc sz e w F G v l) (hk : Kp none_ w w') : Ap enc sz e w' F G v l := h.kp hk (fun _ _ h => h) (fun _ _ h => h)
theorem Ap.rd {G : Nat → Prop} (h : Ap enc sz e w F G v l) : Rd enc sz w (fun b => F b ∨ G b) v l := by
  rcases h with h | ⟨a, e1, hr⟩
  · exact h.rd.mono (fun _ h => .inl h)
  · exact hr.mono (fun _ h => .inr h)
theorem SlAt.apFull {b o : Nat} {F G : Nat → Prop} (h : SlAt enc sz e w b o l.length l) (hG : G b) : Ap enc sz e w F G (.slice (some ⟨b, o, none⟩) l.length l.length) l := .inr ⟨_, rfl, h.rd hG⟩
theorem SlAt.rdTake {b o cap : Nat} {F : Nat → Prop} {r : List α} (h : SlAt enc sz e w b o cap (l ++ r)) (hF : F b) : Rd enc sz w F (.slice (some ⟨b, o, none⟩) l.length cap) l := by
  have := (h.take l.length).rd hF
  simpa using this
theorem SlAt.bools {f : Bool → List Value} (hf : ∀ x, f x = [.bool x]) {b : Nat} {l : List Bool} (h63 : l.length ≤ 9223372036854775807) (h : Blk w b (.cells (l.map Value.bool).toArray e (0, 0))) : SlAt f 1 e w b 0 l.length l :=
  SlAt.of_blk (fun x => by rw [hf]; rfl) h63 (by rw [flatMap_encB f hf]; exact h)
theorem Sl.tight (h : Sl enc sz e w F v l) : Sl enc sz e w (fun b => F b ∧ b < w.heap.size) v l := by
  rcases h with h | ⟨b, o, cap, A, h1, h2, h3, h4⟩
  · exact .inl h
  · exact .inr ⟨b, o, cap, A, h1, ⟨h2, h3.lt⟩, h3, h4⟩
theorem Sl.map {β : Type} {f : α → β} {enc' : β → List Value} {l' : List β} (h : Sl enc sz e w F v l) (hl : l' = l.map f) (he : ∀ x, enc' (f x) = enc x) : Sl enc' sz e w F v l' := by
  subst hl
  rcases h with ⟨h1, h2⟩ | ⟨b, o, cap, A, h1, h2, h3, h4, h5, h6, h7⟩
  · subst h2; exact .inl ⟨h1, rfl⟩
  · refine .inr ⟨b, o, cap, A, by rw [List.length_map]; exact h1, h2, h3, by rw [List.length_map]; exact h4, h5, h6, fun i y hy j u hu => ?_⟩
    rw [List.getElem?_map] at hy
    obtain ⟨x, hx, rfl⟩ := Option.map_eq_some_iff.1 hy
    exact h7 i x hx j u (by rw [← he]; exact hu)
variable {P : Program} {n : NN} {f : Nat → Value} {Q : Exit → Act → World → Prop} {ops : Array Oper} {rest : List Oper} {d : Option Nat} {ty : TypeId} {ps : String} {es : Array Edge}
theorem wl_appendAp {t e : TypeId} {x y : Operand} {z : Value} {bytes : Nat} {F G : Nat → Prop} {v u : Value} {l r : List α} (hsz : ∀ x, (enc x).length = sz) (h1 : ∀ x, ∀ c ∈ enc x, c.oneCell' = true) (hu : P.underlying t = some (.slice e)) (hi : TI P e (some z) sz bytes) (hz : z.cells.size = sz) (hx : okx n x = true) (hy : okx n y = true) (hv : ev f x = v) (hw : ev f y = u)
    {H : Nat → Prop} (hs : Ap enc sz e w F H v l) (hr : Rd enc sz w G u r) (hr0 : 0 < r.length) (h63 : l.length + r.length ≤ 9223372036854775807) (hb : (l.length + r.length) * bytes ≤ 140737488355328)
    (h : ∀ v' w', Kp F w w' → Sl enc sz e w' (fun b => F b ∨ w.heap.size ≤ b) v' (l ++ r) → WL P ops Q rest n (putD f d v') w') :
    WL P ops Q (⟨d, .call { callee := .builtin .append, args := #[x, y], argTypes := #[t, t] }, ty, ps, es, none⟩ :: rest) n f w := by
  rcases hs with hs | ⟨sa, rfl, a', cap', e1, hl', hcells⟩
  · exact wl_append hsz h1 hu hi hz hx hy hv hw hs hr h63 hb h
  · cases e1
    have key : ∃ v' w', (Builtin.append_ #[t, t] ty #[.slice sa l.length l.length, u]).run P w = .ok v' w' ∧ Kp F w w' ∧ Sl enc sz e w' (fun b => F b ∨ w.heap.size ≤ b) v' (l ++ r) := by
      obtain ⟨ya, yc, rfl, hyc, hyr⟩ := hr
      have hnl := flat_length hsz r
      have hnews : 0 < (r.flatMap enc).length → ∃ b o, ya = some ⟨b, o, none⟩ ∧ ∀ j v, (r.flatMap enc)[j]? = some v → w.cell? ⟨b, o + j, none⟩ = some v := by
        intro hp
        obtain ⟨b, o, h2, h3, h4, h5⟩ := hyr hr0
        refine ⟨b, o, h2, fun k c hk => ?_⟩
        obtain ⟨i, x, j, h6, h7, h8, h9⟩ := flat_inv hsz r k c hk
        rw [h8, ← Nat.add_assoc]
        exact h5 i x h6 j c h7
      have holds : 0 < (l.flatMap enc).length → ∃ b o, sa = some ⟨b, o, none⟩ ∧ ∀ j v, (l.flatMap enc)[j]? = some v → w.cell? ⟨b, o + j, none⟩ = some v := by
        intro hp
        have hl0 : 0 < l.length := by
          rcases Nat.eq_zero_or_pos l.length with h0 | h0
          · rw [flat_length hsz l, h0] at hp; omega
          · exact h0
        obtain ⟨b, o, h2, h3, h4, h5⟩ := hcells hl0
        refine ⟨b, o, h2, fun k c hk => ?_⟩
        obtain ⟨i, x, j, h6, h7, h8, h9⟩ := flat_inv hsz l k c hk
        rw [h8, ← Nat.add_assoc]
        exact h5 i x h6 j c h7
      have hc : l.length < l.length + r.length := by omega
      have hrun := run_append_grow' (P := P) (w := w) t ty e hu hi sa l.length l.length (l.flatMap enc) (flat_length hsz l) holds ya r.length yc (r.flatMap enc) hnl hnews hc h63 (growslice_fits hc hb)
      refine ⟨_, _, hrun, ((Kp.drew w).trans (Kp.alloc _ _)).of_none, .inr ⟨w.heap.size, 0, _, _, by rw [List.length_append], .inr (Nat.le_refl _), Blk.new w.drew _, ?_, ?_, ?_, ?_⟩⟩
      · rw [List.length_append]; exact grownCap_ge w _ l.length e
      · have := grownCap_le_maxLen w (l.length + r.length) l.length e (by simp only [maxLen]; omega)
        simpa [maxLen] using this
      · have hge := grownCap_ge w (l.length + r.length) l.length e
        simp only [Array.size_append, List.size_toArray, size_zeroCells, hz, flat_length hsz]
        rw [← Nat.add_mul, ← Nat.add_mul, Nat.zero_add]
        exact Nat.mul_le_mul_right _ (by omega)
      · intro i x hx j c hjc
        rw [Nat.zero_add]
        have h7 := flat_get hsz (l ++ r) i x hx j c hjc
        rw [List.flatMap_append] at h7
        have h8 : i * sz + j < (l.flatMap enc ++ r.flatMap enc).length := (List.getElem?_eq_some_iff.1 h7).1
        rw [Array.getElem?_append_left (by simpa using h8)]
        rw [show (l.flatMap enc).toArray ++ (r.flatMap enc).toArray = (l.flatMap enc ++ r.flatMap enc).toArray from by simp]
        simpa using h7
    obtain ⟨v', w', hrun, h2, h3⟩ := key
    refine wl_val rfl (v := v') (w' := w') ?_ (h v' w' h2 h3)
    simp only [execOp, resolve, invoke, builtin, Sem.run_bind, Sem.run_pure, Result.andThen_ok, List.map_toArray, List.map_cons, List.map_nil, eval_fr hx, eval_fr hy, hv, hw, hrun]
end
end Go.Wk

namespace Go.Wk
set_option linter.unusedVariables false

/-! ## 16. Maps: a list of keys and values -/
section
variable {α β : Type}
def Stmp (es : List MapEntry) (c : Nat) : Prop := (∀ e ∈ es, e.born < c) ∧ (es.map (·.born)).Nodup
/-- Block r is a map of these keys and values. -/
def Mp (ek : α → Value) (ev : β → Value) (w : World) (r : Nat) (l : List (α × β)) : Prop := ∃ es c, Blk w r (.map es c) ∧ es.toList.map (fun e => (e.key, e.val)) = l.map (fun p => (ek p.1, ev p.2)) ∧ Stmp es.toList c
variable {ek : α → Value} {ev : β → Value} {w w' : World} {r : Nat} {l : List (α × β)} {S : Nat → Prop}
theorem Mp.kp (h : Mp ek ev w r l) (hk : Kp S w w') (hs : ¬ S r) : Mp ek ev w' r l := let ⟨es, c, h1, h2⟩ := h; ⟨es, c, h1.kp hk hs, h2⟩
theorem Mp.keep (h : Mp ek ev w r l) (hk : Kp none_ w w') : Mp ek ev w' r l := h.kp hk (fun h => h)
theorem Mp.lt (h : Mp ek ev w r l) : r < w.heap.size := let ⟨_, _, h1, _⟩ := h; h1.lt
theorem Mp.new (ek : α → Value) (ev : β → Value) (h : Blk w r (.map #[] 0)) : Mp ek ev w r [] := ⟨_, _, h, rfl, fun e he => by simp at he, by simp⟩
variable {P : Program} {n : NN} {f : Nat → Value} {Q : Exit → Act → World → Prop} {ops : Array Oper} {rest : List Oper} {d : Option Nat} {ty : TypeId} {ps : String} {es : Array Edge} {t k e : TypeId}
theorem Mp.ne_cells {b : Nat} {A : Array Value} {e : TypeId} {fz : Nat × Nat} (h : Mp ek ev w r l) (hb : Blk w b (.cells A e fz)) : b ≠ r := fun he => by
  subst he; obtain ⟨es, c, h, _⟩ := h; exact absurd (hb.eq h) (by simp)
theorem Mp.size (h : Mp ek ev w r l) : ∃ es c, Blk w r (.map es c) ∧ es.size = l.length := by
  obtain ⟨es, c, h1, h2, h3⟩ := h
  refine ⟨es, c, h1, ?_⟩
  have := congrArg List.length h2
  simpa using this
theorem rf_lenM {x : Operand} (hu : P.underlying t = some (.map k e)) (hx : okx n x = true) (hv : Go.Wk.ev f x = .map (some r)) (hm : Mp ek ev w r l) :
    (execOp (fr n f).eval ⟨d, .call { callee := .builtin .len, args := #[x], argTypes := #[t] }, ty, ps, es, none⟩).run P w = .ok (.value (.int .i64 (l.length : Nat))) w := by
  obtain ⟨es', c, h1, h2⟩ := hm.size
  rw [← h2]
  exact rf_len_map hu hx hv h1
theorem run_getM {es' : Array MapEntry} {c : Nat} (h : Blk w r (.map es' c)) : (getObj r).run P w = .ok (.map es' c) w := by
  have h' : w.heap[r]? = some (.map es' c) := h
  simp [getObj, Sem.run, h']
theorem run_setM {es' : Array MapEntry} {c : Nat} (o : Obj) (h : Blk w r (.map es' c)) : (setObj r o).run P w = .ok () { w with heap := w.heap.setIfInBounds r o } := by
  have h' : w.heap[r]? = some (.map es' c) := h
  simp [setObj, Sem.run, h']
theorem Kp.setM (w : World) (r : Nat) (o : Obj) : Kp (fun b => b = r) w { w with heap := w.heap.setIfInBounds r o } :=
  ⟨rfl, rfl, rfl, by simp, fun k hk hs => by simp [Ne.symm hs], Nat.le_refl _⟩
theorem Blk.setM {o o' : Obj} (h : Blk w r o') : Blk { w with heap := w.heap.setIfInBounds r o } r o := by
  have := h.lt
  simp [Blk, this]
theorem split_at {es' : List MapEntry} {l1 l2 : List (α × β)} {a : α} {u : β} (h : es'.map (fun e => (e.key, e.val)) = (l1 ++ (a, u) :: l2).map (fun p => (ek p.1, ev p.2))) :
    ∃ e1 e0 e2, es' = e1 ++ e0 :: e2 ∧ e1.length = l1.length ∧ e0.key = ek a ∧ e0.val = ev u ∧ e1.map (fun e => (e.key, e.val)) = l1.map (fun p => (ek p.1, ev p.2)) ∧ e2.map (fun e => (e.key, e.val)) = l2.map (fun p => (ek p.1, ev p.2)) := by
  rw [List.map_append, List.map_cons, List.map_eq_append_iff] at h
  obtain ⟨e1, e2, rfl, h1, h2⟩ := h
  rw [List.map_eq_cons_iff] at h2
  obtain ⟨e0, e2', rfl, h3, h4⟩ := h2
  simp only [Prod.mk.injEq] at h3
  refine ⟨e1, e0, e2', rfl, ?_, h3.1, h3.2, h1, h4⟩
  have := congrArg List.length h1
  simpa using this
theorem modify_mid {β : Type} (g : β → β) (e0 : β) (e2 : List β) : ∀ e1 : List β, (e1 ++ e0 :: e2).modify e1.length g = e1 ++ g e0 :: e2
  | [] => rfl
  | x :: r => by simp [modify_mid g e0 e2 r]
end
section
variable {α β : Type} [DecidableEq α]
def getL : List (α × β) → α → Option β
  | [], _ => none
  | p :: r, a => if a = p.1 then some p.2 else getL r a
def putL : List (α × β) → α → β → List (α × β)
  | [], a, v => [(a, v)]
  | p :: r, a, v => if a = p.1 then (a, v) :: r else p :: putL r a v
def delL : List (α × β) → α → List (α × β)
  | [], _ => []
  | p :: r, a => if a = p.1 then r else p :: delL r a
def fndL (a : α) : List (α × β) → Nat → Option (Nat × β)
  | [], _ => none
  | p :: r, i => if a = p.1 then some (i, p.2) else fndL a r (i + 1)
theorem getL_pos {p : α × β} {r : List (α × β)} {a : α} (h : a = p.1) : getL (p :: r) a = some p.2 := by simp [getL, h]
theorem getL_neg {p : α × β} {r : List (α × β)} {a : α} (h : ¬ a = p.1) : getL (p :: r) a = getL r a := by simp [getL, h]
theorem getL_putL (l : List (α × β)) (a b : α) (v : β) : getL (putL l a v) b = if b = a then some v else getL l b := by
  induction l with
  | nil => simp [putL, getL]
  | cons p r ih =>
    unfold putL
    by_cases h : a = p.1
    · rw [if_pos h]
      simp only [getL]
      by_cases h2 : b = a
      · rw [if_pos h2, if_pos h2]
      · rw [if_neg h2, if_neg h2, if_neg (fun e => h2 (e.trans h.symm))]
    · rw [if_neg h]
      simp only [getL]
      by_cases h2 : b = p.1
      · rw [if_pos h2, if_pos h2, if_neg (fun e => h (e.symm.trans h2))]
      · rw [if_neg h2, ih, if_neg h2]
theorem getL_none {l : List (α × β)} {a : α} (h : ∀ p ∈ l, a ≠ p.1) : getL l a = none := by
  induction l with
  | nil => rfl
  | cons p r ih =>
    simp only [getL]
    rw [if_neg (h p (by simp)), ih (fun q hq => h q (by simp [hq]))]
theorem getL_delL {l : List (α × β)} (hn : (l.map (·.1)).Nodup) (a b : α) : getL (delL l a) b = if b = a then none else getL l b := by
  induction l with
  | nil => simp [delL, getL]
  | cons p r ih =>
    rw [List.map_cons, List.nodup_cons] at hn
    unfold delL
    by_cases h : a = p.1
    · rw [if_pos h]
      by_cases h2 : b = a
      · rw [if_pos h2]
        refine getL_none (fun q hq e => hn.1 ?_)
        rw [← h, ← h2, e]; exact List.mem_map.2 ⟨q, hq, rfl⟩
      · rw [if_neg h2]; simp only [getL]; rw [if_neg (fun e => h2 (e.trans h.symm))]
    · rw [if_neg h]
      simp only [getL]
      by_cases h2 : b = p.1
      · rw [if_pos h2, if_pos h2, if_neg (fun e => h (e.symm.trans h2))]
      · rw [if_neg h2, ih hn.2, if_neg h2]
theorem getL_mem {l : List (α × β)} {a : α} {v : β} (h : getL l a = some v) : (a, v) ∈ l := by
  induction l with
  | nil => simp [getL] at h
  | cons p r ih =>
    simp only [getL] at h
    split at h
    · rename_i e; cases h; obtain ⟨p1, p2⟩ := p; simp_all
    · exact List.mem_cons_of_mem _ (ih h)
theorem mem_getL {l : List (α × β)} (hn : (l.map (·.1)).Nodup) {a : α} {v : β} (h : (a, v) ∈ l) : getL l a = some v := by
  induction l with
  | nil => simp at h
  | cons p r ih =>
    rw [List.map_cons, List.nodup_cons] at hn
    simp only [getL]
    rcases List.mem_cons.1 h with h | h
    · subst h; simp
    · rw [if_neg (fun e => hn.1 (by rw [← e]; exact List.mem_map.2 ⟨_, h, rfl⟩)), ih hn.2 h]
theorem putL_keys (l : List (α × β)) (a : α) (v : β) : (putL l a v).map (·.1) = if (getL l a).isSome then l.map (·.1) else l.map (·.1) ++ [a] := by
  induction l with
  | nil => simp [putL, getL]
  | cons p r ih =>
    unfold putL
    by_cases h : a = p.1
    · rw [if_pos h, getL_pos h]; simp [h]
    · rw [if_neg h, getL_neg h, List.map_cons, ih]; split <;> simp
theorem getL_some_of_mem {l : List (α × β)} {a : α} (h : a ∈ l.map (·.1)) : (getL l a).isSome := by
  induction l with
  | nil => simp at h
  | cons p r ih =>
    simp only [getL]
    split
    · rfl
    · rename_i e
      rw [List.map_cons, List.mem_cons] at h
      exact ih (h.resolve_left e)
theorem putL_nodup {l : List (α × β)} (hn : (l.map (·.1)).Nodup) (a : α) (v : β) : ((putL l a v).map (·.1)).Nodup := by
  rw [putL_keys]
  split
  · exact hn
  · rename_i h
    rw [List.nodup_append]
    refine ⟨hn, by simp, fun x hx y hy => ?_⟩
    rw [List.mem_singleton] at hy
    subst hy
    intro e; subst e
    exact h (getL_some_of_mem hx)
theorem putL_length (l : List (α × β)) (a : α) (v : β) : (putL l a v).length = if (getL l a).isSome then l.length else l.length + 1 := by
  have := congrArg List.length (putL_keys l a v)
  rw [List.length_map] at this
  rw [this]; split <;> simp
theorem delL_sub (l : List (α × β)) (a : α) : (delL l a).Sublist l := by
  induction l with
  | nil => exact List.Sublist.refl _
  | cons p r ih =>
    unfold delL
    split
    · exact List.sublist_cons_self _ _
    · exact ih.cons_cons _
theorem delL_nodup {l : List (α × β)} (hn : (l.map (·.1)).Nodup) (a : α) : ((delL l a).map (·.1)).Nodup := hn.sublist ((delL_sub l a).map _)
theorem delL_length (l : List (α × β)) (a : α) : (delL l a).length = if (getL l a).isSome then l.length - 1 else l.length := by
  induction l with
  | nil => simp [delL, getL]
  | cons p r ih =>
    unfold delL
    by_cases h : a = p.1
    · rw [if_pos h, getL_pos h]; simp
    · rw [if_neg h, getL_neg h, List.length_cons, ih]
      split
      · rename_i h2
        have : 0 < r.length := by
          cases r with
          | nil => simp [getL] at h2
          | cons _ _ => simp
        simp; omega
      · simp
theorem delL_none {l : List (α × β)} {a : α} (h : getL l a = none) : delL l a = l := by
  induction l with
  | nil => rfl
  | cons p r ih =>
    by_cases e : a = p.1
    · rw [getL_pos e] at h; cases h
    · rw [getL_neg e] at h
      unfold delL
      rw [if_neg e, ih h]
theorem fndL_spec (a : α) : ∀ (l : List (α × β)) (i : Nat), (fndL a l i = none ∧ getL l a = none ∧ (∀ v, putL l a v = l ++ [(a, v)]) ∧ delL l a = l) ∨
    ∃ l1 u l2, l = l1 ++ (a, u) :: l2 ∧ fndL a l i = some (i + l1.length, u) ∧ getL l a = some u ∧ (∀ v, putL l a v = l1 ++ (a, v) :: l2) ∧ delL l a = l1 ++ l2
  | [], i => .inl ⟨rfl, rfl, fun _ => rfl, rfl⟩
  | p :: r, i => by
    by_cases h : a = p.1
    · right
      refine ⟨[], p.2, r, by rw [h]; rfl, ?_, ?_, fun v => ?_, ?_⟩
      · simp [fndL, h]
      · simp [getL, h]
      · simp [putL, h]
      · simp [delL, h]
    · rcases fndL_spec a r (i + 1) with ⟨h1, h2, h3, h4⟩ | ⟨l1, u, l2, h0, h1, h2, h3, h4⟩
      · left
        refine ⟨by simp [fndL, h, h1], by simp [getL, h, h2], fun v => by simp [putL, h, h3], by simp [delL, h, h4]⟩
      · right
        refine ⟨p :: l1, u, l2, by rw [h0]; rfl, ?_, by simp [getL, h, h2], fun v => by simp [putL, h, h3], by simp [delL, h, h4]⟩
        simp only [fndL, if_neg h, h1, List.length_cons]
        congr 2; omega
/-- What a map's key type must bear: keys are 'ek a'. -/
structure KL (P : Program) (k : TypeId) (ek : α → Value) : Prop where
  check : ∀ (w : World) (em : Bool) (a : α), (Instr.checkKey em 10000 k (ek a)).run P w = .ok () w
  find : ∀ {β : Type} (ev : β → Value) (w : World) (a : α) (es : List MapEntry) (l : List (α × β)), es.map (fun e => (e.key, e.val)) = l.map (fun p => (ek p.1, ev p.2)) → (Instr.findKey k (ek a) es).run P w = .ok ((fndL a l 0).map fun q => (q.1, ev q.2)) w
  stays : ∀ (w : World) (a : α), (Instr.keyThatStays (ek a) (ek a)).run P w = .ok (ek a) w
theorem fnd_now {kd : TypeDesc} {ek : α → Value} {ev : β → Value} (h : ∀ a b, Instr.sameNow kd (ek a) (ek b) = some (decide (a = b))) (a : α) : ∀ (es : List MapEntry) (l : List (α × β)) (i : Nat), es.map (fun e => (e.key, e.val)) = l.map (fun p => (ek p.1, ev p.2)) → Instr.findNow kd (ek a) es i = some ((fndL a l i).map fun q => (q.1, ev q.2))
  | [], [], i, _ => rfl
  | [], _ :: _, i, h => by simp at h
  | _ :: _, [], i, h => by simp at h
  | e :: es, p :: l, i, he => by
    simp only [List.map_cons, List.cons.injEq, Prod.mk.injEq] at he
    obtain ⟨⟨h1, h2⟩, h3⟩ := he
    simp only [Instr.findNow, h1, h, fndL]
    by_cases hd : a = p.1
    · simp [hd, h2]
    · simp [hd, fnd_now h a es l (i + 1) h3]
theorem KL.now {P : Program} {k : TypeId} {kd : TypeDesc} {ek : α → Value} (hu : P.underlying k = some kd) (h : ∀ a b, Instr.sameNow kd (ek a) (ek b) = some (decide (a = b))) (hc : ∀ (w : World) (em : Bool) (a : α), (Instr.checkKey em 10000 k (ek a)).run P w = .ok () w) (hs : ∀ a, Instr.sameBits 10000 (ek a) (ek a) = true) : KL P k ek where
  check := hc
  find ev w a es l he := by
    simp [Instr.findKey, run_underlying hu, fnd_now h a es l 0 he]
  stays w a := by simp [Instr.keyThatStays, hs]
theorem fnd_ask {P : Program} {k : TypeId} {w : World} {ek : α → Value} {ev : β → Value} (h : ∀ a b, (Op.equal k (ek a) (ek b)).run P w = .ok (decide (a = b)) w) (a : α) : ∀ (es : List MapEntry) (l : List (α × β)) (i : Nat), es.map (fun e => (e.key, e.val)) = l.map (fun p => (ek p.1, ev p.2)) → (Instr.findAsking k (ek a) es i).run P w = .ok ((fndL a l i).map fun q => (q.1, ev q.2)) w
  | [], [], i, _ => rfl
  | [], _ :: _, i, h => by simp at h
  | _ :: _, [], i, h => by simp at h
  | e :: es, p :: l, i, he => by
    simp only [List.map_cons, List.cons.injEq, Prod.mk.injEq] at he
    obtain ⟨⟨h1, h2⟩, h3⟩ := he
    simp only [Instr.findAsking, h1, Sem.run_bind, h, Result.andThen, fndL]
    by_cases hd : a = p.1
    · simp [hd, h2]
    · simp [hd, fnd_ask h a es l (i + 1) h3]
theorem KL.ask {P : Program} {k : TypeId} {kd : TypeDesc} {ek : α → Value} (hu : P.underlying k = some kd) (h0 : ∀ a v, Instr.sameNow kd (ek a) v = none) (h : ∀ (w : World) a b, (Op.equal k (ek a) (ek b)).run P w = .ok (decide (a = b)) w) (hc : ∀ (w : World) (em : Bool) (a : α), (Instr.checkKey em 10000 k (ek a)).run P w = .ok () w) (hs : ∀ a, Instr.sameBits 10000 (ek a) (ek a) = true) : KL P k ek where
  check := hc
  find ev w a es l he := by
    cases es with
    | nil =>
      cases l with
      | nil => simp [Instr.findKey, run_underlying hu, Instr.findNow, fndL]
      | cons _ _ => simp at he
    | cons e es =>
      simp only [Instr.findKey, Sem.run_bind, run_underlying hu, Result.andThen, Instr.findNow, h0]
      exact fnd_ask (h w) a (e :: es) l 0 he
  stays w a := by simp [Instr.keyThatStays, hs]

variable {ek : α → Value} {ev : β → Value} {w w' : World} {r : Nat} {l : List (α × β)} {S : Nat → Prop}
variable {P : Program} {n : NN} {f : Nat → Value} {Q : Exit → Act → World → Prop} {ops : Array Oper} {rest : List Oper} {d : Option Nat} {ty : TypeId} {ps : String} {es : Array Edge} {t k e : TypeId}
theorem rf_lookup {x y : Operand} {a : α} {z : Value} {size bytes : Nat} (K : KL P k ek) (hu : P.underlying t = some (.map k e)) (hi : TI P e (some z) size bytes) (hx : okx n x = true) (hy : okx n y = true) (hv : Go.Wk.ev f x = .map (some r)) (hw : Go.Wk.ev f y = ek a) (hm : Mp ek ev w r l) :
    (execOp (fr n f).eval ⟨d, .lookup t x y false, ty, ps, es, none⟩).run P w = .ok (.value (((getL l a).map ev).getD z)) w := by
  obtain ⟨es', c, h1, h2, h3⟩ := hm
  simp only [execOp, eval_fr hx, eval_fr hy, hv, hw]
  rcases fndL_spec a l 0 with ⟨g1, g2, _⟩ | ⟨l1, u, l2, _, g1, g2, _⟩
  · simp [Instr.lookup, run_underlying hu, run_getM h1, K.check, K.find ev w a es'.toList l h2, g1, g2, run_zeroValue' hi, Result.andThen]
  · simp [Instr.lookup, run_underlying hu, run_getM h1, K.check, K.find ev w a es'.toList l h2, g1, g2, Result.andThen]
theorem rf_lookup2 {x y : Operand} {a : α} {z : Value} {size bytes : Nat} (K : KL P k ek) (hu : P.underlying t = some (.map k e)) (hi : TI P e (some z) size bytes) (hx : okx n x = true) (hy : okx n y = true) (hv : Go.Wk.ev f x = .map (some r)) (hw : Go.Wk.ev f y = ek a) (hm : Mp ek ev w r l) :
    (execOp (fr n f).eval ⟨d, .lookup t x y true, ty, ps, es, none⟩).run P w = .ok (.value (.tuple #[((getL l a).map ev).getD z, .bool (getL l a).isSome])) w := by
  obtain ⟨es', c, h1, h2, h3⟩ := hm
  simp only [execOp, eval_fr hx, eval_fr hy, hv, hw]
  rcases fndL_spec a l 0 with ⟨g1, g2, _⟩ | ⟨l1, u, l2, _, g1, g2, _⟩
  · simp [Instr.lookup, run_underlying hu, run_getM h1, K.check, K.find ev w a es'.toList l h2, g1, g2, run_zeroValue' hi, Result.andThen]
  · simp [Instr.lookup, run_underlying hu, run_getM h1, K.check, K.find ev w a es'.toList l h2, g1, g2, Result.andThen]
theorem wl_mapUpdate {x y z : Operand} {a : α} {u : β} (K : KL P k ek) (hu : P.underlying t = some (.map k e)) (hx : okx n x = true) (hy : okx n y = true) (hz : okx n z = true) (hv : Go.Wk.ev f x = .map (some r)) (hw : Go.Wk.ev f y = ek a) (hw2 : Go.Wk.ev f z = ev u) (hm : Mp ek ev w r l)
    (h : ∀ w', Kp (fun b => b = r) w w' → Mp ek ev w' r (putL l a u) → WL P ops Q rest n (putD f d undef) w') : WL P ops Q (⟨d, .mapUpdate t x y z, ty, ps, es, none⟩ :: rest) n f w := by
  obtain ⟨es', c, h1, h2, h3, h4⟩ := hm
  rcases fndL_spec a l 0 with ⟨g1, g2, g3, _⟩ | ⟨l1, u0, l2, g0, g1, g2, g3, _⟩
  · refine wl_skip rfl (w' := { w with heap := w.heap.setIfInBounds r (.map (es'.push ⟨ek a, ev u, c⟩) (c + 1)) }) ?_ (h _ (Kp.setM _ _ _) ⟨_, _, h1.setM, ?_, ?_⟩)
    · simp only [execOp, eval_fr hx, eval_fr hy, eval_fr hz, hv, hw, hw2]
      simp [Instr.mapUpdate, run_underlying hu, run_getM h1, K.check, K.find ev w a es'.toList l h2, g1, run_setM _ h1, Result.andThen]
    · rw [g3, Array.toList_push, List.map_append, List.map_append, h2]; rfl
    · rw [Array.toList_push]
      refine ⟨fun e he => ?_, ?_⟩
      · rcases List.mem_append.1 he with he | he
        · exact Nat.lt_succ_of_lt (h3 e he)
        · rw [List.mem_singleton] at he; subst he; exact Nat.lt_succ_self _
      · rw [List.map_append, List.nodup_append]
        refine ⟨h4, by simp, fun x hx y hy => ?_⟩
        simp only [List.map_cons, List.map_nil, List.mem_singleton] at hy
        subst hy
        obtain ⟨e, he, rfl⟩ := List.mem_map.1 hx
        exact Nat.ne_of_lt (h3 e he)
  · rw [g0] at h2
    obtain ⟨e1, e0, e2, q1, q2, q3, q4, q5, q6⟩ := split_at h2
    have hel : es'[0 + l1.length]? = some e0 := by
      rw [← Array.getElem?_toList, q1, Nat.zero_add, List.getElem?_append_right (by omega), q2]; simp
    have hmod : (es'.modify (0 + l1.length) (fun e => { e with key := ek a, val := ev u })).toList = e1 ++ { e0 with key := ek a, val := ev u } :: e2 := by
      rw [Array.toList_modify, q1, Nat.zero_add, ← q2, modify_mid]
    refine wl_skip rfl (w' := { w with heap := w.heap.setIfInBounds r (.map (es'.modify (0 + l1.length) (fun e => { e with key := ek a, val := ev u })) c) }) ?_ (h _ (Kp.setM _ _ _) ⟨_, _, h1.setM, ?_, ?_⟩)
    · simp only [execOp, eval_fr hx, eval_fr hy, eval_fr hz, hv, hw, hw2]
      have h2' := h2
      rw [← g0] at h2'
      simp only [Nat.zero_add] at g1 hel
      simp [Instr.mapUpdate, run_underlying hu, run_getM h1, K.check, K.find ev w a es'.toList l h2', g1, hel, q3, K.stays, run_setM _ h1, Result.andThen]
    · rw [hmod, g3]; simp [q5, q6]
    · rw [hmod]
      rw [q1] at h3 h4
      refine ⟨fun e he => ?_, ?_⟩
      · rcases List.mem_append.1 he with he | he
        · exact h3 e (by simp [he])
        · rcases List.mem_cons.1 he with rfl | he
          · exact h3 e0 (by simp)
          · exact h3 e (by simp [he])
      · simpa using h4
theorem wl_delete {x y : Operand} {a : α} {kt : TypeId} (K : KL P k ek) (hu : P.underlying t = some (.map k e)) (hx : okx n x = true) (hy : okx n y = true) (hv : Go.Wk.ev f x = .map (some r)) (hw : Go.Wk.ev f y = ek a) (hm : Mp ek ev w r l)
    (h : ∀ w', Kp (fun b => b = r) w w' → Mp ek ev w' r (delL l a) → WL P ops Q rest n (putD f d (.tuple #[])) w') : WL P ops Q (⟨d, .call { callee := .builtin .delete, args := #[x, y], argTypes := #[t, kt] }, ty, ps, es, none⟩ :: rest) n f w := by
  obtain ⟨es', c, h1, h2, h3, h4⟩ := hm
  rcases fndL_spec a l 0 with ⟨g1, g2, _, g4⟩ | ⟨l1, u0, l2, g0, g1, g2, _, g4⟩
  · refine wl_val rfl (v := .tuple #[]) (w' := { w with heap := w.heap.setIfInBounds r (.map es' c) }) ?_ (h _ (Kp.setM _ _ _) ⟨_, _, h1.setM, by rw [g4]; exact h2, h3, h4⟩)
    simp only [execOp, resolve, invoke, builtin, Sem.run_bind, Sem.run_pure, Result.andThen_ok, List.map_toArray, List.map_cons, List.map_nil, eval_fr hx, eval_fr hy, hv, hw]
    simp [Builtin.delete_, run_underlying hu, run_getM h1, K.check, K.find ev w a es'.toList l h2, g1, run_setM _ h1, Result.andThen]
  · have h2' := h2
    rw [g0] at h2
    obtain ⟨e1, e0, e2, q1, q2, q3, q4, q5, q6⟩ := split_at h2
    have hlt : l1.length < es'.size := by
      have := congrArg List.length q1
      simp at this
      omega
    have her : (es'.eraseIdxIfInBounds l1.length).toList = e1 ++ e2 := by
      unfold Array.eraseIdxIfInBounds
      rw [dif_pos hlt]
      simp only [Array.toList_eraseIdx, q1]
      rw [← q2]
      simp [List.eraseIdx_append]
    refine wl_val rfl (v := .tuple #[]) (w' := { w with heap := w.heap.setIfInBounds r (.map (es'.eraseIdxIfInBounds l1.length) c) }) ?_ (h _ (Kp.setM _ _ _) ⟨_, _, h1.setM, ?_, ?_⟩)
    · simp only [execOp, resolve, invoke, builtin, Sem.run_bind, Sem.run_pure, Result.andThen_ok, List.map_toArray, List.map_cons, List.map_nil, eval_fr hx, eval_fr hy, hv, hw]
      simp only [Nat.zero_add] at g1
      simp [Builtin.delete_, run_underlying hu, run_getM h1, K.check, K.find ev w a es'.toList l h2', g1, run_setM _ h1, Result.andThen]
    · rw [her, g4]; simp [q5, q6]
    · rw [her]
      rw [q1] at h3 h4
      refine ⟨fun e he => h3 e ?_, ?_⟩
      · rcases List.mem_append.1 he with he | he
        · simp [he]
        · simp [he]
      · refine h4.sublist ?_
        simp
end
end Go.Wk

namespace Go.Wk
set_option linter.unusedVariables false

/-! ## 17. More operations -/
section
variable {P : Program} {n : NN} {f : Nat → Value} {w : World} {d : Option Nat} {ty : TypeId} {ps : String} {es : Array Edge} {t yt : TypeId} {x y : Operand}
theorem rf_xor {k : IntKind} {a b c : Int} (hx : okx n x = true) (hy : okx n y = true) (hv : ev f x = .int k a) (hw : ev f y = .int k b) (hc : bits .xor k a b = c) : (execOp (fr n f).eval ⟨d, .binOp .xor t x y yt, ty, ps, es, none⟩).run P w = .ok (.value (.int k c)) w := by
  subst hc
  simp [execOp, eval_fr hx, eval_fr hy, hv, hw, eqGuard, binOp, Op.intBits, bits]
theorem rf_shr {k k2 : IntKind} {a b c : Int} (hx : okx n x = true) (hy : okx n y = true) (hv : ev f x = .int k a) (hw : ev f y = .int k2 b) (h0 : 0 ≤ b) (h1 : b ≤ k.bits) (hc : a / 2 ^ b.toNat = c) : (execOp (fr n f).eval ⟨d, .binOp .shr t x y yt, ty, ps, es, none⟩).run P w = .ok (.value (.int k c)) w := by
  subst hc
  simp [execOp, eval_fr hx, eval_fr hy, hv, hw, eqGuard, binOp, shift_shr k k2 a b h0 h1]
theorem rf_indexA {e : TypeId} {len i : Nat} {cs : Array Value} {td : TypeDesc} {z : Option Value} {bytes : Nat} {v : Value} (hu : P.underlying t = some (.array len e)) (hue : P.underlying e = some td) (hna : isAggD td = false) (hi : TI P e z 1 bytes) (hx : okx n x = true) (hy : okx n y = true) (hv : ev f x = .agg cs) (hw : ev f y = .int .i64 (i : Int)) (hl : i < len) (hc : cs[i]? = some v) :
    (execOp (fr n f).eval ⟨d, .index t x y, ty, ps, es, none⟩).run P w = .ok (.value v) w := by
  have hp := part_one (P := P) (w := w) (o := i) hue hna hc
  simp [execOp, eval_fr hx, eval_fr hy, hv, hw, Instr.index, asIntOf, run_underlying hu, run_sizeOf' hi, hp, hl]
theorem rf_indexAddrA {e : TypeId} {b o len : Nat} {i : Int} {z : Option Value} {size bytes : Nat} (hu : P.underlying t = some (.array len e)) (hi : TI P e z size bytes) (hx : okx n x = true) (hy : okx n y = true)
    (hv : ev f x = .pointer (some ⟨b, o, none⟩)) (hw : ev f y = .int .i64 i) (h0 : 0 ≤ i) (h1 : i < len) :
    (execOp (fr n f).eval ⟨d, .indexAddr t x y, ty, ps, es, none⟩).run P w = .ok (.value (.pointer (some ⟨b, o + i.toNat * size, none⟩))) w := by
  simp only [execOp]; rw [eval_fr hx, hv, eval_fr hy, hw]
  simp [Instr.indexAt, run_underlying hu, asIntOf, h0, h1, run_sizeOf' hi, add_at, Instr.sureAddr]
theorem rf_eqlSN {e : TypeId} {a : Option Addr} {len cap : Nat} (hu : P.underlying t = some (.slice e)) (hx : okx n x = true) (hy : okx n y = true) (hv : ev f x = .slice a len cap) (hw : ev f y = .slice none 0 0) :
    (execOp (fr n f).eval ⟨d, .binOp .eql t x y yt, ty, ps, es, none⟩).run P w = .ok (.value (.bool a.isNone)) w := by
  have he0 : ∀ d, (Op.equalIn (d + 1) t (.slice a len cap) (.slice none 0 0)).run P w = .ok a.isNone w := by
    intro d; cases a <;> simp [Op.equalIn, run_underlying hu]
  have he' : (Op.equal t (.slice a len cap) (.slice none 0 0)).run P w = .ok a.isNone w := he0 9999
  simp [execOp, eval_fr hx, eval_fr hy, hv, hw, eqGuard, binOp, he']
theorem rf_neqSN {e : TypeId} {a : Option Addr} {len cap : Nat} (hu : P.underlying t = some (.slice e)) (hx : okx n x = true) (hy : okx n y = true) (hv : ev f x = .slice a len cap) (hw : ev f y = .slice none 0 0) :
    (execOp (fr n f).eval ⟨d, .binOp .neq t x y yt, ty, ps, es, none⟩).run P w = .ok (.value (.bool a.isSome)) w := by
  have he0 : ∀ d, (Op.equalIn (d + 1) t (.slice a len cap) (.slice none 0 0)).run P w = .ok a.isNone w := by
    intro d; cases a <;> simp [Op.equalIn, run_underlying hu]
  have he' : (Op.equal t (.slice a len cap) (.slice none 0 0)).run P w = .ok a.isNone w := he0 9999
  simp [execOp, eval_fr hx, eval_fr hy, hv, hw, eqGuard, binOp, he']
theorem rf_eqlFN {td : TypeDesc} {k : FuncId} {fs cs : Array Value} (hu : P.underlying t = some td) (htd : ∃ a b c, td = .func a b c) (hx : okx n x = true) (hy : okx n y = true) (hv : ev f x = .func (.func k) fs cs) (hw : ev f y = .nilFunc) :
    (execOp (fr n f).eval ⟨d, .binOp .eql t x y yt, ty, ps, es, none⟩).run P w = .ok (.value (.bool false)) w := by
  obtain ⟨a, b, c, rfl⟩ := htd
  have he0 : ∀ d, (Op.equalIn (d + 1) t (.func (.func k) fs cs) .nilFunc).run P w = .ok false w := by
    intro d; simp [Op.equalIn, run_underlying hu]
  have he' : (Op.equal t (.func (.func k) fs cs) .nilFunc).run P w = .ok false w := he0 9999
  simp [execOp, eval_fr hx, eval_fr hy, hv, hw, eqGuard, binOp, he']
end
section
variable {α : Type} {enc : α → List Value} {sz : Nat} {e : TypeId} {w : World} {b o cap : Nat} {l : List α} {P : Program} {n : NN} {f : Nat → Value} {Q : Exit → Act → World → Prop} {ops : Array Oper} {rest : List Oper} {d : Option Nat} {ty : TypeId} {ps : String} {es : Array Edge}
/-- clear(s[i:]): what stands ahead of i stays. -/
theorem wl_clearTail {t : TypeId} {x : Operand} {i m c : Nat} {a : Option Addr} {z : Value} {bytes : Nat} (hu : P.underlying t = some (.slice e)) (hi : TI P e (some z) sz bytes) (hz : z.cells.size = sz) (hz1 : ∀ u ∈ z.cells.toList, u.oneCell' = true) (hx : okx n x = true) (hv : ev f x = .slice a m c) (ha : 0 < m → a = some ⟨b, o + i * sz, none⟩) (him : i + m ≤ l.length) (hs : SlAt enc sz e w b o cap l)
    (hsz : ∀ x, (enc x).length = sz)
    (h : ∀ w', Kp (fun k => k = b) w w' → SlAt enc sz e w' b o cap (l.take i) → WL P ops Q rest n (putD f d (.tuple #[])) w') : WL P ops Q (⟨d, .call { callee := .builtin .clear, args := #[x], argTypes := #[t] }, ty, ps, es, none⟩ :: rest) n f w := by
  obtain ⟨A, h1, h2, h3, h4, h5⟩ := hs
  rcases Nat.eq_zero_or_pos m with rfl | hm
  · refine wl_val rfl (v := .tuple #[]) (w' := w) ?_ (h w (Kp.refl _) (SlAt.take ⟨A, h1, h2, h3, h4, h5⟩ i))
    simp only [execOp, resolve, invoke, builtin, Sem.run_bind, Sem.run_pure, Result.andThen_ok, List.map_toArray, List.map_cons, List.map_nil, eval_fr hx, hv]
    cases a <;> simp [Builtin.clear_, run_underlying hu]
  · have ha' := ha hm
    subst ha'
    have hlen : (Builtin.zeroCells z.cells m).toList.length = m * sz := by rw [Array.length_toList, size_zeroCells, hz]
    have him2 : (i + m) * sz ≤ cap * sz := Nat.mul_le_mul_right _ (by omega)
    rw [Nat.add_mul] at him2
    have hfit : o + i * sz + 0 + (Builtin.zeroCells z.cells m).toList.length ≤ A.size := by rw [hlen]; omega
    have hone : ∀ v ∈ (Builtin.zeroCells z.cells m).toList, v.oneCell' = true := by
      intro v hv'
      simp only [Builtin.zeroCells, Array.toList_map, List.mem_map, Array.toList_range, List.mem_range] at hv'
      obtain ⟨q, hq, rfl⟩ := hv'
      have hzp : 0 < z.cells.size := by
        rcases Nat.eq_zero_or_pos z.cells.size with h0 | h0
        · rw [h0, Nat.mul_zero] at hq; omega
        · exact h0
      have hlt := Nat.mod_lt q hzp
      refine hz1 _ ?_
      rw [getElem!_pos z.cells _ hlt]
      exact Array.mem_toList_iff.2 (Array.getElem_mem hlt)
    have hst := run_storeCells_at P b (o + i * sz) e (Builtin.zeroCells z.cells m).toList 0 A w h1 hfit hone
    rw [Nat.add_zero] at hst hfit
    refine wl_val rfl (v := .tuple #[]) (w' := w.setRow b (spl A (o + i * sz) (Builtin.zeroCells z.cells m).toList)) ?_ (h _ (Kp.setRow w b _) ⟨_, setRow_heap w b A _ e (0, 0) h1, by simp; omega, h3, by rw [spl_size hfit]; exact h4, fun j y hy q u hq => ?_⟩)
    · simp only [execOp, resolve, invoke, builtin, Sem.run_bind, Sem.run_pure, Result.andThen_ok, List.map_toArray, List.map_cons, List.map_nil, eval_fr hx, hv]
      cases m with
      | zero => omega
      | succ m => simp [Builtin.clear_, run_underlying hu, run_zeroValue' hi, hst, Result.andThen, spl]
    · rw [List.getElem?_take] at hy
      split at hy
      · rename_i hji
        have hqs : q < sz := by rw [← hsz y]; exact (List.getElem?_eq_some_iff.1 hq).1
        have : (j + 1) * sz ≤ i * sz := Nat.mul_le_mul_right _ (by omega)
        rw [Nat.succ_mul] at this
        rw [spl_get_out hfit _ (.inl (by omega))]
        exact h5 j y hy q u hq
      · cases hy
end
end Go.Wk

namespace Go.Wk
set_option linter.unusedVariables false

/-! ## 18. A region that draws its order, some of its operations with an effect: what only reads is taken first -/
def NQ (Q : Exit → Act → World → Prop) : Exit → Act → World → Prop
  | .normal, a, w => Q .normal a w
  | _, _, _ => False
def WH (P : Program) (ops : Array Oper) (Q : Exit → Act → World → Prop) (S : World → Prop) (k : Nat) (listed : Array Bool) (n : NN) (f : Nat → Value) (w : World) : Prop := wpAnyH P .any ops (NQ Q) S k listed (fr n f) w
def HQ (P : Program) (ops : Array Oper) (Q : Exit → Act → World → Prop) (S : World → Prop) (k : Nat) (listed : Array Bool) : Exit → Act → World → Prop
  | .normal, a, w => S w ∧ wpAnyH P .any ops (NQ Q) S k listed a w
  | _, _, _ => False
section
variable {P : Program} {n : NN} {f : Nat → Value} {w : World} {Q : Exit → Act → World → Prop} {id : Nat} {ops : Array Oper} {S : World → Prop} {k i : Nat} {listed : Array Bool} {o : Oper}
theorem region_h {l : List Oper} (S : World → Prop) (hm : P.follows .mixedOrders = true)
    (h : ∀ w', Kp none_ w w' → WH P l.toArray Q S l.length (Array.replicate l.length false) n f w') (hd : nodef l = true := by kernel_rfl) : wr n P (Code.region id l.toArray true) Q (fr n f) w := by
  refine wr_mono (region_any hd hm (wpAny_of_held (S := S) _ _ _ _ (by have := h { w with drawn := w.drawn + 1 } ⟨rfl, rfl, rfl, Nat.le_refl _, fun _ _ _ => rfl, Nat.le_add_right _ _⟩; unfold WH at this; simpa using this))) ?_
  intro e a w hq
  cases e <;> first | exact hq | exact hq.elim
theorem Oper.wp_to {P : Program} {o : Oper} {a : Act} {w : World} {K : Act → World → Prop} {Q1 Q2 : Exit → Act → World → Prop} (h1 : ∀ c a w, Q1 (.panic c) a w → Q2 (.panic c) a w) (h2 : ∀ a w, Q1 .outgrown a w → Q2 .outgrown a w)
    (h : o.wp P a w K Q1) : o.wp P a w K Q2 := by
  unfold Oper.wp at *
  generalize (execOp a.eval o).run P w = r at *
  cases r with
  | ok n w' =>
    cases n <;> simp only [Oper.upon] at h ⊢
    case value u => exact h
    case skip => exact h
    case defer d => exact h
    case enter f args =>
      refine Calls.mono h fun e w'' he => ?_
      cases e with
      | returned u => exact he
      | panicked c => exact h1 _ _ _ he
      | outgrown => obtain ⟨a', w3, h3⟩ := he; exact ⟨a', w3, h2 _ _ h3⟩
    case row row args => exact h
  | halt x w' =>
    cases x <;> simp only [Oper.upon] at h ⊢
    case panic u => exact h1 _ _ _ h
theorem wh_one (hr : Region.ready .any ops listed = [i]) (hi : ops[i]? = some o) (h : WL P ops (HQ P ops Q S k (listed.setIfInBounds i true)) [o] n f w) : WH P ops Q S (k + 1) listed n f w := by
  refine wpAnyH_all hr (by simp) fun j hj => ?_
  rw [List.mem_singleton] at hj
  subst hj
  unfold WL at h
  simp only [wpList] at h
  unfold wpOp
  simp only [hi]
  split
  · rename_i hw
    rw [if_pos hw] at h
    rcases h with h | ⟨_, a', w', h⟩
    · exact .inl (Oper.wp_to (fun _ _ _ h => h.elim) (fun _ _ h => h.elim) h)
    · exact h.elim
  · rename_i hw
    rw [if_neg hw] at h
    exact h
theorem wh_two {j : Nat} {oi oj : Oper} (hr : Region.ready .any ops listed = [i, j]) (hi : ops[i]? = some oi) (hj : ops[j]? = some oj) (h : WL P ops (HQ P ops Q S k (listed.setIfInBounds i true)) [oi] n f w) (h' : WL P ops (HQ P ops Q S k (listed.setIfInBounds j true)) [oj] n f w) : WH P ops Q S (k + 1) listed n f w := by
  have key : ∀ (m : Nat) (o : Oper), ops[m]? = some o → WL P ops (HQ P ops Q S k (listed.setIfInBounds m true)) [o] n f w → wpOp P ops (NQ Q) m (fun a' w' => S w' ∧ wpAnyH P .any ops (NQ Q) S k (listed.setIfInBounds m true) a' w') (fr n f) w := by
    intro m o hm h
    unfold WL at h
    simp only [wpList] at h
    unfold wpOp
    simp only [hm]
    split
    · rename_i hw
      rw [if_pos hw] at h
      rcases h with h | ⟨_, a', w', h⟩
      · exact .inl (Oper.wp_to (fun _ _ _ h => h.elim) (fun _ _ h => h.elim) h)
      · exact h.elim
    · rename_i hw
      rw [if_neg hw] at h
      exact h
  refine wpAnyH_all hr (by simp) fun m hm => ?_
  rcases List.mem_cons.1 hm with rfl | hm
  · exact key _ _ hi h
  · rw [List.mem_singleton] at hm
    subst hm
    exact key _ _ hj h'
theorem wh_back (hS : S w) (h : WH P ops Q S k listed n f w) : HQ P ops Q S k listed .normal (fr n f) w := ⟨hS, h⟩
theorem wh_done (hr : Region.ready .any ops listed = []) (h : Q .normal (fr n f) w) : WH P ops Q S k listed n f w := wpAnyH_done (Q := NQ Q) hr h k
theorem wh_takeW {v0 v : Value} (hi : ops[i]? = some o) (hs : Region.noSelect ops = true) (hf : Region.free .any ops listed i = true) (hr : (Region.ready .any ops listed).contains i = true) (hS : S w)
    (hw : Region.wanted o (yielded ops (fr n f).tmps) = true) (hy : ∀ w', S w' → (execOp (fr n f).eval o).run P w' = .ok (.value v0) w') (hv : v0 = v) (h : WH P ops Q S k (listed.setIfInBounds i true) n (putD f o.dst v) w) : WH P ops Q S (k + 1) listed n f w := by
  subst hv
  refine wpAnyH_take hi hs hf hr (fun _ _ _ h => h.elim) (.inl ⟨hw, hy⟩) hS ?_
  rw [fr_putD]; exact h
theorem wh_take {v0 v : Value} (hi : ops[i]? = some o) (hs : Region.noSelect ops = true) (hf : Region.free .any ops listed i = true) (hr : (Region.ready .any ops listed).contains i = true) (hS : S w)
    (hg : o.guard = none) (hy : ∀ w', S w' → (execOp (fr n f).eval o).run P w' = .ok (.value v0) w') (hv : v0 = v) (h : WH P ops Q S k (listed.setIfInBounds i true) n (putD f o.dst v) w) : WH P ops Q S (k + 1) listed n f w :=
  wh_takeW hi hs hf hr hS (by simp [Region.wanted, hg]) hy hv h
theorem wh_takeG {v0 v : Value} {j d : Nat} {b t : Bool} (hi : ops[i]? = some o) (hs : Region.noSelect ops = true) (hf : Region.free .any ops listed i = true) (hr : (Region.ready .any ops listed).contains i = true) (hS : S w)
    (hg : o.guard = some (j, b)) (hj : (ops[j]?).bind (·.dst) = some d) (hd : Nat.blt d n.n = true) (hv' : f d = .bool t) (ht : t = b)
    (hy : ∀ w', S w' → (execOp (fr n f).eval ⟨o.dst, o.op, o.type, o.pos, o.after, none⟩).run P w' = .ok (.value v0) w') (hv : v0 = v) (h : WH P ops Q S k (listed.setIfInBounds i true) n (putD f o.dst v) w) : WH P ops Q S (k + 1) listed n f w :=
  wh_takeW hi hs hf hr hS (by rw [← ht] at hg; simp [Region.wanted, hg, yielded_fr hj hd hv']) hy hv h
theorem wh_leave (hi : ops[i]? = some o) (hs : Region.noSelect ops = true) (hf : Region.free .any ops listed i = true) (hr : (Region.ready .any ops listed).contains i = true) (hS : S w)
    (hw : Region.wanted o (yielded ops (fr n f).tmps) = false) (h : WH P ops Q S k (listed.setIfInBounds i true) n (putD f o.dst undef) w) : WH P ops Q S (k + 1) listed n f w := by
  refine wpAnyH_take hi hs hf hr (fun _ _ _ h => h.elim) (.inr ⟨hw, rfl⟩) hS ?_
  rw [fr_putD]; exact h
theorem wh_leaveF {j d : Nat} {b t : Bool} (hi : ops[i]? = some o) (hs : Region.noSelect ops = true) (hf : Region.free .any ops listed i = true) (hr : (Region.ready .any ops listed).contains i = true) (hS : S w)
    (hg : o.guard = some (j, b)) (hj : (ops[j]?).bind (·.dst) = some d) (hd : Nat.blt d n.n = true) (hv' : f d = .bool t) (ht : t = !b) (h : WH P ops Q S k (listed.setIfInBounds i true) n (putD f o.dst undef) w) : WH P ops Q S (k + 1) listed n f w :=
  wh_leave hi hs hf hr hS (by subst ht; cases b <;> simp [Region.wanted, hg, yielded_fr hj hd hv']) h
theorem wh_leaveS {j d : Nat} {b : Bool} (hi : ops[i]? = some o) (hs : Region.noSelect ops = true) (hf : Region.free .any ops listed i = true) (hr : (Region.ready .any ops listed).contains i = true) (hS : S w)
    (hg : o.guard = some (j, b)) (hj : (ops[j]?).bind (·.dst) = some d) (hd : Nat.blt d n.n = true) (hv' : f d = undef) (h : WH P ops Q S k (listed.setIfInBounds i true) n (putD f o.dst undef) w) : WH P ops Q S (k + 1) listed n f w :=
  wh_leave hi hs hf hr hS (by simp [Region.wanted, hg, yielded_undef hj hd hv']) h
theorem wh_split (c : Bool) (h1 : c = true → WH P ops Q S k listed n f w) (h2 : c = false → WH P ops Q S k listed n f w) : WH P ops Q S k listed n f w := match c, h1, h2 with | true, h1, _ => h1 rfl | false, _, h2 => h2 rfl
end
end Go.Wk

namespace Go.Wk
set_option linter.unusedVariables false

/-! ## 19. The same, where the last operation (z: all others come ahead of it) may turn what was read -/
section
variable {P : Program} {ops : Array Oper} {Q : Exit → Act → World → Prop} {md : Region.Mode} {S : World → Prop} {z : Nat}
def pend (md : Region.Mode) (ops : Array Oper) : Nat → List Nat → List Nat
  | 0, L => L
  | i + 1, L => pend md ops i (bif L.contains i then (match ops[i]? with | some o => (o.after.toList.filter (Region.binds md)).map (·.on) | none => []) ++ L else L)
def lastB (md : Region.Mode) (ops : Array Oper) (z : Nat) : Bool := (List.range ops.size).all fun k => (pend md ops ops.size [z]).contains k
theorem pend_listed {listed : Array Bool} (inv : HeadInv md ops ops.size listed) (hz : z ∈ Region.ready md ops listed) : ∀ (i : Nat) (L : List Nat), (∀ k ∈ L, k = z ∨ listed.getD k false = true) → ∀ k ∈ pend md ops i L, k = z ∨ listed.getD k false = true
  | 0, L, hL => hL
  | i + 1, L, hL => by
    unfold pend
    refine pend_listed inv hz i _ ?_
    intro k hk
    cases hc : L.contains i with
    | false => rw [hc] at hk; exact hL k hk
    | true =>
      rw [hc] at hk
      rcases List.mem_append.1 hk with hk | hk
      · cases ho : ops[i]? with
        | none => rw [ho] at hk; cases hk
        | some o =>
          rw [ho] at hk
          obtain ⟨e, he, rfl⟩ := List.mem_map.1 hk
          obtain ⟨he, hb⟩ := List.mem_filter.1 he
          have he' : e ∈ o.after := by simpa using he
          refine .inr ?_
          rcases hL i (by simpa using hc) with rfl | hl
          · obtain ⟨_, o', ho', hall⟩ := mem_ready.1 hz
            rw [ho] at ho'; cases ho'
            exact hall e he' hb
          · exact inv.closed i o ho hl e he' hb
      · exact hL k hk
def wpAnyF (P : Program) (md : Region.Mode) (ops : Array Oper) (Q : Exit → Act → World → Prop) (S : World → Prop) (z : Nat) : Nat → Array Bool → Act → World → Prop
  | 0, listed, a, w => Region.ready md ops listed = [] ∧ Q .normal a w
  | fuel + 1, listed, a, w =>
    (Region.ready md ops listed = [] → Q .normal a w) ∧
    ∀ i ∈ Region.ready md ops listed, (i = z → ∀ k, k < ops.size → k ≠ z → listed.getD k false = true) → wpOp P ops Q i (fun a' w' => (i ≠ z → S w') ∧ wpAnyF P md ops Q S z fuel (listed.setIfInBounds i true) a' w') a w
theorem ready_lt {listed : Array Bool} {i : Nat} (h : i ∈ Region.ready md ops listed) : i < ops.size := by
  obtain ⟨_, o, ho, _⟩ := mem_ready.1 h
  exact (Array.getElem?_eq_some_iff.1 ho).1
theorem wpAny_of_F (hz : lastB md ops z = true) : ∀ (fuel : Nat) (listed : Array Bool) (a : Act) (w : World), HeadInv md ops ops.size listed → wpAnyF P md ops Q S z fuel listed a w → wpAny P md ops Q fuel listed a w
  | 0, _, _, _, _, h => h
  | fuel + 1, listed, _, _, inv, h => ⟨h.1, fun i hi => wpOp_mono (fun a' w' h' => wpAny_of_F hz fuel _ a' w' (inv.set hi (ready_lt hi)) h'.2) (h.2 i hi (fun e k hk hkz => by
      subst e
      have h1 := List.all_eq_true.1 hz k (List.mem_range.2 hk)
      have h2 := pend_listed inv hi ops.size [i] (fun k hk => .inl (List.mem_singleton.1 hk)) k (by simpa using h1)
      exact h2.resolve_left hkz))⟩
theorem getD_both' {listed : Array Bool} {i : Nat} (h : listed.getD i true = false) : listed.getD i false = false := getD_both h
theorem wpAnyF_first {i : Nat} {oi : Oper} {v : Value} (hiz : i ≠ z) (hi : ops[i]? = some oi) (hsel : ∀ (j : Nat) (o : Oper) cs b, ops[j]? = some o → o.op ≠ .select cs b)
    (hQ : ∀ c a w, Q (.panic c) (a.put oi.dst v) w → Q (.panic c) a w) :
    ∀ (fuel : Nat) (listed : Array Bool) (a : Act) (w : World),
      (∀ j oj, ops[j]? = some oj → j ≠ i → listed.getD j true = false → (∀ e ∈ oj.after, Region.binds md e = true → e.on ≠ i) → oi.apart ops oj = true) →
      i ∈ Region.ready md ops listed → YieldsIf P ops S oi v a → S w →
      wpAnyF P md ops Q S z fuel (listed.setIfInBounds i true) (a.put oi.dst v) w → wpAnyF P md ops Q S z (fuel + 1) listed a w := by
  intro fuel
  induction fuel with
  | zero =>
    intro listed a w _ hr hy hS H
    refine ⟨fun h => (by rw [h] at hr; cases hr), fun j hj hjz => ?_⟩
    by_cases hji : j = i
    · subst hji; exact hy.wpOp hi hS ⟨fun _ => hS, H⟩
    · have := ready_mono hj hji
      rw [H.1] at this
      cases this
  | succ fuel ih =>
    intro listed a w hfree hr hy hS H
    refine ⟨fun h => (by rw [h] at hr; cases hr), fun j hj hjz => ?_⟩
    by_cases hji : j = i
    · subst hji; exact hy.wpOp hi hS ⟨fun _ => hS, H⟩
    · have hjnz : j ≠ z := fun e => by
        have h1 := hjz e i (ready_lt hr) hiz
        have h2 := getD_both (mem_ready.1 hr).1
        rw [h1] at h2; cases h2
      have h1 := H.2 j (ready_mono hj hji) (fun e => absurd e hjnz)
      obtain ⟨hjun, oj, hoj, hall⟩ := mem_ready.1 hj
      have hnot : ∀ e ∈ oj.after, Region.binds md e = true → e.on ≠ i := fun e he hb heq => by
        have h1 := hall e he hb
        have h0 := getD_both (mem_ready.1 hr).1
        rw [heq] at h1
        rw [h1] at h0; cases h0
      have h2 := wpOp_putIf hoj (hfree j oj hoj hji hjun hnot) (fun cs b => hsel i oi cs b hi) (fun cs b => hsel j oj cs b hoj) hQ hy h1
      have hfree' : ∀ k ok, ops[k]? = some ok → k ≠ i → (listed.setIfInBounds j true).getD k true = false →
          (∀ e ∈ ok.after, Region.binds md e = true → e.on ≠ i) → oi.apart ops ok = true := fun k ok hk hki hun hno => by
        refine hfree k ok hk hki ?_ hno
        by_cases hjk : j = k
        · subst hjk; exact hjun
        · rw [getD_set_ne true hjk] at hun; exact hun
      refine wpOp_mono (fun a' w' h3 => ⟨h3.2.1, ih (listed.setIfInBounds j true) a' w' hfree' (ready_mono hr (Ne.symm hji)) h3.1 (h3.2.1 hjnz) ?_⟩) h2
      rw [Array.setIfInBounds_comm _ _ hji]
      exact h3.2.2
end
def VH (P : Program) (ops : Array Oper) (Q : Exit → Act → World → Prop) (S : World → Prop) (z : Nat) (k : Nat) (listed : Array Bool) (n : NN) (f : Nat → Value) (w : World) : Prop := wpAnyF P .any ops (NQ Q) S z k listed (fr n f) w
def VQ (P : Program) (ops : Array Oper) (Q : Exit → Act → World → Prop) (S : World → Prop) (z : Nat) (k : Nat) (listed : Array Bool) : Exit → Act → World → Prop
  | .normal, a, w => S w ∧ wpAnyF P .any ops (NQ Q) S z k listed a w
  | _, _, _ => False
section
variable {P : Program} {n : NN} {f : Nat → Value} {w : World} {Q : Exit → Act → World → Prop} {id : Nat} {ops : Array Oper} {S : World → Prop} {k i z : Nat} {listed : Array Bool} {o : Oper}
theorem region_v {l : List Oper} (z : Nat) (S : World → Prop) (hm : P.follows .mixedOrders = true) (hz : lastB .any l.toArray z = true)
    (h : ∀ w', Kp none_ w w' → VH P l.toArray Q S z l.length (Array.replicate l.length false) n f w') (hd : nodef l = true := by kernel_rfl) : wr n P (Code.region id l.toArray true) Q (fr n f) w := by
  have inv0 : HeadInv .any l.toArray l.toArray.size (Array.replicate l.toArray.size false) :=
    ⟨by simp, fun j oj _ hl => (by rw [getD_replicate_false] at hl; cases hl), fun t h1 h2 => by omega⟩
  refine wr_mono (region_any hd hm (wpAny_of_F (S := S) hz _ _ _ _ inv0 (h _ ⟨rfl, rfl, rfl, Nat.le_refl _, fun _ _ _ => rfl, Nat.le_add_right _ _⟩))) ?_
  intro e a w hq
  cases e <;> first | exact hq | exact hq.elim
theorem wl_op {Q2 : Exit → Act → World → Prop} {K : Act → World → Prop} {m : Nat} {o : Oper} (hQ : ∀ x a w, x ≠ .normal → ¬ Q2 x a w) (hK : ∀ a w, Q2 .normal a w → K a w) (hm : ops[m]? = some o) (h : WL P ops Q2 [o] n f w) : wpOp P ops (NQ Q) m K (fr n f) w := by
  unfold WL at h
  simp only [wpList] at h
  unfold wpOp
  simp only [hm]
  split
  · rename_i hw
    rw [if_pos hw] at h
    rcases h with h | ⟨_, a', w', h⟩
    · refine .inl ?_
      have h2 := Oper.wp_to (Q2 := NQ Q) (fun c a w h => (hQ _ _ _ (by simp) h).elim) (fun a w h => (hQ _ _ _ (by simp) h).elim) h
      exact Oper.wp_mono (fun a w => hK a w) h2
    · exact (hQ _ _ _ (by simp) h).elim
  · rename_i hw
    rw [if_neg hw] at h
    exact hK _ _ h
theorem vh_one (hr : Region.ready .any ops listed = [i]) (hz : Nat.beq i z = false) (hi : ops[i]? = some o) (h : WL P ops (VQ P ops Q S z k (listed.setIfInBounds i true)) [o] n f w) : VH P ops Q S z (k + 1) listed n f w := by
  refine ⟨fun h0 => (by rw [hr] at h0; cases h0), fun j hj _ => ?_⟩
  rw [hr, List.mem_singleton] at hj
  subst hj
  exact wl_op (fun x a w hx h => by cases x <;> first | exact hx rfl | exact h.elim) (fun a w h => ⟨fun _ => h.1, h.2⟩) hi h
theorem vh_two {j : Nat} {oi oj : Oper} (hr : Region.ready .any ops listed = [i, j]) (hzi : Nat.beq i z = false) (hzj : Nat.beq j z = false) (hi : ops[i]? = some oi) (hj : ops[j]? = some oj) (h : WL P ops (VQ P ops Q S z k (listed.setIfInBounds i true)) [oi] n f w) (h' : WL P ops (VQ P ops Q S z k (listed.setIfInBounds j true)) [oj] n f w) : VH P ops Q S z (k + 1) listed n f w := by
  refine ⟨fun h0 => (by rw [hr] at h0; cases h0), fun m hm _ => ?_⟩
  rw [hr] at hm
  rcases List.mem_cons.1 hm with rfl | hm
  · exact wl_op (fun x a w hx h => by cases x <;> first | exact hx rfl | exact h.elim) (fun a w h => ⟨fun _ => h.1, h.2⟩) hi h
  · rw [List.mem_singleton] at hm
    subst hm
    exact wl_op (fun x a w hx h => by cases x <;> first | exact hx rfl | exact h.elim) (fun a w h => ⟨fun _ => h.1, h.2⟩) hj h'
theorem vh_last (hr : Region.ready .any ops listed = [z]) (hr2 : Region.ready .any ops (listed.setIfInBounds z true) = []) (hi : ops[z]? = some o) (h : WL P ops (NQ Q) [o] n f w) : VH P ops Q S z (k + 1) listed n f w := by
  refine ⟨fun h0 => (by rw [hr] at h0; cases h0), fun j hj _ => ?_⟩
  rw [hr, List.mem_singleton] at hj
  subst hj
  refine wl_op (fun x a w hx h => by cases x <;> first | exact hx rfl | exact h.elim) (fun a w h => ⟨fun h => absurd rfl h, ?_⟩) hi h
  cases k with
  | zero => exact ⟨hr2, h⟩
  | succ k => exact ⟨fun _ => h, fun m hm => (by rw [hr2] at hm; cases hm)⟩
theorem vh_end (h : Q .normal (fr n f) w) : NQ Q .normal (fr n f) w := h
theorem vh_back (hS : S w) (h : VH P ops Q S z k listed n f w) : VQ P ops Q S z k listed .normal (fr n f) w := ⟨hS, h⟩
theorem vh_done (hr : Region.ready .any ops listed = []) (h : Q .normal (fr n f) w) : VH P ops Q S z k listed n f w := by
  cases k with
  | zero => exact ⟨hr, h⟩
  | succ k => exact ⟨fun _ => h, fun m hm => (by rw [hr] at hm; cases hm)⟩
theorem vh_takeY {v : Value} (hz : Nat.beq i z = false) (hi : ops[i]? = some o) (hs : Region.noSelect ops = true) (hf : Region.free .any ops listed i = true) (hr : (Region.ready .any ops listed).contains i = true) (hS : S w)
    (hy : YieldsIf P ops S o v (fr n f)) (h : VH P ops Q S z k (listed.setIfInBounds i true) n (putD f o.dst v) w) : VH P ops Q S z (k + 1) listed n f w := by
  refine wpAnyF_first (Nat.ne_of_beq_eq_false hz) hi (Region.noSelect_spec hs) (fun _ _ _ h => h.elim) k listed (fr n f) w (Region.free_spec hi hf) (by simpa using hr) hy hS ?_
  rw [fr_putD]; exact h
theorem vh_takeW {v0 v : Value} (hz : Nat.beq i z = false) (hi : ops[i]? = some o) (hs : Region.noSelect ops = true) (hf : Region.free .any ops listed i = true) (hr : (Region.ready .any ops listed).contains i = true) (hS : S w)
    (hw : Region.wanted o (yielded ops (fr n f).tmps) = true) (hy : ∀ w', S w' → (execOp (fr n f).eval o).run P w' = .ok (.value v0) w') (hv : v0 = v) (h : VH P ops Q S z k (listed.setIfInBounds i true) n (putD f o.dst v) w) : VH P ops Q S z (k + 1) listed n f w := by
  subst hv
  exact vh_takeY hz hi hs hf hr hS (.inl ⟨hw, hy⟩) h
theorem vh_take {v0 v : Value} (hz : Nat.beq i z = false) (hi : ops[i]? = some o) (hs : Region.noSelect ops = true) (hf : Region.free .any ops listed i = true) (hr : (Region.ready .any ops listed).contains i = true) (hS : S w)
    (hg : o.guard = none) (hy : ∀ w', S w' → (execOp (fr n f).eval o).run P w' = .ok (.value v0) w') (hv : v0 = v) (h : VH P ops Q S z k (listed.setIfInBounds i true) n (putD f o.dst v) w) : VH P ops Q S z (k + 1) listed n f w :=
  vh_takeW hz hi hs hf hr hS (by simp [Region.wanted, hg]) hy hv h
theorem vh_takeG {v0 v : Value} {j d : Nat} {b t : Bool} (hz : Nat.beq i z = false) (hi : ops[i]? = some o) (hs : Region.noSelect ops = true) (hf : Region.free .any ops listed i = true) (hr : (Region.ready .any ops listed).contains i = true) (hS : S w)
    (hg : o.guard = some (j, b)) (hj : (ops[j]?).bind (·.dst) = some d) (hd : Nat.blt d n.n = true) (hv' : f d = .bool t) (ht : t = b)
    (hy : ∀ w', S w' → (execOp (fr n f).eval ⟨o.dst, o.op, o.type, o.pos, o.after, none⟩).run P w' = .ok (.value v0) w') (hv : v0 = v) (h : VH P ops Q S z k (listed.setIfInBounds i true) n (putD f o.dst v) w) : VH P ops Q S z (k + 1) listed n f w :=
  vh_takeW hz hi hs hf hr hS (by rw [← ht] at hg; simp [Region.wanted, hg, yielded_fr hj hd hv']) hy hv h
theorem vh_leave (hz : Nat.beq i z = false) (hi : ops[i]? = some o) (hs : Region.noSelect ops = true) (hf : Region.free .any ops listed i = true) (hr : (Region.ready .any ops listed).contains i = true) (hS : S w)
    (hw : Region.wanted o (yielded ops (fr n f).tmps) = false) (h : VH P ops Q S z k (listed.setIfInBounds i true) n (putD f o.dst undef) w) : VH P ops Q S z (k + 1) listed n f w := by
  exact vh_takeY hz hi hs hf hr hS (.inr ⟨hw, rfl⟩) h
theorem vh_leaveF {j d : Nat} {b t : Bool} (hz : Nat.beq i z = false) (hi : ops[i]? = some o) (hs : Region.noSelect ops = true) (hf : Region.free .any ops listed i = true) (hr : (Region.ready .any ops listed).contains i = true) (hS : S w)
    (hg : o.guard = some (j, b)) (hj : (ops[j]?).bind (·.dst) = some d) (hd : Nat.blt d n.n = true) (hv' : f d = .bool t) (ht : t = !b) (h : VH P ops Q S z k (listed.setIfInBounds i true) n (putD f o.dst undef) w) : VH P ops Q S z (k + 1) listed n f w :=
  vh_leave hz hi hs hf hr hS (by subst ht; cases b <;> simp [Region.wanted, hg, yielded_fr hj hd hv']) h
theorem vh_leaveS {j d : Nat} {b : Bool} (hz : Nat.beq i z = false) (hi : ops[i]? = some o) (hs : Region.noSelect ops = true) (hf : Region.free .any ops listed i = true) (hr : (Region.ready .any ops listed).contains i = true) (hS : S w)
    (hg : o.guard = some (j, b)) (hj : (ops[j]?).bind (·.dst) = some d) (hd : Nat.blt d n.n = true) (hv' : f d = undef) (h : VH P ops Q S z k (listed.setIfInBounds i true) n (putD f o.dst undef) w) : VH P ops Q S z (k + 1) listed n f w :=
  vh_leave hz hi hs hf hr hS (by simp [Region.wanted, hg, yielded_undef hj hd hv']) h
theorem vh_split (c : Bool) (h1 : c = true → VH P ops Q S z k listed n f w) (h2 : c = false → VH P ops Q S z k listed n f w) : VH P ops Q S z k listed n f w := match c, h1, h2 with | true, h1, _ => h1 rfl | false, _, h2 => h2 rfl
end
/-- A struct inside an element. -/
theorem el_sub {w : World} {b o sz i : Nat} {cs : List Value} (h : ∀ j u, cs[j]? = some u → w.cell? ⟨b, o + i * sz + j, none⟩ = some u) (k n : Nat) : ∀ j u, ((cs.drop k).take n)[j]? = some u → w.cell? ((⟨b, o + i * sz + k, none⟩ : Addr).add j) = some u := fun j u hj => by
  rw [add_at, Nat.add_assoc (o + i * sz)]
  refine h _ u ?_
  rw [List.getElem?_take] at hj
  split at hj
  · rw [List.getElem?_drop] at hj; exact hj
  · cases hj
end Go.Wk

namespace Go.Wk
set_option linter.unusedVariables false

/-! ## 20. A map gone through: in whatever order -/
section
variable {α β : Type} {ek : α → Value} {ev : β → Value} {w w' : World} {ri rm : Nat} {l done : List (α × β)} {S : Nat → Prop}
theorem nd_inj {α : Type} {l : List α} (hn : l.Nodup) {i j : Nat} {x : α} (hi : l[i]? = some x) (hj : l[j]? = some x) : i = j := by
  rw [List.nodup_iff_pairwise_ne, List.pairwise_iff_getElem] at hn
  obtain ⟨h1, h2⟩ := List.getElem?_eq_some_iff.1 hi
  obtain ⟨h3, h4⟩ := List.getElem?_eq_some_iff.1 hj
  rcases Nat.lt_trichotomy i j with h | h | h
  · exact absurd (h2.trans h4.symm) (hn i j h1 h3 h)
  · exact h
  · exact absurd (h4.trans h2.symm) (hn j i h3 h1 h)
/-- Block ri goes through the map of block rm, whose entries are l: 'done' have come. -/
def It (ek : α → Value) (ev : β → Value) (w : World) (ri rm : Nat) (l done : List (α × β)) : Prop :=
  ∃ (es : Array MapEntry) (clock since : Nat) (seen : Array Nat) (idx : List Nat), Blk w rm (.map es clock) ∧ es.toList.map (fun e => (e.key, e.val)) = l.map (fun p => (ek p.1, ev p.2)) ∧ Stmp es.toList clock ∧ Blk w ri (.mapIter (some rm) since seen clock) ∧
    (∀ x ∈ es.toList, x.born < since) ∧ since ≤ clock ∧ idx.Nodup ∧ (∀ i ∈ idx, i < l.length) ∧ seen.toList.map some = idx.map (fun i => (es.toList[i]?).map (·.born)) ∧ done.map some = idx.map (fun i => l[i]?)
theorem It.kp (h : It ek ev w ri rm l done) (hk : Kp S w w') (hs : ∀ y, y = ri ∨ y = rm → ¬ S y) : It ek ev w' ri rm l done := by
  obtain ⟨es, clock, since, seen, idx, h1, h2, h3, h4, h5⟩ := h
  exact ⟨es, clock, since, seen, idx, h1.kp hk (hs _ (.inr rfl)), h2, h3, h4.kp hk (hs _ (.inl rfl)), h5⟩
theorem It.keep (h : It ek ev w ri rm l done) (hk : Kp none_ w w') : It ek ev w' ri rm l done := h.kp hk (fun _ _ h => h)
theorem It.lt (h : It ek ev w ri rm l done) : ri < w.heap.size ∧ rm < w.heap.size ∧ ri ≠ rm := by
  obtain ⟨es, clock, since, seen, idx, h1, h2, h3, h4, h5⟩ := h
  exact ⟨h4.lt, h1.lt, fun e => by subst e; have := h1.eq h4; simp at this⟩
theorem It.le (h : It ek ev w ri rm l done) : done.length ≤ l.length := by
  obtain ⟨es, clock, since, seen, idx, h1, h2, h3, h4, h5, h6, h7, h8, h9, h10⟩ := h
  have e : done.length = idx.length := by have := congrArg List.length h10; simpa using this
  rw [e]
  have hp : idx.Perm ((List.range l.length).filter (fun i => decide (i ∈ idx))) := (List.perm_ext_iff_of_nodup h7 (List.nodup_range.filter _)).2 (fun i => by
    rw [List.mem_filter, List.mem_range, decide_eq_true_eq]; exact ⟨fun hi => ⟨h8 i hi, hi⟩, fun hi => hi.2⟩)
  rw [hp.length_eq]
  have := List.length_filter_le (fun i => decide (i ∈ idx)) (List.range l.length)
  simpa using this
variable {P : Program} {n : NN} {f : Nat → Value} {Q : Exit → Act → World → Prop} {ops : Array Oper} {rest : List Oper} {d : Option Nat} {ty : TypeId} {ps : String} {es : Array Edge} {t k e : TypeId} {x : Operand}
theorem wl_range (hu : P.underlying t = some (.map k e)) (hx : okx n x = true) (hv : Go.Wk.ev f x = .map (some rm)) (hm : Mp ek ev w rm l)
    (h : ∀ ri w', w.heap.size ≤ ri → Kp none_ w w' → It ek ev w' ri rm l [] → WL P ops Q rest n (putD f d (.pointer (some ⟨ri, 0, none⟩))) w') :
    WL P ops Q (⟨d, .range t x, ty, ps, es, none⟩ :: rest) n f w := by
  obtain ⟨es', c, h1, h2, h3⟩ := hm
  have hr : (Instr.range t (.map (some rm))).run P w = .ok (.pointer (some ⟨w.heap.size, 0, none⟩)) (w.alloc (.mapIter (some rm) c #[] c)) := run_range_map w t k e rm es' c hu h1
  refine wl_val rfl (v := .pointer (some ⟨w.heap.size, 0, none⟩)) (w' := w.alloc (.mapIter (some rm) c #[] c)) ?_ (h _ _ (Nat.le_refl _) (Kp.alloc _ _) ⟨es', c, c, #[], [], h1.keep (Kp.alloc _ _), h2, h3, Blk.new _ _, h3.1, Nat.le_refl _, List.nodup_nil, (fun i hi => by cases hi), rfl, rfl⟩)
  simp [execOp, eval_fr hx, hv, hr]
theorem wl_next (hx : okx n x = true) (hv : Go.Wk.ev f x = .pointer (some ⟨ri, 0, none⟩)) (hi : It ek ev w ri rm l done)
    (h1 : done.Perm l → WL P ops Q rest n (putD f d (.tuple #[.bool false])) w)
    (h2 : ∀ p w', p ∈ l → Kp (fun y => y = ri) w w' → It ek ev w' ri rm l (done ++ [p]) → WL P ops Q rest n (putD f d (.tuple #[.bool true, ek p.1, ev p.2])) w') :
    WL P ops Q (⟨d, .next x false, ty, ps, es, none⟩ :: rest) n f w := by
  have hlt := hi.lt
  obtain ⟨es', clock, since, seen, idx, b1, b2, b3, b4, b5, b6, b7, b8, b9, b10⟩ := hi
  have hlen : es'.toList.length = l.length := by have := congrArg List.length b2; simpa using this
  rcases run_next_at (P := P) w ty ri rm since clock seen es' clock b4 b1 b5 b6 with ⟨h0, hrun⟩ | ⟨e0, he, w1, hw1, hrun⟩
  · refine wl_val rfl (v := .tuple #[.bool false]) (w' := w) (by simp [execOp, eval_fr hx, hv, hrun]) (h1 ?_)
    have hall : ∀ i, i < l.length → i ∈ idx := fun i hi => by
      have hx2 := all_seen es' seen h0 (es'.toList[i]'(by omega)) (List.getElem_mem _)
      have hm : (es'.toList[i]'(by omega)).born ∈ seen.toList := by simpa using hx2
      have hm2 : some (es'.toList[i]'(by omega)).born ∈ seen.toList.map some := List.mem_map.2 ⟨_, hm, rfl⟩
      rw [b9] at hm2
      obtain ⟨j, hj, hj2⟩ := List.mem_map.1 hm2
      have hjl := b8 j hj
      rw [List.getElem?_eq_getElem (by omega), Option.map_some, Option.some.injEq] at hj2
      have : j = i := nd_inj b3.2 (i := j) (j := i) (x := (es'.toList[i]'(by omega)).born) (by rw [List.getElem?_map, List.getElem?_eq_getElem (by omega), Option.map_some, hj2]) (by rw [List.getElem?_map, List.getElem?_eq_getElem (by omega)]; rfl)
      exact this ▸ hj
    have hp : idx.Perm (List.range l.length) := (List.perm_ext_iff_of_nodup b7 List.nodup_range).2 (fun i => ⟨fun hi => List.mem_range.2 (b8 i hi), fun hi => hall i (List.mem_range.1 hi)⟩)
    have hq := hp.map (fun i => l[i]?)
    rw [← b10] at hq
    have hr : (List.range l.length).map (fun i => l[i]?) = l.map some := by
      apply List.ext_getElem (by simp)
      intro i h1 h2
      simp only [List.length_map, List.length_range] at h1
      simp [List.getElem?_eq_getElem h1]
    rw [hr] at hq
    have := hq.filterMap id
    simpa [List.filterMap_map] using this
  · obtain ⟨hem, hes⟩ := mem_left he
    obtain ⟨i, hi⟩ := List.getElem?_of_mem hem
    have hil : i < l.length := by rw [← hlen]; exact (List.getElem?_eq_some_iff.1 hi).1
    obtain ⟨p, hp⟩ : ∃ p, l[i]? = some p := ⟨_, List.getElem?_eq_getElem hil⟩
    have hkv : (e0.key, e0.val) = (ek p.1, ev p.2) := by
      have := congrArg (fun q => q[i]?) b2
      simp only [List.getElem?_map, hi, hp, Option.map_some, Option.some.injEq] at this
      exact this
    simp only [Prod.mk.injEq] at hkv
    have hni : i ∉ idx := fun hidx => by
      have : some e0.born ∈ seen.toList.map some := by rw [b9]; exact List.mem_map.2 ⟨i, hidx, by rw [hi]; rfl⟩
      obtain ⟨q, hq, hq2⟩ := List.mem_map.1 this
      cases hq2
      have : seen.contains e0.born = true := by simpa using hq
      rw [this] at hes; simp at hes
    have k1 : Kp none_ w w1 := by rcases hw1 with rfl | rfl; exact Kp.refl _; exact Kp.drew _
    have b4' : Blk w1 ri (.mapIter (some rm) since seen clock) := b4.keep k1
    have k2 : Kp (fun y => y = ri) w1 (ChangeMaps.setBlock w1 ri (.mapIter (some rm) since (seen.push e0.born) clock)) := Kp.setM _ _ _
    have k3 : Kp (fun y => y = ri) w (ChangeMaps.setBlock w1 ri (.mapIter (some rm) since (seen.push e0.born) clock)) := (k1.of_none).trans k2
    refine wl_val rfl (v := .tuple #[.bool true, ek p.1, ev p.2]) (w' := ChangeMaps.setBlock w1 ri (.mapIter (some rm) since (seen.push e0.born) clock)) (by simp [execOp, eval_fr hx, hv, hrun, hkv.1, hkv.2]) (h2 p _ (List.mem_of_getElem? hp) k3 ?_)
    refine ⟨es', clock, since, seen.push e0.born, idx ++ [i], (b1.keep k1).kp k2 (fun e => hlt.2.2 e.symm), b2, b3, b4'.setM, b5, b6, ?_, ?_, ?_, ?_⟩
    · rw [List.nodup_append]
      refine ⟨b7, by simp, fun a ha b hb e => ?_⟩
      rw [List.mem_singleton] at hb
      subst hb; subst e; exact hni ha
    · intro j hj
      rcases List.mem_append.1 hj with hj | hj
      · exact b8 j hj
      · rw [List.mem_singleton] at hj; subst hj; exact hil
    · rw [Array.toList_push, List.map_append, List.map_append, b9]
      have hi' : es'[i]? = some e0 := by simpa using hi
      simp [hi']
    · rw [List.map_append, List.map_append, b10]
      simp [hp]
theorem rf_entry (hx : okx n x = true) (hv : Go.Wk.ev f x = .pointer (some ⟨ri, 0, none⟩)) {p : α × β} (hi : It ek ev w ri rm l (done ++ [p])) :
    (execOp (fr n f).eval ⟨d, .entry x, ty, ps, es, none⟩).run P w = .ok (.value (.tuple #[ek p.1, ev p.2])) w := by
  obtain ⟨es', clock, since, seen, idx, b1, b2, b3, b4, b5, b6, b7, b8, b9, b10⟩ := hi
  obtain ⟨idx0, i, rfl⟩ : ∃ a b, idx = a ++ [b] := by
    rcases List.eq_nil_or_concat idx with rfl | ⟨a, b, rfl⟩
    · simp at b10
    · exact ⟨a, b, by simp⟩
  have hil := b8 i (by simp)
  have hlen : es'.toList.length = l.length := by have := congrArg List.length b2; simpa using this
  rw [List.map_append, List.map_append] at b10
  have hp : l[i]? = some p := by
    have := congrArg List.getLast? b10
    simp at this
    exact this.symm
  obtain ⟨e0, he0⟩ : ∃ e0, es'.toList[i]? = some e0 := ⟨_, List.getElem?_eq_getElem (by omega)⟩
  obtain ⟨s0, hs0⟩ : ∃ s0 : Array Nat, seen = s0.push e0.born := by
    rw [List.map_append] at b9
    have h1 := congrArg List.getLast? b9
    have he0' : es'[i]? = some e0 := by simpa using he0
    simp [he0'] at h1
    have h4 : seen.back? = some e0.born := h1
    refine ⟨seen.pop, ?_⟩
    have h3 : 0 < seen.size := by
      rcases Nat.eq_zero_or_pos seen.size with h | h
      · rw [Array.eq_empty_of_size_eq_zero h] at h4; simp at h4
      · exact h
    apply Array.ext (by simp; omega)
    intro j h5 h6
    rw [Array.getElem_push]
    split
    · simp
    · rename_i h7
      have : j = seen.size - 1 := by simp at h6 h7; omega
      subst this
      rw [Array.back?_eq_getElem?, Array.getElem?_eq_getElem (by omega)] at h4
      exact Option.some.inj h4
  have hkv : (e0.key, e0.val) = (ek p.1, ev p.2) := by
    have := congrArg (fun q => q[i]?) b2
    simp only [List.getElem?_map, he0, hp, Option.map_some, Option.some.injEq] at this
    exact this
  simp only [Prod.mk.injEq] at hkv
  subst hs0
  have := run_entry_at (P := P) w ri rm since s0 es' clock e0 b4 b1 (List.mem_of_getElem? he0) b3.2
  simp [execOp, eval_fr hx, hv, this, hkv.1, hkv.2]
end
end Go.Wk

namespace Go.Wk
set_option linter.unusedVariables false

/-! ## 21. slices.SortFunc at structs: the shelf's contract, in these words -/
section
open Go.Proofs Go.Shelf Go.RowKit Go.Lib Go.Sort
theorem Kp.quiet {w w' : World} (h : Kp none_ w w') : ∃ q os', w' = grow (w.drewN q) os' := by
  refine ⟨w'.drawn - w.drawn, w'.heap.extract w.heap.size w'.heap.size, ?_⟩
  have hh : w'.heap = w.heap ++ w'.heap.extract w.heap.size w'.heap.size := by
    have hs := h.size
    apply Array.ext_getElem?
    intro i
    rcases Nat.lt_or_ge i w.heap.size with hi | hi
    · rw [Array.getElem?_append_left hi]; exact h.block i hi (fun h => h)
    · rw [Array.getElem?_append_right hi]
      rcases Nat.lt_or_ge i w'.heap.size with h2 | h2
      · rw [Array.getElem?_eq_getElem h2, Array.getElem?_eq_getElem (by simp; omega)]
        simp [Nat.add_sub_cancel' hi]
      · rw [Array.getElem?_eq_none h2, Array.getElem?_eq_none (by simp; omega)]
  have hd := h.drawn
  obtain ⟨hp, tp, dr, o, ou⟩ := w'
  have h1 := h.os; have h2 := h.tape; have h3 := h.output
  simp only at h1 h2 h3 hh hd
  subst h1 h2 h3
  unfold grow World.drewN
  simp only
  congr 1
  omega
variable {P : Program} {ρ : Ren} {α : Type} [Inhabited α] {enc : α → List Value} {k : Nat} {e : TypeId} {w : World} {F : Nat → Prop}
theorem kp_sorted (w : World) (enc : α → List Value) (k blk off n : Nat) (d : Array α) (os : Array Obj) : Kp (fun b => b = blk) w (sortWorldK enc k w blk off n d os) := by
  unfold sortWorldK putRowK putRow mapBlock grow Sort.ahead
  refine ⟨rfl, rfl, rfl, by simp, fun i hi hs => ?_, Nat.le_add_right _ _⟩
  simp only
  rw [Array.getElem?_append_left (by simpa using hi), Array.getElem?_modify, if_neg (fun e => hs e.symm)]
theorem blk_sorted {A : Array Value} {blk : Nat} (hb : Blk w blk (.cells A e (0, 0))) (off n : Nat) (d : Array α) (os : Array Obj) : Blk (sortWorldK enc k w blk off n d os) blk (.cells (putCells id off (flatK enc k d) A) e (0, 0)) := by
  have h1 : w.heap[blk]? = some (.cells A e (0, 0)) := hb
  unfold sortWorldK putRowK putRow mapBlock grow Sort.ahead
  show (_ ++ os)[blk]? = _
  rw [Array.getElem?_append_left (by simpa using hb.lt), Array.getElem?_modify, if_pos rfl]
  simp only [h1, Option.map_some, onCells]
theorem sort_ret (L : SlLaysF0.n6 P ρ) (aE : ∀ w, (isAgg (ρ.t 24)).run P w = .ok true w) (zE : ∀ w, (Go.sizeOf (ρ.t 24)).run P w = .ok k w) (hk : ∀ x, (enc x).length = k) (h1 : ∀ x, ∀ v ∈ enc x, v.oneCell' = true) (cf : α → α → Int) (hO : SWO (ltOf cf)) (g : Nat)
    (eg : ∀ args w, (callFunc g args).run P w = .ok (.enter g args) w) (hcmp : ∀ x y W, Ret P g [.agg (enc x).toArray, .agg (enc y).toArray] W fun v W' => v = .int .i64 (cf x y) ∧ Kp none_ W W') {v : Value} {l : List α}
    (hs : Sl enc k e w F v l) (hsz : l.length < 4611686018427387904) :
    Ret P (ρ.f 6) [v, .func (.func g) #[] #[]] w fun u w' => u = .tuple #[] ∧ ∃ l', l'.Perm l ∧ l'.Pairwise (fun a b => ltOf cf b a = false) ∧ Sl enc k e w' F v l' ∧ Kp F w w' := by
  rcases hs with ⟨rfl, rfl⟩ | ⟨b, o, cap, A, rfl, hF, hb, hl, hcap, hA, hc⟩
  · refine (AnyF.slices_SortFunc_none L none 0 _ w).mono ?_
    rintro _ _ ⟨rfl, rfl⟩
    exact ⟨_, rfl, rfl, [], .refl _, .nil, .inl ⟨rfl, rfl⟩, Kp.refl _⟩
  have hnn : ∀ x, (enc x).length = k := hk
  have hH : HoldsK enc k w b o l.toArray := by
    intro j hj
    rw [size_flatK] at hj
    simp only [List.size_toArray] at hj
    have hk0 : 0 < k := Nat.pos_of_ne_zero (fun e => by subst e; simp at hj)
    have hi : j / k < l.length := Nat.div_lt_of_lt_mul (by rw [Nat.mul_comm]; exact hj)
    have hm := Nat.mod_lt j hk0
    refine ⟨?_, hb.frozen _⟩
    rw [get_flatK _ _ _ _ (by simpa using hj)]
    have hx : l[j / k]? = some l[j / k] := List.getElem?_eq_getElem hi
    have := hc (j / k) _ hx (j % k) ((enc l[j / k])[j % k]'(by rw [hk]; exact hm)) (List.getElem?_eq_getElem _)
    have e2 : o + j / k * k + j % k = o + j := by rw [Nat.add_assoc, Nat.div_add_mod']
    rw [e2] at this
    have h3 := hb.cell this
    rw [h3]
    simp [hi, hk, hm]
  have hcl : CmpLays P g #[] enc k cf b o l.toArray.size w := by
    intro m os dk hdk x y
    refine Calls.mono (hcmp x y (sortWorldK enc k w b o m dk os)) ?_
    rintro _ W' ⟨v, rfl, rfl, hkp⟩
    obtain ⟨q, os', h⟩ := hkp.quiet
    exact ⟨rfl, q, os', h⟩
  have hcon := AnyQ.slices_SortFunc L k aE zE enc hk h1 cf hO g #[] b o cap l.toArray w eg hcl hH hb.lt (by simpa using hsz)
  refine Calls.mono hcon ?_
  rintro _ w' ⟨rfl, d', n, os, hp, hso, rfl⟩
  have hd : d'.size = l.length := by have := hp.1; simpa using this
  have hpm : d'.toList.Perm l := by
    have h3 := hp.2.2
    rw [show (l.toArray.size) = d'.size by rw [hd]; simp] at h3
    have h4 : d'.toList.take l.length = d'.toList := List.take_of_length_le (by simp [hd])
    simpa [hd, h4] using h3
  refine ⟨_, rfl, rfl, d'.toList, hpm, ?_, ?_, (kp_sorted w enc k b o n d' os).mono (fun x _ h => h ▸ hF)⟩
  · rw [List.pairwise_iff_getElem]
    intro i j hi hj hij
    have := hso i j (Nat.zero_le _) hij (by simp at hj; simp; omega)
    simp at hi hj
    simpa [hi, hj] using this
  · refine .inr ⟨b, o, cap, _, by rw [hpm.length_eq], hF, blk_sorted hb o n d' os, by rw [hpm.length_eq]; exact hl, hcap, by simpa [putCells] using hA, fun i x hx j u hj => ?_⟩
    have hi : i < d'.size := by simpa using (List.getElem?_eq_some_iff.1 hx).1
    have hjk : j < k := by rw [← hk x]; exact (List.getElem?_eq_some_iff.1 hj).1
    have hlt : i * k + j < d'.size * k := by
      have : (i + 1) * k ≤ d'.size * k := Nat.mul_le_mul_right k hi
      rw [Nat.add_mul] at this; omega
    have hmul : l.length * k ≤ cap * k := Nat.mul_le_mul_right k hl
    unfold putCells
    rw [Array.getElem?_mapIdx]
    have hin : o + i * k + j < A.size := by rw [hd] at hlt; omega
    rw [Array.getElem?_eq_getElem hin, Option.map_some, if_pos ⟨by omega, by rw [size_flatK]; omega⟩]
    have e3 : o + i * k + j - o = i * k + j := by omega
    rw [e3, get_flatK _ _ _ _ hlt]
    have e4 : (i * k + j) / k = i := by rw [Nat.mul_comm, Nat.mul_add_div (by omega), Nat.div_eq_of_lt hjk, Nat.add_zero]
    have e5 : (i * k + j) % k = j := by rw [Nat.mul_comm, Nat.mul_add_mod, Nat.mod_eq_of_lt hjk]
    rw [e4, e5]
    have hxe : d'[i]! = x := by
      have := (List.getElem?_eq_some_iff.1 hx).2
      simp only [Array.getElem_toList] at this
      rw [getElem!_pos d' i hi]; exact this
    rw [hxe]
    obtain ⟨h5, h6⟩ := List.getElem?_eq_some_iff.1 hj
    simp [h5, h6]
end
end Go.Wk

namespace Go.Wk
set_option linter.unusedVariables false

/-! ## 22. and, shl, clear of a map -/
section
variable {P : Program} {n : NN} {f : Nat → Value} {w : World} {Q : Exit → Act → World → Prop} {ops : Array Oper} {rest : List Oper} {d : Option Nat} {ty : TypeId} {ps : String} {es : Array Edge} {t yt k e : TypeId} {x y : Operand}
theorem rf_and {k : IntKind} {a b c : Int} (hx : okx n x = true) (hy : okx n y = true) (hv : ev f x = .int k a) (hw : ev f y = .int k b) (hc : bits .and k a b = c) : (execOp (fr n f).eval ⟨d, .binOp .and t x y yt, ty, ps, es, none⟩).run P w = .ok (.value (.int k c)) w := by
  subst hc
  simp [execOp, eval_fr hx, eval_fr hy, hv, hw, eqGuard, binOp, Op.intBits, bits]
theorem rf_shl {k k2 : IntKind} {a b c : Int} (hx : okx n x = true) (hy : okx n y = true) (hv : ev f x = .int k a) (hw : ev f y = .int k2 b) (h0 : 0 ≤ b) (h1 : b ≤ k.bits) (hc : k.wrap (a * 2 ^ b.toNat) = c) : (execOp (fr n f).eval ⟨d, .binOp .shl t x y yt, ty, ps, es, none⟩).run P w = .ok (.value (.int k c)) w := by
  subst hc
  simp [execOp, eval_fr hx, eval_fr hy, hv, hw, eqGuard, binOp, shift_shl k k2 a b h0 h1]
variable {α β : Type} {ek : α → Value} {ev : β → Value} {r : Nat} {l : List (α × β)}
theorem wl_clearM (hu : P.underlying t = some (.map k e)) (hx : okx n x = true) (hv : Go.Wk.ev f x = .map (some r)) (hm : Mp ek ev w r l)
    (h : ∀ w', Kp (fun b => b = r) w w' → Mp ek ev w' r ([] : List (α × β)) → WL P ops Q rest n (putD f d (.tuple #[])) w') :
    WL P ops Q (⟨d, .call { callee := .builtin .clear, args := #[x], argTypes := #[t] }, ty, ps, es, none⟩ :: rest) n f w := by
  obtain ⟨es', c, h1, h2, h3⟩ := hm
  refine wl_val rfl (v := .tuple #[]) (w' := { w with heap := w.heap.setIfInBounds r (.map #[] c) }) ?_ (h _ (Kp.setM _ _ _) ⟨#[], c, h1.setM, rfl, (fun e he => by simp at he), by simp⟩)
  simp only [execOp, resolve, invoke, builtin, Sem.run_bind, Sem.run_pure, Result.andThen_ok, List.map_toArray, List.map_cons, List.map_nil, eval_fr hx, hv]
  simp [Builtin.clear_, run_underlying hu, run_getM h1, run_setM _ h1, Result.andThen]
end
section
variable {P : Program} {n : NN} {f : Nat → Value} {w : World} {d : Option Nat} {ty : TypeId} {ps : String} {es : Array Edge} {t : TypeId} {x y : Operand}
theorem rf_indexS {s : ByteArray} {i : Nat} {c : Int} (hu : P.underlying t = some .string) (hx : okx n x = true) (hy : okx n y = true) (hv : ev f x = .string s) (hw : ev f y = .int .i64 (i : Int)) (hi : i < s.size) (hc : ((s[i].toNat : Nat) : Int) = c) :
    (execOp (fr n f).eval ⟨d, .index t x y, ty, ps, es, none⟩).run P w = .ok (.value (.int .u8 c)) w := by
  subst hc
  simp [execOp, eval_fr hx, eval_fr hy, hv, hw, Instr.index, asIntOf, run_underlying hu, hi]
end
theorem bab (a b : ByteArray) : (a == b) = decide (a = b) := by
  show (a.data == b.data) = _
  rw [Bool.eq_iff_iff]
  simp
  exact ⟨fun h => ByteArray.ext h, fun h => by rw [h]⟩
section
variable {P : Program} {n : NN} {f : Nat → Value} {w : World} {d : Option Nat} {ty : TypeId} {ps : String} {es : Array Edge} {t yt : TypeId} {x y : Operand}
theorem rf_eqlNN {td : TypeDesc} (hu : P.underlying t = some td) (htd : ∃ a b c, td = .func a b c) (hx : okx n x = true) (hy : okx n y = true) (hv : ev f x = .nilFunc) (hw : ev f y = .nilFunc) :
    (execOp (fr n f).eval ⟨d, .binOp .eql t x y yt, ty, ps, es, none⟩).run P w = .ok (.value (.bool true)) w := by
  obtain ⟨a, b, c, rfl⟩ := htd
  have he0 : ∀ d, (Op.equalIn (d + 1) t .nilFunc .nilFunc).run P w = .ok true w := by
    intro d; simp [Op.equalIn, run_underlying hu]
  have he' : (Op.equal t .nilFunc .nilFunc).run P w = .ok true w := he0 9999
  simp [execOp, eval_fr hx, eval_fr hy, hv, hw, eqGuard, binOp, he']
end
end Go.Wk

namespace Go.Wk
set_option linter.unusedVariables false

/-! ## 22. A range over a function -/
def marks (Ds : List Nat) : List Deferred := Ds.map fun D => { target := .collected D, args := #[] }
def updL (f : Nat → Value) : List Nat → List Value → (Nat → Value)
  | p :: ps, v :: vs => updL (upd f p v) ps vs
  | _, _ => f
section
variable {P : Program} {n : NN} {f : Nat → Value} {w : World} {Q : Exit → Act → World → Prop}
theorem tmps_put (n : NN) (f : Nat → Value) (d : Nat) (v : Value) : (fr n f).tmps.setIfInBounds d v = (fr n (upd f d v)).tmps := congrArg Act.tmps (fr_put n f d v)
theorem tmps_zip (n : NN) : ∀ (ps : List Nat) (vs : List Value) (f : Nat → Value), (ps.zip vs).foldl (fun t (p, v) => t.setIfInBounds p v) (fr n f).tmps = (fr n (updL f ps vs)).tmps := by
  intro ps
  induction ps with
  | nil => intro vs f; rfl
  | cons p ps ih =>
    intro vs f
    cases vs with
    | nil => rfl
    | cons v vs =>
      simp only [List.zip_cons_cons, List.foldl_cons, updL]
      rw [tmps_put]
      exact ih vs _
/-- A call of yield. -/
def Yl (P : Program) (l : Nat) (args : Array Value) (W : World) (R : Bool → World → Prop) : Prop :=
  ∃ fn tmps assign body, (Instr.yield l args).run P W = .ok (.round l fn tmps assign body) W ∧ RoundIn (WI none) 0 P l fn tmps assign body W (fun e W' => ∃ b, e = .returned (.bool b) ∧ R b W')
/-- What an iterator does: it hands its elements to yield, one behind the other, till one is answered with false; it writes into nothing that lay. -/
def IterC {α : Type} (P : Program) (gf : Nat) (lb : Array Value) (encs : α → Array Value) (L : List α) (Rep : World → Prop) : Prop :=
  ∀ (l : Nat) (J : Nat → World → Prop) (Jx : World → Prop) (W : World), (∀ i A B, J i A → Kp none_ A B → J i B) → (∀ A B, Jx A → Kp none_ A B → Jx B) → (∀ i A, J i A → Rep A) →
    (∀ i x A, L[i]? = some x → J i A → Yl P l (encs x) A (fun b B => if b then J (i + 1) B else Jx B)) → J 0 W →
    Calls P gf (#[.func (.yield l) #[] #[]] ++ lb) W (fun e B => ∃ v, e = .returned v ∧ (J L.length B ∨ Jx B))
def APost (n : NN) (K : (Nat → Value) → World → Prop) : Exit → Act → World → Prop
  | .normal, a, w => ∃ f, a = fr n f ∧ K f w
  | _, _, _ => False
theorem apn {K : (Nat → Value) → World → Prop} (h : K f w) : APost n K .normal (fr n f) w := ⟨f, rfl, h⟩
/-- What a round's body comes to. -/
def RPost (l : Nat) (rb : Loop) (J : World → Prop) (Jx : Exit → World → Prop) : Exit → Act → World → Prop
  | .normal, _, W => Blk W l (.loop rb) ∧ J W
  | .ret, _, W => Blk W l (.loop rb) ∧ Jx .ret W
  | .exit id, _, W => Blk W l (.loop rb) ∧ Jx (.exit id) W
  | _, _, _ => False
theorem Kp.putObj (w : World) (l : Nat) (o : Obj) : Kp (fun b => b = l) w (w.putObj l o) := Kp.setM w l o
theorem Blk.putObj {o o' : Obj} {l : Nat} (h : Blk w l o') : Blk (w.putObj l o) l o := Blk.setM h
def lrec (fn : FuncId) (tmps : Array Value) (ps : Array Tmp) (assign body : Code) (D : Nat) (st : LoopState) (pe : Option Code) : Loop := { state := st, pending := pe, fn, tmps, params := ps, assign, body, defers := D }
theorem range_core {α : Type} {g : Operand} {ps : Array Tmp} {assign body : Code} {gf : Nat} {lb : Array Value} {encs : α → Array Value} {L : List α} {Rep : World → Prop}
    (hok : okx n g = true) (hg : ev f g = .func (.func gf) #[] lb) (eg : ∀ args w, (callFunc gf args).run P w = .ok (.enter gf args) w)
    (hit : IterC P gf lb encs L Rep) (hps : ∀ x ∈ L, (encs x).size = ps.size)
    (l : Nat) (mark : List Deferred) (D : Nat) (W1 : FuncId → World)
    (hent : ∀ fn, (Instr.enterLoop fn (fr n f).tmps ps assign body n.ro).run P w = .ok (l, mark) (W1 fn) ∧ Blk (W1 fn) l (.loop (lrec fn (fr n f).tmps ps assign body D .ready none)))
    (J : Nat → World → Prop) (Jx : Exit → World → Prop) (hRep : ∀ i W W', J i W → Kp (fun y => y = l) W W' → Rep W') (h0 : ∀ fn, J 0 (W1 fn))
    (hround : ∀ i x W0 W rb, L[i]? = some x → J i W0 → Kp (fun y => y = l) W0 W → Blk W l (.loop rb) → rb.defers = D →
      wr ⟨n.n, [], some l⟩ P assign (APost ⟨n.n, [], some l⟩ fun f' W' => Blk W' l (.loop rb) ∧ ∀ W2 rb2, Kp (fun y => y = l) W' W2 → Blk W2 l (.loop rb2) → rb2.defers = D →
        wr ⟨n.n, [], some l⟩ P body (RPost l rb2 (J (i + 1)) Jx) (fr ⟨n.n, [], some l⟩ f') W2) (fr ⟨n.n, [], some l⟩ (updL f ps.toList (encs x).toList)) W)
    (hdone : ∀ W0 W, J L.length W0 → Kp (fun y => y = l) W0 W → Q .normal { fr n f with defers := mark ++ n.ds } W)
    (hstop : ∀ e W0 W, Jx e W0 → Kp (fun y => y = l) W0 W → (e = .ret ∨ ∃ id, e = .exit id) → Q e { fr n f with defers := mark ++ n.ds } W) :
    wr n P (Code.rangeFunc g ps assign body) Q (fr n f) w := by
  intro ho
  refine wpIn_rangeFunc ?_
  intro fn _
  obtain ⟨he, hb⟩ := hent fn
  refine ⟨l, mark, W1 fn, { target := .fn (.func gf) lb, args := #[.func (.yield l) #[] #[]] }, W1 fn, gf, #[.func (.yield l) #[] #[]] ++ lb, W1 fn, he, ?_, fun _ _ => trivial, ?_, fun e => by simp [WI, Fence.wide] at e, ?_⟩
  · simp only [resolve]
    rw [eval_fr hok, hg]
    simp [go_sem]
  · simp [invoke, go_sem, eg]
  obtain ⟨rc, hrc⟩ : ∃ rc, rc = lrec fn (fr n f).tmps ps assign body D := ⟨_, rfl⟩
  rw [← hrc] at hb
  refine calls_in (Calls.mono (hit l (fun i W => (∃ W0, J i W0 ∧ Kp (fun y => y = l) W0 W) ∧ Blk W l (.loop (rc .ready none)))
    (fun W => ∃ e c W0, (e = .ret ∧ c = Code.ret ∨ ∃ id, e = .exit id ∧ c = Code.exit id) ∧ Jx e W0 ∧ Kp (fun y => y = l) W0 W ∧ Blk W l (.loop (rc .done (some c)))) (W1 fn)
    (fun i A B ⟨⟨W0, h1, h2⟩, h3⟩ hk => ⟨⟨W0, h1, h2.comp hk (fun _ _ e => e.elim)⟩, h3.keep hk⟩)
    (fun A B ⟨e, c, W0, h1, h2, h3, h4⟩ hk => ⟨e, c, W0, h1, h2, h3.comp hk (fun _ _ e => e.elim), h4.keep hk⟩)
    (fun i A ⟨⟨W0, h1, h2⟩, _⟩ => hRep i W0 A h1 h2) ?_ ⟨⟨_, h0 fn, Kp.refl _⟩, hb⟩) ?_)
  · rintro i x A hx ⟨⟨W0, hJ, hkA⟩, hl⟩
    have hxs := hps x (List.mem_of_getElem? hx)
    have hy := run_yield (P := P) (args := encs x) hl (by rw [hrc]; exact hxs)
    rw [hrc] at hy
    refine ⟨fn, _, assign, body, hy, roundIn_of_wpIn (F := WI none) trivial ?_⟩
    have hr := hround i x W0 A _ hx hJ hkA hl (by rw [hrc]; rfl) (fun ⟨a, w, h⟩ => h)
    have et : (((lrec fn (fr n f).tmps ps assign body D .ready none).params.zip (encs x)).foldl (fun (tmps : Array Value) (x : Tmp × Value) => match x with | (t, a) => tmps.setIfInBounds t a) (lrec fn (fr n f).tmps ps assign body D .ready none).tmps) = (fr n (updL f ps.toList (encs x).toList)).tmps := by
      rw [← tmps_zip, ← Array.foldl_toList, Array.toList_zip]; rfl
    rw [et]
    refine wpIn_mono hr ?_
    intro e a W' hq
    cases e with
    | normal =>
      obtain ⟨f', rfl, hl', hbody⟩ := hq
      refine ⟨_, run_beginRound hl' (by rw [hrc]; rfl), ?_⟩
      have hl2 : Blk (W'.putObj l (.loop { rc .ready none with state := .busy })) l (.loop { rc .ready none with state := .busy }) := Blk.putObj hl'
      refine wpIn_mono (hbody _ _ (Kp.putObj _ _ _) hl2 (by rw [hrc]; rfl) (fun ⟨a, w, h⟩ => h)) ?_
      intro e3 a3 W3 h3
      cases e3 with
      | normal =>
        obtain ⟨h4, h5⟩ := h3
        exact ⟨_, _, run_endRound none h4, true, rfl, ⟨_, h5, Kp.putObj _ _ _⟩, by rw [hrc]; exact Blk.putObj h4⟩
      | ret =>
        obtain ⟨h4, h5⟩ := h3
        refine ⟨_, _, run_endRound (some .ret) h4, false, rfl, ?_⟩
        exact ⟨_, _, _, .inl ⟨rfl, rfl⟩, h5, Kp.putObj _ _ _, by rw [hrc]; exact Blk.putObj h4⟩
      | exit id =>
        obtain ⟨h4, h5⟩ := h3
        refine ⟨_, _, run_endRound (some (.exit id)) h4, false, rfl, ?_⟩
        exact ⟨_, _, _, .inr ⟨id, rfl, rfl⟩, h5, Kp.putObj _ _ _, by rw [hrc]; exact Blk.putObj h4⟩
      | _ => exact h3.elim
    | _ => exact hq.elim
  · rintro e W3 ⟨v, rfl, ⟨⟨W0, hJ, hk⟩, hl⟩ | ⟨e, c, W0, hec, hJ, hk, hl⟩⟩
    · exact ⟨none, _, by have := run_endLoop (P := P) hl (by rw [hrc]; simp [lrec]); rw [hrc] at this; exact this, hdone W0 _ hJ (hk.trans (Kp.putObj _ _ _))⟩
    · refine ⟨some c, _, by have := run_endLoop (P := P) hl (by rw [hrc]; simp [lrec]); rw [hrc] at this; exact this, ?_⟩
      rcases hec with ⟨rfl, rfl⟩ | ⟨id, rfl, rfl⟩
      · exact wpIn_ret (hstop _ W0 _ hJ (hk.trans (Kp.putObj _ _ _)) (.inl rfl))
      · exact wpIn_exit (hstop _ W0 _ hJ (hk.trans (Kp.putObj _ _ _)) (.inr ⟨id, rfl⟩))
end
end Go.Wk

namespace Go.Wk
attribute [irreducible] WL WQ WS
end Go.Wk
