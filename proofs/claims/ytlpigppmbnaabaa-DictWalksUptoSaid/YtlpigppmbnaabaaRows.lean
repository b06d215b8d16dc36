/-
  No cell of these rows narrows 'for every input' (looked for: loops, veiled, ifaces, maps, wideKeys, modest, calm, conditions, laid).
  DERIVED. THE GIVEN ROWS OF THIS SEAT. 2 by the template 'for every input the law returns true; each argument reads behind the call as it read before'; 0 by the template 'total and deterministic' (their statements: YtlpigppmbnaabaaTotals.lean).
  GIVEN WITH THE SEED: the statements are not yours to turn. If you find one false, say at which input.
  Laid BY PROGRAM, IN A SANDBOX (cutbox-rows.mjs): the forced cells as the released guide's own fill.sh prints them over the translation d03c76b5fbf21571… (all of the seat's roots in one cut). By AI agents, Wed Nov 11 2026. No macro, syntax, notation, axiom, sorry.
-/
import Derived.Test.YtlpigppmbnaabaaChecked
import GoSem.Claim
import GoSem.ClaimJoined
import GoSem.ClaimMapViews
import Derived.JoinedTies
import Derived.KernelRfl
namespace Go.Proofs.Ytlpigppmbnaabaa
/- THE CELL 'sum', in the pinned program and in every row, IS THE sha256 OF THE DUMP (.gsa) THAT YtlpigppmbnaabaaProg.lean LOADS. Nothing in Lean hashes anything: it is a label: what it is worth is what the hold of that sum in a sandbox is worth. -/
noncomputable def Try.pinned : Pinned := { name := "ytlpigppmbnaabaa", sum := "d03c76b5fbf21571c2d23e9b2525d940c6e8c5233510ea458d65b2178804f898", checked := Try.checked }
namespace Rows
def none {H : Type} : Left H := { results := [], args := [] }

/-- 'preludelaw07.DictStops': WHATEVER THE INPUT: true; the input reads as it did. -/
def dictStopsSpec : ChangeSpec := { name := "dictStops", fn := fun _ => fun
  | [d1, d2] => { results := [.lit (.bool true)], args := [d1, d2] }
  | _ => none }
def dictStopsRow : OpenClaim := { program := "ytlpigppmbnaabaa", sum := "d03c76b5fbf21571c2d23e9b2525d940c6e8c5233510ea458d65b2178804f898", func := "prelude/preludelaw07.DictStops", spec := "dictStops", unfollowed := true, recurses := true, plainKeys := false, apart := false }
def DictStopsSaid : Prop := dictStopsRow.holds Try.pinned (OpenSpec.ofChange dictStopsSpec)

/-- ITS FALSE NEIGHBOUR: 'it returns false'. Refute it at one input. -/
def dictStopsWrong : ChangeSpec := { name := "dictStops", fn := fun _ => fun
  | [d1, d2] => { results := [.lit (.bool false)], args := [d1, d2] }
  | _ => none }
def DictStopsWrongFalsely : Prop := dictStopsRow.holds Try.pinned (OpenSpec.ofChange dictStopsWrong)

/-- 'preludelaw07.DictWalks': WHATEVER THE INPUT: true; the input reads as it did. -/
def dictWalksSpec : ChangeSpec := { name := "dictWalks", fn := fun _ => fun
  | [d1, d2] => { results := [.lit (.bool true)], args := [d1, d2] }
  | _ => none }
def dictWalksRow : OpenClaim := { program := "ytlpigppmbnaabaa", sum := "d03c76b5fbf21571c2d23e9b2525d940c6e8c5233510ea458d65b2178804f898", func := "prelude/preludelaw07.DictWalks", spec := "dictWalks", unfollowed := true, recurses := true, plainKeys := false, apart := false }
def DictWalksSaid : Prop := dictWalksRow.holds Try.pinned (OpenSpec.ofChange dictWalksSpec)

/-- ITS FALSE NEIGHBOUR: 'it returns false'. Refute it at one input. -/
def dictWalksWrong : ChangeSpec := { name := "dictWalks", fn := fun _ => fun
  | [d1, d2] => { results := [.lit (.bool false)], args := [d1, d2] }
  | _ => none }
def DictWalksWrongFalsely : Prop := dictWalksRow.holds Try.pinned (OpenSpec.ofChange dictWalksWrong)

/- THE SECOND FORM. 'bulk': how many values and letters a reading holds, each counted each time it is reached (what is shared counts as often as it is met; a slice's spare places count too). A statement '..UptoSaid' is the law's where the arguments, and the package variables that the reading takes, are together of bulk at most 1048576: NARROWER than '..Said'. Prove '..Said' where nothing that the law and all that it calls make is longer than what came in: it says more and counts as full. Else prove '..UptoSaid'. A law counts once. -/
mutual
def uptoBulk {H : Type} : DataW H → Nat
  | .lit (.string bytes) => bytes.length + 1
  | .lit _ => 1
  | .nil => 1
  | .ptr d => uptoBulk d + 1
  | .slice elems spare => uptoBulkAll elems + uptoBulkAll spare + 1
  | .agg parts => uptoBulkAll parts + 1
  | .iface _ d => uptoBulk d + 1
  | .map entries => uptoBulkEntries entries + 1
  | .held _ => 1
def uptoBulkAll {H : Type} : List (DataW H) → Nat
  | [] => 0
  | d :: r => uptoBulk d + uptoBulkAll r
def uptoBulkEntries {H : Type} : List (Lit × DataW H) → Nat
  | [] => 0
  | x :: r => uptoBulkEntry x + uptoBulkEntries r
def uptoBulkEntry {H : Type} : Lit × DataW H → Nat
  | (.string bytes, d) => bytes.length + uptoBulk d + 1
  | (_, d) => uptoBulk d + 1
 end
def uptoSmall : (H : Type) → List (DataW H) → Bool := fun _ ds => decide (uptoBulkAll ds ≤ 1048576)
def OpenSpec.upto (s : _root_.Go.ChangeSpec) : _root_.Go.OpenSpec := { _root_.Go.OpenSpec.ofChange s with cond := some uptoSmall }

/-- 'preludelaw07.DictStops', WHERE WHAT IT READS IS OF BULK AT MOST 1048576: true; the input reads as it did. -/
def dictStopsUptoRow : OpenClaim := { program := "ytlpigppmbnaabaa", sum := "d03c76b5fbf21571c2d23e9b2525d940c6e8c5233510ea458d65b2178804f898", func := "prelude/preludelaw07.DictStops", spec := "dictStops", unfollowed := true, recurses := true, plainKeys := false, apart := false, narrowed := true }
def DictStopsUptoSaid : Prop := dictStopsUptoRow.holds Try.pinned (OpenSpec.upto dictStopsSpec)

/-- 'preludelaw07.DictWalks', WHERE WHAT IT READS IS OF BULK AT MOST 1048576: true; the input reads as it did. -/
def dictWalksUptoRow : OpenClaim := { program := "ytlpigppmbnaabaa", sum := "d03c76b5fbf21571c2d23e9b2525d940c6e8c5233510ea458d65b2178804f898", func := "prelude/preludelaw07.DictWalks", spec := "dictWalks", unfollowed := true, recurses := true, plainKeys := false, apart := false, narrowed := true }
def DictWalksUptoSaid : Prop := dictWalksUptoRow.holds Try.pinned (OpenSpec.upto dictWalksSpec)

end Rows
end Go.Proofs.Ytlpigppmbnaabaa
