/-
  No cell of these rows narrows 'for every input' (looked for: loops, veiled, ifaces, maps, wideKeys, modest, calm, conditions, laid).
  DERIVED. THE GIVEN ROWS OF THIS SEAT. 7 by the template 'for every input the law returns true; each argument reads behind the call as it read before'; 0 by the template 'total and deterministic' (their statements: YtiidihgimcebgaaTotals.lean).
  GIVEN WITH THE SEED: the statements are not yours to turn. If you find one false, say at which input.
  Laid BY PROGRAM, IN A SANDBOX (cutbox-rows.mjs): the forced cells as the released guide's own fill.sh prints them over the translation fcab96ad878b4a04… (all of the seat's roots in one cut). By AI agents, Wed Nov 11 2026. No macro, syntax, notation, axiom, sorry.
-/
import Derived.Test.YtiidihgimcebgaaChecked
import GoSem.Claim
import GoSem.ClaimJoined
import GoSem.ClaimMapViews
import Derived.JoinedTies
import Derived.KernelRfl
namespace Go.Proofs.Ytiidihgimcebgaa
/- THE CELL 'sum', in the pinned program and in every row, IS THE sha256 OF THE DUMP (.gsa) THAT YtiidihgimcebgaaProg.lean LOADS. Nothing in Lean hashes anything: it is a label: what it is worth is what the hold of that sum in a sandbox is worth. -/
noncomputable def Try.pinned : Pinned := { name := "ytiidihgimcebgaa", sum := "fcab96ad878b4a04a86c5ede17d1ca7864954955146e83e1aea3adcb05d06c86", checked := Try.checked }
namespace Rows
def none {H : Type} : Left H := { results := [], args := [] }

/-- 'preludelaw14.SchedWaits': WHATEVER THE INPUT: true; the input reads as it did. -/
def schedWaitsSpec : ChangeSpec := { name := "schedWaits", fn := fun _ => fun
  | [d1, d2, d3] => { results := [.lit (.bool true)], args := [d1, d2, d3] }
  | _ => none }
def schedWaitsRow : OpenClaim := { program := "ytiidihgimcebgaa", sum := "fcab96ad878b4a04a86c5ede17d1ca7864954955146e83e1aea3adcb05d06c86", func := "prelude/preludelaw14.SchedWaits", spec := "schedWaits", unfollowed := true, recurses := true, apart := false }
def SchedWaitsSaid : Prop := schedWaitsRow.holds Try.pinned (OpenSpec.ofChange schedWaitsSpec)

/-- ITS FALSE NEIGHBOUR: 'it returns false'. Refute it at one input. -/
def schedWaitsWrong : ChangeSpec := { name := "schedWaits", fn := fun _ => fun
  | [d1, d2, d3] => { results := [.lit (.bool false)], args := [d1, d2, d3] }
  | _ => none }
def SchedWaitsWrongFalsely : Prop := schedWaitsRow.holds Try.pinned (OpenSpec.ofChange schedWaitsWrong)

/-- 'preludelaw14.SchedRests': WHATEVER THE INPUT: true; the input reads as it did. -/
def schedRestsSpec : ChangeSpec := { name := "schedRests", fn := fun _ => fun
  | [d1, d2, d3] => { results := [.lit (.bool true)], args := [d1, d2, d3] }
  | _ => none }
def schedRestsRow : OpenClaim := { program := "ytiidihgimcebgaa", sum := "fcab96ad878b4a04a86c5ede17d1ca7864954955146e83e1aea3adcb05d06c86", func := "prelude/preludelaw14.SchedRests", spec := "schedRests", unfollowed := true, recurses := true, apart := false }
def SchedRestsSaid : Prop := schedRestsRow.holds Try.pinned (OpenSpec.ofChange schedRestsSpec)

/-- ITS FALSE NEIGHBOUR: 'it returns false'. Refute it at one input. -/
def schedRestsWrong : ChangeSpec := { name := "schedRests", fn := fun _ => fun
  | [d1, d2, d3] => { results := [.lit (.bool false)], args := [d1, d2, d3] }
  | _ => none }
def SchedRestsWrongFalsely : Prop := schedRestsRow.holds Try.pinned (OpenSpec.ofChange schedRestsWrong)

/-- 'preludelaw14.SchedChores': WHATEVER THE INPUT: true; the input reads as it did. -/
def schedChoresSpec : ChangeSpec := { name := "schedChores", fn := fun _ => fun
  | [d1, d2, d3] => { results := [.lit (.bool true)], args := [d1, d2, d3] }
  | _ => none }
def schedChoresRow : OpenClaim := { program := "ytiidihgimcebgaa", sum := "fcab96ad878b4a04a86c5ede17d1ca7864954955146e83e1aea3adcb05d06c86", func := "prelude/preludelaw14.SchedChores", spec := "schedChores", unfollowed := true, recurses := true, apart := false }
def SchedChoresSaid : Prop := schedChoresRow.holds Try.pinned (OpenSpec.ofChange schedChoresSpec)

/-- ITS FALSE NEIGHBOUR: 'it returns false'. Refute it at one input. -/
def schedChoresWrong : ChangeSpec := { name := "schedChores", fn := fun _ => fun
  | [d1, d2, d3] => { results := [.lit (.bool false)], args := [d1, d2, d3] }
  | _ => none }
def SchedChoresWrongFalsely : Prop := schedChoresRow.holds Try.pinned (OpenSpec.ofChange schedChoresWrong)

/-- 'preludelaw14.SchedTakes': WHATEVER THE INPUT: true; the input reads as it did. -/
def schedTakesSpec : ChangeSpec := { name := "schedTakes", fn := fun _ => fun
  | [d1, d2, d3] => { results := [.lit (.bool true)], args := [d1, d2, d3] }
  | _ => none }
def schedTakesRow : OpenClaim := { program := "ytiidihgimcebgaa", sum := "fcab96ad878b4a04a86c5ede17d1ca7864954955146e83e1aea3adcb05d06c86", func := "prelude/preludelaw14.SchedTakes", spec := "schedTakes", unfollowed := true, recurses := true, apart := false }
def SchedTakesSaid : Prop := schedTakesRow.holds Try.pinned (OpenSpec.ofChange schedTakesSpec)

/-- ITS FALSE NEIGHBOUR: 'it returns false'. Refute it at one input. -/
def schedTakesWrong : ChangeSpec := { name := "schedTakes", fn := fun _ => fun
  | [d1, d2, d3] => { results := [.lit (.bool false)], args := [d1, d2, d3] }
  | _ => none }
def SchedTakesWrongFalsely : Prop := schedTakesRow.holds Try.pinned (OpenSpec.ofChange schedTakesWrong)

/-- 'preludelaw14.SchedDrains': WHATEVER THE INPUT: true; the input reads as it did. -/
def schedDrainsSpec : ChangeSpec := { name := "schedDrains", fn := fun _ => fun
  | [d1, d2, d3] => { results := [.lit (.bool true)], args := [d1, d2, d3] }
  | _ => none }
def schedDrainsRow : OpenClaim := { program := "ytiidihgimcebgaa", sum := "fcab96ad878b4a04a86c5ede17d1ca7864954955146e83e1aea3adcb05d06c86", func := "prelude/preludelaw14.SchedDrains", spec := "schedDrains", unfollowed := true, recurses := true, apart := false }
def SchedDrainsSaid : Prop := schedDrainsRow.holds Try.pinned (OpenSpec.ofChange schedDrainsSpec)

/-- ITS FALSE NEIGHBOUR: 'it returns false'. Refute it at one input. -/
def schedDrainsWrong : ChangeSpec := { name := "schedDrains", fn := fun _ => fun
  | [d1, d2, d3] => { results := [.lit (.bool false)], args := [d1, d2, d3] }
  | _ => none }
def SchedDrainsWrongFalsely : Prop := schedDrainsRow.holds Try.pinned (OpenSpec.ofChange schedDrainsWrong)

/-- 'preludelaw14.SchedExact': WHATEVER THE INPUT: true; the input reads as it did. -/
def schedExactSpec : ChangeSpec := { name := "schedExact", fn := fun _ => fun
  | [d1, d2, d3] => { results := [.lit (.bool true)], args := [d1, d2, d3] }
  | _ => none }
def schedExactRow : OpenClaim := { program := "ytiidihgimcebgaa", sum := "fcab96ad878b4a04a86c5ede17d1ca7864954955146e83e1aea3adcb05d06c86", func := "prelude/preludelaw14.SchedExact", spec := "schedExact", unfollowed := true, recurses := true, apart := false }
def SchedExactSaid : Prop := schedExactRow.holds Try.pinned (OpenSpec.ofChange schedExactSpec)

/-- ITS FALSE NEIGHBOUR: 'it returns false'. Refute it at one input. -/
def schedExactWrong : ChangeSpec := { name := "schedExact", fn := fun _ => fun
  | [d1, d2, d3] => { results := [.lit (.bool false)], args := [d1, d2, d3] }
  | _ => none }
def SchedExactWrongFalsely : Prop := schedExactRow.holds Try.pinned (OpenSpec.ofChange schedExactWrong)

/-- 'preludelaw14.SchedMeets': WHATEVER THE INPUT: true; the input reads as it did. -/
def schedMeetsSpec : ChangeSpec := { name := "schedMeets", fn := fun _ => fun
  | [d1, d2, d3, d4] => { results := [.lit (.bool true)], args := [d1, d2, d3, d4] }
  | _ => none }
def schedMeetsRow : OpenClaim := { program := "ytiidihgimcebgaa", sum := "fcab96ad878b4a04a86c5ede17d1ca7864954955146e83e1aea3adcb05d06c86", func := "prelude/preludelaw14.SchedMeets", spec := "schedMeets", unfollowed := true, recurses := true, apart := false }
def SchedMeetsSaid : Prop := schedMeetsRow.holds Try.pinned (OpenSpec.ofChange schedMeetsSpec)

/-- ITS FALSE NEIGHBOUR: 'it returns false'. Refute it at one input. -/
def schedMeetsWrong : ChangeSpec := { name := "schedMeets", fn := fun _ => fun
  | [d1, d2, d3, d4] => { results := [.lit (.bool false)], args := [d1, d2, d3, d4] }
  | _ => none }
def SchedMeetsWrongFalsely : Prop := schedMeetsRow.holds Try.pinned (OpenSpec.ofChange schedMeetsWrong)

/- THE SECOND FORM. 'bulk': how many values and letters a reading holds, each counted each time it is reached (what is shared counts as often as it is met; a slice's spare places count too). A statement '..UptoSaid' is the law's where the arguments, and the package variables that the reading takes, are together of bulk at most 1048576: NARROWER than '..Said'. Prove '..Said' where nothing that the law and all that it calls make is longer than what came in: it says more and counts as full. Else prove '..UptoSaid'. A law counts once. -/
mutual
def uptoBulk {H : Type} : DataW H → Nat
  | .lit (.string bytes) => bytes.length + 1
  | .lit _ => 1
  | .nil => 1
  | .ptr d => uptoBulk d + 1
  | .slice elems spare => uptoBulkAll elems + uptoBulkAll spare + 1
  | .agg parts => uptoBulkAll parts + 1
  | .iface _ d => uptoBulk d + 1
  | .map entries => uptoBulkEntries entries + 1
  | .held _ => 1
def uptoBulkAll {H : Type} : List (DataW H) → Nat
  | [] => 0
  | d :: r => uptoBulk d + uptoBulkAll r
def uptoBulkEntries {H : Type} : List (Lit × DataW H) → Nat
  | [] => 0
  | x :: r => uptoBulkEntry x + uptoBulkEntries r
def uptoBulkEntry {H : Type} : Lit × DataW H → Nat
  | (.string bytes, d) => bytes.length + uptoBulk d + 1
  | (_, d) => uptoBulk d + 1
 end
def uptoSmall : (H : Type) → List (DataW H) → Bool := fun _ ds => decide (uptoBulkAll ds ≤ 1048576)
def OpenSpec.upto (s : _root_.Go.ChangeSpec) : _root_.Go.OpenSpec := { _root_.Go.OpenSpec.ofChange s with cond := some uptoSmall }

/-- 'preludelaw14.SchedWaits', WHERE WHAT IT READS IS OF BULK AT MOST 1048576: true; the input reads as it did. -/
def schedWaitsUptoRow : OpenClaim := { program := "ytiidihgimcebgaa", sum := "fcab96ad878b4a04a86c5ede17d1ca7864954955146e83e1aea3adcb05d06c86", func := "prelude/preludelaw14.SchedWaits", spec := "schedWaits", unfollowed := true, recurses := true, apart := false, narrowed := true }
def SchedWaitsUptoSaid : Prop := schedWaitsUptoRow.holds Try.pinned (OpenSpec.upto schedWaitsSpec)

/-- 'preludelaw14.SchedRests', WHERE WHAT IT READS IS OF BULK AT MOST 1048576: true; the input reads as it did. -/
def schedRestsUptoRow : OpenClaim := { program := "ytiidihgimcebgaa", sum := "fcab96ad878b4a04a86c5ede17d1ca7864954955146e83e1aea3adcb05d06c86", func := "prelude/preludelaw14.SchedRests", spec := "schedRests", unfollowed := true, recurses := true, apart := false, narrowed := true }
def SchedRestsUptoSaid : Prop := schedRestsUptoRow.holds Try.pinned (OpenSpec.upto schedRestsSpec)

/-- 'preludelaw14.SchedChores', WHERE WHAT IT READS IS OF BULK AT MOST 1048576: true; the input reads as it did. -/
def schedChoresUptoRow : OpenClaim := { program := "ytiidihgimcebgaa", sum := "fcab96ad878b4a04a86c5ede17d1ca7864954955146e83e1aea3adcb05d06c86", func := "prelude/preludelaw14.SchedChores", spec := "schedChores", unfollowed := true, recurses := true, apart := false, narrowed := true }
def SchedChoresUptoSaid : Prop := schedChoresUptoRow.holds Try.pinned (OpenSpec.upto schedChoresSpec)

/-- 'preludelaw14.SchedTakes', WHERE WHAT IT READS IS OF BULK AT MOST 1048576: true; the input reads as it did. -/
def schedTakesUptoRow : OpenClaim := { program := "ytiidihgimcebgaa", sum := "fcab96ad878b4a04a86c5ede17d1ca7864954955146e83e1aea3adcb05d06c86", func := "prelude/preludelaw14.SchedTakes", spec := "schedTakes", unfollowed := true, recurses := true, apart := false, narrowed := true }
def SchedTakesUptoSaid : Prop := schedTakesUptoRow.holds Try.pinned (OpenSpec.upto schedTakesSpec)

/-- 'preludelaw14.SchedDrains', WHERE WHAT IT READS IS OF BULK AT MOST 1048576: true; the input reads as it did. -/
def schedDrainsUptoRow : OpenClaim := { program := "ytiidihgimcebgaa", sum := "fcab96ad878b4a04a86c5ede17d1ca7864954955146e83e1aea3adcb05d06c86", func := "prelude/preludelaw14.SchedDrains", spec := "schedDrains", unfollowed := true, recurses := true, apart := false, narrowed := true }
def SchedDrainsUptoSaid : Prop := schedDrainsUptoRow.holds Try.pinned (OpenSpec.upto schedDrainsSpec)

/-- 'preludelaw14.SchedExact', WHERE WHAT IT READS IS OF BULK AT MOST 1048576: true; the input reads as it did. -/
def schedExactUptoRow : OpenClaim := { program := "ytiidihgimcebgaa", sum := "fcab96ad878b4a04a86c5ede17d1ca7864954955146e83e1aea3adcb05d06c86", func := "prelude/preludelaw14.SchedExact", spec := "schedExact", unfollowed := true, recurses := true, apart := false, narrowed := true }
def SchedExactUptoSaid : Prop := schedExactUptoRow.holds Try.pinned (OpenSpec.upto schedExactSpec)

/-- 'preludelaw14.SchedMeets', WHERE WHAT IT READS IS OF BULK AT MOST 1048576: true; the input reads as it did. -/
def schedMeetsUptoRow : OpenClaim := { program := "ytiidihgimcebgaa", sum := "fcab96ad878b4a04a86c5ede17d1ca7864954955146e83e1aea3adcb05d06c86", func := "prelude/preludelaw14.SchedMeets", spec := "schedMeets", unfollowed := true, recurses := true, apart := false, narrowed := true }
def SchedMeetsUptoSaid : Prop := schedMeetsUptoRow.holds Try.pinned (OpenSpec.upto schedMeetsSpec)

end Rows
end Go.Proofs.Ytiidihgimcebgaa
