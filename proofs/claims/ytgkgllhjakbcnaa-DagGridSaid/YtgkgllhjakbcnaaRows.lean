/-
  No cell of these rows narrows 'for every input' (looked for: loops, veiled, ifaces, maps, wideKeys, modest, calm, conditions, laid).
  DERIVED. THE GIVEN ROWS OF THIS SEAT. 4 by the template 'for every input the law returns true; each argument reads behind the call as it read before'; 0 by the template 'total and deterministic' (their statements: YtgkgllhjakbcnaaTotals.lean).
  GIVEN WITH THE SEED: the statements are not yours to turn. If you find one false, say at which input.
  Laid BY PROGRAM, IN A SANDBOX (cutbox-rows.mjs): the forced cells as the released guide's own fill.sh prints them over the translation 87afa0b4fde176d4… (all of the seat's roots in one cut). By AI agents, Wed Nov 11 2026. No macro, syntax, notation, axiom, sorry.
-/
import Derived.Test.YtgkgllhjakbcnaaChecked
import GoSem.Claim
import GoSem.ClaimJoined
import GoSem.ClaimMapViews
import Derived.JoinedTies
import Derived.KernelRfl
namespace Go.Proofs.Ytgkgllhjakbcnaa
/- THE CELL 'sum', in the pinned program and in every row, IS THE sha256 OF THE DUMP (.gsa) THAT YtgkgllhjakbcnaaProg.lean LOADS. Nothing in Lean hashes anything: it is a label: what it is worth is what the hold of that sum in a sandbox is worth. -/
noncomputable def Try.pinned : Pinned := { name := "ytgkgllhjakbcnaa", sum := "87afa0b4fde176d47d23a7687ab820fe12ea070d91f4bbe4560c66927874edd3", checked := Try.checked }
namespace Rows
def none {H : Type} : Left H := { results := [], args := [] }

/-- 'waymarklaw10.DagTells': WHATEVER THE INPUT: true; the input reads as it did. -/
def dagTellsSpec : ChangeSpec := { name := "dagTells", fn := fun _ => fun
  | [d1, d2, d3, d4] => { results := [.lit (.bool true)], args := [d1, d2, d3, d4] }
  | _ => none }
def dagTellsRow : OpenClaim := { program := "ytgkgllhjakbcnaa", sum := "87afa0b4fde176d47d23a7687ab820fe12ea070d91f4bbe4560c66927874edd3", func := "waymark/waymarklaw10.DagTells", spec := "dagTells", unfollowed := true, recurses := true, apart := false }
def DagTellsSaid : Prop := dagTellsRow.holds Try.pinned (OpenSpec.ofChange dagTellsSpec)

/-- ITS FALSE NEIGHBOUR: 'it returns false'. Refute it at one input. -/
def dagTellsWrong : ChangeSpec := { name := "dagTells", fn := fun _ => fun
  | [d1, d2, d3, d4] => { results := [.lit (.bool false)], args := [d1, d2, d3, d4] }
  | _ => none }
def DagTellsWrongFalsely : Prop := dagTellsRow.holds Try.pinned (OpenSpec.ofChange dagTellsWrong)

/-- 'waymarklaw10.DagDoubles': WHATEVER THE INPUT: true; the input reads as it did. -/
def dagDoublesSpec : ChangeSpec := { name := "dagDoubles", fn := fun _ => fun
  | [d1, d2] => { results := [.lit (.bool true)], args := [d1, d2] }
  | _ => none }
def dagDoublesRow : OpenClaim := { program := "ytgkgllhjakbcnaa", sum := "87afa0b4fde176d47d23a7687ab820fe12ea070d91f4bbe4560c66927874edd3", func := "waymark/waymarklaw10.DagDoubles", spec := "dagDoubles", unfollowed := true, recurses := true, apart := false }
def DagDoublesSaid : Prop := dagDoublesRow.holds Try.pinned (OpenSpec.ofChange dagDoublesSpec)

/-- ITS FALSE NEIGHBOUR: 'it returns false'. Refute it at one input. -/
def dagDoublesWrong : ChangeSpec := { name := "dagDoubles", fn := fun _ => fun
  | [d1, d2] => { results := [.lit (.bool false)], args := [d1, d2] }
  | _ => none }
def DagDoublesWrongFalsely : Prop := dagDoublesRow.holds Try.pinned (OpenSpec.ofChange dagDoublesWrong)

/-- 'waymarklaw10.DagUses': WHATEVER THE INPUT: true; the input reads as it did. -/
def dagUsesSpec : ChangeSpec := { name := "dagUses", fn := fun _ => fun
  | [d1, d2, d3, d4] => { results := [.lit (.bool true)], args := [d1, d2, d3, d4] }
  | _ => none }
def dagUsesRow : OpenClaim := { program := "ytgkgllhjakbcnaa", sum := "87afa0b4fde176d47d23a7687ab820fe12ea070d91f4bbe4560c66927874edd3", func := "waymark/waymarklaw10.DagUses", spec := "dagUses", unfollowed := true, recurses := true, apart := false }
def DagUsesSaid : Prop := dagUsesRow.holds Try.pinned (OpenSpec.ofChange dagUsesSpec)

/-- ITS FALSE NEIGHBOUR: 'it returns false'. Refute it at one input. -/
def dagUsesWrong : ChangeSpec := { name := "dagUses", fn := fun _ => fun
  | [d1, d2, d3, d4] => { results := [.lit (.bool false)], args := [d1, d2, d3, d4] }
  | _ => none }
def DagUsesWrongFalsely : Prop := dagUsesRow.holds Try.pinned (OpenSpec.ofChange dagUsesWrong)

/-- 'waymarklaw10.DagGrid': WHATEVER THE INPUT: true; the input reads as it did. -/
def dagGridSpec : ChangeSpec := { name := "dagGrid", fn := fun _ => fun
  | [d1, d2] => { results := [.lit (.bool true)], args := [d1, d2] }
  | _ => none }
def dagGridRow : OpenClaim := { program := "ytgkgllhjakbcnaa", sum := "87afa0b4fde176d47d23a7687ab820fe12ea070d91f4bbe4560c66927874edd3", func := "waymark/waymarklaw10.DagGrid", spec := "dagGrid", unfollowed := true, recurses := true, apart := false }
def DagGridSaid : Prop := dagGridRow.holds Try.pinned (OpenSpec.ofChange dagGridSpec)

/-- ITS FALSE NEIGHBOUR: 'it returns false'. Refute it at one input. -/
def dagGridWrong : ChangeSpec := { name := "dagGrid", fn := fun _ => fun
  | [d1, d2] => { results := [.lit (.bool false)], args := [d1, d2] }
  | _ => none }
def DagGridWrongFalsely : Prop := dagGridRow.holds Try.pinned (OpenSpec.ofChange dagGridWrong)

/- THE SECOND FORM. 'bulk': how many values and letters a reading holds, each counted each time it is reached (what is shared counts as often as it is met; a slice's spare places count too). A statement '..UptoSaid' is the law's where the arguments, and the package variables that the reading takes, are together of bulk at most 1048576: NARROWER than '..Said'. Prove '..Said' where nothing that the law and all that it calls make is longer than what came in: it says more and counts as full. Else prove '..UptoSaid'. A law counts once. -/
mutual
def uptoBulk {H : Type} : DataW H → Nat
  | .lit (.string bytes) => bytes.length + 1
  | .lit _ => 1
  | .nil => 1
  | .ptr d => uptoBulk d + 1
  | .slice elems spare => uptoBulkAll elems + uptoBulkAll spare + 1
  | .agg parts => uptoBulkAll parts + 1
  | .iface _ d => uptoBulk d + 1
  | .map entries => uptoBulkEntries entries + 1
  | .held _ => 1
def uptoBulkAll {H : Type} : List (DataW H) → Nat
  | [] => 0
  | d :: r => uptoBulk d + uptoBulkAll r
def uptoBulkEntries {H : Type} : List (Lit × DataW H) → Nat
  | [] => 0
  | x :: r => uptoBulkEntry x + uptoBulkEntries r
def uptoBulkEntry {H : Type} : Lit × DataW H → Nat
  | (.string bytes, d) => bytes.length + uptoBulk d + 1
  | (_, d) => uptoBulk d + 1
 end
def uptoSmall : (H : Type) → List (DataW H) → Bool := fun _ ds => decide (uptoBulkAll ds ≤ 1048576)
def OpenSpec.upto (s : _root_.Go.ChangeSpec) : _root_.Go.OpenSpec := { _root_.Go.OpenSpec.ofChange s with cond := some uptoSmall }

/-- 'waymarklaw10.DagTells', WHERE WHAT IT READS IS OF BULK AT MOST 1048576: true; the input reads as it did. -/
def dagTellsUptoRow : OpenClaim := { program := "ytgkgllhjakbcnaa", sum := "87afa0b4fde176d47d23a7687ab820fe12ea070d91f4bbe4560c66927874edd3", func := "waymark/waymarklaw10.DagTells", spec := "dagTells", unfollowed := true, recurses := true, apart := false, narrowed := true }
def DagTellsUptoSaid : Prop := dagTellsUptoRow.holds Try.pinned (OpenSpec.upto dagTellsSpec)

/-- 'waymarklaw10.DagDoubles', WHERE WHAT IT READS IS OF BULK AT MOST 1048576: true; the input reads as it did. -/
def dagDoublesUptoRow : OpenClaim := { program := "ytgkgllhjakbcnaa", sum := "87afa0b4fde176d47d23a7687ab820fe12ea070d91f4bbe4560c66927874edd3", func := "waymark/waymarklaw10.DagDoubles", spec := "dagDoubles", unfollowed := true, recurses := true, apart := false, narrowed := true }
def DagDoublesUptoSaid : Prop := dagDoublesUptoRow.holds Try.pinned (OpenSpec.upto dagDoublesSpec)

/-- 'waymarklaw10.DagUses', WHERE WHAT IT READS IS OF BULK AT MOST 1048576: true; the input reads as it did. -/
def dagUsesUptoRow : OpenClaim := { program := "ytgkgllhjakbcnaa", sum := "87afa0b4fde176d47d23a7687ab820fe12ea070d91f4bbe4560c66927874edd3", func := "waymark/waymarklaw10.DagUses", spec := "dagUses", unfollowed := true, recurses := true, apart := false, narrowed := true }
def DagUsesUptoSaid : Prop := dagUsesUptoRow.holds Try.pinned (OpenSpec.upto dagUsesSpec)

/-- 'waymarklaw10.DagGrid', WHERE WHAT IT READS IS OF BULK AT MOST 1048576: true; the input reads as it did. -/
def dagGridUptoRow : OpenClaim := { program := "ytgkgllhjakbcnaa", sum := "87afa0b4fde176d47d23a7687ab820fe12ea070d91f4bbe4560c66927874edd3", func := "waymark/waymarklaw10.DagGrid", spec := "dagGrid", unfollowed := true, recurses := true, apart := false, narrowed := true }
def DagGridUptoSaid : Prop := dagGridUptoRow.holds Try.pinned (OpenSpec.upto dagGridSpec)

end Rows
end Go.Proofs.Ytgkgllhjakbcnaa
