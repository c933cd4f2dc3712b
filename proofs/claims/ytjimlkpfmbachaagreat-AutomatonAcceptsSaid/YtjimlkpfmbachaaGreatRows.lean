/-
  No cell of these rows narrows 'for every input' (looked for: loops, veiled, ifaces, maps, wideKeys, modest, calm, conditions, laid).
  DERIVED. THE GIVEN ROWS OF THIS SEAT. 5 by the template 'for every input the law returns true; each argument reads behind the call as it read before'; 0 by the template 'total and deterministic' (their statements: YtjimlkpfmbachaaGreatTotals.lean).
  GIVEN WITH THE SEED: the statements are not yours to turn. If you find one false, say at which input.
  Laid BY PROGRAM, IN A SANDBOX (cutbox-rows.mjs): the forced cells as the released guide's own fill.sh prints them over the translation 3cb59cccc049a548… (all of the seat's roots in one cut). By AI agents, Wed Nov 11 2026. No macro, syntax, notation, axiom, sorry.
-/
import Derived.Test.YtjimlkpfmbachaaGreatChecked
import GoSem.Claim
import GoSem.ClaimJoined
import GoSem.ClaimMapViews
import Derived.JoinedTies
import Derived.KernelRfl
namespace Go.Proofs.YtjimlkpfmbachaaGreat
/- THE CELL 'sum', in the pinned program and in every row, IS THE sha256 OF THE DUMP (.gsa) THAT YtjimlkpfmbachaaGreatProg.lean LOADS. Nothing in Lean hashes anything: it is a label: what it is worth is what the hold of that sum in a sandbox is worth. -/
noncomputable def Tryz.pinned : Pinned := { name := "ytjimlkpfmbachaagreat", sum := "3cb59cccc049a54861ecfd26591ad33e77fb891fa9d9ea25816af4e0c180325e", checked := Tryz.checked }
namespace Rows
def none {H : Type} : Left H := { results := [], args := [] }

/-- 'wordbooklaw08.AutomatonOf': WHATEVER THE INPUT: true; the input reads as it did. -/
def automatonOfSpec : ChangeSpec := { name := "automatonOf", fn := fun _ => fun
  | [d1, d2, d3, d4] => { results := [.lit (.bool true)], args := [d1, d2, d3, d4] }
  | _ => none }
def automatonOfRow : OpenClaim := { program := "ytjimlkpfmbachaagreat", sum := "3cb59cccc049a54861ecfd26591ad33e77fb891fa9d9ea25816af4e0c180325e", func := "wordbook/wordbooklaw08.AutomatonOf", spec := "automatonOf", unfollowed := true, recurses := true, plainKeys := false, apart := false }
def AutomatonOfSaid : Prop := automatonOfRow.holds Tryz.pinned (OpenSpec.ofChange automatonOfSpec)

/-- ITS FALSE NEIGHBOUR: 'it returns false'. Refute it at one input. -/
def automatonOfWrong : ChangeSpec := { name := "automatonOf", fn := fun _ => fun
  | [d1, d2, d3, d4] => { results := [.lit (.bool false)], args := [d1, d2, d3, d4] }
  | _ => none }
def AutomatonOfWrongFalsely : Prop := automatonOfRow.holds Tryz.pinned (OpenSpec.ofChange automatonOfWrong)

/-- 'wordbooklaw08.AutomatonLeast': WHATEVER THE INPUT: true; the input reads as it did. -/
def automatonLeastSpec : ChangeSpec := { name := "automatonLeast", fn := fun _ => fun
  | [d1, d2, d3] => { results := [.lit (.bool true)], args := [d1, d2, d3] }
  | _ => none }
def automatonLeastRow : OpenClaim := { program := "ytjimlkpfmbachaagreat", sum := "3cb59cccc049a54861ecfd26591ad33e77fb891fa9d9ea25816af4e0c180325e", func := "wordbook/wordbooklaw08.AutomatonLeast", spec := "automatonLeast", unfollowed := true, recurses := true, plainKeys := false, apart := false }
def AutomatonLeastSaid : Prop := automatonLeastRow.holds Tryz.pinned (OpenSpec.ofChange automatonLeastSpec)

/-- ITS FALSE NEIGHBOUR: 'it returns false'. Refute it at one input. -/
def automatonLeastWrong : ChangeSpec := { name := "automatonLeast", fn := fun _ => fun
  | [d1, d2, d3] => { results := [.lit (.bool false)], args := [d1, d2, d3] }
  | _ => none }
def AutomatonLeastWrongFalsely : Prop := automatonLeastRow.holds Tryz.pinned (OpenSpec.ofChange automatonLeastWrong)

/-- 'wordbooklaw08.AutomatonJoins': WHATEVER THE INPUT: true; the input reads as it did. -/
def automatonJoinsSpec : ChangeSpec := { name := "automatonJoins", fn := fun _ => fun
  | [d1, d2] => { results := [.lit (.bool true)], args := [d1, d2] }
  | _ => none }
def automatonJoinsRow : OpenClaim := { program := "ytjimlkpfmbachaagreat", sum := "3cb59cccc049a54861ecfd26591ad33e77fb891fa9d9ea25816af4e0c180325e", func := "wordbook/wordbooklaw08.AutomatonJoins", spec := "automatonJoins", unfollowed := true, recurses := true, plainKeys := false, apart := false }
def AutomatonJoinsSaid : Prop := automatonJoinsRow.holds Tryz.pinned (OpenSpec.ofChange automatonJoinsSpec)

/-- ITS FALSE NEIGHBOUR: 'it returns false'. Refute it at one input. -/
def automatonJoinsWrong : ChangeSpec := { name := "automatonJoins", fn := fun _ => fun
  | [d1, d2] => { results := [.lit (.bool false)], args := [d1, d2] }
  | _ => none }
def AutomatonJoinsWrongFalsely : Prop := automatonJoinsRow.holds Tryz.pinned (OpenSpec.ofChange automatonJoinsWrong)

/-- 'wordbooklaw08.AutomatonMorgan': WHATEVER THE INPUT: true; the input reads as it did. -/
def automatonMorganSpec : ChangeSpec := { name := "automatonMorgan", fn := fun _ => fun
  | [d1, d2, d3] => { results := [.lit (.bool true)], args := [d1, d2, d3] }
  | _ => none }
def automatonMorganRow : OpenClaim := { program := "ytjimlkpfmbachaagreat", sum := "3cb59cccc049a54861ecfd26591ad33e77fb891fa9d9ea25816af4e0c180325e", func := "wordbook/wordbooklaw08.AutomatonMorgan", spec := "automatonMorgan", unfollowed := true, recurses := true, plainKeys := false, apart := false }
def AutomatonMorganSaid : Prop := automatonMorganRow.holds Tryz.pinned (OpenSpec.ofChange automatonMorganSpec)

/-- ITS FALSE NEIGHBOUR: 'it returns false'. Refute it at one input. -/
def automatonMorganWrong : ChangeSpec := { name := "automatonMorgan", fn := fun _ => fun
  | [d1, d2, d3] => { results := [.lit (.bool false)], args := [d1, d2, d3] }
  | _ => none }
def AutomatonMorganWrongFalsely : Prop := automatonMorganRow.holds Tryz.pinned (OpenSpec.ofChange automatonMorganWrong)

/-- 'wordbooklaw08.AutomatonAccepts': WHATEVER THE INPUT: true; the input reads as it did. -/
def automatonAcceptsSpec : ChangeSpec := { name := "automatonAccepts", fn := fun _ => fun
  | [d1, d2, d3, d4, d5] => { results := [.lit (.bool true)], args := [d1, d2, d3, d4, d5] }
  | _ => none }
def automatonAcceptsRow : OpenClaim := { program := "ytjimlkpfmbachaagreat", sum := "3cb59cccc049a54861ecfd26591ad33e77fb891fa9d9ea25816af4e0c180325e", func := "wordbook/wordbooklaw08.AutomatonAccepts", spec := "automatonAccepts", unfollowed := true, recurses := true, plainKeys := false, apart := false }
def AutomatonAcceptsSaid : Prop := automatonAcceptsRow.holds Tryz.pinned (OpenSpec.ofChange automatonAcceptsSpec)

/-- ITS FALSE NEIGHBOUR: 'it returns false'. Refute it at one input. -/
def automatonAcceptsWrong : ChangeSpec := { name := "automatonAccepts", fn := fun _ => fun
  | [d1, d2, d3, d4, d5] => { results := [.lit (.bool false)], args := [d1, d2, d3, d4, d5] }
  | _ => none }
def AutomatonAcceptsWrongFalsely : Prop := automatonAcceptsRow.holds Tryz.pinned (OpenSpec.ofChange automatonAcceptsWrong)

/- THE SECOND FORM. 'bulk': how many values and letters a reading holds, each counted each time it is reached (what is shared counts as often as it is met; a slice's spare places count too). A statement '..UptoSaid' is the law's where the arguments, and the package variables that the reading takes, are together of bulk at most 1048576: NARROWER than '..Said'. Prove '..Said' where nothing that the law and all that it calls make is longer than what came in: it says more and counts as full. Else prove '..UptoSaid'. A law counts once. -/
mutual
def uptoBulk {H : Type} : DataW H → Nat
  | .lit (.string bytes) => bytes.length + 1
  | .lit _ => 1
  | .nil => 1
  | .ptr d => uptoBulk d + 1
  | .slice elems spare => uptoBulkAll elems + uptoBulkAll spare + 1
  | .agg parts => uptoBulkAll parts + 1
  | .iface _ d => uptoBulk d + 1
  | .map entries => uptoBulkEntries entries + 1
  | .held _ => 1
def uptoBulkAll {H : Type} : List (DataW H) → Nat
  | [] => 0
  | d :: r => uptoBulk d + uptoBulkAll r
def uptoBulkEntries {H : Type} : List (Lit × DataW H) → Nat
  | [] => 0
  | x :: r => uptoBulkEntry x + uptoBulkEntries r
def uptoBulkEntry {H : Type} : Lit × DataW H → Nat
  | (.string bytes, d) => bytes.length + uptoBulk d + 1
  | (_, d) => uptoBulk d + 1
 end
def uptoSmall : (H : Type) → List (DataW H) → Bool := fun _ ds => decide (uptoBulkAll ds ≤ 1048576)
def OpenSpec.upto (s : _root_.Go.ChangeSpec) : _root_.Go.OpenSpec := { _root_.Go.OpenSpec.ofChange s with cond := some uptoSmall }

/-- 'wordbooklaw08.AutomatonOf', WHERE WHAT IT READS IS OF BULK AT MOST 1048576: true; the input reads as it did. -/
def automatonOfUptoRow : OpenClaim := { program := "ytjimlkpfmbachaagreat", sum := "3cb59cccc049a54861ecfd26591ad33e77fb891fa9d9ea25816af4e0c180325e", func := "wordbook/wordbooklaw08.AutomatonOf", spec := "automatonOf", unfollowed := true, recurses := true, plainKeys := false, apart := false, narrowed := true }
def AutomatonOfUptoSaid : Prop := automatonOfUptoRow.holds Tryz.pinned (OpenSpec.upto automatonOfSpec)

/-- 'wordbooklaw08.AutomatonLeast', WHERE WHAT IT READS IS OF BULK AT MOST 1048576: true; the input reads as it did. -/
def automatonLeastUptoRow : OpenClaim := { program := "ytjimlkpfmbachaagreat", sum := "3cb59cccc049a54861ecfd26591ad33e77fb891fa9d9ea25816af4e0c180325e", func := "wordbook/wordbooklaw08.AutomatonLeast", spec := "automatonLeast", unfollowed := true, recurses := true, plainKeys := false, apart := false, narrowed := true }
def AutomatonLeastUptoSaid : Prop := automatonLeastUptoRow.holds Tryz.pinned (OpenSpec.upto automatonLeastSpec)

/-- 'wordbooklaw08.AutomatonJoins', WHERE WHAT IT READS IS OF BULK AT MOST 1048576: true; the input reads as it did. -/
def automatonJoinsUptoRow : OpenClaim := { program := "ytjimlkpfmbachaagreat", sum := "3cb59cccc049a54861ecfd26591ad33e77fb891fa9d9ea25816af4e0c180325e", func := "wordbook/wordbooklaw08.AutomatonJoins", spec := "automatonJoins", unfollowed := true, recurses := true, plainKeys := false, apart := false, narrowed := true }
def AutomatonJoinsUptoSaid : Prop := automatonJoinsUptoRow.holds Tryz.pinned (OpenSpec.upto automatonJoinsSpec)

/-- 'wordbooklaw08.AutomatonMorgan', WHERE WHAT IT READS IS OF BULK AT MOST 1048576: true; the input reads as it did. -/
def automatonMorganUptoRow : OpenClaim := { program := "ytjimlkpfmbachaagreat", sum := "3cb59cccc049a54861ecfd26591ad33e77fb891fa9d9ea25816af4e0c180325e", func := "wordbook/wordbooklaw08.AutomatonMorgan", spec := "automatonMorgan", unfollowed := true, recurses := true, plainKeys := false, apart := false, narrowed := true }
def AutomatonMorganUptoSaid : Prop := automatonMorganUptoRow.holds Tryz.pinned (OpenSpec.upto automatonMorganSpec)

/-- 'wordbooklaw08.AutomatonAccepts', WHERE WHAT IT READS IS OF BULK AT MOST 1048576: true; the input reads as it did. -/
def automatonAcceptsUptoRow : OpenClaim := { program := "ytjimlkpfmbachaagreat", sum := "3cb59cccc049a54861ecfd26591ad33e77fb891fa9d9ea25816af4e0c180325e", func := "wordbook/wordbooklaw08.AutomatonAccepts", spec := "automatonAccepts", unfollowed := true, recurses := true, plainKeys := false, apart := false, narrowed := true }
def AutomatonAcceptsUptoSaid : Prop := automatonAcceptsUptoRow.holds Tryz.pinned (OpenSpec.upto automatonAcceptsSpec)

end Rows
end Go.Proofs.YtjimlkpfmbachaaGreat
