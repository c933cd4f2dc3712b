/-
  No cell of these rows narrows 'for every input' (looked for: loops, veiled, ifaces, maps, wideKeys, modest, calm, conditions, laid).
  DERIVED. THE GIVEN ROWS OF THIS SEAT. 7 by the template 'for every input the law returns true; each argument reads behind the call as it read before'; 0 by the template 'total and deterministic' (their statements: YtlapahnodhmcpaaGreatTotals.lean).
  GIVEN WITH THE SEED: the statements are not yours to turn. If you find one false, say at which input.
  Laid BY PROGRAM, IN A SANDBOX (cutbox-rows.mjs): the forced cells as the released guide's own fill.sh prints them over the translation 5c2d6034a052c434… (all of the seat's roots in one cut). By AI agents, Wed Nov 11 2026. No macro, syntax, notation, axiom, sorry.
-/
import Derived.Test.YtlapahnodhmcpaaGreatChecked
import GoSem.Claim
import GoSem.ClaimJoined
import GoSem.ClaimMapViews
import Derived.JoinedTies
import Derived.KernelRfl
namespace Go.Proofs.YtlapahnodhmcpaaGreat
/- THE CELL 'sum', in the pinned program and in every row, IS THE sha256 OF THE DUMP (.gsa) THAT YtlapahnodhmcpaaGreatProg.lean LOADS. Nothing in Lean hashes anything: it is a label: what it is worth is what the hold of that sum in a sandbox is worth. -/
noncomputable def Tryz.pinned : Pinned := { name := "ytlapahnodhmcpaagreat", sum := "5c2d6034a052c43415ed1206eef5c4f4c4c6df310ef1618e76e718e4818704d5", checked := Tryz.checked }
namespace Rows
def none {H : Type} : Left H := { results := [], args := [] }

/-- 'wordbooklaw14.MorphNew': WHATEVER THE INPUT: true; the input reads as it did. -/
def morphNewSpec : ChangeSpec := { name := "morphNew", fn := fun _ => fun
  | [d1, d2, d3] => { results := [.lit (.bool true)], args := [d1, d2, d3] }
  | _ => none }
def morphNewRow : OpenClaim := { program := "ytlapahnodhmcpaagreat", sum := "5c2d6034a052c43415ed1206eef5c4f4c4c6df310ef1618e76e718e4818704d5", func := "wordbook/wordbooklaw14.MorphNew", spec := "morphNew", unfollowed := true, recurses := true, plainKeys := false, apart := false }
def MorphNewSaid : Prop := morphNewRow.holds Tryz.pinned (OpenSpec.ofChange morphNewSpec)

/-- ITS FALSE NEIGHBOUR: 'it returns false'. Refute it at one input. -/
def morphNewWrong : ChangeSpec := { name := "morphNew", fn := fun _ => fun
  | [d1, d2, d3] => { results := [.lit (.bool false)], args := [d1, d2, d3] }
  | _ => none }
def MorphNewWrongFalsely : Prop := morphNewRow.holds Tryz.pinned (OpenSpec.ofChange morphNewWrong)

/-- 'wordbooklaw14.MorphAnalyses': WHATEVER THE INPUT: true; the input reads as it did. -/
def morphAnalysesSpec : ChangeSpec := { name := "morphAnalyses", fn := fun _ => fun
  | [d1, d2] => { results := [.lit (.bool true)], args := [d1, d2] }
  | _ => none }
def morphAnalysesRow : OpenClaim := { program := "ytlapahnodhmcpaagreat", sum := "5c2d6034a052c43415ed1206eef5c4f4c4c6df310ef1618e76e718e4818704d5", func := "wordbook/wordbooklaw14.MorphAnalyses", spec := "morphAnalyses", unfollowed := true, recurses := true, plainKeys := false, apart := false }
def MorphAnalysesSaid : Prop := morphAnalysesRow.holds Tryz.pinned (OpenSpec.ofChange morphAnalysesSpec)

/-- ITS FALSE NEIGHBOUR: 'it returns false'. Refute it at one input. -/
def morphAnalysesWrong : ChangeSpec := { name := "morphAnalyses", fn := fun _ => fun
  | [d1, d2] => { results := [.lit (.bool false)], args := [d1, d2] }
  | _ => none }
def MorphAnalysesWrongFalsely : Prop := morphAnalysesRow.holds Tryz.pinned (OpenSpec.ofChange morphAnalysesWrong)

/-- 'wordbooklaw14.MorphTwoWays': WHATEVER THE INPUT: true; the input reads as it did. -/
def morphTwoWaysSpec : ChangeSpec := { name := "morphTwoWays", fn := fun _ => fun
  | [d1, d2] => { results := [.lit (.bool true)], args := [d1, d2] }
  | _ => none }
def morphTwoWaysRow : OpenClaim := { program := "ytlapahnodhmcpaagreat", sum := "5c2d6034a052c43415ed1206eef5c4f4c4c6df310ef1618e76e718e4818704d5", func := "wordbook/wordbooklaw14.MorphTwoWays", spec := "morphTwoWays", unfollowed := true, recurses := true, plainKeys := false, apart := false }
def MorphTwoWaysSaid : Prop := morphTwoWaysRow.holds Tryz.pinned (OpenSpec.ofChange morphTwoWaysSpec)

/-- ITS FALSE NEIGHBOUR: 'it returns false'. Refute it at one input. -/
def morphTwoWaysWrong : ChangeSpec := { name := "morphTwoWays", fn := fun _ => fun
  | [d1, d2] => { results := [.lit (.bool false)], args := [d1, d2] }
  | _ => none }
def MorphTwoWaysWrongFalsely : Prop := morphTwoWaysRow.holds Tryz.pinned (OpenSpec.ofChange morphTwoWaysWrong)

/-- 'wordbooklaw14.MorphOrder': WHATEVER THE INPUT: true; the input reads as it did. -/
def morphOrderSpec : ChangeSpec := { name := "morphOrder", fn := fun _ => fun
  | [d1, d2] => { results := [.lit (.bool true)], args := [d1, d2] }
  | _ => none }
def morphOrderRow : OpenClaim := { program := "ytlapahnodhmcpaagreat", sum := "5c2d6034a052c43415ed1206eef5c4f4c4c6df310ef1618e76e718e4818704d5", func := "wordbook/wordbooklaw14.MorphOrder", spec := "morphOrder", unfollowed := true, recurses := true, plainKeys := false, apart := false }
def MorphOrderSaid : Prop := morphOrderRow.holds Tryz.pinned (OpenSpec.ofChange morphOrderSpec)

/-- ITS FALSE NEIGHBOUR: 'it returns false'. Refute it at one input. -/
def morphOrderWrong : ChangeSpec := { name := "morphOrder", fn := fun _ => fun
  | [d1, d2] => { results := [.lit (.bool false)], args := [d1, d2] }
  | _ => none }
def MorphOrderWrongFalsely : Prop := morphOrderRow.holds Tryz.pinned (OpenSpec.ofChange morphOrderWrong)

/-- 'wordbooklaw14.MorphForms': WHATEVER THE INPUT: true; the input reads as it did. -/
def morphFormsSpec : ChangeSpec := { name := "morphForms", fn := fun _ => fun
  | [d1, d2, d3, d4] => { results := [.lit (.bool true)], args := [d1, d2, d3, d4] }
  | _ => none }
def morphFormsRow : OpenClaim := { program := "ytlapahnodhmcpaagreat", sum := "5c2d6034a052c43415ed1206eef5c4f4c4c6df310ef1618e76e718e4818704d5", func := "wordbook/wordbooklaw14.MorphForms", spec := "morphForms", unfollowed := true, recurses := true, plainKeys := false, apart := false }
def MorphFormsSaid : Prop := morphFormsRow.holds Tryz.pinned (OpenSpec.ofChange morphFormsSpec)

/-- ITS FALSE NEIGHBOUR: 'it returns false'. Refute it at one input. -/
def morphFormsWrong : ChangeSpec := { name := "morphForms", fn := fun _ => fun
  | [d1, d2, d3, d4] => { results := [.lit (.bool false)], args := [d1, d2, d3, d4] }
  | _ => none }
def MorphFormsWrongFalsely : Prop := morphFormsRow.holds Tryz.pinned (OpenSpec.ofChange morphFormsWrong)

/-- 'wordbooklaw14.MorphUnchanged': WHATEVER THE INPUT: true; the input reads as it did. -/
def morphUnchangedSpec : ChangeSpec := { name := "morphUnchanged", fn := fun _ => fun
  | [d1, d2] => { results := [.lit (.bool true)], args := [d1, d2] }
  | _ => none }
def morphUnchangedRow : OpenClaim := { program := "ytlapahnodhmcpaagreat", sum := "5c2d6034a052c43415ed1206eef5c4f4c4c6df310ef1618e76e718e4818704d5", func := "wordbook/wordbooklaw14.MorphUnchanged", spec := "morphUnchanged", unfollowed := true, recurses := true, plainKeys := false, apart := false }
def MorphUnchangedSaid : Prop := morphUnchangedRow.holds Tryz.pinned (OpenSpec.ofChange morphUnchangedSpec)

/-- ITS FALSE NEIGHBOUR: 'it returns false'. Refute it at one input. -/
def morphUnchangedWrong : ChangeSpec := { name := "morphUnchanged", fn := fun _ => fun
  | [d1, d2] => { results := [.lit (.bool false)], args := [d1, d2] }
  | _ => none }
def MorphUnchangedWrongFalsely : Prop := morphUnchangedRow.holds Tryz.pinned (OpenSpec.ofChange morphUnchangedWrong)

/-- 'wordbooklaw14.MorphLemmas': WHATEVER THE INPUT: true; the input reads as it did. -/
def morphLemmasSpec : ChangeSpec := { name := "morphLemmas", fn := fun _ => fun
  | [d1, d2] => { results := [.lit (.bool true)], args := [d1, d2] }
  | _ => none }
def morphLemmasRow : OpenClaim := { program := "ytlapahnodhmcpaagreat", sum := "5c2d6034a052c43415ed1206eef5c4f4c4c6df310ef1618e76e718e4818704d5", func := "wordbook/wordbooklaw14.MorphLemmas", spec := "morphLemmas", unfollowed := true, recurses := true, plainKeys := false, apart := false }
def MorphLemmasSaid : Prop := morphLemmasRow.holds Tryz.pinned (OpenSpec.ofChange morphLemmasSpec)

/-- ITS FALSE NEIGHBOUR: 'it returns false'. Refute it at one input. -/
def morphLemmasWrong : ChangeSpec := { name := "morphLemmas", fn := fun _ => fun
  | [d1, d2] => { results := [.lit (.bool false)], args := [d1, d2] }
  | _ => none }
def MorphLemmasWrongFalsely : Prop := morphLemmasRow.holds Tryz.pinned (OpenSpec.ofChange morphLemmasWrong)

/- THE SECOND FORM. 'bulk': how many values and letters a reading holds, each counted each time it is reached (what is shared counts as often as it is met; a slice's spare places count too). A statement '..UptoSaid' is the law's where the arguments, and the package variables that the reading takes, are together of bulk at most 1048576: NARROWER than '..Said'. Prove '..Said' where nothing that the law and all that it calls make is longer than what came in: it says more and counts as full. Else prove '..UptoSaid'. A law counts once. -/
mutual
def uptoBulk {H : Type} : DataW H → Nat
  | .lit (.string bytes) => bytes.length + 1
  | .lit _ => 1
  | .nil => 1
  | .ptr d => uptoBulk d + 1
  | .slice elems spare => uptoBulkAll elems + uptoBulkAll spare + 1
  | .agg parts => uptoBulkAll parts + 1
  | .iface _ d => uptoBulk d + 1
  | .map entries => uptoBulkEntries entries + 1
  | .held _ => 1
def uptoBulkAll {H : Type} : List (DataW H) → Nat
  | [] => 0
  | d :: r => uptoBulk d + uptoBulkAll r
def uptoBulkEntries {H : Type} : List (Lit × DataW H) → Nat
  | [] => 0
  | x :: r => uptoBulkEntry x + uptoBulkEntries r
def uptoBulkEntry {H : Type} : Lit × DataW H → Nat
  | (.string bytes, d) => bytes.length + uptoBulk d + 1
  | (_, d) => uptoBulk d + 1
 end
def uptoSmall : (H : Type) → List (DataW H) → Bool := fun _ ds => decide (uptoBulkAll ds ≤ 1048576)
def OpenSpec.upto (s : _root_.Go.ChangeSpec) : _root_.Go.OpenSpec := { _root_.Go.OpenSpec.ofChange s with cond := some uptoSmall }

/-- 'wordbooklaw14.MorphNew', WHERE WHAT IT READS IS OF BULK AT MOST 1048576: true; the input reads as it did. -/
def morphNewUptoRow : OpenClaim := { program := "ytlapahnodhmcpaagreat", sum := "5c2d6034a052c43415ed1206eef5c4f4c4c6df310ef1618e76e718e4818704d5", func := "wordbook/wordbooklaw14.MorphNew", spec := "morphNew", unfollowed := true, recurses := true, plainKeys := false, apart := false, narrowed := true }
def MorphNewUptoSaid : Prop := morphNewUptoRow.holds Tryz.pinned (OpenSpec.upto morphNewSpec)

/-- 'wordbooklaw14.MorphAnalyses', WHERE WHAT IT READS IS OF BULK AT MOST 1048576: true; the input reads as it did. -/
def morphAnalysesUptoRow : OpenClaim := { program := "ytlapahnodhmcpaagreat", sum := "5c2d6034a052c43415ed1206eef5c4f4c4c6df310ef1618e76e718e4818704d5", func := "wordbook/wordbooklaw14.MorphAnalyses", spec := "morphAnalyses", unfollowed := true, recurses := true, plainKeys := false, apart := false, narrowed := true }
def MorphAnalysesUptoSaid : Prop := morphAnalysesUptoRow.holds Tryz.pinned (OpenSpec.upto morphAnalysesSpec)

/-- 'wordbooklaw14.MorphTwoWays', WHERE WHAT IT READS IS OF BULK AT MOST 1048576: true; the input reads as it did. -/
def morphTwoWaysUptoRow : OpenClaim := { program := "ytlapahnodhmcpaagreat", sum := "5c2d6034a052c43415ed1206eef5c4f4c4c6df310ef1618e76e718e4818704d5", func := "wordbook/wordbooklaw14.MorphTwoWays", spec := "morphTwoWays", unfollowed := true, recurses := true, plainKeys := false, apart := false, narrowed := true }
def MorphTwoWaysUptoSaid : Prop := morphTwoWaysUptoRow.holds Tryz.pinned (OpenSpec.upto morphTwoWaysSpec)

/-- 'wordbooklaw14.MorphOrder', WHERE WHAT IT READS IS OF BULK AT MOST 1048576: true; the input reads as it did. -/
def morphOrderUptoRow : OpenClaim := { program := "ytlapahnodhmcpaagreat", sum := "5c2d6034a052c43415ed1206eef5c4f4c4c6df310ef1618e76e718e4818704d5", func := "wordbook/wordbooklaw14.MorphOrder", spec := "morphOrder", unfollowed := true, recurses := true, plainKeys := false, apart := false, narrowed := true }
def MorphOrderUptoSaid : Prop := morphOrderUptoRow.holds Tryz.pinned (OpenSpec.upto morphOrderSpec)

/-- 'wordbooklaw14.MorphForms', WHERE WHAT IT READS IS OF BULK AT MOST 1048576: true; the input reads as it did. -/
def morphFormsUptoRow : OpenClaim := { program := "ytlapahnodhmcpaagreat", sum := "5c2d6034a052c43415ed1206eef5c4f4c4c6df310ef1618e76e718e4818704d5", func := "wordbook/wordbooklaw14.MorphForms", spec := "morphForms", unfollowed := true, recurses := true, plainKeys := false, apart := false, narrowed := true }
def MorphFormsUptoSaid : Prop := morphFormsUptoRow.holds Tryz.pinned (OpenSpec.upto morphFormsSpec)

/-- 'wordbooklaw14.MorphUnchanged', WHERE WHAT IT READS IS OF BULK AT MOST 1048576: true; the input reads as it did. -/
def morphUnchangedUptoRow : OpenClaim := { program := "ytlapahnodhmcpaagreat", sum := "5c2d6034a052c43415ed1206eef5c4f4c4c6df310ef1618e76e718e4818704d5", func := "wordbook/wordbooklaw14.MorphUnchanged", spec := "morphUnchanged", unfollowed := true, recurses := true, plainKeys := false, apart := false, narrowed := true }
def MorphUnchangedUptoSaid : Prop := morphUnchangedUptoRow.holds Tryz.pinned (OpenSpec.upto morphUnchangedSpec)

/-- 'wordbooklaw14.MorphLemmas', WHERE WHAT IT READS IS OF BULK AT MOST 1048576: true; the input reads as it did. -/
def morphLemmasUptoRow : OpenClaim := { program := "ytlapahnodhmcpaagreat", sum := "5c2d6034a052c43415ed1206eef5c4f4c4c6df310ef1618e76e718e4818704d5", func := "wordbook/wordbooklaw14.MorphLemmas", spec := "morphLemmas", unfollowed := true, recurses := true, plainKeys := false, apart := false, narrowed := true }
def MorphLemmasUptoSaid : Prop := morphLemmasUptoRow.holds Tryz.pinned (OpenSpec.upto morphLemmasSpec)

end Rows
end Go.Proofs.YtlapahnodhmcpaaGreat
