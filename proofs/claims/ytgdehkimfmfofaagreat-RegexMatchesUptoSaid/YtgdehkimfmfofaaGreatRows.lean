/-
  NARROWER THAN 'FOR EVERY INPUT', by the rows' own cells (each row's printed sentence says how): RegexForms: loops · RegexDerives: loops · RegexMatches: loops · RegexWrites: loops.
  DERIVED. THE GIVEN ROWS OF THIS SEAT. 9 by the template 'for every input the law returns true; each argument reads behind the call as it read before'; 0 by the template 'total and deterministic' (their statements: YtgdehkimfmfofaaGreatTotals.lean).
  GIVEN WITH THE SEED: the statements are not yours to turn. If you find one false, say at which input.
  Laid BY PROGRAM, IN A SANDBOX (cutbox-rows.mjs): the forced cells as the released guide's own fill.sh prints them over the translation 947c91250264cfc7… (all of the seat's roots in one cut). By AI agents, Wed Nov 11 2026. No macro, syntax, notation, axiom, sorry.
-/
import Derived.Test.YtgdehkimfmfofaaGreatChecked
import GoSem.Claim
import GoSem.ClaimJoined
import GoSem.ClaimMapViews
import Derived.JoinedTies
import Derived.KernelRfl
namespace Go.Proofs.YtgdehkimfmfofaaGreat
/- THE CELL 'sum', in the pinned program and in every row, IS THE sha256 OF THE DUMP (.gsa) THAT YtgdehkimfmfofaaGreatProg.lean LOADS. Nothing in Lean hashes anything: it is a label: what it is worth is what the hold of that sum in a sandbox is worth. -/
noncomputable def Tryz.pinned : Pinned := { name := "ytgdehkimfmfofaagreat", sum := "947c91250264cfc790399a612cfa2c228d36770d64d392aeef1bbd60c87fe8c2", checked := Tryz.checked }
namespace Rows
def none {H : Type} : Left H := { results := [], args := [] }

/-- 'wordbooklaw07.RegexForms': WHATEVER THE INPUT: true; the input reads as it did. -/
def regexFormsSpec : ChangeSpec := { name := "regexForms", fn := fun _ => fun
  | [d1, d2] => { results := [.lit (.bool true)], args := [d1, d2] }
  | _ => none }
def regexFormsRow : OpenClaim := { program := "ytgdehkimfmfofaagreat", sum := "947c91250264cfc790399a612cfa2c228d36770d64d392aeef1bbd60c87fe8c2", func := "wordbook/wordbooklaw07.RegexForms", spec := "regexForms", inPlace := ["internal/bytealg.IndexByteString", "internal/bytealg.IndexString", "internal/abi.NoEscape", "internal/bytealg.MakeNoZero"], unfollowed := true, recurses := true, named := ["internal/bytealg.MaxLen"], loops := true, apart := false }
def RegexFormsSaid : Prop := regexFormsRow.holds Tryz.pinned (OpenSpec.ofChange regexFormsSpec)

/-- ITS FALSE NEIGHBOUR: 'it returns false'. Refute it at one input. -/
def regexFormsWrong : ChangeSpec := { name := "regexForms", fn := fun _ => fun
  | [d1, d2] => { results := [.lit (.bool false)], args := [d1, d2] }
  | _ => none }
def RegexFormsWrongFalsely : Prop := regexFormsRow.holds Tryz.pinned (OpenSpec.ofChange regexFormsWrong)

/-- 'wordbooklaw07.RegexDerives': WHATEVER THE INPUT: true; the input reads as it did. -/
def regexDerivesSpec : ChangeSpec := { name := "regexDerives", fn := fun _ => fun
  | [d1, d2, d3, d4] => { results := [.lit (.bool true)], args := [d1, d2, d3, d4] }
  | _ => none }
def regexDerivesRow : OpenClaim := { program := "ytgdehkimfmfofaagreat", sum := "947c91250264cfc790399a612cfa2c228d36770d64d392aeef1bbd60c87fe8c2", func := "wordbook/wordbooklaw07.RegexDerives", spec := "regexDerives", inPlace := ["internal/bytealg.IndexByteString", "internal/bytealg.IndexString", "internal/abi.NoEscape", "internal/bytealg.MakeNoZero"], unfollowed := true, recurses := true, named := ["internal/bytealg.MaxLen"], loops := true, apart := false }
def RegexDerivesSaid : Prop := regexDerivesRow.holds Tryz.pinned (OpenSpec.ofChange regexDerivesSpec)

/-- ITS FALSE NEIGHBOUR: 'it returns false'. Refute it at one input. -/
def regexDerivesWrong : ChangeSpec := { name := "regexDerives", fn := fun _ => fun
  | [d1, d2, d3, d4] => { results := [.lit (.bool false)], args := [d1, d2, d3, d4] }
  | _ => none }
def RegexDerivesWrongFalsely : Prop := regexDerivesRow.holds Tryz.pinned (OpenSpec.ofChange regexDerivesWrong)

/-- 'wordbooklaw07.RegexMatches': WHATEVER THE INPUT: true; the input reads as it did. -/
def regexMatchesSpec : ChangeSpec := { name := "regexMatches", fn := fun _ => fun
  | [d1, d2, d3] => { results := [.lit (.bool true)], args := [d1, d2, d3] }
  | _ => none }
def regexMatchesRow : OpenClaim := { program := "ytgdehkimfmfofaagreat", sum := "947c91250264cfc790399a612cfa2c228d36770d64d392aeef1bbd60c87fe8c2", func := "wordbook/wordbooklaw07.RegexMatches", spec := "regexMatches", inPlace := ["internal/bytealg.IndexByteString", "internal/bytealg.IndexString", "internal/abi.NoEscape", "internal/bytealg.MakeNoZero"], unfollowed := true, recurses := true, named := ["internal/bytealg.MaxLen"], loops := true, apart := false }
def RegexMatchesSaid : Prop := regexMatchesRow.holds Tryz.pinned (OpenSpec.ofChange regexMatchesSpec)

/-- ITS FALSE NEIGHBOUR: 'it returns false'. Refute it at one input. -/
def regexMatchesWrong : ChangeSpec := { name := "regexMatches", fn := fun _ => fun
  | [d1, d2, d3] => { results := [.lit (.bool false)], args := [d1, d2, d3] }
  | _ => none }
def RegexMatchesWrongFalsely : Prop := regexMatchesRow.holds Tryz.pinned (OpenSpec.ofChange regexMatchesWrong)

/-- 'wordbooklaw07.RegexReads': WHATEVER THE INPUT: true; the input reads as it did. -/
def regexReadsSpec : ChangeSpec := { name := "regexReads", fn := fun _ => fun
  | [d1, d2, d3, d4] => { results := [.lit (.bool true)], args := [d1, d2, d3, d4] }
  | _ => none }
def regexReadsRow : OpenClaim := { program := "ytgdehkimfmfofaagreat", sum := "947c91250264cfc790399a612cfa2c228d36770d64d392aeef1bbd60c87fe8c2", func := "wordbook/wordbooklaw07.RegexReads", spec := "regexReads", inPlace := ["internal/bytealg.IndexByteString", "internal/bytealg.IndexString", "internal/abi.NoEscape", "internal/bytealg.MakeNoZero"], unfollowed := true, recurses := true, named := ["internal/bytealg.MaxLen"], apart := false }
def RegexReadsSaid : Prop := regexReadsRow.holds Tryz.pinned (OpenSpec.ofChange regexReadsSpec)

/-- ITS FALSE NEIGHBOUR: 'it returns false'. Refute it at one input. -/
def regexReadsWrong : ChangeSpec := { name := "regexReads", fn := fun _ => fun
  | [d1, d2, d3, d4] => { results := [.lit (.bool false)], args := [d1, d2, d3, d4] }
  | _ => none }
def RegexReadsWrongFalsely : Prop := regexReadsRow.holds Tryz.pinned (OpenSpec.ofChange regexReadsWrong)

/-- 'wordbooklaw07.RegexWrites': WHATEVER THE INPUT: true; the input reads as it did. -/
def regexWritesSpec : ChangeSpec := { name := "regexWrites", fn := fun _ => fun
  | [d1, d2, d3] => { results := [.lit (.bool true)], args := [d1, d2, d3] }
  | _ => none }
def regexWritesRow : OpenClaim := { program := "ytgdehkimfmfofaagreat", sum := "947c91250264cfc790399a612cfa2c228d36770d64d392aeef1bbd60c87fe8c2", func := "wordbook/wordbooklaw07.RegexWrites", spec := "regexWrites", inPlace := ["internal/bytealg.IndexByteString", "internal/abi.NoEscape", "internal/bytealg.MakeNoZero", "internal/bytealg.IndexString"], unfollowed := true, recurses := true, named := ["internal/bytealg.MaxLen"], loops := true, apart := false }
def RegexWritesSaid : Prop := regexWritesRow.holds Tryz.pinned (OpenSpec.ofChange regexWritesSpec)

/-- ITS FALSE NEIGHBOUR: 'it returns false'. Refute it at one input. -/
def regexWritesWrong : ChangeSpec := { name := "regexWrites", fn := fun _ => fun
  | [d1, d2, d3] => { results := [.lit (.bool false)], args := [d1, d2, d3] }
  | _ => none }
def RegexWritesWrongFalsely : Prop := regexWritesRow.holds Tryz.pinned (OpenSpec.ofChange regexWritesWrong)

/-- 'wordbooklaw07.RegexLanguage': WHATEVER THE INPUT: true; the input reads as it did. -/
def regexLanguageSpec : ChangeSpec := { name := "regexLanguage", fn := fun _ => fun
  | [d1, d2] => { results := [.lit (.bool true)], args := [d1, d2] }
  | _ => none }
def regexLanguageRow : OpenClaim := { program := "ytgdehkimfmfofaagreat", sum := "947c91250264cfc790399a612cfa2c228d36770d64d392aeef1bbd60c87fe8c2", func := "wordbook/wordbooklaw07.RegexLanguage", spec := "regexLanguage", inPlace := ["internal/bytealg.IndexByteString", "internal/bytealg.IndexString", "internal/abi.NoEscape", "internal/bytealg.MakeNoZero"], unfollowed := true, recurses := true, named := ["internal/bytealg.MaxLen"], apart := false }
def RegexLanguageSaid : Prop := regexLanguageRow.holds Tryz.pinned (OpenSpec.ofChange regexLanguageSpec)

/-- ITS FALSE NEIGHBOUR: 'it returns false'. Refute it at one input. -/
def regexLanguageWrong : ChangeSpec := { name := "regexLanguage", fn := fun _ => fun
  | [d1, d2] => { results := [.lit (.bool false)], args := [d1, d2] }
  | _ => none }
def RegexLanguageWrongFalsely : Prop := regexLanguageRow.holds Tryz.pinned (OpenSpec.ofChange regexLanguageWrong)

/-- 'wordbooklaw07.RegexOperations': WHATEVER THE INPUT: true; the input reads as it did. -/
def regexOperationsSpec : ChangeSpec := { name := "regexOperations", fn := fun _ => fun
  | [d1, d2, d3] => { results := [.lit (.bool true)], args := [d1, d2, d3] }
  | _ => none }
def regexOperationsRow : OpenClaim := { program := "ytgdehkimfmfofaagreat", sum := "947c91250264cfc790399a612cfa2c228d36770d64d392aeef1bbd60c87fe8c2", func := "wordbook/wordbooklaw07.RegexOperations", spec := "regexOperations", inPlace := ["internal/bytealg.IndexByteString", "internal/bytealg.IndexString", "internal/abi.NoEscape", "internal/bytealg.MakeNoZero"], unfollowed := true, recurses := true, named := ["internal/bytealg.MaxLen"], apart := false }
def RegexOperationsSaid : Prop := regexOperationsRow.holds Tryz.pinned (OpenSpec.ofChange regexOperationsSpec)

/-- ITS FALSE NEIGHBOUR: 'it returns false'. Refute it at one input. -/
def regexOperationsWrong : ChangeSpec := { name := "regexOperations", fn := fun _ => fun
  | [d1, d2, d3] => { results := [.lit (.bool false)], args := [d1, d2, d3] }
  | _ => none }
def RegexOperationsWrongFalsely : Prop := regexOperationsRow.holds Tryz.pinned (OpenSpec.ofChange regexOperationsWrong)

/-- 'wordbooklaw07.RegexNormal': WHATEVER THE INPUT: true; the input reads as it did. -/
def regexNormalSpec : ChangeSpec := { name := "regexNormal", fn := fun _ => fun
  | [d1, d2] => { results := [.lit (.bool true)], args := [d1, d2] }
  | _ => none }
def regexNormalRow : OpenClaim := { program := "ytgdehkimfmfofaagreat", sum := "947c91250264cfc790399a612cfa2c228d36770d64d392aeef1bbd60c87fe8c2", func := "wordbook/wordbooklaw07.RegexNormal", spec := "regexNormal", inPlace := ["internal/bytealg.IndexByteString", "internal/bytealg.IndexString", "internal/abi.NoEscape", "internal/bytealg.MakeNoZero"], unfollowed := true, recurses := true, named := ["internal/bytealg.MaxLen"], apart := false }
def RegexNormalSaid : Prop := regexNormalRow.holds Tryz.pinned (OpenSpec.ofChange regexNormalSpec)

/-- ITS FALSE NEIGHBOUR: 'it returns false'. Refute it at one input. -/
def regexNormalWrong : ChangeSpec := { name := "regexNormal", fn := fun _ => fun
  | [d1, d2] => { results := [.lit (.bool false)], args := [d1, d2] }
  | _ => none }
def RegexNormalWrongFalsely : Prop := regexNormalRow.holds Tryz.pinned (OpenSpec.ofChange regexNormalWrong)

/-- 'wordbooklaw07.RegexPatterns': WHATEVER THE INPUT: true; the input reads as it did. -/
def regexPatternsSpec : ChangeSpec := { name := "regexPatterns", fn := fun _ => fun
  | [d1, d2] => { results := [.lit (.bool true)], args := [d1, d2] }
  | _ => none }
def regexPatternsRow : OpenClaim := { program := "ytgdehkimfmfofaagreat", sum := "947c91250264cfc790399a612cfa2c228d36770d64d392aeef1bbd60c87fe8c2", func := "wordbook/wordbooklaw07.RegexPatterns", spec := "regexPatterns", inPlace := ["internal/bytealg.IndexByteString", "internal/abi.NoEscape", "internal/bytealg.MakeNoZero", "internal/bytealg.IndexString"], unfollowed := true, recurses := true, named := ["internal/bytealg.MaxLen"], apart := false }
def RegexPatternsSaid : Prop := regexPatternsRow.holds Tryz.pinned (OpenSpec.ofChange regexPatternsSpec)

/-- ITS FALSE NEIGHBOUR: 'it returns false'. Refute it at one input. -/
def regexPatternsWrong : ChangeSpec := { name := "regexPatterns", fn := fun _ => fun
  | [d1, d2] => { results := [.lit (.bool false)], args := [d1, d2] }
  | _ => none }
def RegexPatternsWrongFalsely : Prop := regexPatternsRow.holds Tryz.pinned (OpenSpec.ofChange regexPatternsWrong)

/- THE SECOND FORM. 'bulk': how many values and letters a reading holds, each counted each time it is reached (what is shared counts as often as it is met; a slice's spare places count too). A statement '..UptoSaid' is the law's where the arguments, and the package variables that the reading takes, are together of bulk at most 1048576: NARROWER than '..Said'. Prove '..Said' where nothing that the law and all that it calls make is longer than what came in: it says more and counts as full. Else prove '..UptoSaid'. A law counts once. -/
mutual
def uptoBulk {H : Type} : DataW H → Nat
  | .lit (.string bytes) => bytes.length + 1
  | .lit _ => 1
  | .nil => 1
  | .ptr d => uptoBulk d + 1
  | .slice elems spare => uptoBulkAll elems + uptoBulkAll spare + 1
  | .agg parts => uptoBulkAll parts + 1
  | .iface _ d => uptoBulk d + 1
  | .map entries => uptoBulkEntries entries + 1
  | .held _ => 1
def uptoBulkAll {H : Type} : List (DataW H) → Nat
  | [] => 0
  | d :: r => uptoBulk d + uptoBulkAll r
def uptoBulkEntries {H : Type} : List (Lit × DataW H) → Nat
  | [] => 0
  | x :: r => uptoBulkEntry x + uptoBulkEntries r
def uptoBulkEntry {H : Type} : Lit × DataW H → Nat
  | (.string bytes, d) => bytes.length + uptoBulk d + 1
  | (_, d) => uptoBulk d + 1
 end
def uptoSmall : (H : Type) → List (DataW H) → Bool := fun _ ds => decide (uptoBulkAll ds ≤ 1048576)
def OpenSpec.upto (s : _root_.Go.ChangeSpec) : _root_.Go.OpenSpec := { _root_.Go.OpenSpec.ofChange s with cond := some uptoSmall }

/-- 'wordbooklaw07.RegexForms', WHERE WHAT IT READS IS OF BULK AT MOST 1048576: true; the input reads as it did. -/
def regexFormsUptoRow : OpenClaim := { program := "ytgdehkimfmfofaagreat", sum := "947c91250264cfc790399a612cfa2c228d36770d64d392aeef1bbd60c87fe8c2", func := "wordbook/wordbooklaw07.RegexForms", spec := "regexForms", inPlace := ["internal/bytealg.IndexByteString", "internal/bytealg.IndexString", "internal/abi.NoEscape", "internal/bytealg.MakeNoZero"], unfollowed := true, recurses := true, named := ["internal/bytealg.MaxLen"], loops := true, apart := false, narrowed := true }
def RegexFormsUptoSaid : Prop := regexFormsUptoRow.holds Tryz.pinned (OpenSpec.upto regexFormsSpec)

/-- 'wordbooklaw07.RegexDerives', WHERE WHAT IT READS IS OF BULK AT MOST 1048576: true; the input reads as it did. -/
def regexDerivesUptoRow : OpenClaim := { program := "ytgdehkimfmfofaagreat", sum := "947c91250264cfc790399a612cfa2c228d36770d64d392aeef1bbd60c87fe8c2", func := "wordbook/wordbooklaw07.RegexDerives", spec := "regexDerives", inPlace := ["internal/bytealg.IndexByteString", "internal/bytealg.IndexString", "internal/abi.NoEscape", "internal/bytealg.MakeNoZero"], unfollowed := true, recurses := true, named := ["internal/bytealg.MaxLen"], loops := true, apart := false, narrowed := true }
def RegexDerivesUptoSaid : Prop := regexDerivesUptoRow.holds Tryz.pinned (OpenSpec.upto regexDerivesSpec)

/-- 'wordbooklaw07.RegexMatches', WHERE WHAT IT READS IS OF BULK AT MOST 1048576: true; the input reads as it did. -/
def regexMatchesUptoRow : OpenClaim := { program := "ytgdehkimfmfofaagreat", sum := "947c91250264cfc790399a612cfa2c228d36770d64d392aeef1bbd60c87fe8c2", func := "wordbook/wordbooklaw07.RegexMatches", spec := "regexMatches", inPlace := ["internal/bytealg.IndexByteString", "internal/bytealg.IndexString", "internal/abi.NoEscape", "internal/bytealg.MakeNoZero"], unfollowed := true, recurses := true, named := ["internal/bytealg.MaxLen"], loops := true, apart := false, narrowed := true }
def RegexMatchesUptoSaid : Prop := regexMatchesUptoRow.holds Tryz.pinned (OpenSpec.upto regexMatchesSpec)

/-- 'wordbooklaw07.RegexReads', WHERE WHAT IT READS IS OF BULK AT MOST 1048576: true; the input reads as it did. -/
def regexReadsUptoRow : OpenClaim := { program := "ytgdehkimfmfofaagreat", sum := "947c91250264cfc790399a612cfa2c228d36770d64d392aeef1bbd60c87fe8c2", func := "wordbook/wordbooklaw07.RegexReads", spec := "regexReads", inPlace := ["internal/bytealg.IndexByteString", "internal/bytealg.IndexString", "internal/abi.NoEscape", "internal/bytealg.MakeNoZero"], unfollowed := true, recurses := true, named := ["internal/bytealg.MaxLen"], apart := false, narrowed := true }
def RegexReadsUptoSaid : Prop := regexReadsUptoRow.holds Tryz.pinned (OpenSpec.upto regexReadsSpec)

/-- 'wordbooklaw07.RegexWrites', WHERE WHAT IT READS IS OF BULK AT MOST 1048576: true; the input reads as it did. -/
def regexWritesUptoRow : OpenClaim := { program := "ytgdehkimfmfofaagreat", sum := "947c91250264cfc790399a612cfa2c228d36770d64d392aeef1bbd60c87fe8c2", func := "wordbook/wordbooklaw07.RegexWrites", spec := "regexWrites", inPlace := ["internal/bytealg.IndexByteString", "internal/abi.NoEscape", "internal/bytealg.MakeNoZero", "internal/bytealg.IndexString"], unfollowed := true, recurses := true, named := ["internal/bytealg.MaxLen"], loops := true, apart := false, narrowed := true }
def RegexWritesUptoSaid : Prop := regexWritesUptoRow.holds Tryz.pinned (OpenSpec.upto regexWritesSpec)

/-- 'wordbooklaw07.RegexLanguage', WHERE WHAT IT READS IS OF BULK AT MOST 1048576: true; the input reads as it did. -/
def regexLanguageUptoRow : OpenClaim := { program := "ytgdehkimfmfofaagreat", sum := "947c91250264cfc790399a612cfa2c228d36770d64d392aeef1bbd60c87fe8c2", func := "wordbook/wordbooklaw07.RegexLanguage", spec := "regexLanguage", inPlace := ["internal/bytealg.IndexByteString", "internal/bytealg.IndexString", "internal/abi.NoEscape", "internal/bytealg.MakeNoZero"], unfollowed := true, recurses := true, named := ["internal/bytealg.MaxLen"], apart := false, narrowed := true }
def RegexLanguageUptoSaid : Prop := regexLanguageUptoRow.holds Tryz.pinned (OpenSpec.upto regexLanguageSpec)

/-- 'wordbooklaw07.RegexOperations', WHERE WHAT IT READS IS OF BULK AT MOST 1048576: true; the input reads as it did. -/
def regexOperationsUptoRow : OpenClaim := { program := "ytgdehkimfmfofaagreat", sum := "947c91250264cfc790399a612cfa2c228d36770d64d392aeef1bbd60c87fe8c2", func := "wordbook/wordbooklaw07.RegexOperations", spec := "regexOperations", inPlace := ["internal/bytealg.IndexByteString", "internal/bytealg.IndexString", "internal/abi.NoEscape", "internal/bytealg.MakeNoZero"], unfollowed := true, recurses := true, named := ["internal/bytealg.MaxLen"], apart := false, narrowed := true }
def RegexOperationsUptoSaid : Prop := regexOperationsUptoRow.holds Tryz.pinned (OpenSpec.upto regexOperationsSpec)

/-- 'wordbooklaw07.RegexNormal', WHERE WHAT IT READS IS OF BULK AT MOST 1048576: true; the input reads as it did. -/
def regexNormalUptoRow : OpenClaim := { program := "ytgdehkimfmfofaagreat", sum := "947c91250264cfc790399a612cfa2c228d36770d64d392aeef1bbd60c87fe8c2", func := "wordbook/wordbooklaw07.RegexNormal", spec := "regexNormal", inPlace := ["internal/bytealg.IndexByteString", "internal/bytealg.IndexString", "internal/abi.NoEscape", "internal/bytealg.MakeNoZero"], unfollowed := true, recurses := true, named := ["internal/bytealg.MaxLen"], apart := false, narrowed := true }
def RegexNormalUptoSaid : Prop := regexNormalUptoRow.holds Tryz.pinned (OpenSpec.upto regexNormalSpec)

/-- 'wordbooklaw07.RegexPatterns', WHERE WHAT IT READS IS OF BULK AT MOST 1048576: true; the input reads as it did. -/
def regexPatternsUptoRow : OpenClaim := { program := "ytgdehkimfmfofaagreat", sum := "947c91250264cfc790399a612cfa2c228d36770d64d392aeef1bbd60c87fe8c2", func := "wordbook/wordbooklaw07.RegexPatterns", spec := "regexPatterns", inPlace := ["internal/bytealg.IndexByteString", "internal/abi.NoEscape", "internal/bytealg.MakeNoZero", "internal/bytealg.IndexString"], unfollowed := true, recurses := true, named := ["internal/bytealg.MaxLen"], apart := false, narrowed := true }
def RegexPatternsUptoSaid : Prop := regexPatternsUptoRow.holds Tryz.pinned (OpenSpec.upto regexPatternsSpec)

end Rows
end Go.Proofs.YtgdehkimfmfofaaGreat
