/-
  No cell of these rows narrows 'for every input' (looked for: loops, veiled, ifaces, maps, wideKeys, modest, calm, conditions, laid).
  DERIVED. THE GIVEN ROWS OF THIS SEAT. 9 by the template 'for every input the law returns true; each argument reads behind the call as it read before'; 0 by the template 'total and deterministic' (their statements: YtcimmcjnkphagaaTotals.lean).
  GIVEN WITH THE SEED: the statements are not yours to turn. If you find one false, say at which input.
  Laid BY PROGRAM, IN A SANDBOX (cutbox-rows.mjs): the forced cells as the released guide's own fill.sh prints them over the translation 3d1986c51c60e655… (all of the seat's roots in one cut). By AI agents, Wed Nov 11 2026. No macro, syntax, notation, axiom, sorry.
-/
import Derived.Test.YtcimmcjnkphagaaChecked
import GoSem.Claim
import GoSem.ClaimJoined
import GoSem.ClaimMapViews
import Derived.JoinedTies
import Derived.KernelRfl
namespace Go.Proofs.Ytcimmcjnkphagaa
/- THE CELL 'sum', in the pinned program and in every row, IS THE sha256 OF THE DUMP (.gsa) THAT YtcimmcjnkphagaaProg.lean LOADS. Nothing in Lean hashes anything: it is a label: what it is worth is what the hold of that sum in a sandbox is worth. -/
noncomputable def Try.pinned : Pinned := { name := "ytcimmcjnkphagaa", sum := "3d1986c51c60e6550fd8694bcad530990c8174f9a1c294ecfe0b096afab6eff1", checked := Try.checked }
namespace Rows
def none {H : Type} : Left H := { results := [], args := [] }

/-- 'wordbooklaw06.CollateKeys': WHATEVER THE INPUT: true; the input reads as it did. -/
def collateKeysSpec : ChangeSpec := { name := "collateKeys", fn := fun _ => fun
  | [d1, d2, d3, d4, d5, d6] => { results := [.lit (.bool true)], args := [d1, d2, d3, d4, d5, d6] }
  | _ => none }
def collateKeysRow : OpenClaim := { program := "ytcimmcjnkphagaa", sum := "3d1986c51c60e6550fd8694bcad530990c8174f9a1c294ecfe0b096afab6eff1", func := "wordbook/wordbooklaw06.CollateKeys", spec := "collateKeys", inPlace := ["internal/bytealg.IndexByteString"], unfollowed := true, recurses := true, apart := false }
def CollateKeysSaid : Prop := collateKeysRow.holds Try.pinned (OpenSpec.ofChange collateKeysSpec)

/-- ITS FALSE NEIGHBOUR: 'it returns false'. Refute it at one input. -/
def collateKeysWrong : ChangeSpec := { name := "collateKeys", fn := fun _ => fun
  | [d1, d2, d3, d4, d5, d6] => { results := [.lit (.bool false)], args := [d1, d2, d3, d4, d5, d6] }
  | _ => none }
def CollateKeysWrongFalsely : Prop := collateKeysRow.holds Try.pinned (OpenSpec.ofChange collateKeysWrong)

/-- 'wordbooklaw06.CollateCompares': WHATEVER THE INPUT: true; the input reads as it did. -/
def collateComparesSpec : ChangeSpec := { name := "collateCompares", fn := fun _ => fun
  | [d1, d2, d3, d4, d5, d6] => { results := [.lit (.bool true)], args := [d1, d2, d3, d4, d5, d6] }
  | _ => none }
def collateComparesRow : OpenClaim := { program := "ytcimmcjnkphagaa", sum := "3d1986c51c60e6550fd8694bcad530990c8174f9a1c294ecfe0b096afab6eff1", func := "wordbook/wordbooklaw06.CollateCompares", spec := "collateCompares", inPlace := ["internal/bytealg.IndexByteString"], unfollowed := true, recurses := true, apart := false }
def CollateComparesSaid : Prop := collateComparesRow.holds Try.pinned (OpenSpec.ofChange collateComparesSpec)

/-- ITS FALSE NEIGHBOUR: 'it returns false'. Refute it at one input. -/
def collateComparesWrong : ChangeSpec := { name := "collateCompares", fn := fun _ => fun
  | [d1, d2, d3, d4, d5, d6] => { results := [.lit (.bool false)], args := [d1, d2, d3, d4, d5, d6] }
  | _ => none }
def CollateComparesWrongFalsely : Prop := collateComparesRow.holds Try.pinned (OpenSpec.ofChange collateComparesWrong)

/-- 'wordbooklaw06.CollateSorts': WHATEVER THE INPUT: true; the input reads as it did. -/
def collateSortsSpec : ChangeSpec := { name := "collateSorts", fn := fun _ => fun
  | [d1, d2, d3, d4, d5, d6] => { results := [.lit (.bool true)], args := [d1, d2, d3, d4, d5, d6] }
  | _ => none }
def collateSortsRow : OpenClaim := { program := "ytcimmcjnkphagaa", sum := "3d1986c51c60e6550fd8694bcad530990c8174f9a1c294ecfe0b096afab6eff1", func := "wordbook/wordbooklaw06.CollateSorts", spec := "collateSorts", inPlace := ["internal/bytealg.IndexByteString"], unfollowed := true, recurses := true, apart := false }
def CollateSortsSaid : Prop := collateSortsRow.holds Try.pinned (OpenSpec.ofChange collateSortsSpec)

/-- ITS FALSE NEIGHBOUR: 'it returns false'. Refute it at one input. -/
def collateSortsWrong : ChangeSpec := { name := "collateSorts", fn := fun _ => fun
  | [d1, d2, d3, d4, d5, d6] => { results := [.lit (.bool false)], args := [d1, d2, d3, d4, d5, d6] }
  | _ => none }
def CollateSortsWrongFalsely : Prop := collateSortsRow.holds Try.pinned (OpenSpec.ofChange collateSortsWrong)

/-- 'wordbooklaw06.CollateFinds': WHATEVER THE INPUT: true; the input reads as it did. -/
def collateFindsSpec : ChangeSpec := { name := "collateFinds", fn := fun _ => fun
  | [d1, d2, d3, d4, d5, d6, d7] => { results := [.lit (.bool true)], args := [d1, d2, d3, d4, d5, d6, d7] }
  | _ => none }
def collateFindsRow : OpenClaim := { program := "ytcimmcjnkphagaa", sum := "3d1986c51c60e6550fd8694bcad530990c8174f9a1c294ecfe0b096afab6eff1", func := "wordbook/wordbooklaw06.CollateFinds", spec := "collateFinds", inPlace := ["internal/bytealg.IndexByteString"], unfollowed := true, recurses := true, apart := false }
def CollateFindsSaid : Prop := collateFindsRow.holds Try.pinned (OpenSpec.ofChange collateFindsSpec)

/-- ITS FALSE NEIGHBOUR: 'it returns false'. Refute it at one input. -/
def collateFindsWrong : ChangeSpec := { name := "collateFinds", fn := fun _ => fun
  | [d1, d2, d3, d4, d5, d6, d7] => { results := [.lit (.bool false)], args := [d1, d2, d3, d4, d5, d6, d7] }
  | _ => none }
def CollateFindsWrongFalsely : Prop := collateFindsRow.holds Try.pinned (OpenSpec.ofChange collateFindsWrong)

/-- 'wordbooklaw06.CollateOrder': WHATEVER THE INPUT: true; the input reads as it did. -/
def collateOrderSpec : ChangeSpec := { name := "collateOrder", fn := fun _ => fun
  | [d1, d2, d3] => { results := [.lit (.bool true)], args := [d1, d2, d3] }
  | _ => none }
def collateOrderRow : OpenClaim := { program := "ytcimmcjnkphagaa", sum := "3d1986c51c60e6550fd8694bcad530990c8174f9a1c294ecfe0b096afab6eff1", func := "wordbook/wordbooklaw06.CollateOrder", spec := "collateOrder", inPlace := ["internal/bytealg.IndexByteString"], unfollowed := true, recurses := true, apart := false }
def CollateOrderSaid : Prop := collateOrderRow.holds Try.pinned (OpenSpec.ofChange collateOrderSpec)

/-- ITS FALSE NEIGHBOUR: 'it returns false'. Refute it at one input. -/
def collateOrderWrong : ChangeSpec := { name := "collateOrder", fn := fun _ => fun
  | [d1, d2, d3] => { results := [.lit (.bool false)], args := [d1, d2, d3] }
  | _ => none }
def CollateOrderWrongFalsely : Prop := collateOrderRow.holds Try.pinned (OpenSpec.ofChange collateOrderWrong)

/-- 'wordbooklaw06.CollateRanges': WHATEVER THE INPUT: true; the input reads as it did. -/
def collateRangesSpec : ChangeSpec := { name := "collateRanges", fn := fun _ => fun
  | [d1, d2, d3, d4] => { results := [.lit (.bool true)], args := [d1, d2, d3, d4] }
  | _ => none }
def collateRangesRow : OpenClaim := { program := "ytcimmcjnkphagaa", sum := "3d1986c51c60e6550fd8694bcad530990c8174f9a1c294ecfe0b096afab6eff1", func := "wordbook/wordbooklaw06.CollateRanges", spec := "collateRanges", inPlace := ["internal/bytealg.IndexByteString"], unfollowed := true, recurses := true, apart := false }
def CollateRangesSaid : Prop := collateRangesRow.holds Try.pinned (OpenSpec.ofChange collateRangesSpec)

/-- ITS FALSE NEIGHBOUR: 'it returns false'. Refute it at one input. -/
def collateRangesWrong : ChangeSpec := { name := "collateRanges", fn := fun _ => fun
  | [d1, d2, d3, d4] => { results := [.lit (.bool false)], args := [d1, d2, d3, d4] }
  | _ => none }
def CollateRangesWrongFalsely : Prop := collateRangesRow.holds Try.pinned (OpenSpec.ofChange collateRangesWrong)

/-- 'wordbooklaw06.CollateSections': WHATEVER THE INPUT: true; the input reads as it did. -/
def collateSectionsSpec : ChangeSpec := { name := "collateSections", fn := fun _ => fun
  | [d1, d2, d3, d4] => { results := [.lit (.bool true)], args := [d1, d2, d3, d4] }
  | _ => none }
def collateSectionsRow : OpenClaim := { program := "ytcimmcjnkphagaa", sum := "3d1986c51c60e6550fd8694bcad530990c8174f9a1c294ecfe0b096afab6eff1", func := "wordbook/wordbooklaw06.CollateSections", spec := "collateSections", inPlace := ["internal/bytealg.IndexByteString"], unfollowed := true, recurses := true, apart := false }
def CollateSectionsSaid : Prop := collateSectionsRow.holds Try.pinned (OpenSpec.ofChange collateSectionsSpec)

/-- ITS FALSE NEIGHBOUR: 'it returns false'. Refute it at one input. -/
def collateSectionsWrong : ChangeSpec := { name := "collateSections", fn := fun _ => fun
  | [d1, d2, d3, d4] => { results := [.lit (.bool false)], args := [d1, d2, d3, d4] }
  | _ => none }
def CollateSectionsWrongFalsely : Prop := collateSectionsRow.holds Try.pinned (OpenSpec.ofChange collateSectionsWrong)

/-- 'wordbooklaw06.CollateLevels': WHATEVER THE INPUT: true; the input reads as it did. -/
def collateLevelsSpec : ChangeSpec := { name := "collateLevels", fn := fun _ => fun
  | [d1, d2, d3] => { results := [.lit (.bool true)], args := [d1, d2, d3] }
  | _ => none }
def collateLevelsRow : OpenClaim := { program := "ytcimmcjnkphagaa", sum := "3d1986c51c60e6550fd8694bcad530990c8174f9a1c294ecfe0b096afab6eff1", func := "wordbook/wordbooklaw06.CollateLevels", spec := "collateLevels", inPlace := ["internal/bytealg.IndexByteString"], unfollowed := true, recurses := true, apart := false }
def CollateLevelsSaid : Prop := collateLevelsRow.holds Try.pinned (OpenSpec.ofChange collateLevelsSpec)

/-- ITS FALSE NEIGHBOUR: 'it returns false'. Refute it at one input. -/
def collateLevelsWrong : ChangeSpec := { name := "collateLevels", fn := fun _ => fun
  | [d1, d2, d3] => { results := [.lit (.bool false)], args := [d1, d2, d3] }
  | _ => none }
def CollateLevelsWrongFalsely : Prop := collateLevelsRow.holds Try.pinned (OpenSpec.ofChange collateLevelsWrong)

/-- 'wordbooklaw06.CollateBytes': WHATEVER THE INPUT: true; the input reads as it did. -/
def collateBytesSpec : ChangeSpec := { name := "collateBytes", fn := fun _ => fun
  | [d1, d2, d3] => { results := [.lit (.bool true)], args := [d1, d2, d3] }
  | _ => none }
def collateBytesRow : OpenClaim := { program := "ytcimmcjnkphagaa", sum := "3d1986c51c60e6550fd8694bcad530990c8174f9a1c294ecfe0b096afab6eff1", func := "wordbook/wordbooklaw06.CollateBytes", spec := "collateBytes", inPlace := ["internal/bytealg.IndexByteString"], unfollowed := true, recurses := true, apart := false }
def CollateBytesSaid : Prop := collateBytesRow.holds Try.pinned (OpenSpec.ofChange collateBytesSpec)

/-- ITS FALSE NEIGHBOUR: 'it returns false'. Refute it at one input. -/
def collateBytesWrong : ChangeSpec := { name := "collateBytes", fn := fun _ => fun
  | [d1, d2, d3] => { results := [.lit (.bool false)], args := [d1, d2, d3] }
  | _ => none }
def CollateBytesWrongFalsely : Prop := collateBytesRow.holds Try.pinned (OpenSpec.ofChange collateBytesWrong)

/- THE SECOND FORM. 'bulk': how many values and letters a reading holds, each counted each time it is reached (what is shared counts as often as it is met; a slice's spare places count too). A statement '..UptoSaid' is the law's where the arguments, and the package variables that the reading takes, are together of bulk at most 1048576: NARROWER than '..Said'. Prove '..Said' where nothing that the law and all that it calls make is longer than what came in: it says more and counts as full. Else prove '..UptoSaid'. A law counts once. -/
mutual
def uptoBulk {H : Type} : DataW H → Nat
  | .lit (.string bytes) => bytes.length + 1
  | .lit _ => 1
  | .nil => 1
  | .ptr d => uptoBulk d + 1
  | .slice elems spare => uptoBulkAll elems + uptoBulkAll spare + 1
  | .agg parts => uptoBulkAll parts + 1
  | .iface _ d => uptoBulk d + 1
  | .map entries => uptoBulkEntries entries + 1
  | .held _ => 1
def uptoBulkAll {H : Type} : List (DataW H) → Nat
  | [] => 0
  | d :: r => uptoBulk d + uptoBulkAll r
def uptoBulkEntries {H : Type} : List (Lit × DataW H) → Nat
  | [] => 0
  | x :: r => uptoBulkEntry x + uptoBulkEntries r
def uptoBulkEntry {H : Type} : Lit × DataW H → Nat
  | (.string bytes, d) => bytes.length + uptoBulk d + 1
  | (_, d) => uptoBulk d + 1
 end
def uptoSmall : (H : Type) → List (DataW H) → Bool := fun _ ds => decide (uptoBulkAll ds ≤ 1048576)
def OpenSpec.upto (s : _root_.Go.ChangeSpec) : _root_.Go.OpenSpec := { _root_.Go.OpenSpec.ofChange s with cond := some uptoSmall }

/-- 'wordbooklaw06.CollateKeys', WHERE WHAT IT READS IS OF BULK AT MOST 1048576: true; the input reads as it did. -/
def collateKeysUptoRow : OpenClaim := { program := "ytcimmcjnkphagaa", sum := "3d1986c51c60e6550fd8694bcad530990c8174f9a1c294ecfe0b096afab6eff1", func := "wordbook/wordbooklaw06.CollateKeys", spec := "collateKeys", inPlace := ["internal/bytealg.IndexByteString"], unfollowed := true, recurses := true, apart := false, narrowed := true }
def CollateKeysUptoSaid : Prop := collateKeysUptoRow.holds Try.pinned (OpenSpec.upto collateKeysSpec)

/-- 'wordbooklaw06.CollateCompares', WHERE WHAT IT READS IS OF BULK AT MOST 1048576: true; the input reads as it did. -/
def collateComparesUptoRow : OpenClaim := { program := "ytcimmcjnkphagaa", sum := "3d1986c51c60e6550fd8694bcad530990c8174f9a1c294ecfe0b096afab6eff1", func := "wordbook/wordbooklaw06.CollateCompares", spec := "collateCompares", inPlace := ["internal/bytealg.IndexByteString"], unfollowed := true, recurses := true, apart := false, narrowed := true }
def CollateComparesUptoSaid : Prop := collateComparesUptoRow.holds Try.pinned (OpenSpec.upto collateComparesSpec)

/-- 'wordbooklaw06.CollateSorts', WHERE WHAT IT READS IS OF BULK AT MOST 1048576: true; the input reads as it did. -/
def collateSortsUptoRow : OpenClaim := { program := "ytcimmcjnkphagaa", sum := "3d1986c51c60e6550fd8694bcad530990c8174f9a1c294ecfe0b096afab6eff1", func := "wordbook/wordbooklaw06.CollateSorts", spec := "collateSorts", inPlace := ["internal/bytealg.IndexByteString"], unfollowed := true, recurses := true, apart := false, narrowed := true }
def CollateSortsUptoSaid : Prop := collateSortsUptoRow.holds Try.pinned (OpenSpec.upto collateSortsSpec)

/-- 'wordbooklaw06.CollateFinds', WHERE WHAT IT READS IS OF BULK AT MOST 1048576: true; the input reads as it did. -/
def collateFindsUptoRow : OpenClaim := { program := "ytcimmcjnkphagaa", sum := "3d1986c51c60e6550fd8694bcad530990c8174f9a1c294ecfe0b096afab6eff1", func := "wordbook/wordbooklaw06.CollateFinds", spec := "collateFinds", inPlace := ["internal/bytealg.IndexByteString"], unfollowed := true, recurses := true, apart := false, narrowed := true }
def CollateFindsUptoSaid : Prop := collateFindsUptoRow.holds Try.pinned (OpenSpec.upto collateFindsSpec)

/-- 'wordbooklaw06.CollateOrder', WHERE WHAT IT READS IS OF BULK AT MOST 1048576: true; the input reads as it did. -/
def collateOrderUptoRow : OpenClaim := { program := "ytcimmcjnkphagaa", sum := "3d1986c51c60e6550fd8694bcad530990c8174f9a1c294ecfe0b096afab6eff1", func := "wordbook/wordbooklaw06.CollateOrder", spec := "collateOrder", inPlace := ["internal/bytealg.IndexByteString"], unfollowed := true, recurses := true, apart := false, narrowed := true }
def CollateOrderUptoSaid : Prop := collateOrderUptoRow.holds Try.pinned (OpenSpec.upto collateOrderSpec)

/-- 'wordbooklaw06.CollateRanges', WHERE WHAT IT READS IS OF BULK AT MOST 1048576: true; the input reads as it did. -/
def collateRangesUptoRow : OpenClaim := { program := "ytcimmcjnkphagaa", sum := "3d1986c51c60e6550fd8694bcad530990c8174f9a1c294ecfe0b096afab6eff1", func := "wordbook/wordbooklaw06.CollateRanges", spec := "collateRanges", inPlace := ["internal/bytealg.IndexByteString"], unfollowed := true, recurses := true, apart := false, narrowed := true }
def CollateRangesUptoSaid : Prop := collateRangesUptoRow.holds Try.pinned (OpenSpec.upto collateRangesSpec)

/-- 'wordbooklaw06.CollateSections', WHERE WHAT IT READS IS OF BULK AT MOST 1048576: true; the input reads as it did. -/
def collateSectionsUptoRow : OpenClaim := { program := "ytcimmcjnkphagaa", sum := "3d1986c51c60e6550fd8694bcad530990c8174f9a1c294ecfe0b096afab6eff1", func := "wordbook/wordbooklaw06.CollateSections", spec := "collateSections", inPlace := ["internal/bytealg.IndexByteString"], unfollowed := true, recurses := true, apart := false, narrowed := true }
def CollateSectionsUptoSaid : Prop := collateSectionsUptoRow.holds Try.pinned (OpenSpec.upto collateSectionsSpec)

/-- 'wordbooklaw06.CollateLevels', WHERE WHAT IT READS IS OF BULK AT MOST 1048576: true; the input reads as it did. -/
def collateLevelsUptoRow : OpenClaim := { program := "ytcimmcjnkphagaa", sum := "3d1986c51c60e6550fd8694bcad530990c8174f9a1c294ecfe0b096afab6eff1", func := "wordbook/wordbooklaw06.CollateLevels", spec := "collateLevels", inPlace := ["internal/bytealg.IndexByteString"], unfollowed := true, recurses := true, apart := false, narrowed := true }
def CollateLevelsUptoSaid : Prop := collateLevelsUptoRow.holds Try.pinned (OpenSpec.upto collateLevelsSpec)

/-- 'wordbooklaw06.CollateBytes', WHERE WHAT IT READS IS OF BULK AT MOST 1048576: true; the input reads as it did. -/
def collateBytesUptoRow : OpenClaim := { program := "ytcimmcjnkphagaa", sum := "3d1986c51c60e6550fd8694bcad530990c8174f9a1c294ecfe0b096afab6eff1", func := "wordbook/wordbooklaw06.CollateBytes", spec := "collateBytes", inPlace := ["internal/bytealg.IndexByteString"], unfollowed := true, recurses := true, apart := false, narrowed := true }
def CollateBytesUptoSaid : Prop := collateBytesUptoRow.holds Try.pinned (OpenSpec.upto collateBytesSpec)

end Rows
end Go.Proofs.Ytcimmcjnkphagaa
