/-
  For all automata, Min and Not agree with the reference model (wordbooklaw08, AutomatonMin), where what is read is of bulk at most 1048576.
-/
import Derived.Test.YtjimlkpfmbachaaJ38
namespace Go.Proofs.Ytjimlkpfmbachaa
theorem automatonMin_holds : Rows.AutomatonMinUptoSaid := automatonMin.over
end Go.Proofs.Ytjimlkpfmbachaa
