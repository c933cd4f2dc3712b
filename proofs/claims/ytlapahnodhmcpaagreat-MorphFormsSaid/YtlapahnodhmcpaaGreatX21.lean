/-
  Part of the proof.
-/
import Derived.Test.YtlapahnodhmcpaaGreatX19
set_option linter.unusedVariables false
set_option linter.unusedSectionVars false
set_option linter.unusedSimpArgs false
set_option maxRecDepth 100000
set_option maxHeartbeats 40000000
namespace Go.Wf
open Go.Am Go.Wb Go.Wc
end Go.Wf
namespace Go.Am
section
variable {P:Program} {w0:Fr}{M0:Nat→Prop}{o:Oper}{ρ:Operand→Option SV}{ob:List (Nat×Ob)}{x y:Operand}{T T':TypeId}{c:fX}
end
end Go.Am
namespace Go.Proofs.YtlapahnodhmcpaaGreat
open Go.Am Go.Wb Go.Wc Go.Wf Go.We
namespace morphUnchanged
open Go.ChangeShapes Go.WideShapes Go.ChangeAt Go.RowKit Go.Am
end morphUnchanged
end Go.Proofs.YtlapahnodhmcpaaGreat
