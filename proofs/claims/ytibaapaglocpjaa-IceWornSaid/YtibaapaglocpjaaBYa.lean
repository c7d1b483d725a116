import Derived.JoinedOf
import Derived.Test.YtibaapaglocpjaaRows
/- Proved here: lemmas for the laws' proofs (the texts Ya). No condition. -/
section
namespace Go.Proofs.Ytibaapaglocpjaa.B
def row0a : OpenClaim := { program := "", sum := "", func := "", spec := "" }
set_option maxRecDepth 100000 in
theorem may_enter : Try.prog.mayEnter = true := by kernel_rfl
end Go.Proofs.Ytibaapaglocpjaa.B

end
