import Derived.JoinedOf
import Derived.Test.YtibaapaglocpjaaGreatRows
/- Proved here: lemmas for the laws' proofs (the texts Ya). No condition. -/
section
namespace Go.Proofs.YtibaapaglocpjaaGreat.B
def row0a : OpenClaim := { program := "", sum := "", func := "", spec := "" }
set_option maxRecDepth 100000 in
theorem may_enter : Tryz.prog.mayEnter = true := by kernel_rfl
end Go.Proofs.YtibaapaglocpjaaGreat.B

end
