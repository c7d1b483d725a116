import Derived.JoinedOf
import Derived.Test.YtibaapaglocpjaaRows
/- Proved here: lemmas for the laws' proofs (the texts Yc). No condition. -/
section
namespace Go.Proofs.Ytibaapaglocpjaa.B
def row0c : OpenClaim := { program := "", sum := "", func := "", spec := "" }
set_option maxRecDepth 100000 in
theorem made_as : (Try.prog.make == some row0c.make) = true := by kernel_rfl
end Go.Proofs.Ytibaapaglocpjaa.B

end
