import Derived.JoinedOf
import Derived.Test.YtibaapaglocpjaaRows
/- Proved here: lemmas for the laws' proofs (the texts Yb). No condition. -/
section
namespace Go.Proofs.Ytibaapaglocpjaa.B
def row0b : OpenClaim := { program := "", sum := "", func := "", spec := "" }
set_option maxRecDepth 100000 in
theorem lifts_final : (row0b.lifted == Try.prog.liftsFinal) = true := by kernel_rfl
end Go.Proofs.Ytibaapaglocpjaa.B

end
