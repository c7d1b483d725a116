import Derived.JoinedOf
import Derived.Test.YtibaapaglocpjaaRows
/- Proved here: lemmas for the laws' proofs (the texts Yd). No condition. -/
section
namespace Go.Proofs.Ytibaapaglocpjaa.B
def row0d : OpenClaim := { program := "", sum := "", func := "", spec := "" }
set_option maxRecDepth 100000 in
theorem stops_heard : Try.prog.stopsHeard = true := by kernel_rfl
theorem maps_rowed : mapsRowed Try.prog = true := by kernel_rfl
end Go.Proofs.Ytibaapaglocpjaa.B

end
