import Derived.JoinedOf
import Derived.Test.YtibaapaglocpjaaGreatRows
/- Proved here: lemmas for the laws' proofs (the texts Yd). No condition. -/
section
namespace Go.Proofs.YtibaapaglocpjaaGreat.B
def row0d : OpenClaim := { program := "", sum := "", func := "", spec := "" }
set_option maxRecDepth 100000 in
theorem stops_heard : Tryz.prog.stopsHeard = true := by kernel_rfl
theorem maps_rowed : mapsRowed Tryz.prog = true := by kernel_rfl
end Go.Proofs.YtibaapaglocpjaaGreat.B

end
