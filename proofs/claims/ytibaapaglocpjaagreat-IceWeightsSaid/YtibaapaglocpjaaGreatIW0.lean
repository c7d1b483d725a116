import Derived.JoinedOf
import Derived.Test.YtibaapaglocpjaaGreatRows
/- Proved here: a part of the law IceWeights (the texts Ya). No condition. -/
section
namespace Go.Proofs.YtibaapaglocpjaaGreat.B
set_option maxRecDepth 100000 in
theorem may_enter : Tryz.prog.mayEnter = true := by kernel_rfl
end Go.Proofs.YtibaapaglocpjaaGreat.B

end
