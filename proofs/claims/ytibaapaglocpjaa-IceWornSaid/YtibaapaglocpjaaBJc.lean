import Derived.Deep.LoopGhost
import Derived.Test.YtibaapaglocpjaaBGa
import Derived.Test.YtibaapaglocpjaaBGc
import Derived.Test.YtibaapaglocpjaaBJb
/- Proved here: lemmas for the laws' proofs (the texts Jc). No condition. -/
section
set_option linter.unusedSimpArgs false
set_option linter.unusedVariables false
namespace Go.Proofs.Ytibaapaglocpjaa.B
open Go.RowKit Go.Shelf Go.Proofs.YtibaapaglocpjaaW.PrintWords
theorem Turn_any (ax ay bx by' : Int) (ha : okFix ax) (hb : okFix ay) (hc : okFix bx) (hd : okFix by') (w : World) :
    Calls Try.prog 80 #[.agg #[.int .i64 ax, .int .i64 ay], .agg #[.int .i64 bx, .int .i64 by']] w fun e w' => e = .returned (.tuple #[.int .i64 (turnF ax ay bx by'), .int .i64 0]) ∧ Below w.heap.size w w' := by
  have HM := fun b1 b2 W h0 h1 h2 h3 => Kp.mk (turn_do ax ay bx by' b1 b2 W ha hb hc hd h0 h1 h2 h3)
  simp only [turn_eq] at HM
  have hmk := hmf
  have EG := Kp.mk (enters_of Try.func96 (by kernel_rfl) rfl)
  clear ha hb hc hd
  generalize turnF ax ay bx by' = R at *
  go_enter Try.func80, Try.ntmps80
  go_wp2_with (go_at_call 95; (with_reducible refine (tried_int _ _ R _ EG.out ?hdo).mono ?_); (case hdo => exact fun W hW => (HM _ _ W (bl_cell hW (by go_simp)) (bl_cell hW (by go_simp)) (bl_cell hW (by go_simp)) (bl_cell hW (by go_simp))).out); rintro e w2 ⟨rfl, hb2'⟩; have hb2 := Kp.mk hb2'; clear hb2')
  go_ret2
  exact ⟨rfl, bl_then (by repeat (first | exact Below.refl _ _ | (with_reducible assumption) | apply bl_drew | apply bl_drewN | apply bl_alloc | (refine bl_set ?_ (by go_simp)))) hb2.out⟩
end Go.Proofs.Ytibaapaglocpjaa.B

end
