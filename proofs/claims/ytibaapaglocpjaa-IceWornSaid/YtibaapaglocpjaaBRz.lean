import Derived.Test.YtibaapaglocpjaaBP
import Derived.Test.YtibaapaglocpjaaBQC
/- Proved here: lemmas for the laws' proofs (the texts Rz). No condition. -/
section
set_option linter.unusedSimpArgs false
set_option linter.unusedVariables false
namespace Go.Proofs.Ytibaapaglocpjaa.B
open Go.RowKit Go.Proofs.YtibaapaglocpjaaW.PrintWords Go.Proofs.Ytibaapaglocpjaa.Q Go.Proofs.YtibaapaglocpjaaW.PrintMore
theorem w_id {x : Int} (h0 : -9223372036854775808 ≤ x) (h1 : x < 9223372036854775808) : wrap64 x = x := by unfold wrap64; omega
theorem ev_one {α : Type} {g : Nat → Option α} {r : α} (h : ∀ k, g (k + 1) = some r) : Ev g r := ⟨1, fun k hk => by obtain ⟨m, rfl⟩ : ∃ m, k = m + 1 := ⟨k - 1, by omega⟩; exact h m⟩
theorem rd_at {l : List Int} {i : Nat} (h : i < l.length) : rd l (i : Int) = l[i] := by simp [rd, List.getD_eq_getElem?_getD, List.getElem?_eq_getElem h]
theorem great_f (cx cy sd wd ht : Int) (pb pl : List Int) (n : Int) : besomref03_Great.f cx cy sd wd ht pb pl n = some (decide ((pb.length : Int) > n) || decide ((pl.length : Int) > n)) := by
  unfold besomref03_Great.f
  by_cases h : (pb.length : Int) > n
  · rw [if_pos h, decide_eq_true h]; rfl
  · rw [if_neg h, decide_eq_false h]; rfl
end Go.Proofs.Ytibaapaglocpjaa.B

end
