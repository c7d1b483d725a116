import Derived.Test.YtibaapaglocpjaaGreatBQE
import Derived.Test.YtibaapaglocpjaaGreatBRd
/- Proved here: lemmas for the laws' proofs (the texts Rf). No condition. -/
section
set_option linter.unusedSimpArgs false
set_option linter.unusedVariables false
namespace Go.Proofs.YtibaapaglocpjaaGreat.B
open Go.RowKit Go.Proofs.YtibaapaglocpjaaGreatW.PrintWords Go.Proofs.YtibaapaglocpjaaGreat.Q Go.Proofs.YtibaapaglocpjaaGreatW.PrintMore
theorem code_f (b : Bool) : besomref03_code.f b = some (errI b) := by
  unfold besomref03_code.f errI
  cases b <;> rfl
theorem refCheck (cx cy sd wd ht : Int) {pb pl : List Int} (h1 : pb.length ≤ 1000000) (h2 : pl.length ≤ 1000000) : Ev (fun k => besomref03_Check.f k cx cy sd wd ht pb pl) (errI (iceB cx cy sd wd ht pb pl)) := by
  unfold besomref03_Check.f
  refine Ev.bind (rice_f cx cy sd wd ht h1 h2) ?_
  exact ev_one (fun k => by rw [code_f]; rfl)
theorem refCheckGrain (fl ke sw be we : Int) : besomref03_CheckGrain.f fl ke sw be we = some (errI (grainB fl ke sw be we)) := by
  unfold besomref03_CheckGrain.f
  rw [rgrain_f]
  show (besomref03_code.f (grainB fl ke sw be we)).bind some = _
  rw [code_f]; rfl
theorem refAt (cx cy sd wd ht : Int) {pb pl : List Int} (x y : Int) (h1 : pb.length ≤ 1000000) (h2 : pl.length ≤ 1000000) :
    Ev (fun k => besomref03_At.f k cx cy sd wd ht pb pl x y) (iceAt cx cy sd wd ht pb pl x y) := by
  have hw : iceAt cx cy sd wd ht pb pl x y = if iceB cx cy sd wd ht pb pl = true ∧ plB x y = true then (if atOk cx cy sd wd ht x y = true then (atV cx cy sd wd ht x y, 0) else (0, 7)) else (0, 2) := rfl
  rw [hw]
  have no0 : Ev (fun k => besomref03_At.j0 k false cx cy sd wd ht pb pl x y) (0, 2) := ev_one (fun k => by simp only [besomref03_At.j0, Bool.false_eq_true, if_false])
  refine Ev.congr (f := fun k => (besomref03_Ice.f k cx cy sd wd ht pb pl).bind fun t323 => if t323 = true then besomref03_At.j0 k (plB x y) cx cy sd wd ht pb pl x y else besomref03_At.j0 k false cx cy sd wd ht pb pl x y) (fun k => ?_) (Ev.bind (rice_f cx cy sd wd ht h1 h2) ?_)
  · unfold besomref03_At.f
    rw [rspot_f]
    rfl
  · cases hi : iceB cx cy sd wd ht pb pl with
    | false => simpa using no0
    | true =>
      simp only [if_true, true_and]
      cases hp : plB x y with
      | false => simpa using no0
      | true =>
        rw [if_pos rfl]
        have H := (iceB_iff.1 hi).at hp
        refine Ev.step (f := fun k => (besomref03_cell.f k cx cy sd wd ht pb pl x y).bind fun t => if t < 0 then some (0, 7) else some (t, 0)) (fun k => ?_) (Ev.bind (rcell_f pb pl H) ?_)
        · simp only [besomref03_At.j0, if_true]
        · by_cases a : atOk cx cy sd wd ht x y = true
          · rw [if_pos a, if_pos a]
            have := (atV_range H a).1
            exact ev_one (fun k => if_neg (by omega))
          · rw [if_neg a, if_neg a]
            exact ev_one (fun k => if_pos (by decide))
theorem refSlow (cx cy sd wd ht : Int) {pb pl : List Int} (fl ke sw be we x y : Int) (h1 : pb.length ≤ 1000000) (h2 : pl.length ≤ 1000000) :
    Ev (fun k => besomref03_Slow.f k cx cy sd wd ht pb pl fl ke sw be we x y) (iceSlow cx cy sd wd ht pb pl fl ke sw be we x y) := by
  have hw : iceSlow cx cy sd wd ht pb pl fl ke sw be we x y = if iceB cx cy sd wd ht pb pl = true ∧ grainB fl ke sw be we = true ∧ plB x y = true then (slowF fl ke sw (grV pb cx cy sd wd ht x y) (grV pl cx cy sd wd ht x y), 0) else (0, 2) := rfl
  rw [hw]
  have no1 : Ev (fun k => besomref03_Slow.j1 k true cx cy sd wd ht pb pl fl ke sw be we x y) (0, 2) := ev_one (fun k => by simp only [besomref03_Slow.j1, if_true])
  have no0 : Ev (fun k => besomref03_Slow.j0 k false cx cy sd wd ht pb pl fl ke sw be we x y) (0, 2) := by
    refine Ev.step (fun k => ?_) no1
    simp only [besomref03_Slow.j0, Bool.false_eq_true, if_false]
  refine Ev.congr (f := fun k => (besomref03_Ice.f k cx cy sd wd ht pb pl).bind fun t323 => if t323 = true then besomref03_Slow.j0 k (grainB fl ke sw be we) cx cy sd wd ht pb pl fl ke sw be we x y else besomref03_Slow.j0 k false cx cy sd wd ht pb pl fl ke sw be we x y) (fun k => ?_) (Ev.bind (rice_f cx cy sd wd ht h1 h2) ?_)
  · unfold besomref03_Slow.f
    rw [rgrain_f]
    rfl
  · cases hi : iceB cx cy sd wd ht pb pl with
    | false => simpa using no0
    | true =>
      simp only [if_true, true_and]
      cases hg : grainB fl ke sw be we with
      | false => simpa using no0
      | true =>
        simp only [true_and]
        refine Ev.step (f := fun k => besomref03_Slow.j1 k (!plB x y) cx cy sd wd ht pb pl fl ke sw be we x y) (fun k => ?_) ?_
        · simp only [besomref03_Slow.j0, if_true]
          rw [rspot_f]
          rfl
        · cases hp : plB x y with
          | false => simpa using no1
          | true =>
            rw [if_pos rfl]
            have HI := iceB_iff.1 hi
            have H := HI.at hp
            have p := grV_bd (cx := cx) (cy := cy) (sd := sd) (wd := wd) (ht := ht) (x := x) (y := y) HI.g1
            have q := grV_bd (cx := cx) (cy := cy) (sd := sd) (wd := wd) (ht := ht) (x := x) (y := y) HI.g2
            refine Ev.step (f := fun k => (besomref03_height.f k cx cy sd wd ht pb pl x y).bind fun b => (besomref03_brake.f k fl ke sw be we b.1 b.2).bind fun t => some (t, 0)) (fun k => ?_) (Ev.bind (rheight_f H HI.n1 HI.n2) (Ev.bind (rbrake_f (grainB_iff.1 hg) p.1 p.2 q.1 q.2) (Ev.now _)))
            simp only [besomref03_Slow.j1, Bool.not_true, Bool.false_eq_true, if_false]
theorem refBend (cx cy sd wd ht : Int) {pb pl : List Int} (fl ke sw be we x y : Int) (h1 : pb.length ≤ 1000000) (h2 : pl.length ≤ 1000000) :
    Ev (fun k => besomref03_Bend.f k cx cy sd wd ht pb pl fl ke sw be we x y) (iceBend cx cy sd wd ht pb pl fl ke sw be we x y) := by
  have hw : iceBend cx cy sd wd ht pb pl fl ke sw be we x y = if iceB cx cy sd wd ht pb pl = true ∧ grainB fl ke sw be we = true ∧ plB x y = true then (bendF be (grV pl cx cy sd wd ht x y), 0) else (0, 2) := rfl
  rw [hw]
  have no1 : Ev (fun k => besomref03_Bend.j1 k true cx cy sd wd ht pb pl fl ke sw be we x y) (0, 2) := ev_one (fun k => by simp only [besomref03_Bend.j1, if_true])
  have no0 : Ev (fun k => besomref03_Bend.j0 k false cx cy sd wd ht pb pl fl ke sw be we x y) (0, 2) := by
    refine Ev.step (fun k => ?_) no1
    simp only [besomref03_Bend.j0, Bool.false_eq_true, if_false]
  refine Ev.congr (f := fun k => (besomref03_Ice.f k cx cy sd wd ht pb pl).bind fun t323 => if t323 = true then besomref03_Bend.j0 k (grainB fl ke sw be we) cx cy sd wd ht pb pl fl ke sw be we x y else besomref03_Bend.j0 k false cx cy sd wd ht pb pl fl ke sw be we x y) (fun k => ?_) (Ev.bind (rice_f cx cy sd wd ht h1 h2) ?_)
  · unfold besomref03_Bend.f
    rw [rgrain_f]
    rfl
  · cases hi : iceB cx cy sd wd ht pb pl with
    | false => simpa using no0
    | true =>
      simp only [if_true, true_and]
      cases hg : grainB fl ke sw be we with
      | false => simpa using no0
      | true =>
        simp only [true_and]
        refine Ev.step (f := fun k => besomref03_Bend.j1 k (!plB x y) cx cy sd wd ht pb pl fl ke sw be we x y) (fun k => ?_) ?_
        · simp only [besomref03_Bend.j0, if_true]
          rw [rspot_f]
          rfl
        · cases hp : plB x y with
          | false => simpa using no1
          | true =>
            rw [if_pos rfl]
            have HI := iceB_iff.1 hi
            have H := HI.at hp
            have q := grV_bd (cx := cx) (cy := cy) (sd := sd) (wd := wd) (ht := ht) (x := x) (y := y) HI.g2
            have G := grainB_iff.1 hg
            have b0 := G.b0
            have b1 := G.b1
            unfold bendF
            refine Ev.step (f := fun k => (besomref03_height.f k cx cy sd wd ht pb pl x y).bind fun b => (besomref01_Scale.f k 65536 (wrap64 (be * (wrap64 (2000 - b.2)))) 2000000 3).bind fun t => some (t.1, 0)) (fun k => ?_) (Ev.bind (rheight_f H HI.n1 HI.n2) ?_)
            · simp only [besomref03_Bend.j1, Bool.not_true, Bool.false_eq_true, if_false]
            · simp only
              generalize grV pl cx cy sd wd ht x y = g at *
              have hm := mul_bd b0 b1 (show 0 ≤ 2000 - g by omega) (show 2000 - g ≤ 2000 by omega)
              rw [w_id (x := 2000 - g) (by omega) (by omega), w_id (x := be * (2000 - g)) (by omega) (by omega)]
              have a4 : nabs (be * (2000 - g)) ≤ 2000000 := nabs_le (by omega) (by omega)
              have a5 : nabs 65536 = 65536 := rfl
              have m2 := mul_bd (by decide : (0 : Int) ≤ 65536) (Int.le_refl _) (nabs_nonneg (be * (2000 - g))) a4
              exact Ev.bind (refScale3 (a := 65536) (n := be * (2000 - g)) (d := 2000000) ⟨by omega, by omega⟩ ⟨by omega, by omega⟩ ⟨by omega, by omega⟩ (by omega) (by rw [a5]; omega)) (Ev.now _)
end Go.Proofs.YtibaapaglocpjaaGreat.B

end
