import Derived.Test.YtibaapaglocpjaaGreatBP
import Derived.Test.YtibaapaglocpjaaGreatBQC
import Derived.Test.YtibaapaglocpjaaGreatBQB
import Derived.Test.YtibaapaglocpjaaGreatBR2
/- Proved here: lemmas for the laws' proofs (the texts Rd). No condition. -/
section
set_option linter.unusedSimpArgs false
set_option linter.unusedVariables false
namespace Go.Proofs.YtibaapaglocpjaaGreat.B
open Go.RowKit Go.Proofs.YtibaapaglocpjaaGreatW.PrintWords Go.Proofs.YtibaapaglocpjaaGreat.Q Go.Proofs.YtibaapaglocpjaaGreatW.PrintMore
theorem rin_f (n lo hi : Int) : besomref03_in.f n lo hi = some (inB n lo hi) := by unfold besomref03_in.f; rw [in_f]; rfl
theorem rspot_f (x y : Int) : besomref03_Spot.f x y = some (plB x y) := by
  unfold besomref03_Spot.f plB inB
  by_cases a : x ≥ -6553600000
  · by_cases b : x ≤ 6553600000
    · by_cases c : y ≥ -6553600000
      · rw [if_pos a, if_pos b, if_pos c, decide_eq_true (by omega : -6553600000 ≤ x ∧ x ≤ 6553600000)]
        congr 1; simp [c]
      · rw [if_pos a, if_pos b, if_neg c, decide_eq_false (by omega : ¬ (-6553600000 ≤ y ∧ y ≤ 6553600000)), Bool.and_false]
    · rw [if_pos a, if_neg b, decide_eq_false (by omega : ¬ (-6553600000 ≤ x ∧ x ≤ 6553600000)), Bool.false_and]
  · rw [if_neg a, decide_eq_false (by omega : ¬ (-6553600000 ≤ x ∧ x ≤ 6553600000)), Bool.false_and]
theorem any_cons_drop {l : List Int} {i : Nat} (h : i < l.length) (p : Int → Bool) : (l.drop i).any p = (p (rd l (i : Int)) || (l.drop (i + 1)).any p) := by
  rw [List.drop_eq_getElem_cons h, List.any_cons, rd_at h]
theorem grain_ev {l : List Int} (hl : l.length ≤ 1000000) : ∀ (m i : Nat), i + m = l.length → Ev (fun k => besomref03_grain.l0 k l (i : Int)) (!(l.drop i).any oddB)
  | 0, i, hi => by
    refine ev_one (fun k => ?_)
    simp only [besomref03_grain.l0]
    rw [if_neg (by omega), List.drop_of_length_le (by omega)]; rfl
  | m + 1, i, hi => by
    have ih := grain_ev hl m (i + 1) (by omega)
    rw [any_cons_drop (show i < l.length by omega)]
    cases h : inB (rd l (i : Int)) 0 1000 with
    | true =>
      have ho : oddB (rd l (i : Int)) = false := by unfold oddB; rw [h]; rfl
      rw [ho, Bool.false_or]
      refine Ev.step (fun k => ?_) ih
      simp only [besomref03_grain.l0]
      rw [if_pos (by omega), if_pos (by omega), rin_f, h, w_id (by omega) (by omega)]
      rfl
    | false =>
      have ho : oddB (rd l (i : Int)) = true := by unfold oddB; rw [h]; rfl
      rw [ho, Bool.true_or]
      refine ev_one (fun k => ?_)
      simp only [besomref03_grain.l0]
      rw [if_pos (by omega), if_pos (by omega), rin_f, h]
      rfl
theorem grain_f {l : List Int} (hl : l.length ≤ 1000000) : Ev (fun k => besomref03_grain.f k l) (!l.any oddB) := by
  have := grain_ev hl l.length 0 (by omega)
  simpa [besomref03_grain.f] using this
theorem rice_f (cx cy sd wd ht : Int) {pb pl : List Int} (h1 : pb.length ≤ 1000000) (h2 : pl.length ≤ 1000000) : Ev (fun k => besomref03_Ice.f k cx cy sd wd ht pb pl) (iceB cx cy sd wd ht pb pl) := by
  have no : Ev (fun k => besomref03_Ice.j0 k true cx cy sd wd ht pb pl) false := ev_one (fun k => by simp only [besomref03_Ice.j0, if_true])
  have no1 : Ev (fun k => besomref03_Ice.j1 k true cx cy sd wd ht pb pl) false := ev_one (fun k => by simp only [besomref03_Ice.j1, if_true])
  have yes1 : Ev (fun k => besomref03_Ice.j1 k false cx cy sd wd ht pb pl) (!pb.any oddB && !pl.any oddB) := by
    refine Ev.step (f := fun k => (besomref03_grain.f k pb).bind fun t => (besomref03_grain.f k pl).bind fun t' => if t = true then some t' else some false) (fun k => ?_) (Ev.bind (grain_f h1) (Ev.bind (grain_f h2) ?_))
    · simp only [besomref03_Ice.j1, Bool.false_eq_true, if_false]
    · cases pb.any oddB
      · exact Ev.now _
      · exact Ev.now _
  by_cases c1 : plB cx cy = true
  · by_cases c2 : inB sd 1 6553600000 = true
    · have c2' := inB_iff.1 c2
      cases c3 : inB wd 1 256 with
      | true =>
        cases c4 : inB ht 1 256 with
        | true =>
          have b3 := inB_iff.1 c3
          have b4 := inB_iff.1 c4
          have hm := mul_bd (show 0 ≤ wd by omega) b3.2 (show 0 ≤ ht by omega) b4.2
          have hw : wrap64 (wd * ht) = wd * ht := w_id (by omega) (by omega)
          have e : iceB cx cy sd wd ht pb pl = (decide ((pb.length : Int) = wd * ht) && (decide ((pl.length : Int) = wd * ht) && (!pb.any oddB && !pl.any oddB))) := by
            unfold iceB; rw [c1, c2, c3, c4]; rfl
          rw [e]
          have j0 : Ev (fun k => besomref03_Ice.j0 k false cx cy sd wd ht pb pl) (decide ((pb.length : Int) = wd * ht) && (decide ((pl.length : Int) = wd * ht) && (!pb.any oddB && !pl.any oddB))) := by
            by_cases d1 : (pb.length : Int) = wd * ht
            · by_cases d2 : (pl.length : Int) = wd * ht
              · rw [decide_eq_true d1, decide_eq_true d2]
                refine Ev.step (fun k => ?_) yes1
                simp only [besomref03_Ice.j0, Bool.false_eq_true, if_false]
                rw [hw, if_pos d1, d2]; simp
              · rw [decide_eq_false d2, Bool.false_and, Bool.and_false]
                refine Ev.step (fun k => ?_) no1
                simp only [besomref03_Ice.j0, Bool.false_eq_true, if_false]
                rw [hw, if_pos d1, show ((pl.length : Int) != wd * ht) = true from bne_iff_ne.2 d2]
            · rw [decide_eq_false d1, Bool.false_and]
              refine Ev.step (fun k => ?_) no1
              simp only [besomref03_Ice.j0, Bool.false_eq_true, if_false]
              rw [hw, if_neg d1]
          refine Ev.congr (fun k => ?_) j0
          unfold besomref03_Ice.f
          rw [rspot_f, c1, rin_f, c3, rin_f, c4]
          simp only [Option.bind_some, if_true]
          rw [if_neg (by omega), if_neg (by omega)]; rfl
        | false =>
          have e : iceB cx cy sd wd ht pb pl = false := by unfold iceB; rw [c1, c2, c3, c4]; rfl
          rw [e]
          refine Ev.congr (fun k => ?_) no
          unfold besomref03_Ice.f
          rw [rspot_f, c1, rin_f, c3, rin_f, c4]
          simp only [Option.bind_some, if_true]
          rw [if_neg (by omega), if_neg (by omega)]; rfl
      | false =>
        have e : iceB cx cy sd wd ht pb pl = false := by unfold iceB; rw [c1, c2, c3]; rfl
        rw [e]
        refine Ev.congr (fun k => ?_) no
        unfold besomref03_Ice.f
        rw [rspot_f, c1, rin_f, c3]
        simp only [Option.bind_some, if_true, Bool.false_eq_true, if_false]
        rw [if_neg (by omega), if_neg (by omega)]
    · have e : iceB cx cy sd wd ht pb pl = false := by unfold iceB; rw [c1, Bool.eq_false_iff.2 c2]; rfl
      rw [e]
      refine Ev.congr (fun k => ?_) no
      unfold besomref03_Ice.f
      rw [rspot_f, c1]
      simp only [Option.bind_some, if_true]
      by_cases d : sd < 1
      · rw [if_pos d]
      · have k2 : ¬ (1 ≤ sd ∧ sd ≤ 6553600000) := fun h => c2 (inB_iff.2 h)
        rw [if_neg d, if_pos (by omega)]
  · have e : iceB cx cy sd wd ht pb pl = false := by unfold iceB; rw [Bool.eq_false_iff.2 c1]; rfl
    rw [e]
    refine Ev.congr (fun k => ?_) no
    unfold besomref03_Ice.f
    rw [rspot_f, Bool.eq_false_iff.2 c1]
    simp only [Option.bind_some, Bool.false_eq_true, if_false]
theorem rgrain_f (fl ke sw be we : Int) : besomref03_Grain.f fl ke sw be we = some (grainB fl ke sw be we) := by
  unfold besomref03_Grain.f grainB
  rw [rin_f, rin_f, rin_f]
  by_cases a : ke ≥ 1
  · by_cases b : ke ≤ fl
    · rw [if_pos a, if_pos b, show inB ke 1 fl = true from inB_iff.2 ⟨a, b⟩]
      by_cases c : fl ≤ 65536
      · rw [if_pos c, decide_eq_true c]
        cases inB sw 0 1000 <;> cases inB be 0 1000 <;> cases inB we 0 1000 <;> rfl
      · rw [if_neg c, decide_eq_false c]; rfl
    · rw [if_pos a, if_neg b, show inB ke 1 fl = false from decide_eq_false (by omega)]; rfl
  · rw [if_neg a, show inB ke 1 fl = false from decide_eq_false (by omega)]; rfl
theorem rcell_f {cx cy sd wd ht x y : Int} (pb pl : List Int) (H : AtHyp cx cy sd wd ht x y) : Ev (fun k => besomref03_cell.f k cx cy sd wd ht pb pl x y) (if atOk cx cy sd wd ht x y = true then atV cx cy sd wd ht x y else -1) := by
  have H' := H
  obtain ⟨x0, x1, y0, y1, s0, s1, w0, w1, h0, h1⟩ := H
  by_cases a : x < cx
  · have e : atOk cx cy sd wd ht x y = false := decide_eq_false (by omega)
    rw [e]
    refine Ev.congr (f := fun k => besomref03_cell.j0 k true cx cy sd wd ht pb pl x y) (fun k => ?_) (ev_one (fun k => by simp only [besomref03_cell.j0, if_true]; rfl))
    unfold besomref03_cell.f; rw [if_pos a]
  · by_cases b : y < cy
    · have e : atOk cx cy sd wd ht x y = false := decide_eq_false (by omega)
      rw [e]
      refine Ev.congr (f := fun k => besomref03_cell.j0 k true cx cy sd wd ht pb pl x y) (fun k => ?_) (ev_one (fun k => by simp only [besomref03_cell.j0, if_true]; rfl))
      unfold besomref03_cell.f; rw [if_neg a, decide_eq_true b]
    · have qx0 : 0 ≤ (x - cx) / sd := Int.ediv_nonneg (by omega) (by omega)
      have qy0 : 0 ≤ (y - cy) / sd := Int.ediv_nonneg (by omega) (by omega)
      have qx1 : (x - cx) / sd ≤ x - cx := Int.ediv_le_self _ (by omega)
      have qy1 : (y - cy) / sd ≤ y - cy := Int.ediv_le_self _ (by omega)
      refine Ev.congr (f := fun k => besomref03_cell.j0 k false cx cy sd wd ht pb pl x y) (fun k => ?_) (ev_one (fun k => ?_))
      · unfold besomref03_cell.f; rw [if_neg a, decide_eq_false b]
      · simp only [besomref03_cell.j0, Bool.false_eq_true, if_false]
        rw [if_neg (by omega), w_id (x := x - cx) (by omega) (by omega), w_id (x := y - cy) (by omega) (by omega), Int.tdiv_eq_ediv_of_nonneg (by omega), Int.tdiv_eq_ediv_of_nonneg (by omega), w_id (x := (x - cx) / sd) (by omega) (by omega), w_id (x := (y - cy) / sd) (by omega) (by omega)]
        have kx : (x - cx) / sd ≥ wd ↔ ¬ x - cx < wd * sd := by
          rw [ge_iff_le, Int.le_ediv_iff_mul_le (by omega)]; omega
        have ky : (y - cy) / sd ≥ ht ↔ ¬ y - cy < ht * sd := by
          rw [ge_iff_le, Int.le_ediv_iff_mul_le (by omega)]; omega
        by_cases c : x - cx < wd * sd
        · by_cases d : y - cy < ht * sd
          · have e : atOk cx cy sd wd ht x y = true := decide_eq_true (by omega)
            have hr := atV_range H' e
            have ev : atV cx cy sd wd ht x y = (y - cy) / sd * wd + (x - cx) / sd := by unfold atV atC; rw [if_pos e]
            have m1 : 0 ≤ (y - cy) / sd * wd := Int.mul_nonneg qy0 (by omega)
            have m2 := mul_bd (show 0 ≤ wd by omega) w1 (show 0 ≤ ht by omega) h1
            rw [if_neg (fun h => kx.1 h c), if_neg (fun h => ky.1 h d), e, if_pos rfl, ev]
            rw [ev] at hr
            rw [w_id (x := (y - cy) / sd * wd) (by omega) (by omega), w_id (by omega) (by omega)]
          · have e : atOk cx cy sd wd ht x y = false := decide_eq_false (by omega)
            rw [if_neg (fun h => kx.1 h c), if_pos (ky.2 d), e]; rfl
        · have e : atOk cx cy sd wd ht x y = false := decide_eq_false (by omega)
          rw [if_pos (kx.2 c), e]; rfl
theorem rheight_f {cx cy sd wd ht x y : Int} {pb pl : List Int} (H : AtHyp cx cy sd wd ht x y) (n1 : (pb.length : Int) = wd * ht) (n2 : (pl.length : Int) = wd * ht) :
    Ev (fun k => besomref03_height.f k cx cy sd wd ht pb pl x y) (grV pb cx cy sd wd ht x y, grV pl cx cy sd wd ht x y) := by
  refine Ev.congr (f := fun k => (besomref03_cell.f k cx cy sd wd ht pb pl x y).bind fun t => if t < 0 then some (0, 0) else if 0 ≤ t then if t < (pb.length : Int) then if t < (pl.length : Int) then some (rd pb t, rd pl t) else none else none else none) (fun k => rfl) (Ev.bind (rcell_f pb pl H) ?_)
  unfold grV
  cases e : atOk cx cy sd wd ht x y with
  | false =>
    simp only [Bool.false_eq_true, if_false]
    exact Ev.congr (fun k => if_pos (by omega)) (Ev.now _)
  | true =>
    have hr := atV_range H e
    simp only [if_true]
    refine Ev.congr (fun k => ?_) (Ev.now _)
    rw [if_neg (by omega), if_pos (by omega), if_pos (by omega), if_pos (by omega)]
theorem scaleF_neg {a n d : Int} (ha : 0 ≤ a) (hn : 0 ≤ n) (hd : 0 < d) : scaleF (-a) n d 3 = -scaleF a n d 3 := by
  have e1 : nabs (-a) = nabs a := by unfold nabs; split <;> split <;> omega
  unfold scaleF
  rw [e1]
  have hq : ∀ b b' : Bool, quoR (nabs a * nabs n) (nabs d) b 3 = quoR (nabs a * nabs n) (nabs d) b' 3 := fun b b' => rfl
  rw [hq (neg3 (-a) n d) false, hq (neg3 a n d) false]
  have f2 : neg3 a n d = false := by unfold neg3; rw [decide_eq_false (by omega : ¬ a < 0), decide_eq_false (by omega : ¬ n < 0), decide_eq_false (by omega : ¬ d < 0)]; rfl
  rw [f2]
  by_cases h : a = 0
  · subst h
    have z : quoR (nabs 0 * nabs n) (nabs d) false 3 = 0 := by
      have : nabs 0 * nabs n = 0 := by unfold nabs; simp
      rw [this]; unfold quoR; simp
    rw [z]; unfold sgn; split <;> rfl
  · have f1 : neg3 (-a) n d = true := by unfold neg3; rw [decide_eq_true (by omega : -a < 0), decide_eq_false (by omega : ¬ n < 0), decide_eq_false (by omega : ¬ d < 0)]; rfl
    rw [f1]; rfl
theorem rbrake_f {fl ke sw be we p q : Int} (G : GrainOk fl ke sw be we) (p0 : 0 ≤ p) (p1 : p ≤ 1000) (q0 : 0 ≤ q) (q1 : q ≤ 1000) : Ev (fun k => besomref03_brake.f k fl ke sw be we p q) (slowF fl ke sw p q) := by
  obtain ⟨k0, k1, f1, s0, s1, _, _, _, _⟩ := G
  have h1 := near_le (a := fl - ke) (n := p) (d := 1000) 3 (by omega) p0 p1 (by omega)
  have hs : 0 ≤ sw * q ∧ sw * q ≤ 1000 * 1000 := mul_bd s0 s1 q0 q1
  have a1 : nabs (ke - fl) ≤ 65536 := nabs_le (by omega) (by omega)
  have a2 : nabs p ≤ 1000 := nabs_le (by omega) (by omega)
  have m1 := mul_bd (nabs_nonneg (ke - fl)) a1 (nabs_nonneg p) a2
  have e := scaleF_neg (a := fl - ke) (n := p) (d := 1000) (by omega) p0 (by omega)
  rw [show -(fl - ke) = ke - fl by omega] at e
  have r1 := refScale3 (a := ke - fl) (n := p) (d := 1000) ⟨by omega, by omega⟩ ⟨by omega, by omega⟩ ⟨by omega, by omega⟩ (by omega) (by omega)
  rw [e] at r1
  unfold slowF
  generalize scaleF (fl - ke) p 1000 3 = s at *
  have a3 : nabs (fl - s) ≤ 65536 := nabs_le (by omega) (by omega)
  have a4 : nabs (1000000 - sw * q) ≤ 1000000 := nabs_le (by omega) (by omega)
  have m2 := mul_bd (nabs_nonneg (fl - s)) a3 (nabs_nonneg (1000000 - sw * q)) a4
  have r2 := refScale3 (a := fl - s) (n := 1000000 - sw * q) (d := 1000000) ⟨by omega, by omega⟩ ⟨by omega, by omega⟩ ⟨by omega, by omega⟩ (by omega) (by omega)
  have w1 : wrap64 (ke - fl) = ke - fl := w_id (by omega) (by omega)
  have w2 : wrap64 (sw * q) = sw * q := w_id (by omega) (by omega)
  have w3 : wrap64 (1000000 - sw * q) = 1000000 - sw * q := w_id (by omega) (by omega)
  have w4 : wrap64 (fl + -s) = fl - s := (w_id (by omega) (by omega)).trans (by omega)
  unfold besomref03_brake.f
  rw [w1, w2, w3]
  refine Ev.bind r1 ?_
  simp only [w4]
  exact Ev.bind r2 (Ev.now _)
end Go.Proofs.YtibaapaglocpjaaGreat.B

end
