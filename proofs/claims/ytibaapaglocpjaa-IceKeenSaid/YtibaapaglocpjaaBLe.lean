import Derived.Test.YtibaapaglocpjaaBP
import Derived.Test.YtibaapaglocpjaaBL
import Derived.Test.YtibaapaglocpjaaBPh
/- Proved here: lemmas for the laws' proofs (the texts Le). No condition. -/
section
set_option linter.unusedSimpArgs false
set_option linter.unusedVariables false
namespace Go.Proofs.Ytibaapaglocpjaa.B
open Go.RowKit Go.Shelf Go.Proofs.YtibaapaglocpjaaW.PrintWords Go.Proofs.Ytibaapaglocpjaa.Q
structure KeenMore (cx cy sd wd ht : Int) (pb pl : List Int) (fl ke sw be we x y a b c m0 m1 : Int) : Prop where
  c0 : 0 ≤ c
  c1 : c < pb.length
  c2 : c < pl.length
  p0 : 0 ≤ rd pb c
  p1 : rd pb c ≤ 1000
  q0 : 0 ≤ rd pl c
  q1 : rd pl c ≤ 1000
  more : ∃ k m o, iceSlow cx cy sd wd ht (pb.set c.toNat (minI 1000 (rd pb c + m0))) pl fl ke sw be we x y = (k, 0) ∧
    iceSlow cx cy sd wd ht (pb.set c.toNat (minI 1000 (rd pb c + m0))) (pl.set c.toNat (minI 1000 (rd pl c + m1))) fl ke sw be we x y = (m, 0) ∧
    iceBend cx cy sd wd ht (pb.set c.toNat (minI 1000 (rd pb c + m0))) (pl.set c.toNat (minI 1000 (rd pl c + m1))) fl ke sw be we x y = (o, 0) ∧ k ≤ a ∧ m ≤ k ∧ o ≤ b
theorem grV_at {l : List Int} {cx cy sd wd ht x y : Int} (h : atOk cx cy sd wd ht x y = true) : grV l cx cy sd wd ht x y = rd l (atV cx cy sd wd ht x y) := by unfold grV; rw [if_pos h]
theorem rd_put {l : List Int} {c v : Int} (h0 : 0 ≤ c) (h1 : c < l.length) : rd (l.set c.toNat v) c = v := by
  obtain ⟨n, rfl⟩ := Int.eq_ofNat_of_zero_le h0
  have : n < l.length := by omega
  simp [rd, List.getD_eq_getElem?_getD, this]
theorem keen_more {cx cy sd wd ht : Int} {pb pl : List Int} {fl ke sw be we x y m0 m1 : Int} (h1 : iceB cx cy sd wd ht pb pl = true) (h2 : grainB fl ke sw be we = true) (h3 : plB x y = true) (ha : atOk cx cy sd wd ht x y = true) (hm0 : 0 ≤ m0) (hm1 : 0 ≤ m1) :
    KeenMore cx cy sd wd ht pb pl fl ke sw be we x y (slowF fl ke sw (grV pb cx cy sd wd ht x y) (grV pl cx cy sd wd ht x y)) (bendF be (grV pl cx cy sd wd ht x y)) (atV cx cy sd wd ht x y) m0 m1 := by
  have HI := iceB_iff.1 h1
  have G := grainB_iff.1 h2
  obtain ⟨r0, r1⟩ := atV_range (HI.at h3) ha
  have p := grV_bd (cx := cx) (cy := cy) (sd := sd) (wd := wd) (ht := ht) (x := x) (y := y) HI.g1
  have q := grV_bd (cx := cx) (cy := cy) (sd := sd) (wd := wd) (ht := ht) (x := x) (y := y) HI.g2
  have n1 := HI.n1
  have n2 := HI.n2
  rw [grV_at ha] at p q
  rw [grV_at ha, grV_at ha]
  generalize hc : atV cx cy sd wd ht x y = c at *
  generalize hP : minI 1000 (rd pb c + m0) = P
  generalize hQ : minI 1000 (rd pl c + m1) = Q
  have bP : rd pb c ≤ P ∧ P ≤ 1000 := by rw [← hP]; unfold minI; split <;> omega
  have bQ : rd pl c ≤ Q ∧ Q ≤ 1000 := by rw [← hQ]; unfold minI; split <;> omega
  have gP : grainOk (pb.set c.toNat P) := grain_set HI.g1 _ (by omega) (by omega)
  have gQ : grainOk (pl.set c.toNat Q) := grain_set HI.g2 _ (by omega) (by omega)
  have i1 : iceB cx cy sd wd ht (pb.set c.toNat P) pl = true := iceB_iff.2 { HI with n1 := by rw [List.length_set]; exact n1, g1 := gP }
  have i2 : iceB cx cy sd wd ht (pb.set c.toNat P) (pl.set c.toNat Q) = true := iceB_iff.2 { HI with n1 := by rw [List.length_set]; exact n1, g1 := gP, n2 := by rw [List.length_set]; exact n2, g2 := gQ }
  have e1 : grV (pb.set c.toNat P) cx cy sd wd ht x y = P := by rw [grV_at ha, hc]; exact rd_put r0 (by omega)
  have e2 : grV (pl.set c.toNat Q) cx cy sd wd ht x y = Q := by rw [grV_at ha, hc]; exact rd_put r0 (by omega)
  have e3 : grV pl cx cy sd wd ht x y = rd pl c := by rw [grV_at ha, hc]
  refine ⟨r0, by omega, by omega, p.1, p.2, q.1, q.2, slowF fl ke sw P (rd pl c), slowF fl ke sw P Q, bendF be Q, ?_, ?_, ?_, ?_, ?_, ?_⟩
  · unfold iceSlow; rw [if_pos ⟨by rw [hP]; exact i1, h2, h3⟩, hP, e1, e3]
  · unfold iceSlow; rw [if_pos ⟨by rw [hP, hQ]; exact i2, h2, h3⟩, hP, hQ, e1, e2]
  · unfold iceBend; rw [if_pos ⟨by rw [hP, hQ]; exact i2, h2, h3⟩, hQ, e2]
  · exact slow_pebble G p.1 bP.1 bP.2 q.1 q.2
  · exact slow_polish G (by omega) bP.2 q.1 bQ.1 bQ.2
  · exact bend_polish G q.1 bQ.1 bQ.2
def KeenOk (cx cy sd wd ht : Int) (pb pl : List Int) (fl ke sw be we x y m0 m1 : Int) (S B T : Int × Int) : Prop :=
  (S = (0, 2) ∧ B = (0, 2)) ∨ (S = (fl, 0) ∧ (∃ b, B = (b, 0) ∧ 0 ≤ b) ∧ 0 ≤ fl ∧ T = (0, 7)) ∨ ∃ a b c, S = (a, 0) ∧ B = (b, 0) ∧ T = (c, 0) ∧ a ≤ fl ∧ 0 ≤ a ∧ 0 ≤ b ∧ KeenMore cx cy sd wd ht pb pl fl ke sw be we x y a b c m0 m1
theorem keen_ok (cx cy sd wd ht : Int) (pb pl : List Int) (fl ke sw be we x y : Int) {m0 m1 : Int} (hm0 : 0 ≤ m0) (hm1 : 0 ≤ m1) : KeenOk cx cy sd wd ht pb pl fl ke sw be we x y m0 m1 (iceSlow cx cy sd wd ht pb pl fl ke sw be we x y) (iceBend cx cy sd wd ht pb pl fl ke sw be we x y) (iceAt cx cy sd wd ht pb pl x y) := by
  unfold iceSlow iceBend iceAt
  by_cases h : iceB cx cy sd wd ht pb pl = true ∧ grainB fl ke sw be we = true ∧ plB x y = true
  · rw [if_pos h, if_pos h, if_pos ⟨h.1, h.2.2⟩]
    have G := grainB_iff.1 h.2.1
    have HI := iceB_iff.1 h.1
    have p := grV_bd (cx := cx) (cy := cy) (sd := sd) (wd := wd) (ht := ht) (x := x) (y := y) HI.g1
    have q := grV_bd (cx := cx) (cy := cy) (sd := sd) (wd := wd) (ht := ht) (x := x) (y := y) HI.g2
    have s := slowF_bd G p.1 p.2 q.1 q.2
    have b := bend_bd G q.1 q.2
    by_cases a : atOk cx cy sd wd ht x y = true
    · rw [if_pos a]
      exact .inr (.inr ⟨_, _, _, rfl, rfl, rfl, s.2, s.1, b.1, keen_more h.1 h.2.1 h.2.2 a hm0 hm1⟩)
    · rw [if_neg a]
      have e1 : grV pb cx cy sd wd ht x y = 0 := by unfold grV; rw [if_neg a]
      have e2 : grV pl cx cy sd wd ht x y = 0 := by unfold grV; rw [if_neg a]
      rw [e1, e2, slow_bare G]
      rw [e2] at b
      exact .inr (.inl ⟨rfl, ⟨_, rfl, b.1⟩, by have := G.k0; have := G.k1; omega, rfl⟩)
  · rw [if_neg h, if_neg h]
    exact .inl ⟨rfl, rfl⟩
end Go.Proofs.Ytibaapaglocpjaa.B

end
