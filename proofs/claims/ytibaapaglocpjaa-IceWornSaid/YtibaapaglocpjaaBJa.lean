import Derived.BigRegion
import Derived.Test.YtibaapaglocpjaaBI2
/- Proved here: lemmas for the laws' proofs (the texts Ja). No condition. -/
section
set_option linter.unusedSimpArgs false
set_option linter.unusedVariables false
namespace Go.Proofs.Ytibaapaglocpjaa.B
open Go.RowKit Go.Shelf Go.Proofs.YtibaapaglocpjaaW.PrintWords
set_option maxRecDepth 100000 in
theorem band_any (corner side many a b : Int) (w : World) (hc : -6553600000 ≤ corner ∧ corner ≤ 6553600000) (hs : 1 ≤ side ∧ side ≤ 6553600000) (hm : 1 ≤ many ∧ many ≤ 256)
    (ha : -6553600000 ≤ a ∧ a ≤ 6553600000) (hb : -6553600000 ≤ b ∧ b ≤ 6553600000) :
    Calls Try.prog 58 #[.int .i64 corner, .int .i64 side, .int .i64 many, .int .i64 a, .int .i64 b] w fun e w' => e = .returned (.tuple #[.int .i64 (bandLo corner side many a b), .int .i64 (bandHi corner side many a b)]) ∧ Below w.heap.size w w' := by
  have hms : 0 ≤ many * side ∧ many * side ≤ 256 * 6553600000 := mul_bd (by omega) (by omega) (by omega) (by omega)
  have hp1 : wrap64 (many * side) = many * side := by unfold wrap64; omega
  obtain ⟨ms, hmsv⟩ : ∃ m, m = many * side := ⟨_, rfl⟩
  have hL : -6553600000 ≤ minI a b ∧ minI a b ≤ 6553600000 := by unfold minI; split <;> omega
  have hH : -6553600000 ≤ maxI a b ∧ maxI a b ≤ 6553600000 := by unfold maxI; split <;> omega
  have HF1 : Kp (bandLo corner side many a b = if (decide (maxI a b - corner < 0) || decide (ms < minI a b - corner)) = true then 0 else maxI 0 ((minI a b - corner).tdiv side - 1)) := ⟨by rw [hmsv]; rfl⟩
  have HF2 : Kp (bandHi corner side many a b = if (decide (maxI a b - corner < 0) || decide (ms < minI a b - corner)) = true then -1 else minI (many - 1) ((maxI a b - corner).tdiv side)) := ⟨by rw [hmsv]; rfl⟩
  rw [← hmsv] at hp1
  rw [← hmsv] at hms
  have hp2 : wrap64 (many * side) = ms := by rw [← hmsv]; exact hp1
  clear hp1
  have hmn : (if b < a then b else a) = minI a b := rfl
  have hmx : (if a < b then b else a) = maxI a b := rfl
  generalize bandLo corner side many a b = RL at *
  generalize bandHi corner side many a b = RH at *
  generalize minI a b = L at *
  generalize maxI a b = H at *
  have hw1 : wrap64 (L - corner) = L - corner := by unfold wrap64; omega
  have hw2 : wrap64 (H - corner) = H - corner := by unfold wrap64; omega
  have hd1 : -13107200000 ≤ L - corner ∧ L - corner ≤ 13107200000 := by omega
  have hd2 : -13107200000 ≤ H - corner ∧ H - corner ≤ 13107200000 := by omega
  obtain ⟨D1, hD1⟩ : ∃ d, d = L - corner := ⟨_, rfl⟩
  obtain ⟨D2, hD2⟩ : ∃ d, d = H - corner := ⟨_, rfl⟩
  rw [← hD1] at HF1 hd1
  rw [← hD2] at HF1 HF2 hd2
  rw [← hD1] at HF2
  replace hw1 : wrap64 (L - corner) = D1 := hw1.trans hD1.symm
  replace hw2 : wrap64 (H - corner) = D2 := hw2.trans hD2.symm
  clear hD1 hD2
  have t1 := tdiv_bd (s := side) hs.1 (a := D1) (m := 13107200000) hd1.1 hd1.2
  have t2 := tdiv_bd (s := side) hs.1 (a := D2) (m := 13107200000) hd2.1 hd2.2
  have v1 : wrap64 (D1.tdiv side) = D1.tdiv side := by unfold wrap64; omega
  have v2 : wrap64 (D2.tdiv side) = D2.tdiv side := by unfold wrap64; omega
  have hsd : ¬ side = 0 := by omega
  have HS := Kp.mk hs
  have m1 : wrap64 (many - 1) = many - 1 := by unfold wrap64; omega
  have v3 : wrap64 (D1.tdiv side - 1) = D1.tdiv side - 1 := by unfold wrap64; omega
  have hL0 : Kp (D2 < 0 ∨ (0 ≤ D2 ∧ ms < D1) ∨ (0 ≤ D2 ∧ D1 ≤ ms)) := ⟨by omega⟩
  clear hmsv hms hL hH ha hb hd1 hd2 hs
  rcases hL0.out with c | ⟨c, d⟩ | ⟨c, d⟩
  · have c1 : decide (D2 < 0) = true := decide_eq_true c
    have HR1 : Kp (RL = 0) := ⟨by rw [HF1.out, c1]; rfl⟩
    have HR2 : Kp (RH = -1) := ⟨by rw [HF2.out, c1]; rfl⟩
    clear HF1 HF2 hL0
    go_enter Try.func58, Try.ntmps58
    go_wp2
    go_ret2
    exact ⟨by rw [HR1.out, HR2.out]; rfl, (by repeat (first | exact Below.refl _ _ | (with_reducible assumption) | apply bl_drew | apply bl_drewN | apply bl_alloc | (refine bl_set ?_ (by go_simp))))⟩
  · have c1 : decide (D2 < 0) = false := decide_eq_false (by omega)
    have c2 : decide (ms < D1) = true := decide_eq_true d
    have HR1 : Kp (RL = 0) := ⟨by rw [HF1.out, c1, c2]; rfl⟩
    have HR2 : Kp (RH = -1) := ⟨by rw [HF2.out, c1, c2]; rfl⟩
    clear HF1 HF2 hL0
    go_enter Try.func58, Try.ntmps58
    go_wp2
    go_ret2
    exact ⟨by rw [HR1.out, HR2.out]; rfl, (by repeat (first | exact Below.refl _ _ | (with_reducible assumption) | apply bl_drew | apply bl_drewN | apply bl_alloc | (refine bl_set ?_ (by go_simp))))⟩
  · have c1 : decide (D2 < 0) = false := decide_eq_false (by omega)
    have c2 : decide (ms < D1) = false := decide_eq_false (by omega)
    have HR1 : Kp (RL = maxI 0 (D1.tdiv side - 1)) := ⟨by rw [HF1.out, c1, c2]; rfl⟩
    have HR2 : Kp (RH = minI (many - 1) (D2.tdiv side)) := ⟨by rw [HF2.out, c1, c2]; rfl⟩
    obtain ⟨E1, hE1⟩ : ∃ e, e = D1.tdiv side - 1 := ⟨_, rfl⟩
    obtain ⟨Q2, hQ2⟩ : ∃ e, e = D2.tdiv side := ⟨_, rfl⟩
    rw [← hE1] at v3 HR1
    rw [← hQ2] at v2 HR2
    have v3' : wrap64 (D1.tdiv side - 1) = E1 := by rw [← hE1]; exact v3
    have v2' : wrap64 (D2.tdiv side) = Q2 := by rw [← hQ2]; exact v2
    have k1 : (if 0 < E1 then E1 else 0) = RL := HR1.out.symm
    have k2 : (if Q2 < many - 1 then Q2 else many - 1) = RH := HR2.out.symm
    clear hE1 hQ2 v3 v2 HF1 HF2 hL0 HR1 HR2 t1 t2
    go_enter Try.func58, Try.ntmps58
    go_wp2
    go_region
    all_goals
      go_wp2
      go_ret2
      exact ⟨rfl, (by repeat (first | exact Below.refl _ _ | (with_reducible assumption) | apply bl_drew | apply bl_drewN | apply bl_alloc | (refine bl_set ?_ (by go_simp))))⟩
end Go.Proofs.Ytibaapaglocpjaa.B

end
