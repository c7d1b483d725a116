import Derived.Deep.LoopGhost
import Derived.LoopIn
import Derived.LoopNIn
import Derived.Maps.AppendAt
import Derived.OwnWalkIn
import Derived.RangeFuncBound
import Derived.RangeFuncBox
import Derived.RangeFuncCalls
import Derived.RangeFuncLeaves
import Derived.RangeFuncNested
import Derived.RangeFuncOne
import Derived.Shelf.Abstract
import Derived.Shelf.RegionOpen
import Derived.TacticsInMore
import Derived.Test.YtibaapaglocpjaaGreatIW10
import Derived.Test.YtibaapaglocpjaaGreatIW13
import Derived.Test.YtibaapaglocpjaaGreatIW14
import Derived.Test.YtibaapaglocpjaaGreatIW16
/- Proved here: a part of the law IceWeights (the texts Jc Jd Je Jf). No condition. -/
section
set_option linter.unusedSimpArgs false
set_option linter.unusedVariables false
namespace Go.Proofs.YtibaapaglocpjaaGreat.B
open Go.RowKit Go.Shelf Go.Proofs.YtibaapaglocpjaaGreatW.PrintWords
theorem Turn_any (ax ay bx by' : Int) (ha : okFix ax) (hb : okFix ay) (hc : okFix bx) (hd : okFix by') (w : World) :
    Calls Tryz.prog 241 #[.agg #[.int .i64 ax, .int .i64 ay], .agg #[.int .i64 bx, .int .i64 by']] w fun e w' => e = .returned (.tuple #[.int .i64 (turnF ax ay bx by'), .int .i64 0]) ∧ Below w.heap.size w w' := by
  have HM := fun b1 b2 W h0 h1 h2 h3 => Kp.mk (turn_do ax ay bx by' b1 b2 W ha hb hc hd h0 h1 h2 h3)
  simp only [turn_eq] at HM
  have hmk := hmf
  have EG := Kp.mk (enters_of Tryz.func278 (by kernel_rfl) rfl)
  clear ha hb hc hd
  generalize turnF ax ay bx by' = R at *
  go_enter Tryz.func241, Tryz.ntmps241
  go_wp2_with (go_at_call 277; (with_reducible refine (tried_int _ _ R _ EG.out ?hdo).mono ?_); (case hdo => exact fun W hW => (HM _ _ W (bl_cell hW (by go_simp)) (bl_cell hW (by go_simp)) (bl_cell hW (by go_simp)) (bl_cell hW (by go_simp))).out); rintro e w2 ⟨rfl, hb2'⟩; have hb2 := Kp.mk hb2'; clear hb2')
  go_ret2
  exact ⟨rfl, bl_then (by repeat (first | exact Below.refl _ _ | (with_reducible assumption) | apply bl_drew | apply bl_drewN | apply bl_alloc | (refine bl_set ?_ (by go_simp)))) hb2.out⟩
end Go.Proofs.YtibaapaglocpjaaGreat.B

end
section
set_option linter.unusedSimpArgs false
set_option linter.unusedVariables false
namespace Go.Proofs.YtibaapaglocpjaaGreat.B
open Go.RowKit Go.Shelf Go.Proofs.YtibaapaglocpjaaGreatW.PrintWords
def tsAt (t0 t1 t2 t3 : Int) (k : Nat) : Int := if k = 0 then t0 else if k = 1 then t1 else if k = 2 then t2 else t3
def cntK (f : Nat → Int) (v : Int) : Nat → Int
  | 0 => 0
  | k + 1 => cntK f v k + if f k = v then 1 else 0
theorem cntK_four (t0 t1 t2 t3 v : Int) : cntK (tsAt t0 t1 t2 t3) v 4 = cnt v t0 t1 t2 t3 := by
  unfold cnt
  simp only [cntK, tsAt]
  simp
theorem cntK_bd (f : Nat → Int) (v : Int) : ∀ k : Nat, 0 ≤ cntK f v k ∧ cntK f v k ≤ k
  | 0 => ⟨Int.le_refl _, Int.le_refl _⟩
  | k + 1 => by
    have := cntK_bd f v k
    simp only [cntK]
    split <;> omega
structure TS (w : World) (F V D : Nat) (fx fy vx vy c0 c1 c2 : Int) (W : World) : Prop where
  bel : Below w.heap.size w W
  hD : w.heap.size ≤ D
  hF : D ≠ F
  hV : D ≠ V
  f0 : W.cell? ⟨F, 0, none⟩ = some (.int .i64 fx)
  f1 : W.cell? ⟨F, 1, none⟩ = some (.int .i64 fy)
  v0 : W.cell? ⟨V, 0, none⟩ = some (.int .i64 vx)
  v1 : W.cell? ⟨V, 1, none⟩ = some (.int .i64 vy)
  s0 : W.cell? ⟨D, 0, none⟩ = some (.int .i64 c0)
  s1 : W.cell? ⟨D, 1, none⟩ = some (.int .i64 c1)
  s2 : W.cell? ⟨D, 2, none⟩ = some (.int .i64 c2)
  z0 : W.frozen? ⟨D, 0, none⟩ = false
  z1 : W.frozen? ⟨D, 1, none⟩ = false
  z2 : W.frozen? ⟨D, 2, none⟩ = false
section
variable {w : World} {F V D : Nat} {fx fy vx vy c0 c1 c2 : Int} {W W' : World}
theorem TS.below (h : TS w F V D fx fy vx vy c0 c1 c2 W) (hb : Below W.heap.size W W') : TS w F V D fx fy vx vy c0 c1 c2 W' := by
  obtain ⟨bel, hD, hF, hV, f0, f1, v0, v1, s0, s1, s2, z0, z1, z2⟩ := h
  exact ⟨bl_then bel hb, hD, hF, hV, bl_cell hb f0, bl_cell hb f1, bl_cell hb v0, bl_cell hb v1, bl_cell hb s0, bl_cell hb s1, bl_cell hb s2, bl_frozen hb (World.block_lt_of_cell? W _ s0) z0, bl_frozen hb (World.block_lt_of_cell? W _ s1) z1, bl_frozen hb (World.block_lt_of_cell? W _ s2) z2⟩
theorem TS.far (h : TS w F V D fx fy vx vy c0 c1 c2 W) (j : Nat) (v : Value) :
    Below w.heap.size w (W.setCell ⟨D, j, none⟩ v) ∧ (W.setCell ⟨D, j, none⟩ v).cell? ⟨F, 0, none⟩ = some (.int .i64 fx) ∧ (W.setCell ⟨D, j, none⟩ v).cell? ⟨F, 1, none⟩ = some (.int .i64 fy) ∧ (W.setCell ⟨D, j, none⟩ v).cell? ⟨V, 0, none⟩ = some (.int .i64 vx) ∧ (W.setCell ⟨D, j, none⟩ v).cell? ⟨V, 1, none⟩ = some (.int .i64 vy) := by
  have far : ∀ (b i : Nat) (u : Value), D ≠ b → W.cell? ⟨b, i, none⟩ = some u → (W.setCell ⟨D, j, none⟩ v).cell? ⟨b, i, none⟩ = some u := fun b i u hb hc => by
    rw [World.cell?_setCell_other _ _ _ _ (by intro e; cases e; exact hb rfl)]; exact hc
  exact ⟨bl_set h.bel h.hD, far _ _ _ h.hF h.f0, far _ _ _ h.hF h.f1, far _ _ _ h.hV h.v0, far _ _ _ h.hV h.v1⟩
theorem TS.put0 (h : TS w F V D fx fy vx vy c0 c1 c2 W) (v : Int) : TS w F V D fx fy vx vy v c1 c2 (W.setCell ⟨D, 0, none⟩ (.int .i64 v)) := by
  obtain ⟨a, b, c, d, e⟩ := h.far 0 (.int .i64 v)
  exact ⟨a, h.hD, h.hF, h.hV, b, c, d, e, World.cell?_setCell_same' _ _ _ (by rw [h.s0]; rfl), by rw [World.cell?_setCell_other _ _ _ _ (by intro e; cases e)]; exact h.s1, by rw [World.cell?_setCell_other _ _ _ _ (by intro e; cases e)]; exact h.s2, by rw [World.frozen?_setCell]; exact h.z0, by rw [World.frozen?_setCell]; exact h.z1, by rw [World.frozen?_setCell]; exact h.z2⟩
theorem TS.put1 (h : TS w F V D fx fy vx vy c0 c1 c2 W) (v : Int) : TS w F V D fx fy vx vy c0 v c2 (W.setCell ⟨D, 1, none⟩ (.int .i64 v)) := by
  obtain ⟨a, b, c, d, e⟩ := h.far 1 (.int .i64 v)
  exact ⟨a, h.hD, h.hF, h.hV, b, c, d, e, by rw [World.cell?_setCell_other _ _ _ _ (by intro e; cases e)]; exact h.s0, World.cell?_setCell_same' _ _ _ (by rw [h.s1]; rfl), by rw [World.cell?_setCell_other _ _ _ _ (by intro e; cases e)]; exact h.s2, by rw [World.frozen?_setCell]; exact h.z0, by rw [World.frozen?_setCell]; exact h.z1, by rw [World.frozen?_setCell]; exact h.z2⟩
theorem TS.put2 (h : TS w F V D fx fy vx vy c0 c1 c2 W) (v : Int) : TS w F V D fx fy vx vy c0 c1 v (W.setCell ⟨D, 2, none⟩ (.int .i64 v)) := by
  obtain ⟨a, b, c, d, e⟩ := h.far 2 (.int .i64 v)
  exact ⟨a, h.hD, h.hF, h.hV, b, c, d, e, by rw [World.cell?_setCell_other _ _ _ _ (by intro e; cases e)]; exact h.s0, by rw [World.cell?_setCell_other _ _ _ _ (by intro e; cases e)]; exact h.s1, World.cell?_setCell_same' _ _ _ (by rw [h.s2]; rfl), by rw [World.frozen?_setCell]; exact h.z0, by rw [World.frozen?_setCell]; exact h.z1, by rw [World.frozen?_setCell]; exact h.z2⟩
end
theorem touchC_in {fx fy tx ty lx ly hx hy : Int} (h : outB fx fy tx ty lx ly hx hy = false) {t0 t1 t2 t3 : Int} (e0 : turnAt fx fy tx ty lx ly = t0) (e1 : turnAt fx fy tx ty hx ly = t1) (e2 : turnAt fx fy tx ty lx hy = t2) (e3 : turnAt fx fy tx ty hx hy = t3) :
    touchC fx fy tx ty lx ly hx hy = (decide (cntK (tsAt t0 t1 t2 t3) (-1) 4 < 4) && decide (cntK (tsAt t0 t1 t2 t3) 1 4 < 4)) := by
  rw [cntK_four, cntK_four]
  unfold touchC
  rw [h, e0, e1, e2, e3]
  rfl
theorem touchC_out {fx fy tx ty lx ly hx hy : Int} (h : outB fx fy tx ty lx ly hx hy = true) : touchC fx fy tx ty lx ly hx hy = false := by
  unfold touchC; rw [h]; rfl
set_option maxHeartbeats 8000000 in
set_option maxRecDepth 100000 in
theorem touches_any (cx cy sd wd ht : Int) (A : Option Addr) (c : Nat) (pb : List Int) (B : Option Addr) (d : Nat) (pl : List Int) (fx fy tx ty k : Int) (w : World) (hcx : -6553600000 ≤ cx ∧ cx ≤ 6553600000) (hcy : -6553600000 ≤ cy ∧ cy ≤ 6553600000) (hs : 1 ≤ sd ∧ sd ≤ 6553600000) (hw : 1 ≤ wd ∧ wd ≤ 256) (hk0 : 0 ≤ k ∧ k < 256 * wd)
    (hfx : -6553600000 ≤ fx ∧ fx ≤ 6553600000) (hfy : -6553600000 ≤ fy ∧ fy ≤ 6553600000) (htx : -6553600000 ≤ tx ∧ tx ≤ 6553600000) (hty : -6553600000 ≤ ty ∧ ty ≤ 6553600000) :
    Calls Tryz.prog 188 #[.agg #[.int .i64 cx, .int .i64 cy, .int .i64 sd, .int .i64 wd, .int .i64 ht, .slice A pb.length c, .slice B pl.length d], .agg #[.int .i64 fx, .int .i64 fy], .agg #[.int .i64 tx, .int .i64 ty], .int .i64 k] w fun e w' => e = .returned (.bool (touchB cx cy sd wd fx fy tx ty k)) ∧ Below w.heap.size w w' := by
  have hk : 0 ≤ k ∧ k < 65536 := by omega
  have q1 : 0 ≤ k % wd ∧ k % wd < wd := ⟨Int.emod_nonneg _ (by omega), Int.emod_lt_of_pos _ (by omega)⟩
  have q2 : 0 ≤ k / wd ∧ k / wd < 256 := ⟨Int.ediv_nonneg hk.1 (by omega), Int.ediv_lt_of_lt_mul (by omega) hk0.2⟩
  have p1 : 0 ≤ k % wd * sd ∧ k % wd * sd ≤ 256 * 6553600000 := mul_bd (by omega) (by omega) (by omega) (by omega)
  have p2 : 0 ≤ k / wd * sd ∧ k / wd * sd ≤ 256 * 6553600000 := mul_bd (by omega) (by omega) (by omega) (by omega)
  have HC := fun W => Kp.mk (corners_any cx cy sd wd ht A c pb B d pl k W hcx hcy hs hw hk)
  have HF : Kp (touchB cx cy sd wd fx fy tx ty k = touchC fx fy tx ty (cx + k % wd * sd) (cy + k / wd * sd) (cx + k % wd * sd + sd) (cy + k / wd * sd + sd)) := ⟨rfl⟩
  generalize touchB cx cy sd wd fx fy tx ty k = R at *
  obtain ⟨lx, hlx⟩ : ∃ e, e = cx + k % wd * sd := ⟨_, rfl⟩
  obtain ⟨ly, hly⟩ : ∃ e, e = cy + k / wd * sd := ⟨_, rfl⟩
  rw [← hlx, ← hly] at HF
  simp only [← hlx, ← hly] at HC
  obtain ⟨hx, hhx⟩ : ∃ e, e = lx + sd := ⟨_, rfl⟩
  obtain ⟨hy, hhy⟩ : ∃ e, e = ly + sd := ⟨_, rfl⟩
  rw [← hhx, ← hhy] at HF
  simp only [← hhx, ← hhy] at HC
  have HB : Kp ((-6553600000 ≤ lx ∧ hx ≤ 1700000000000 ∧ lx ≤ hx) ∧ (-6553600000 ≤ ly ∧ hy ≤ 1700000000000 ∧ ly ≤ hy)) := ⟨by omega⟩
  have HT : Kp ((-6553600000 ≤ fx ∧ fx ≤ 6553600000) ∧ (-6553600000 ≤ fy ∧ fy ≤ 6553600000) ∧ (-6553600000 ≤ tx ∧ tx ≤ 6553600000) ∧ (-6553600000 ≤ ty ∧ ty ≤ 6553600000)) := ⟨⟨hfx, hfy, htx, hty⟩⟩
  clear hlx hly hhx hhy p1 p2 q1 q2 hk hk0 hfx hfy htx hty hcx hcy hs hw
  have hm1 : (if fx < tx then tx else fx) = maxI fx tx := rfl
  have hm2 : (if tx < fx then tx else fx) = minI fx tx := rfl
  have hm3 : (if fy < ty then ty else fy) = maxI fy ty := rfl
  have hm4 : (if ty < fy then ty else fy) = minI fy ty := rfl
  have HO : Kp (outB fx fy tx ty lx ly hx hy = (decide (maxI fx tx < lx) || decide (hx < minI fx tx) || decide (maxI fy ty < ly) || decide (hy < minI fy ty))) := ⟨rfl⟩
  generalize maxI fx tx = m1 at *
  generalize minI fx tx = m2 at *
  generalize maxI fy ty = m3 at *
  generalize minI fy ty = m4 at *
  have HL : Kp ((decide (m1 < lx) = true ∧ R = false) ∨ (decide (m1 < lx) = false ∧ decide (hx < m2) = true ∧ R = false) ∨ (decide (m1 < lx) = false ∧ decide (hx < m2) = false ∧ decide (m3 < ly) = true ∧ R = false) ∨ (decide (m1 < lx) = false ∧ decide (hx < m2) = false ∧ decide (m3 < ly) = false ∧ decide (hy < m4) = true ∧ R = false) ∨ (decide (m1 < lx) = false ∧ decide (hx < m2) = false ∧ decide (m3 < ly) = false ∧ decide (hy < m4) = false ∧ outB fx fy tx ty lx ly hx hy = false)) := ⟨by
    have h1 := HO.out
    have h2 := HF.out
    cases a : decide (m1 < lx) with
    | true => rw [a] at h1; simp only [Bool.true_or] at h1; rw [touchC_out h1] at h2; exact .inl ⟨rfl, h2⟩
    | false =>
      cases b : decide (hx < m2) with
      | true => rw [a, b] at h1; simp only [Bool.true_or, Bool.or_true] at h1; rw [touchC_out h1] at h2; exact .inr (.inl ⟨rfl, rfl, h2⟩)
      | false =>
        cases c : decide (m3 < ly) with
        | true => rw [a, b, c] at h1; simp only [Bool.true_or, Bool.or_true] at h1; rw [touchC_out h1] at h2; exact .inr (.inr (.inl ⟨rfl, rfl, rfl, h2⟩))
        | false =>
          cases d : decide (hy < m4) with
          | true => rw [a, b, c, d] at h1; simp only [Bool.true_or, Bool.or_true] at h1; rw [touchC_out h1] at h2; exact .inr (.inr (.inr (.inl ⟨rfl, rfl, rfl, rfl, h2⟩)))
          | false => rw [a, b, c, d] at h1; exact .inr (.inr (.inr (.inr ⟨rfl, rfl, rfl, rfl, h1⟩)))⟩
  clear HO
  rcases HL.out with ⟨b1, rfl⟩ | ⟨b1, b2, rfl⟩ | ⟨b1, b2, b3, rfl⟩ | ⟨b1, b2, b3, b4, rfl⟩ | ⟨b1, b2, b3, b4, hout⟩
  rotate_left 4
  · clear HL
    have HOut := Kp.mk hout
    clear hout
    have HM0 := fun W => Kp.mk (Minus_any tx ty fx fy ⟨by have := HT.out; omega, by have := HT.out; omega⟩ ⟨by have := HT.out; omega, by have := HT.out; omega⟩ ⟨by have := HT.out; omega, by have := HT.out; omega⟩ ⟨by have := HT.out; omega, by have := HT.out; omega⟩ ⟨by have := HT.out; omega, by have := HT.out; omega⟩ ⟨by have := HT.out; omega, by have := HT.out; omega⟩ W)
    have HMS : Kp (∀ sx sy : Int, -6553600000 ≤ sx → sx ≤ 1700000000000 → -6553600000 ≤ sy → sy ≤ 1700000000000 → (∀ W, Calls Tryz.prog 210 #[.agg #[.int .i64 sx, .int .i64 sy], .agg #[.int .i64 fx, .int .i64 fy]] W fun e w' => e = .returned (.tuple #[.agg #[.int .i64 (sx - fx), .int .i64 (sy - fy)], .int .i64 0]) ∧ Below W.heap.size W w') ∧
        (∀ W, Calls Tryz.prog 241 #[.agg #[.int .i64 (tx - fx), .int .i64 (ty - fy)], .agg #[.int .i64 (sx - fx), .int .i64 (sy - fy)]] W fun e w' => e = .returned (.tuple #[.int .i64 (turnAt fx fy tx ty sx sy), .int .i64 0]) ∧ Below W.heap.size W w')) := ⟨fun sx sy a b c d => by
      have ht := HT.out
      exact ⟨fun W => Minus_any sx sy fx fy ⟨by omega, by omega⟩ ⟨by omega, by omega⟩ ⟨by omega, by omega⟩ ⟨by omega, by omega⟩ ⟨by omega, by omega⟩ ⟨by omega, by omega⟩ W, fun W => Turn_any (tx - fx) (ty - fy) (sx - fx) (sy - fy) ⟨by omega, by omega⟩ ⟨by omega, by omega⟩ ⟨by omega, by omega⟩ ⟨by omega, by omega⟩ W⟩⟩
    obtain ⟨HM1, HU1⟩ := HMS.out lx ly (by have := HB.out; omega) (by have := HB.out; omega) (by have := HB.out; omega) (by have := HB.out; omega)
    obtain ⟨HM2, HU2⟩ := HMS.out hx ly (by have := HB.out; omega) (by have := HB.out; omega) (by have := HB.out; omega) (by have := HB.out; omega)
    obtain ⟨HM3, HU3⟩ := HMS.out lx hy (by have := HB.out; omega) (by have := HB.out; omega) (by have := HB.out; omega) (by have := HB.out; omega)
    obtain ⟨HM4, HU4⟩ := HMS.out hx hy (by have := HB.out; omega) (by have := HB.out; omega) (by have := HB.out; omega) (by have := HB.out; omega)
    have E0 := turnF_three (tx - fx) (ty - fy) (lx - fx) (ly - fy)
    have E1 := turnF_three (tx - fx) (ty - fy) (hx - fx) (ly - fy)
    have E2 := turnF_three (tx - fx) (ty - fy) (lx - fx) (hy - fy)
    have E3 := turnF_three (tx - fx) (ty - fy) (hx - fx) (hy - fy)
    have E0 : turnAt fx fy tx ty lx ly = -1 ∨ turnAt fx fy tx ty lx ly = 0 ∨ turnAt fx fy tx ty lx ly = 1 := E0
    have E1 : turnAt fx fy tx ty hx ly = -1 ∨ turnAt fx fy tx ty hx ly = 0 ∨ turnAt fx fy tx ty hx ly = 1 := E1
    have E2 : turnAt fx fy tx ty lx hy = -1 ∨ turnAt fx fy tx ty lx hy = 0 ∨ turnAt fx fy tx ty lx hy = 1 := E2
    have E3 : turnAt fx fy tx ty hx hy = -1 ∨ turnAt fx fy tx ty hx hy = 0 ∨ turnAt fx fy tx ty hx hy = 1 := E3
    have HR : Kp (R = (decide (cntK (tsAt (turnAt fx fy tx ty lx ly) (turnAt fx fy tx ty hx ly) (turnAt fx fy tx ty lx hy) (turnAt fx fy tx ty hx hy)) (-1) 4 < 4) && decide (cntK (tsAt (turnAt fx fy tx ty lx ly) (turnAt fx fy tx ty hx ly) (turnAt fx fy tx ty lx hy) (turnAt fx fy tx ty hx hy)) 1 4 < 4))) := ⟨HF.out.trans (touchC_in HOut.out rfl rfl rfl rfl)⟩
    clear HMS HF HOut HB HT
    generalize turnAt fx fy tx ty lx ly = t0 at *
    generalize turnAt fx fy tx ty hx ly = t1 at *
    generalize turnAt fx fy tx ty lx hy = t2 at *
    generalize turnAt fx fy tx ty hx hy = t3 at *
    have HS : Kp (∀ j : Nat, j < 4 → ∃ sx sy, (∀ W, (Instr.index 294 (.agg #[.int .i64 lx, .int .i64 ly, .int .i64 hx, .int .i64 ly, .int .i64 lx, .int .i64 hy, .int .i64 hx, .int .i64 hy]) (.int .i64 (j : Int))).run Tryz.prog W = .ok (.agg #[.int .i64 sx, .int .i64 sy]) W) ∧ (∀ W, Calls Tryz.prog 210 #[.agg #[.int .i64 sx, .int .i64 sy], .agg #[.int .i64 fx, .int .i64 fy]] W fun e w' => e = .returned (.tuple #[.agg #[.int .i64 (sx - fx), .int .i64 (sy - fy)], .int .i64 0]) ∧ Below W.heap.size W w') ∧
        (∀ W, Calls Tryz.prog 241 #[.agg #[.int .i64 (tx - fx), .int .i64 (ty - fy)], .agg #[.int .i64 (sx - fx), .int .i64 (sy - fy)]] W fun e w' => e = .returned (.tuple #[.int .i64 (tsAt t0 t1 t2 t3 j), .int .i64 0]) ∧ Below W.heap.size W w') ∧ (tsAt t0 t1 t2 t3 j = -1 ∨ tsAt t0 t1 t2 t3 j = 0 ∨ tsAt t0 t1 t2 t3 j = 1)) := ⟨fun j hj => by
      match j, hj with
      | 0, _ => exact ⟨lx, ly, fun W => by kernel_rfl, HM1, HU1, E0⟩
      | 1, _ => exact ⟨hx, ly, fun W => by kernel_rfl, HM2, HU2, E1⟩
      | 2, _ => exact ⟨lx, hy, fun W => by kernel_rfl, HM3, HU3, E2⟩
      | 3, _ => exact ⟨hx, hy, fun W => by kernel_rfl, HM4, HU4, E3⟩⟩
    clear HM1 HM2 HM3 HM4 HU1 HU2 HU3 HU4 E0 E1 E2 E3
    generalize tsAt t0 t1 t2 t3 = ts at *
    go_enter Tryz.func188, Tryz.ntmps188
    go_wp2_with (first | (go_at_call 229; (with_reducible refine (HC _).out.mono ?_); rintro e w1 ⟨rfl, hb'⟩; have x0 := fun o => bl_cell (bl_alloc (Below.refl _ w1) o) (bl_cell hb' (p := ⟨w.heap.size + 1, 0, none⟩) (v := .int .i64 fx) (by first | (go_simp; done) | exact bl_cell (by repeat (with_reducible first | apply bl_alloc | apply bl_drew | exact Below.refl _ _)) (by assumption))); have x1 := fun o => bl_cell (bl_alloc (Below.refl _ w1) o) (bl_cell hb' (p := ⟨w.heap.size + 1, 1, none⟩) (v := .int .i64 fy) (by first | (go_simp; done) | exact bl_cell (by repeat (with_reducible first | apply bl_alloc | apply bl_drew | exact Below.refl _ _)) (by assumption))); have x2 := fun o => bl_cell (bl_alloc (Below.refl _ w1) o) (bl_cell hb' (p := ⟨w.heap.size + 1 + 1, 0, none⟩) (v := .int .i64 tx) (by first | (go_simp; done) | exact bl_cell (by repeat (with_reducible first | apply bl_alloc | apply bl_drew | exact Below.refl _ _)) (by assumption))); have x3 := fun o => bl_cell (bl_alloc (Below.refl _ w1) o) (bl_cell hb' (p := ⟨w.heap.size + 1 + 1, 1, none⟩) (v := .int .i64 ty) (by first | (go_simp; done) | exact bl_cell (by repeat (with_reducible first | apply bl_alloc | apply bl_drew | exact Below.refl _ _)) (by assumption))); have hz2 : w.heap.size + 1 + 1 < w1.heap.size := World.block_lt_of_cell? w1 _ (bl_cell hb' (p := ⟨w.heap.size + 1 + 1, 0, none⟩) (v := .int .i64 tx) (by first | (go_simp; done) | exact bl_cell (by repeat (with_reducible first | apply bl_alloc | apply bl_drew | exact Below.refl _ _)) (by assumption))); have hb1 := Kp.mk hb'; clear hb') | (go_at_call 210; (with_reducible refine (HM0 _).out.mono ?_); rintro e w2 ⟨rfl, hb'⟩; have g0 := fun o o2 => bl_cell (bl_alloc (bl_alloc (Below.refl _ w2) o) o2) (bl_cell hb' (p := ⟨w1.heap.size, 0, none⟩) (v := .int .i64 lx) (by go_simp)); have g1 := fun o o2 => bl_cell (bl_alloc (bl_alloc (Below.refl _ w2) o) o2) (bl_cell hb' (p := ⟨w1.heap.size, 1, none⟩) (v := .int .i64 ly) (by go_simp)); have g2 := fun o o2 => bl_cell (bl_alloc (bl_alloc (Below.refl _ w2) o) o2) (bl_cell hb' (p := ⟨w1.heap.size, 2, none⟩) (v := .int .i64 hx) (by go_simp)); have g3 := fun o o2 => bl_cell (bl_alloc (bl_alloc (Below.refl _ w2) o) o2) (bl_cell hb' (p := ⟨w1.heap.size, 3, none⟩) (v := .int .i64 ly) (by go_simp)); have g4 := fun o o2 => bl_cell (bl_alloc (bl_alloc (Below.refl _ w2) o) o2) (bl_cell hb' (p := ⟨w1.heap.size, 4, none⟩) (v := .int .i64 lx) (by go_simp)); have g5 := fun o o2 => bl_cell (bl_alloc (bl_alloc (Below.refl _ w2) o) o2) (bl_cell hb' (p := ⟨w1.heap.size, 5, none⟩) (v := .int .i64 hy) (by go_simp)); have g6 := fun o o2 => bl_cell (bl_alloc (bl_alloc (Below.refl _ w2) o) o2) (bl_cell hb' (p := ⟨w1.heap.size, 6, none⟩) (v := .int .i64 hx) (by go_simp)); have g7 := fun o o2 => bl_cell (bl_alloc (bl_alloc (Below.refl _ w2) o) o2) (bl_cell hb' (p := ⟨w1.heap.size, 7, none⟩) (v := .int .i64 hy) (by go_simp)); have y0 := bl_cell hb' (p := ⟨w.heap.size + 1, 0, none⟩) (v := .int .i64 fx) (by go_simp); have y1 := bl_cell hb' (p := ⟨w.heap.size + 1, 1, none⟩) (v := .int .i64 fy) (by go_simp); have hb2 := Kp.mk hb'; clear hb'))
    have hup : Below w2.heap.size w2 ((w2.alloc (.cells #[.int .i64 (tx - fx), .int .i64 (ty - fy)] 24)).alloc (.cells #[.int .i64 0, .int .i64 0, .int .i64 0] 308)) := bl_alloc (bl_alloc (Below.refl _ _) _) _
    have HB2 : Kp (Below w.heap.size w w2) := ⟨(by repeat (with_reducible first | exact Below.refl _ _ | apply bl_drew | apply bl_drewN | (refine bl_then ?_ hb1.out) | (refine bl_then ?_ hb2.out) | (refine bl_then ?_ hb3.out) | (refine bl_then ?_ hb4.out) | (refine bl_then ?_ hb5.out) | (refine bl_then ?_ hb6.out) | (refine bl_then ?_ hb7.out) | (refine bl_then ?_ hb8.out) | (refine bl_then ?_ hb9.out) | apply bl_alloc | (refine bl_set ?_ (by go_simp))))⟩
    have hF2 : w.heap.size + 1 < w2.heap.size := World.block_lt_of_cell? w2 _ y0
    have HTS : Kp (TS w (w.heap.size + 1) w2.heap.size (w2.heap.size + 1) fx fy (tx - fx) (ty - fy) 0 0 0 ((w2.alloc (.cells #[.int .i64 (tx - fx), .int .i64 (ty - fy)] 24)).alloc (.cells #[.int .i64 0, .int .i64 0, .int .i64 0] 308))) :=
      ⟨⟨bl_then HB2.out hup, Nat.le_succ_of_le HB2.out.size, (Nat.ne_of_lt (Nat.lt_succ_of_lt hF2)).symm, Nat.succ_ne_self _, bl_cell hup y0, bl_cell hup y1, by go_simp, by go_simp, by go_simp, by go_simp, by go_simp, by go_simp, by go_simp, by go_simp⟩⟩
    clear g0 g1 g2 g3 g4 g5 g6 g7 x0 x1 x2 x3 hz2 hb1 hb2 hup HB2 hF2 y0 y1 HM0 HC E0 E1 E2 E3 hm1 hm2 hm3 hm4 b1 b2 b3 b4
    generalize (w2.alloc (.cells #[.int .i64 (tx - fx), .int .i64 (ty - fy)] 24)).alloc (.cells #[.int .i64 0, .int .i64 0, .int .i64 0] 308) = wS at *
    generalize w2.heap.size = V at *
    generalize V + 1 = D at *
    generalize w1.heap.size = U at *
    go_loopw [72] (fun i wr => ∃ k : Nat, k ≤ 4 ∧ i = .int .i64 k ∧ Kp (TS w (w.heap.size + 1) V D fx fy (tx - fx) (ty - fy) (cntK ts (-1) k) (cntK ts 0 k) (cntK ts 1 k) wr)) (fun i _ => 4 - (intOf i).toNat)
    case atStart => exact ⟨0, by omega, rfl, HTS⟩
    case round =>
      clear HTS
      obtain ⟨k, hk, rfl, HTS⟩ := hrel
      by_cases hlt : k < 4
      · obtain ⟨sx, sy, hix, hM, hU, hcase⟩ := HS.out k hlt
        have HM := fun W => Kp.mk (hM W)
        have q0 := cntK_bd ts (-1) k
        have q1 := cntK_bd ts 0 k
        have q2 := cntK_bd ts 1 k
        obtain ⟨n0, n0'⟩ := q0
        obtain ⟨n1, n1'⟩ := q1
        obtain ⟨n2, n2'⟩ := q2
        have k0 : (k : Int) ≤ 3 := by omega
        have HN : Kp ((cntK ts (-1) (k + 1) = cntK ts (-1) k + if ts k = -1 then 1 else 0) ∧ (cntK ts 0 (k + 1) = cntK ts 0 k + if ts k = 0 then 1 else 0) ∧ (cntK ts 1 (k + 1) = cntK ts 1 k + if ts k = 1 then 1 else 0)) := ⟨⟨rfl, rfl, rfl⟩⟩
        clear hM HS HR
        generalize cntK ts (-1) k = c0 at *
        generalize cntK ts 0 k = c1 at *
        generalize cntK ts 1 k = c2 at *
        generalize ts k = tk at *
        obtain ⟨bel, hD, hF, hV, f0, f1, v0, v1, s0, s1, s2, z0, z1, z2⟩ := HTS.out
        have a0 := fun o => bl_cell (bl_alloc (Below.refl _ wr) o) f0
        have a1 := fun o => bl_cell (bl_alloc (Below.refl _ wr) o) f1
        clear bel hD hF hV f0 f1 v0 v1 s0 s1 s2 z0 z1 z2
        rcases hcase with rfl | rfl | rfl
        all_goals
          have HU := fun W => Kp.mk (hU W)
          clear hU
          go_wp2_with (first | (go_at_call 210; (with_reducible refine (HM _).out.mono ?_); rintro e w3 ⟨rfl, hb'⟩; have T3 := Kp.mk (HTS.out.below (bl_then (bl_alloc (Below.refl _ wr) _) hb')); have b0 := fun o => bl_cell (bl_alloc (Below.refl _ w3) o) T3.out.v0; have b1 := fun o => bl_cell (bl_alloc (Below.refl _ w3) o) T3.out.v1; clear hb') | (go_at_call 241; (with_reducible refine (HU _).out.mono ?_); rintro e w4 ⟨rfl, hb'⟩; have T4 := Kp.mk (T3.out.below (bl_then (bl_alloc (Below.refl _ w3) _) hb')); obtain ⟨bel, hD, hF, hV, f0, f1, v0, v1, s0, s1, s2, z0, z1, z2⟩ := T4.out; clear bel hD hF hV f0 f1 v0 v1 hb'))
          go_roundw
          case measure => simp [intOf]; omega
          case rel => exact ⟨k + 1, by omega, by go_num, ⟨by rw [HN.out.1, HN.out.2.1, HN.out.2.2]; first | simpa using T4.out.put0 (c0 + 1) | simpa using T4.out.put1 (c1 + 1) | simpa using T4.out.put2 (c2 + 1)⟩⟩
      · obtain rfl : k = 4 := by omega
        obtain ⟨bel, hD, hF, hV, f0, f1, v0, v1, s0, s1, s2, z0, z1, z2⟩ := HTS.out
        have HBel := Kp.mk bel
        clear HTS HS bel hD hF hV f0 f1 v0 v1 z0 z1 z2 s1
        generalize cntK ts (-1) 4 = c0 at *
        generalize cntK ts 0 4 = c1 at *
        generalize cntK ts 1 4 = c2 at *
        have HRr := HR.out
        clear HR
        cases hA : decide (c0 < 4) <;> cases hB : decide (c2 < 4) <;> rw [hA, hB] at HRr <;> subst HRr
        all_goals
          go_wp2
          go_ret
          exact ⟨rfl, HBel.out⟩
  all_goals
    clear HL HF HB HT
    go_enter Tryz.func188, Tryz.ntmps188
    go_wp2_with (go_at_call 229; (with_reducible refine (HC _).out.mono ?_); rintro e w1 ⟨rfl, hb'⟩; have x0 := fun o => bl_cell (bl_alloc (Below.refl _ w1) o) (bl_cell hb' (p := ⟨w.heap.size + 1, 0, none⟩) (v := .int .i64 fx) (by first | (go_simp; done) | exact bl_cell (by repeat (with_reducible first | apply bl_alloc | apply bl_drew | exact Below.refl _ _)) (by assumption))); have x1 := fun o => bl_cell (bl_alloc (Below.refl _ w1) o) (bl_cell hb' (p := ⟨w.heap.size + 1, 1, none⟩) (v := .int .i64 fy) (by first | (go_simp; done) | exact bl_cell (by repeat (with_reducible first | apply bl_alloc | apply bl_drew | exact Below.refl _ _)) (by assumption))); have x2 := fun o => bl_cell (bl_alloc (Below.refl _ w1) o) (bl_cell hb' (p := ⟨w.heap.size + 1 + 1, 0, none⟩) (v := .int .i64 tx) (by first | (go_simp; done) | exact bl_cell (by repeat (with_reducible first | apply bl_alloc | apply bl_drew | exact Below.refl _ _)) (by assumption))); have x3 := fun o => bl_cell (bl_alloc (Below.refl _ w1) o) (bl_cell hb' (p := ⟨w.heap.size + 1 + 1, 1, none⟩) (v := .int .i64 ty) (by first | (go_simp; done) | exact bl_cell (by repeat (with_reducible first | apply bl_alloc | apply bl_drew | exact Below.refl _ _)) (by assumption))); have hb1 := Kp.mk hb'; clear hb')
    go_ret
    exact ⟨rfl, (by repeat (with_reducible first | exact Below.refl _ _ | apply bl_drew | apply bl_drewN | (refine bl_then ?_ hb1.out) | (refine bl_then ?_ hb2.out) | (refine bl_then ?_ hb3.out) | (refine bl_then ?_ hb4.out) | (refine bl_then ?_ hb5.out) | (refine bl_then ?_ hb6.out) | (refine bl_then ?_ hb7.out) | (refine bl_then ?_ hb8.out) | (refine bl_then ?_ hb9.out) | apply bl_alloc | (refine bl_set ?_ (by go_simp))))⟩
end Go.Proofs.YtibaapaglocpjaaGreat.B

end
section
set_option linter.unusedSimpArgs false
set_option linter.unusedVariables false
namespace Go.Proofs.YtibaapaglocpjaaGreat.B
open Go.RowKit Go.Shelf Go.Proofs.YtibaapaglocpjaaGreatW.PrintWords
attribute [local go_sem] Oper.semAt_some
structure IB (bi bf bt : Nat) (cx cy sd wd ht : Int) (A : Option Addr) (c : Nat) (pb : List Int) (B : Option Addr) (d : Nat) (pl : List Int) (fx fy tx ty : Int) (W : World) : Prop where
  i0 : W.cell? ⟨bi, 0, none⟩ = some (.int .i64 cx)
  i1 : W.cell? ⟨bi, 1, none⟩ = some (.int .i64 cy)
  i2 : W.cell? ⟨bi, 2, none⟩ = some (.int .i64 sd)
  i3 : W.cell? ⟨bi, 3, none⟩ = some (.int .i64 wd)
  i4 : W.cell? ⟨bi, 4, none⟩ = some (.int .i64 ht)
  i5 : W.cell? ⟨bi, 5, none⟩ = some (.slice A pb.length c)
  i6 : W.cell? ⟨bi, 6, none⟩ = some (.slice B pl.length d)
  f0 : W.cell? ⟨bf, 0, none⟩ = some (.int .i64 fx)
  f1 : W.cell? ⟨bf, 1, none⟩ = some (.int .i64 fy)
  t0 : W.cell? ⟨bt, 0, none⟩ = some (.int .i64 tx)
  t1 : W.cell? ⟨bt, 1, none⟩ = some (.int .i64 ty)
theorem IB.below {n₀ bi bf bt : Nat} {cx cy sd wd ht : Int} {A : Option Addr} {c : Nat} {pb : List Int} {B : Option Addr} {d : Nat} {pl : List Int} {fx fy tx ty : Int} {W W' : World} (h : IB bi bf bt cx cy sd wd ht A c pb B d pl fx fy tx ty W) (hb : Below n₀ W W') (h1 : bi < n₀) (h2 : bf < n₀) (h3 : bt < n₀) : IB bi bf bt cx cy sd wd ht A c pb B d pl fx fy tx ty W' := by
  obtain ⟨i0, i1, i2, i3, i4, i5, i6, f0, f1, t0, t1⟩ := h
  exact ⟨(hb.cell h1).trans i0, (hb.cell h1).trans i1, (hb.cell h1).trans i2, (hb.cell h1).trans i3, (hb.cell h1).trans i4, (hb.cell h1).trans i5, (hb.cell h1).trans i6, (hb.cell h2).trans f0, (hb.cell h2).trans f1, (hb.cell h3).trans t0, (hb.cell h3).trans t1⟩
theorem IB.up {bi bf bt : Nat} {cx cy sd wd ht : Int} {A : Option Addr} {c : Nat} {pb : List Int} {B : Option Addr} {d : Nat} {pl : List Int} {fx fy tx ty : Int} {W W' : World} (h : IB bi bf bt cx cy sd wd ht A c pb B d pl fx fy tx ty W) (hb : Below W.heap.size W W') : IB bi bf bt cx cy sd wd ht A c pb B d pl fx fy tx ty W' := by
  obtain ⟨i0, i1, i2, i3, i4, i5, i6, f0, f1, t0, t1⟩ := h
  exact ⟨bl_cell hb i0, bl_cell hb i1, bl_cell hb i2, bl_cell hb i3, bl_cell hb i4, bl_cell hb i5, bl_cell hb i6, bl_cell hb f0, bl_cell hb f1, bl_cell hb t0, bl_cell hb t1⟩
theorem grown_none {W W' : World} (h : Below W.heap.size W W') : W.grownBy W' none := ⟨h.os, h.tape, h.output, h.size, fun i hi _ => h.block i hi⟩
theorem prefix_of {l pre rest : List Int} {x : Int} (h : l = pre ++ x :: rest) : pre ++ [x] <+: l := ⟨rest, by simp [h]⟩
theorem mem_of {l pre rest : List Int} {x : Int} (h : l = pre ++ x :: rest) : x ∈ l := by rw [h]; simp
theorem length_of {l pre rest : List Int} {x : Int} (h : l = pre ++ x :: rest) : pre.length < l.length := by rw [h]; simp
def SeqEnd (L : List Int) (J Jx : List Int → World → Prop) (e : Ending) (W' : World) : Prop := (∃ v, e = .returned v) ∧ ((∃ ys, ys = L ∧ J ys W') ∨ (∃ pre, pre <+: L ∧ Jx pre W'))
set_option maxRecDepth 100000 in
set_option maxHeartbeats 4000000 in
theorem touched1_in (n l n₀ bi bf bt : Nat) (cx cy sd wd ht : Int) (A : Option Addr) (c : Nat) (pb : List Int) (B : Option Addr) (d : Nat) (pl : List Int) (fx fy tx ty : Int) (hn : 1 ≤ n) (L : List Int) (J Jx : List Int → World → Prop) (W : World)
    (hcx : -6553600000 ≤ cx ∧ cx ≤ 6553600000) (hcy : -6553600000 ≤ cy ∧ cy ≤ 6553600000) (hs : 1 ≤ sd ∧ sd ≤ 6553600000) (hw : 1 ≤ wd ∧ wd ≤ 256) (hh : 1 ≤ ht ∧ ht ≤ 256)
    (hfx : -6553600000 ≤ fx ∧ fx ≤ 6553600000) (hfy : -6553600000 ≤ fy ∧ fy ≤ 6553600000) (htx : -6553600000 ≤ tx ∧ tx ≤ 6553600000) (hty : -6553600000 ≤ ty ∧ ty ≤ 6553600000)
    (hL : touchedL cx cy sd wd ht fx fy tx ty = L)
    (hY : ∀ pre x W, x ∈ L → J pre W → pre.length < L.length → YieldAt Fence.wide (n - 1) Tryz.prog l #[.int .i64 x] W fun e W' =>
      (e = .returned (.bool true) ∧ J (pre ++ [x]) W' ∧ Below n₀ W W') ∨ (e = .returned (.bool false) ∧ Jx (pre ++ [x]) W'))
    (hJ : AbidesFrom W.heap.size J) (hI : IB bi bf bt cx cy sd wd ht A c pb B d pl fx fy tx ty W) (h1 : bi < n₀) (h2 : bf < n₀) (h3 : bt < n₀) (hn0 : n₀ ≤ W.heap.size) (h0 : J [] W) :
    CallsIn Fence.wide n Tryz.prog 186 #[.func (.yield l) #[] #[], .pointer (some ⟨bi, 0, none⟩), .pointer (some ⟨bf, 0, none⟩), .pointer (some ⟨bt, 0, none⟩)] W (SeqEnd L J Jx) := by
  have HB1 := fun W => Kp.mk (callsIn_wide (n := n - 1).2 (band_any cx sd wd fx tx W hcx hs hw hfx htx))
  have HB2 := fun W => Kp.mk (callsIn_wide (n := n - 1).2 (band_any cy sd ht fy ty W hcy hs hh hfy hty))
  have HTo := fun (k : Int) (h : 0 ≤ k ∧ k < 256 * wd) W => Kp.mk (callsIn_wide (n := n - 1).2 (touches_any cx cy sd wd ht A c pb B d pl fx fy tx ty k W hcx hcy hs hw h hfx hfy htx hty))
  have HE := Kp.mk (touched_band fx fy tx ty (cx := cx) (cy := cy) ⟨hs.1, hw.1, hh.1⟩)
  rw [hL] at HE
  have g1 := band_in cx sd wd fx tx hw.1
  have g2 := band_in cy sd ht fy ty hh.1
  have HJ := Kp.mk hJ
  have HY := Kp.mk hY
  clear hL hJ hY
  generalize touchB cx cy sd wd fx fy tx ty = t at *
  generalize bandLo cx sd wd fx tx = Wt at *
  generalize bandHi cx sd wd fx tx = E at *
  generalize bandLo cy sd ht fy ty = S at *
  generalize bandHi cy sd ht fy ty = N at *
  obtain ⟨g1, g2'⟩ := g1
  obtain ⟨g3, g4⟩ := g2
  have hI0 := Kp.mk hI
  obtain ⟨i0, i1, i2, i3, i4, i5, i6, f0, f1, t0, t1⟩ := hI
  refine callsIn_of_wp Tryz.func186 rfl trivial ?_ rfl
  simp only [Tryz.ntmps186, List.size_toArray, List.length_cons, List.length_nil, Nat.reduceAdd, Nat.reduceSub, Array.replicate_succ, Array.replicate_zero, List.push_toArray, List.append_toArray, List.nil_append, List.cons_append]
  gi_wp2_with (refine ⟨trivial, ?_⟩; gi_at_call 187; first | ((with_reducible refine (HB1 _).out.mono ?_); rintro e w1 ⟨rfl, hb1⟩; have I1 := hI0.out.below (hb1.mono hn0) h1 h2 h3; clear i0 i1 i2 i3 i4 i5 i6 f0 f1 t0 t1; obtain ⟨i0, i1, i2, i3, i4, i5, i6, f0, f1, t0, t1⟩ := I1; have HB := Kp.mk hb1; clear hb1) | ((with_reducible refine (HB2 _).out.mono ?_); rintro e w2 ⟨rfl, hb2⟩; have HBB := Kp.mk (bl_then HB.out hb2); clear hb2))
  have HI2 : Kp (IB bi bf bt cx cy sd wd ht A c pb B d pl fx fy tx ty w2) := ⟨hI0.out.below (HBB.out.mono hn0) h1 h2 h3⟩
  have HJ2 : Kp (J [] w2) := ⟨HJ.out [] W w2 none h0 (grown_none HBB.out) (fun r e => by cases e)⟩
  have HJA : Kp (∀ pre A B, J pre A → Below A.heap.size A B → J pre B) := ⟨fun pre A B h hb => HJ.out pre A B none h (grown_none hb) (fun r e => by cases e)⟩
  have HL0 : Kp (L = [] ++ bandRest t wd Wt E N S) := ⟨HE.out.symm⟩
  have HG : Kp ((0 ≤ Wt ∧ E < wd) ∧ (0 ≤ S ∧ N < ht) ∧ (1 ≤ wd ∧ wd ≤ 256) ∧ (1 ≤ ht ∧ ht ≤ 256)) := ⟨⟨⟨g1, g2'⟩, ⟨g3, g4⟩, hw, hh⟩⟩
  have HN3 : Kp (bi < n₀ ∧ bf < n₀ ∧ bt < n₀) := ⟨⟨h1, h2, h3⟩⟩
  clear i0 i1 i2 i3 i4 i5 i6 f0 f1 t0 t1 HJ HE HB HBB hI0 HB1 HB2 h0 g1 g2' g3 g4 hcx hcy hs hw hh hfx hfy htx hty h1 h2 h3
  gi_loopw [9] (fun y wr => ∃ (Y : Int) (pre : List Int), y = .int .i64 Y ∧ Kp (S ≤ Y ∧ (Y ≤ N + 1 ∨ Y = S)) ∧ Kp (L = pre ++ bandRest t wd Wt E N Y) ∧ Kp (J pre wr) ∧ Kp (IB bi bf bt cx cy sd wd ht A c pb B d pl fx fy tx ty wr)) (fun y _ => (N + 1 - intOf y).toNat)
  case atStart => exact ⟨S, [], rfl, ⟨Int.le_refl _, .inr rfl⟩, HL0, HJ2, HI2⟩
  case round =>
    clear HL0 HJ2 HI2
    obtain ⟨Y, pre, rfl, HYb, HL, HJp, HI⟩ := hrel
    by_cases hY : Y ≤ N
    · have y0 : 0 ≤ Y := by have := HYb.out; have := HG.out; omega
      have y1 : Y ≤ 255 := by have := HG.out; omega
      have HY0 := Kp.mk hY
      have HL' : Kp (L = pre ++ cellRest t wd Wt E N Y Wt) := ⟨by rw [← bandRest_go hY]; exact HL.out⟩
      clear HL
      gi_wp2
      obtain ⟨wo, rfl⟩ : ∃ wo : World, wo = wr := ⟨_, rfl⟩
      gi_loopw [10] (fun x wr => ∃ (X : Int) (pre : List Int), x = .int .i64 X ∧ Kp (Wt ≤ X ∧ (X ≤ E + 1 ∨ X = Wt)) ∧ Kp (L = pre ++ cellRest t wd Wt E N Y X) ∧ Kp (J pre wr) ∧ Kp (IB bi bf bt cx cy sd wd ht A c pb B d pl fx fy tx ty wr)) (fun x _ => (E + 1 - intOf x).toNat)
      case atStart => exact ⟨Wt, pre, rfl, ⟨Int.le_refl _, .inr rfl⟩, HL', HJp, HI⟩
      case round =>
        clear HL' HJp HI
        obtain ⟨X, pre, rfl, HXb, HL, HJp, HI⟩ := hrel
        by_cases hX : X ≤ E
        · have x0 : 0 ≤ X := by have := HXb.out; have := HG.out; omega
          have x1 : X ≤ 255 := by have := HG.out; omega
          have m01 : 0 ≤ Y * wd ∧ Y * wd ≤ 255 * wd := by
            have := HG.out
            exact ⟨Int.mul_nonneg y0 (by omega), Int.mul_le_mul_of_nonneg_right y1 (by omega)⟩
          obtain ⟨m, hm⟩ : ∃ m, m = Y * wd := ⟨_, rfl⟩
          rw [← hm] at m01
          have hb : 0 ≤ m + X ∧ m + X < 256 * wd := by have := HG.out; omega
          have mw : m ≤ 65280 := by have := HG.out; omega
          have hw1 : wrap64 (Y * wd) = m := by rw [← hm]; unfold wrap64; omega
          have HT := fun W => Kp.mk (HTo (m + X) hb W).out
          have HX0 := Kp.mk hX
          have HMm := Kp.mk hm
          obtain ⟨m0, m1⟩ := m01
          clear hb m1 hm HTo
          obtain ⟨i0, i1, i2, i3, i4, i5, i6, f0, f1, t0, t1⟩ := HI.out
          have HL1 : Kp (t (m + X) = false → L = pre ++ cellRest t wd Wt E N Y (X + 1)) := ⟨fun h => by rw [HL.out, cellRest_no hX (by rw [← HMm.out]; exact h)]⟩
          have HL2 : Kp (t (m + X) = true → L = pre ++ (m + X) :: cellRest t wd Wt E N Y (X + 1)) := ⟨fun h => by rw [HL.out, cellRest_yes hX (by rw [← HMm.out]; exact h), ← HMm.out]⟩
          clear HL
          cases hB : t (m + X) with
          | false =>
            have HL := Kp.mk (HL1.out hB)
            rw [hB] at HT
            clear HL1 HL2 hB
            gi_wp2_with (refine ⟨trivial, ?_⟩; gi_at_call 188; (with_reducible refine (HT _).out.mono ?_); rintro e w3 ⟨rfl, hb3⟩; have HI3 := Kp.mk (HI.out.up hb3); have HJ3 := Kp.mk (HJA.out pre _ _ HJp.out hb3); clear hb3)
            refine ⟨fun _ h => (by cases h), ?_⟩
            gi_wp2
            go_roundw
            case measure => have := HX0.out; simp [intOf]; omega
            case rel => exact ⟨X + 1, pre, rfl, ⟨by have := HXb.out; omega, .inl (by have := HX0.out; omega)⟩, HL, HJ3, HI3⟩
          | true =>
            have HL := Kp.mk (HL2.out hB)
            rw [hB] at HT
            clear HL1 HL2 hB
            gi_wp2_with (refine ⟨trivial, ?_⟩; gi_at_call 188; (with_reducible refine (HT _).out.mono ?_); rintro e w3 ⟨rfl, hb3⟩; have HI3 := Kp.mk (HI.out.up hb3); have HJ3 := Kp.mk (HJA.out pre _ _ HJp.out hb3); obtain ⟨fn, tmps, assign, body, hy, hR⟩ := HY.out pre (m + X) _ (mem_of HL.out) HJ3.out (length_of HL.out); clear hb3)
            refine hR.mono ?_
            rintro e w4 (⟨rfl, hJ4, hk4⟩ | ⟨rfl, hJx4⟩)
            · have HI4 := Kp.mk (HI3.out.below hk4 HN3.out.1 HN3.out.2.1 HN3.out.2.2)
              have HJ4 := Kp.mk hJ4
              have HL' : Kp (L = (pre ++ [m + X]) ++ cellRest t wd Wt E N Y (X + 1)) := ⟨by rw [HL.out]; simp⟩
              clear hk4 hJ4
              gi_wp2
              go_roundw
              case measure => have := HX0.out; simp [intOf]; omega
              case rel => exact ⟨X + 1, pre ++ [m + X], rfl, ⟨by have := HXb.out; omega, .inl (by have := HX0.out; omega)⟩, HL', HJ4, HI4⟩
            · have HX' : Kp (SeqEnd L J Jx (.returned (.tuple #[])) w4) := ⟨⟨⟨_, rfl⟩, .inr ⟨pre ++ [m + X], prefix_of HL.out, hJx4⟩⟩⟩
              gi_wp2
              refine bodyPost_ret (results_none rfl _ _ _) rfl ?_
              exact HX'.out
        · have HL' : Kp (L = pre ++ bandRest t wd Wt E N (Y + 1)) := ⟨by rw [← cellRest_none (X := X) (by omega)]; exact HL.out⟩
          gi_wp2
          go_roundw
          case measure => have := HY0.out; simp [intOf]; omega
          case rel => exact ⟨Y + 1, pre, rfl, ⟨by have := HYb.out; omega, .inl (by have := HY0.out; omega)⟩, HL', HJp, HI⟩
    · have HLe : Kp (pre = L) := ⟨by have h := HL.out; rw [bandRest_none (by omega), List.append_nil] at h; exact h.symm⟩
      gi_wp2
      go_end0
      exact ⟨⟨_, rfl⟩, .inl ⟨pre, HLe.out, HJp.out⟩⟩
end Go.Proofs.YtibaapaglocpjaaGreat.B

end
section
set_option linter.unusedSimpArgs false
set_option linter.unusedVariables false
namespace Go.Proofs.YtibaapaglocpjaaGreat.B
open Go.RowKit Go.Shelf Go.Proofs.YtibaapaglocpjaaGreatW.PrintWords
attribute [local go_sem] Oper.semAt_some
def Seqs (n₀ : Nat) (gf : Nat) (lb : Array Value) (L : List Int) (w : World) : Prop :=
  ∀ n, 1 ≤ n → SeqStopsK Fence.wide n Tryz.prog gf lb (fun x : {x : Int // x ∈ L} => #[Value.int .i64 x.1]) (Below n₀) (fun ys => ys.map (·.1) = L) (fun pre => pre.map (·.1) <+: L) L.length w
def OverInts {L : List Int} (J : List {x : Int // x ∈ L} → World → Prop) (pre : List Int) (W : World) : Prop := ∃ ys : List {x : Int // x ∈ L}, ys.map (·.1) = pre ∧ J ys W
theorem OverInts.abides {L : List Int} {J : List {x : Int // x ∈ L} → World → Prop} {B : Nat} (h : AbidesFrom B J) : AbidesFrom B (OverInts J) := fun s W W' row ⟨ys, e, hj⟩ hg hr => ⟨ys, e, h ys W W' row hj hg hr⟩
theorem seqs_of {n₀ gf : Nat} {lb : Array Value} {L : List Int} {w : World}
    (h : ∀ (n l : Nat) (J Jx : List Int → World → Prop) (W : World), 1 ≤ n → Below w.heap.size w W → AbidesFrom W.heap.size J →
      (∀ pre x W, x ∈ L → J pre W → pre.length < L.length → YieldAt Fence.wide (n - 1) Tryz.prog l #[.int .i64 x] W fun e W' => (e = .returned (.bool true) ∧ J (pre ++ [x]) W' ∧ Below n₀ W W') ∨ (e = .returned (.bool false) ∧ Jx (pre ++ [x]) W')) →
      J [] W → CallsIn Fence.wide n Tryz.prog gf (#[.func (.yield l) #[] #[]] ++ lb) W (SeqEnd L J Jx)) : Seqs n₀ gf lb L w := by
  intro n hn l J Jx W hW hJ hJx hY h0
  refine (h n l (OverInts J) (OverInts Jx) W hn hW (OverInts.abides hJ) ?_ ⟨[], rfl, h0⟩).mono ?_
  · rintro pre x W1 hx ⟨ys, rfl, hj⟩ hl
    have hy := hY ys ⟨x, hx⟩ W1 hj (by simpa using hl)
    obtain ⟨fn, tmps, assign, body, hy, hR⟩ := hy
    refine ⟨fn, tmps, assign, body, hy, hR.mono ?_⟩
    rintro e W' (⟨a, b, c⟩ | ⟨a, b⟩)
    · exact .inl ⟨a, ⟨_, by simp, b⟩, c⟩
    · exact .inr ⟨a, _, by simp, b⟩
  · rintro e W' ⟨hv, ⟨ys, rfl, zs, hz, hj⟩ | ⟨pre, hp, zs, rfl, hj⟩⟩
    · exact ⟨hv, .inl ⟨zs, hz, hj⟩⟩
    · exact ⟨hv, .inr ⟨zs, hp, hj⟩⟩
theorem Seqs.later {n₀ gf : Nat} {lb : Array Value} {L : List Int} {w w' : World} (h : Seqs n₀ gf lb L w) (hb : Below w.heap.size w w') : Seqs n₀ gf lb L w' := fun n hn l J Jx W hW hJ hJx hY h0 => h n hn l J Jx W (bl_then hb hW) hJ hJx hY h0
theorem own_down {W : World} {b b' : Nat} {e : TypeId} {size n : Nat} {v : Value} {cs : List Value} (h : W.ownsRow b e size v n cs) (hb : b' ≤ b) : W.ownsRow b' e size v n cs := by
  obtain ⟨h1, h2⟩ := h
  refine ⟨h1, ?_⟩
  rcases h2 with h2 | ⟨g, cap, cur, rfl, hg, r⟩
  · exact .inl h2
  · exact .inr ⟨g, cap, cur, rfl, Nat.le_trans hb hg, r⟩
def touchedW (cx cy sd wd ht : Int) (A : Option Addr) (c : Nat) (pb : List Int) (B : Option Addr) (d : Nat) (pl : List Int) (fx fy tx ty : Int) (w : World) : World := ((w.alloc (.cells #[.int .i64 cx, .int .i64 cy, .int .i64 sd, .int .i64 wd, .int .i64 ht, .slice A pb.length c, .slice B pl.length d] 27)).alloc (.cells #[.int .i64 fx, .int .i64 fy] 24)).alloc (.cells #[.int .i64 tx, .int .i64 ty] 24)
set_option maxRecDepth 100000 in
theorem touched_any (cx cy sd wd ht : Int) (A : Option Addr) (c : Nat) (pb : List Int) (B : Option Addr) (d : Nat) (pl : List Int) (fx fy tx ty : Int) (w : World) :
    Calls Tryz.prog 105 #[.agg #[.int .i64 cx, .int .i64 cy, .int .i64 sd, .int .i64 wd, .int .i64 ht, .slice A pb.length c, .slice B pl.length d], .agg #[.int .i64 fx, .int .i64 fy], .agg #[.int .i64 tx, .int .i64 ty]] w fun e w' => e = .returned (.func (.func 186) #[] #[.pointer (some ⟨w.heap.size, 0, none⟩), .pointer (some ⟨w.heap.size + 1, 0, none⟩), .pointer (some ⟨w.heap.size + 1 + 1, 0, none⟩)]) ∧ w' = touchedW cx cy sd wd ht A c pb B d pl fx fy tx ty w := by
  have hm := hmf
  go_enter Tryz.func105, Tryz.ntmps105
  go_wp2
  go_ret
  exact ⟨rfl, rfl⟩
theorem touchedW_below (cx cy sd wd ht : Int) (A : Option Addr) (c : Nat) (pb : List Int) (B : Option Addr) (d : Nat) (pl : List Int) (fx fy tx ty : Int) (w : World) : Below w.heap.size w (touchedW cx cy sd wd ht A c pb B d pl fx fy tx ty w) := bl_alloc (bl_alloc (bl_alloc (Below.refl _ w) _) _) _
theorem touchedW_size (cx cy sd wd ht : Int) (A : Option Addr) (c : Nat) (pb : List Int) (B : Option Addr) (d : Nat) (pl : List Int) (fx fy tx ty : Int) (w : World) : (touchedW cx cy sd wd ht A c pb B d pl fx fy tx ty w).heap.size = w.heap.size + 1 + 1 + 1 := by simp [touchedW]
theorem touchedW_IB (cx cy sd wd ht : Int) (A : Option Addr) (c : Nat) (pb : List Int) (B : Option Addr) (d : Nat) (pl : List Int) (fx fy tx ty : Int) (w : World) : IB w.heap.size (w.heap.size + 1) (w.heap.size + 1 + 1) cx cy sd wd ht A c pb B d pl fx fy tx ty (touchedW cx cy sd wd ht A c pb B d pl fx fy tx ty w) := by
  unfold touchedW
  exact ⟨by go_simp, by go_simp, by go_simp, by go_simp, by go_simp, by go_simp, by go_simp, by go_simp, by go_simp, by go_simp, by go_simp⟩
structure WayHyp (cx cy sd wd ht fx fy tx ty : Int) : Prop where
  hcx : -6553600000 ≤ cx ∧ cx ≤ 6553600000
  hcy : -6553600000 ≤ cy ∧ cy ≤ 6553600000
  hs : 1 ≤ sd ∧ sd ≤ 6553600000
  hw : 1 ≤ wd ∧ wd ≤ 256
  hh : 1 ≤ ht ∧ ht ≤ 256
  hfx : -6553600000 ≤ fx ∧ fx ≤ 6553600000
  hfy : -6553600000 ≤ fy ∧ fy ≤ 6553600000
  htx : -6553600000 ≤ tx ∧ tx ≤ 6553600000
  hty : -6553600000 ≤ ty ∧ ty ≤ 6553600000
theorem touched_seqs (cx cy sd wd ht : Int) (A : Option Addr) (c : Nat) (pb : List Int) (B : Option Addr) (d : Nat) (pl : List Int) (fx fy tx ty : Int) (w : World) (H : WayHyp cx cy sd wd ht fx fy tx ty) :
    Seqs (touchedW cx cy sd wd ht A c pb B d pl fx fy tx ty w).heap.size 186 #[.pointer (some ⟨w.heap.size, 0, none⟩), .pointer (some ⟨w.heap.size + 1, 0, none⟩), .pointer (some ⟨w.heap.size + 1 + 1, 0, none⟩)] (touchedL cx cy sd wd ht fx fy tx ty) (touchedW cx cy sd wd ht A c pb B d pl fx fy tx ty w) := by
  refine seqs_of fun n l J Jx W hn hW hJ hY h0 => ?_
  have hsz := touchedW_size cx cy sd wd ht A c pb B d pl fx fy tx ty w
  exact touched1_in n l (touchedW cx cy sd wd ht A c pb B d pl fx fy tx ty w).heap.size _ _ _ cx cy sd wd ht A c pb B d pl fx fy tx ty hn _ J Jx W H.hcx H.hcy H.hs H.hw H.hh H.hfx H.hfy H.htx H.hty rfl hY hJ ((touchedW_IB cx cy sd wd ht A c pb B d pl fx fy tx ty w).below hW (by omega) (by omega) (by omega)) (by omega) (by omega) (by omega) hW.size h0
theorem info_int : (Tryz.prog.info? 3).map (fun i => (i.zero, i.size, i.bytes)) = some (some (.int .i64 0), 1, 8) := by kernel_rfl
def NewInts (L : List Int) (w : World) (e : Ending) (w' : World) : Prop :=
  ∃ v, e = .returned v ∧ w'.ownsRow w.heap.size 3 1 v L.length (L.map (Value.int .i64)) ∧ (v = .slice none 0 0 ↔ L = []) ∧ Below w.heap.size w w'
set_option maxRecDepth 100000 in
set_option maxHeartbeats 2000000 in
theorem appendSeq_any (gf : Nat) (lb : Array Value) (L : List Int) (w : World) (hseq : Seqs w.heap.size gf lb L w) (eg : ∀ args w, (callFunc gf args).run Tryz.prog w = .ok (.enter gf args) w) (hlen : L.length ≤ 1000000) :
    Calls Tryz.prog 185 #[.slice none 0 0, .func (.func gf) #[] lb] w (NewInts L w) := by
  refine (callsIn_wide (n := 3)).1 ?_
  obtain ⟨i0, hi, hz0, hz1, hz2⟩ := info_parts info_int
  refine callsIn_of_wp_marks Tryz.func185 rfl trivial ?_ rfl
  simp only [Tryz.ntmps185, List.size_toArray, List.length_cons, List.length_nil, Nat.reduceAdd, Nat.reduceSub, Array.replicate_succ, Array.replicate_zero, List.push_toArray, List.append_toArray, List.nil_append, List.cons_append]
  gi_wp2
  have bO := Boxed.new w 25 (.slice none 0 0)
  have hB0 : Below w.heap.size w (w.alloc (.cells #[.slice none 0 0] 25)) := bl_alloc (Below.refl _ w) _
  refine wpIn_rangeFunc_ownG rfl (by omega : 1 ≤ 3) (gf := gf) (lb := lb) rfl trivial eg ((hseq.later hB0) (3 - 1) (by omega)) belowK_t (belowK_b (by simp)) (Below.refl _ _) (fun _ => rfl)
    (fun (pre : List {x : Int // x ∈ L}) W => (∃ v, Boxed W w.heap.size 25 v ∧ W.ownsRow w.heap.size 3 1 v pre.length ((pre.map (·.1)).map (Value.int .i64)) ∧ (v = .slice none 0 0 ↔ pre = [])) ∧ Below w.heap.size w W)
    (fun _ _ _ => False)
    (OwnFrom.and (Own.from (holdsRow_own w.heap.size w.heap.size 25 3 1 (fun (pre : List {x : Int // x ∈ L}) => pre.length) (fun (pre : List {x : Int // x ∈ L}) => (pre.map (·.1)).map (Value.int .i64)) (fun (pre : List {x : Int // x ∈ L}) v => v = .slice none 0 0 ↔ pre = [])) _) (ownFrom_below (Nat.le_refl _) (by simp)))
    (fun _ _ _ _ _ hs _ _ => hs)
    ⟨⟨_, bO, World.ownsRow_nil _ _ _ _, by simp⟩, hB0⟩
    (fun x => { tmps := #[.slice none 0 0, .func (.func gf) #[] lb, .pointer (some ⟨w.heap.size, 0, none⟩), undef, .slice none 0 0, .int .i64 x.1, .func (.func gf) #[] lb, .int .i64 x.1, undef, undef, undef, undef, undef], defers := [] }) ?assign ?body ?done ?stop
  case assign =>
    intro l x W K hK
    gi_wp2
    exact hK
  case body =>
    rintro l pre x W ⟨⟨v, hv, hrow, hnil⟩, hB⟩ hlt
    have hc := hv.cell
    gi_wp2_with (gi_at_builtin; refine wpListIn_append_own _ rfl _ _ 25 rfl w.heap.size 3 i0 (.int .i64 0) 1 8 Tryz.underlying25 hi hz0 hz1 hz2 rfl (by decide) _ _ _ rfl (hrow.alloc _) ⟨W.heap.size, 0, none⟩ 1 1 [.int .i64 x.1] rfl rfl (cell_one_new _ _ _) (by simp [Value.oneCell']) (by simp only [maxLen]; omega) (by omega) (by have := hB.size; simp; omega) ?_; intro v' w1 hown' hgrow _; obtain ⟨g', cap', rfl⟩ := ownsRow_succ hown'; obtain ⟨hv1, hv2, hr2, hk2, hb2⟩ := hv.appended (by decide) hrow hB.size (Nat.le_refl _) hown' hgrow; have hc1 := hv1.cell; have hf1 := hv1.frozen)
    exact ⟨hk2.from _, hb2, ⟨_, hv2, by simpa using hr2, by simp⟩, hB.trans hb2⟩
  case done =>
    rintro D ys W hD hys ⟨⟨v, hv, hrow, hnil⟩, hB⟩ hK
    have hl : ys.length = L.length := by have := congrArg List.length hys; simpa using this
    rw [hl] at hrow
    simp only [hys] at hrow
    have hnil' : v = .slice none 0 0 ↔ L = [] := hnil.trans ⟨fun h => List.length_eq_zero_iff.1 (hl.symm.trans (by rw [h]; rfl)), fun h => List.length_eq_zero_iff.1 (hl.trans (by rw [h]; rfl))⟩
    have hc := hv.cell
    have HP : Kp (NewInts L w (.returned v) (W.putObj D (.deferred none))) := ⟨⟨v, rfl, ownsRow_putObj hrow _ hK rfl, hnil', hB.trans (belowK_b (w := w) (Nat.le_refl _) W D _ _ (by simp at hD; omega) hK rfl rfl)⟩⟩
    gi_wp2
    refine ⟨by simp, .inl ⟨_, _, rfl, run_takeDeferred hK, ?_⟩⟩
    exact ⟨v, by simp [results, Tryz.results185, go_sem], HP.out⟩
  case stop =>
    rintro D c pre W _ _ h _
    exact h.elim
set_option maxRecDepth 100000 in
theorem collect_any (gf : Nat) (lb : Array Value) (L : List Int) (w : World) (hseq : Seqs w.heap.size gf lb L w) (eg : ∀ args w, (callFunc gf args).run Tryz.prog w = .ok (.enter gf args) w) (hlen : L.length ≤ 1000000) :
    Calls Tryz.prog 104 #[.func (.func gf) #[] lb] w (NewInts L w) := by
  have HA := Kp.mk (appendSeq_any gf lb L w hseq eg hlen)
  clear hseq eg hlen
  go_enter Tryz.func104, Tryz.ntmps104
  go_wp2_with (go_at_call 185; (with_reducible refine HA.out.mono ?_); rintro e w1 ⟨v, rfl, hP⟩; have HP := Kp.mk hP; clear hP)
  exact bodyPost_ret (v := v) (by simp [results, Tryz.results104, go_sem]) rfl ⟨v, rfl, HP.out⟩
theorem touchedL_len {cx cy sd wd ht : Int} (fx fy tx ty : Int) (hw : 1 ≤ wd ∧ wd ≤ 256) (hh : 1 ≤ ht ∧ ht ≤ 256) : (touchedL cx cy sd wd ht fx fy tx ty).length ≤ 1000000 := by
  have h1 : (touchedL cx cy sd wd ht fx fy tx ty).length ≤ (fromTo 0 (wd * ht - 1)).length := List.length_filter_le _ _
  have h2 : (fromTo 0 (wd * ht - 1)).length = (wd * ht - 1 - 0 + 1).toNat := by unfold fromTo; simp
  have h3 : wd * ht ≤ 256 * 256 := Int.mul_le_mul hw.2 hh.2 (by omega) (by omega)
  omega
def wayB (cx cy sd wd ht : Int) (pb pl : List Int) (fx fy tx ty : Int) : Bool := iceB cx cy sd wd ht pb pl && (plB fx fy && plB tx ty)
theorem wayB_hyp {cx cy sd wd ht : Int} {pb pl : List Int} {fx fy tx ty : Int} (h : wayB cx cy sd wd ht pb pl fx fy tx ty = true) : WayHyp cx cy sd wd ht fx fy tx ty := by
  unfold wayB at h
  simp only [Bool.and_eq_true] at h
  obtain ⟨h1, h2, h3⟩ := h
  have hi := iceB_iff.1 h1
  have hf := plB_iff.1 h2
  have ht := plB_iff.1 h3
  exact ⟨⟨hi.cx0, hi.cx1⟩, ⟨hi.cy0, hi.cy1⟩, ⟨hi.s0, hi.s1⟩, ⟨hi.w0, hi.w1⟩, ⟨hi.h0, hi.h1⟩, hf.1, hf.2, ht.1, ht.2⟩
def TouchedPost (b : Bool) (L : List Int) (w : World) (e : Ending) (w' : World) : Prop :=
  ∃ v, e = .returned (.tuple #[v, .int .i64 (errI b)]) ∧ w'.ownsRow w.heap.size 3 1 v (if b = true then L else []).length ((if b = true then L else []).map (Value.int .i64)) ∧ Below w.heap.size w w'
set_option maxHeartbeats 2000000 in
set_option maxRecDepth 100000 in
theorem Touched_any (cx cy sd wd ht : Int) (A : Option Addr) (c : Nat) (pb : List Int) (B : Option Addr) (d : Nat) (pl : List Int) (fx fy tx ty : Int) (w : World) (hr1 : ReadsInt w .i64 A pb.length pb) (hc1 : pb.length ≤ c) (hr2 : ReadsInt w .i64 B pl.length pl) (hc2 : pl.length ≤ d) :
    Calls Tryz.prog 36 #[.agg #[.int .i64 cx, .int .i64 cy, .int .i64 sd, .int .i64 wd, .int .i64 ht, .slice A pb.length c, .slice B pl.length d], .agg #[.int .i64 fx, .int .i64 fy], .agg #[.int .i64 tx, .int .i64 ty]] w (TouchedPost (wayB cx cy sd wd ht pb pl fx fy tx ty) (touchedL cx cy sd wd ht fx fy tx ty) w) := by
  have HC := fun W h => Kp.mk (icecheck_any cx cy sd wd ht A c pb B d pl W (hr1.below h) hc1 (hr2.below h) hc2)
  have HP := fun bk c W h0 h1 h2 h3 => Kp.mk (placed_2 fx fy tx ty bk c W h0 h1 h2 h3)
  have HT := fun W => Kp.mk (touched_any cx cy sd wd ht A c pb B d pl fx fy tx ty W)
  have HS : Kp (wayB cx cy sd wd ht pb pl fx fy tx ty = true → ∀ W, Calls Tryz.prog 104 #[.func (.func 186) #[] #[.pointer (some ⟨W.heap.size, 0, none⟩), .pointer (some ⟨W.heap.size + 1, 0, none⟩), .pointer (some ⟨W.heap.size + 1 + 1, 0, none⟩)]] (touchedW cx cy sd wd ht A c pb B d pl fx fy tx ty W) (NewInts (touchedL cx cy sd wd ht fx fy tx ty) (touchedW cx cy sd wd ht A c pb B d pl fx fy tx ty W))) := ⟨fun h W => collect_any _ _ _ _ (touched_seqs cx cy sd wd ht A c pb B d pl fx fy tx ty W (wayB_hyp h)) (enters_of Tryz.func186 (by kernel_rfl) rfl) (touchedL_len fx fy tx ty (wayB_hyp h).hw (wayB_hyp h).hh)⟩
  have HTB := fun W => Kp.mk (touchedW_below cx cy sd wd ht A c pb B d pl fx fy tx ty W)
  have HL : Kp ((iceB cx cy sd wd ht pb pl = false ∧ wayB cx cy sd wd ht pb pl fx fy tx ty = false) ∨ (iceB cx cy sd wd ht pb pl = true ∧ (plB fx fy && plB tx ty) = false ∧ wayB cx cy sd wd ht pb pl fx fy tx ty = false) ∨ (iceB cx cy sd wd ht pb pl = true ∧ (plB fx fy && plB tx ty) = true ∧ wayB cx cy sd wd ht pb pl fx fy tx ty = true)) := ⟨by
    unfold wayB
    cases iceB cx cy sd wd ht pb pl <;> cases (plB fx fy && plB tx ty) <;> simp⟩
  clear hr1 hr2 hc1 hc2
  generalize wayB cx cy sd wd ht pb pl fx fy tx ty = R at *
  generalize touchedL cx cy sd wd ht fx fy tx ty = L at *
  generalize iceB cx cy sd wd ht pb pl = b1 at *
  generalize (plB fx fy && plB tx ty) = b2 at *
  rcases HL.out with ⟨rfl, rfl⟩ | ⟨rfl, rfl, rfl⟩ | ⟨rfl, rfl, rfl⟩
  · clear HL HS HT HTB HP
    go_enter Tryz.func36, Tryz.ntmps36
    go_wp2_with (go_at_call 29; (with_reducible refine (HC _ ?hb).out.mono ?_); (case hb => exact (by repeat (first | exact Below.refl _ _ | (with_reducible assumption) | apply bl_drew | apply bl_drewN | apply bl_alloc | (refine bl_set ?_ (by go_simp))))); rintro e w1 ⟨rfl, hb'⟩; have hb1 := Kp.mk hb'; clear hb'; simp only [errI, Bool.false_eq_true, if_true, if_false])
    go_ret2
    exact ⟨_, rfl, own_nil _ _ _ _, (by repeat (with_reducible first | exact Below.refl _ _ | apply bl_drew | apply bl_drewN | (refine bl_then ?_ hb1.out) | (refine bl_then ?_ hb2.out) | (refine bl_then ?_ hb3.out) | (refine bl_then ?_ hb4.out) | (refine bl_then ?_ hb5.out) | (refine bl_then ?_ hb6.out) | (refine bl_then ?_ hb7.out) | (refine bl_then ?_ hb8.out) | (refine bl_then ?_ hb9.out) | apply bl_alloc | (refine bl_set ?_ (by go_simp))))⟩
  · clear HL HS HT HTB
    go_enter Tryz.func36, Tryz.ntmps36
    go_wp2_with (first | (go_at_call 29; (with_reducible refine (HC _ ?hb).out.mono ?_); (case hb => exact (by repeat (first | exact Below.refl _ _ | (with_reducible assumption) | apply bl_drew | apply bl_drewN | apply bl_alloc | (refine bl_set ?_ (by go_simp))))); rintro e w1 ⟨rfl, hb'⟩; have c0 := bl_cell hb' (p := ⟨w.heap.size + 1, 0, none⟩) (v := .int .i64 fx) (by first | (go_simp; done) | exact bl_cell (by repeat (with_reducible first | apply bl_alloc | apply bl_drew | exact Below.refl _ _)) (by assumption)); have c1 := bl_cell hb' (p := ⟨w.heap.size + 1, 1, none⟩) (v := .int .i64 fy) (by first | (go_simp; done) | exact bl_cell (by repeat (with_reducible first | apply bl_alloc | apply bl_drew | exact Below.refl _ _)) (by assumption)); have d0 := bl_cell hb' (p := ⟨w.heap.size + 1 + 1, 0, none⟩) (v := .int .i64 tx) (by first | (go_simp; done) | exact bl_cell (by repeat (with_reducible first | apply bl_alloc | apply bl_drew | exact Below.refl _ _)) (by assumption)); have d1 := bl_cell hb' (p := ⟨w.heap.size + 1 + 1, 1, none⟩) (v := .int .i64 ty) (by first | (go_simp; done) | exact bl_cell (by repeat (with_reducible first | apply bl_alloc | apply bl_drew | exact Below.refl _ _)) (by assumption)); have iq0 := bl_cell hb' (p := ⟨w.heap.size, 0, none⟩) (v := .int .i64 cx) (by first | (go_simp; done) | exact bl_cell (by repeat (with_reducible first | apply bl_alloc | apply bl_drew | exact Below.refl _ _)) (by assumption)); have iq1 := bl_cell hb' (p := ⟨w.heap.size, 1, none⟩) (v := .int .i64 cy) (by first | (go_simp; done) | exact bl_cell (by repeat (with_reducible first | apply bl_alloc | apply bl_drew | exact Below.refl _ _)) (by assumption)); have iq2 := bl_cell hb' (p := ⟨w.heap.size, 2, none⟩) (v := .int .i64 sd) (by first | (go_simp; done) | exact bl_cell (by repeat (with_reducible first | apply bl_alloc | apply bl_drew | exact Below.refl _ _)) (by assumption)); have iq3 := bl_cell hb' (p := ⟨w.heap.size, 3, none⟩) (v := .int .i64 wd) (by first | (go_simp; done) | exact bl_cell (by repeat (with_reducible first | apply bl_alloc | apply bl_drew | exact Below.refl _ _)) (by assumption)); have iq4 := bl_cell hb' (p := ⟨w.heap.size, 4, none⟩) (v := .int .i64 ht) (by first | (go_simp; done) | exact bl_cell (by repeat (with_reducible first | apply bl_alloc | apply bl_drew | exact Below.refl _ _)) (by assumption)); have iq5 := bl_cell hb' (p := ⟨w.heap.size, 5, none⟩) (v := .slice A pb.length c) (by first | (go_simp; done) | exact bl_cell (by repeat (with_reducible first | apply bl_alloc | apply bl_drew | exact Below.refl _ _)) (by assumption)); have iq6 := bl_cell hb' (p := ⟨w.heap.size, 6, none⟩) (v := .slice B pl.length d) (by first | (go_simp; done) | exact bl_cell (by repeat (with_reducible first | apply bl_alloc | apply bl_drew | exact Below.refl _ _)) (by assumption)); have hb1 := Kp.mk hb'; clear hb'; simp only [errI, Bool.false_eq_true, if_true, if_false]) | (go_at_call 89; (with_reducible refine (HP _ _ _ ?h0 ?h1 ?h2 ?h3).out.mono ?_); (case h0 => go_simp); (case h1 => go_simp); (case h2 => go_simp); (case h3 => go_simp); rintro e w2 ⟨rfl, hb'⟩; have c0 := bl_cell hb' (p := ⟨w.heap.size + 1, 0, none⟩) (v := .int .i64 fx) (by first | (go_simp; done) | exact bl_cell (by repeat (with_reducible first | apply bl_alloc | apply bl_drew | exact Below.refl _ _)) (by assumption)); have c1 := bl_cell hb' (p := ⟨w.heap.size + 1, 1, none⟩) (v := .int .i64 fy) (by first | (go_simp; done) | exact bl_cell (by repeat (with_reducible first | apply bl_alloc | apply bl_drew | exact Below.refl _ _)) (by assumption)); have d0 := bl_cell hb' (p := ⟨w.heap.size + 1 + 1, 0, none⟩) (v := .int .i64 tx) (by first | (go_simp; done) | exact bl_cell (by repeat (with_reducible first | apply bl_alloc | apply bl_drew | exact Below.refl _ _)) (by assumption)); have d1 := bl_cell hb' (p := ⟨w.heap.size + 1 + 1, 1, none⟩) (v := .int .i64 ty) (by first | (go_simp; done) | exact bl_cell (by repeat (with_reducible first | apply bl_alloc | apply bl_drew | exact Below.refl _ _)) (by assumption)); have iq0 := bl_cell hb' (p := ⟨w.heap.size, 0, none⟩) (v := .int .i64 cx) (by first | (go_simp; done) | exact bl_cell (by repeat (with_reducible first | apply bl_alloc | apply bl_drew | exact Below.refl _ _)) (by assumption)); have iq1 := bl_cell hb' (p := ⟨w.heap.size, 1, none⟩) (v := .int .i64 cy) (by first | (go_simp; done) | exact bl_cell (by repeat (with_reducible first | apply bl_alloc | apply bl_drew | exact Below.refl _ _)) (by assumption)); have iq2 := bl_cell hb' (p := ⟨w.heap.size, 2, none⟩) (v := .int .i64 sd) (by first | (go_simp; done) | exact bl_cell (by repeat (with_reducible first | apply bl_alloc | apply bl_drew | exact Below.refl _ _)) (by assumption)); have iq3 := bl_cell hb' (p := ⟨w.heap.size, 3, none⟩) (v := .int .i64 wd) (by first | (go_simp; done) | exact bl_cell (by repeat (with_reducible first | apply bl_alloc | apply bl_drew | exact Below.refl _ _)) (by assumption)); have iq4 := bl_cell hb' (p := ⟨w.heap.size, 4, none⟩) (v := .int .i64 ht) (by first | (go_simp; done) | exact bl_cell (by repeat (with_reducible first | apply bl_alloc | apply bl_drew | exact Below.refl _ _)) (by assumption)); have iq5 := bl_cell hb' (p := ⟨w.heap.size, 5, none⟩) (v := .slice A pb.length c) (by first | (go_simp; done) | exact bl_cell (by repeat (with_reducible first | apply bl_alloc | apply bl_drew | exact Below.refl _ _)) (by assumption)); have iq6 := bl_cell hb' (p := ⟨w.heap.size, 6, none⟩) (v := .slice B pl.length d) (by first | (go_simp; done) | exact bl_cell (by repeat (with_reducible first | apply bl_alloc | apply bl_drew | exact Below.refl _ _)) (by assumption)); have hb2 := Kp.mk hb'; clear hb'))
    go_ret2
    exact ⟨_, rfl, own_nil _ _ _ _, (by repeat (with_reducible first | exact Below.refl _ _ | apply bl_drew | apply bl_drewN | (refine bl_then ?_ hb1.out) | (refine bl_then ?_ hb2.out) | (refine bl_then ?_ hb3.out) | (refine bl_then ?_ hb4.out) | (refine bl_then ?_ hb5.out) | (refine bl_then ?_ hb6.out) | (refine bl_then ?_ hb7.out) | (refine bl_then ?_ hb8.out) | (refine bl_then ?_ hb9.out) | apply bl_alloc | (refine bl_set ?_ (by go_simp))))⟩
  · clear HL
    have HS' := fun W => Kp.mk (HS.out rfl W)
    clear HS
    go_enter Tryz.func36, Tryz.ntmps36
    go_wp2_with (first | (go_at_call 29; (with_reducible refine (HC _ ?hb).out.mono ?_); (case hb => exact (by repeat (first | exact Below.refl _ _ | (with_reducible assumption) | apply bl_drew | apply bl_drewN | apply bl_alloc | (refine bl_set ?_ (by go_simp))))); rintro e w1 ⟨rfl, hb'⟩; have c0 := bl_cell hb' (p := ⟨w.heap.size + 1, 0, none⟩) (v := .int .i64 fx) (by first | (go_simp; done) | exact bl_cell (by repeat (with_reducible first | apply bl_alloc | apply bl_drew | exact Below.refl _ _)) (by assumption)); have c1 := bl_cell hb' (p := ⟨w.heap.size + 1, 1, none⟩) (v := .int .i64 fy) (by first | (go_simp; done) | exact bl_cell (by repeat (with_reducible first | apply bl_alloc | apply bl_drew | exact Below.refl _ _)) (by assumption)); have d0 := bl_cell hb' (p := ⟨w.heap.size + 1 + 1, 0, none⟩) (v := .int .i64 tx) (by first | (go_simp; done) | exact bl_cell (by repeat (with_reducible first | apply bl_alloc | apply bl_drew | exact Below.refl _ _)) (by assumption)); have d1 := bl_cell hb' (p := ⟨w.heap.size + 1 + 1, 1, none⟩) (v := .int .i64 ty) (by first | (go_simp; done) | exact bl_cell (by repeat (with_reducible first | apply bl_alloc | apply bl_drew | exact Below.refl _ _)) (by assumption)); have iq0 := bl_cell hb' (p := ⟨w.heap.size, 0, none⟩) (v := .int .i64 cx) (by first | (go_simp; done) | exact bl_cell (by repeat (with_reducible first | apply bl_alloc | apply bl_drew | exact Below.refl _ _)) (by assumption)); have iq1 := bl_cell hb' (p := ⟨w.heap.size, 1, none⟩) (v := .int .i64 cy) (by first | (go_simp; done) | exact bl_cell (by repeat (with_reducible first | apply bl_alloc | apply bl_drew | exact Below.refl _ _)) (by assumption)); have iq2 := bl_cell hb' (p := ⟨w.heap.size, 2, none⟩) (v := .int .i64 sd) (by first | (go_simp; done) | exact bl_cell (by repeat (with_reducible first | apply bl_alloc | apply bl_drew | exact Below.refl _ _)) (by assumption)); have iq3 := bl_cell hb' (p := ⟨w.heap.size, 3, none⟩) (v := .int .i64 wd) (by first | (go_simp; done) | exact bl_cell (by repeat (with_reducible first | apply bl_alloc | apply bl_drew | exact Below.refl _ _)) (by assumption)); have iq4 := bl_cell hb' (p := ⟨w.heap.size, 4, none⟩) (v := .int .i64 ht) (by first | (go_simp; done) | exact bl_cell (by repeat (with_reducible first | apply bl_alloc | apply bl_drew | exact Below.refl _ _)) (by assumption)); have iq5 := bl_cell hb' (p := ⟨w.heap.size, 5, none⟩) (v := .slice A pb.length c) (by first | (go_simp; done) | exact bl_cell (by repeat (with_reducible first | apply bl_alloc | apply bl_drew | exact Below.refl _ _)) (by assumption)); have iq6 := bl_cell hb' (p := ⟨w.heap.size, 6, none⟩) (v := .slice B pl.length d) (by first | (go_simp; done) | exact bl_cell (by repeat (with_reducible first | apply bl_alloc | apply bl_drew | exact Below.refl _ _)) (by assumption)); have hb1 := Kp.mk hb'; clear hb'; simp only [errI, Bool.false_eq_true, if_true, if_false]) | (go_at_call 89; (with_reducible refine (HP _ _ _ ?h0 ?h1 ?h2 ?h3).out.mono ?_); (case h0 => go_simp); (case h1 => go_simp); (case h2 => go_simp); (case h3 => go_simp); rintro e w2 ⟨rfl, hb'⟩; have c0 := bl_cell hb' (p := ⟨w.heap.size + 1, 0, none⟩) (v := .int .i64 fx) (by first | (go_simp; done) | exact bl_cell (by repeat (with_reducible first | apply bl_alloc | apply bl_drew | exact Below.refl _ _)) (by assumption)); have c1 := bl_cell hb' (p := ⟨w.heap.size + 1, 1, none⟩) (v := .int .i64 fy) (by first | (go_simp; done) | exact bl_cell (by repeat (with_reducible first | apply bl_alloc | apply bl_drew | exact Below.refl _ _)) (by assumption)); have d0 := bl_cell hb' (p := ⟨w.heap.size + 1 + 1, 0, none⟩) (v := .int .i64 tx) (by first | (go_simp; done) | exact bl_cell (by repeat (with_reducible first | apply bl_alloc | apply bl_drew | exact Below.refl _ _)) (by assumption)); have d1 := bl_cell hb' (p := ⟨w.heap.size + 1 + 1, 1, none⟩) (v := .int .i64 ty) (by first | (go_simp; done) | exact bl_cell (by repeat (with_reducible first | apply bl_alloc | apply bl_drew | exact Below.refl _ _)) (by assumption)); have iq0 := bl_cell hb' (p := ⟨w.heap.size, 0, none⟩) (v := .int .i64 cx) (by first | (go_simp; done) | exact bl_cell (by repeat (with_reducible first | apply bl_alloc | apply bl_drew | exact Below.refl _ _)) (by assumption)); have iq1 := bl_cell hb' (p := ⟨w.heap.size, 1, none⟩) (v := .int .i64 cy) (by first | (go_simp; done) | exact bl_cell (by repeat (with_reducible first | apply bl_alloc | apply bl_drew | exact Below.refl _ _)) (by assumption)); have iq2 := bl_cell hb' (p := ⟨w.heap.size, 2, none⟩) (v := .int .i64 sd) (by first | (go_simp; done) | exact bl_cell (by repeat (with_reducible first | apply bl_alloc | apply bl_drew | exact Below.refl _ _)) (by assumption)); have iq3 := bl_cell hb' (p := ⟨w.heap.size, 3, none⟩) (v := .int .i64 wd) (by first | (go_simp; done) | exact bl_cell (by repeat (with_reducible first | apply bl_alloc | apply bl_drew | exact Below.refl _ _)) (by assumption)); have iq4 := bl_cell hb' (p := ⟨w.heap.size, 4, none⟩) (v := .int .i64 ht) (by first | (go_simp; done) | exact bl_cell (by repeat (with_reducible first | apply bl_alloc | apply bl_drew | exact Below.refl _ _)) (by assumption)); have iq5 := bl_cell hb' (p := ⟨w.heap.size, 5, none⟩) (v := .slice A pb.length c) (by first | (go_simp; done) | exact bl_cell (by repeat (with_reducible first | apply bl_alloc | apply bl_drew | exact Below.refl _ _)) (by assumption)); have iq6 := bl_cell hb' (p := ⟨w.heap.size, 6, none⟩) (v := .slice B pl.length d) (by first | (go_simp; done) | exact bl_cell (by repeat (with_reducible first | apply bl_alloc | apply bl_drew | exact Below.refl _ _)) (by assumption)); have hb2 := Kp.mk hb'; clear hb') | (go_at_call 105; (with_reducible refine (HT _).out.mono ?_); rintro e w3 ⟨rfl, rfl⟩; have hb3 := HTB w2) | (go_at_call 104; (with_reducible refine (HS' _).out.mono ?_); rintro e w4 ⟨v, rfl, hown, hnil, hb'⟩; have HO := Kp.mk hown; have hb4 := Kp.mk hb'; clear hown hnil hb'))
    have HB2 : Kp (Below w.heap.size w w2) := ⟨(by repeat (with_reducible first | exact Below.refl _ _ | apply bl_drew | apply bl_drewN | (refine bl_then ?_ hb1.out) | (refine bl_then ?_ hb2.out) | (refine bl_then ?_ hb3.out) | (refine bl_then ?_ hb4.out) | (refine bl_then ?_ hb5.out) | (refine bl_then ?_ hb6.out) | (refine bl_then ?_ hb7.out) | (refine bl_then ?_ hb8.out) | (refine bl_then ?_ hb9.out) | apply bl_alloc | (refine bl_set ?_ (by go_simp))))⟩
    have HW3 := bl_then HB2.out hb3.out
    go_ret2
    exact ⟨v, rfl, own_down HO.out HW3.size, bl_then HW3 hb4.out⟩
end Go.Proofs.YtibaapaglocpjaaGreat.B

end
