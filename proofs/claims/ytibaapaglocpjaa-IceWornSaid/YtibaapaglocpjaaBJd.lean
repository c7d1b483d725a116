import Derived.Test.YtibaapaglocpjaaBJc
/- Proved here: lemmas for the laws' proofs (the texts Jd). No condition. -/
section
set_option linter.unusedSimpArgs false
set_option linter.unusedVariables false
namespace Go.Proofs.Ytibaapaglocpjaa.B
open Go.RowKit Go.Shelf Go.Proofs.YtibaapaglocpjaaW.PrintWords
def tsAt (t0 t1 t2 t3 : Int) (k : Nat) : Int := if k = 0 then t0 else if k = 1 then t1 else if k = 2 then t2 else t3
def cntK (f : Nat → Int) (v : Int) : Nat → Int
  | 0 => 0
  | k + 1 => cntK f v k + if f k = v then 1 else 0
theorem cntK_four (t0 t1 t2 t3 v : Int) : cntK (tsAt t0 t1 t2 t3) v 4 = cnt v t0 t1 t2 t3 := by
  unfold cnt
  simp only [cntK, tsAt]
  simp
theorem cntK_bd (f : Nat → Int) (v : Int) : ∀ k : Nat, 0 ≤ cntK f v k ∧ cntK f v k ≤ k
  | 0 => ⟨Int.le_refl _, Int.le_refl _⟩
  | k + 1 => by
    have := cntK_bd f v k
    simp only [cntK]
    split <;> omega
structure TS (w : World) (F V D : Nat) (fx fy vx vy c0 c1 c2 : Int) (W : World) : Prop where
  bel : Below w.heap.size w W
  hD : w.heap.size ≤ D
  hF : D ≠ F
  hV : D ≠ V
  f0 : W.cell? ⟨F, 0, none⟩ = some (.int .i64 fx)
  f1 : W.cell? ⟨F, 1, none⟩ = some (.int .i64 fy)
  v0 : W.cell? ⟨V, 0, none⟩ = some (.int .i64 vx)
  v1 : W.cell? ⟨V, 1, none⟩ = some (.int .i64 vy)
  s0 : W.cell? ⟨D, 0, none⟩ = some (.int .i64 c0)
  s1 : W.cell? ⟨D, 1, none⟩ = some (.int .i64 c1)
  s2 : W.cell? ⟨D, 2, none⟩ = some (.int .i64 c2)
  z0 : W.frozen? ⟨D, 0, none⟩ = false
  z1 : W.frozen? ⟨D, 1, none⟩ = false
  z2 : W.frozen? ⟨D, 2, none⟩ = false
section
variable {w : World} {F V D : Nat} {fx fy vx vy c0 c1 c2 : Int} {W W' : World}
theorem TS.below (h : TS w F V D fx fy vx vy c0 c1 c2 W) (hb : Below W.heap.size W W') : TS w F V D fx fy vx vy c0 c1 c2 W' := by
  obtain ⟨bel, hD, hF, hV, f0, f1, v0, v1, s0, s1, s2, z0, z1, z2⟩ := h
  exact ⟨bl_then bel hb, hD, hF, hV, bl_cell hb f0, bl_cell hb f1, bl_cell hb v0, bl_cell hb v1, bl_cell hb s0, bl_cell hb s1, bl_cell hb s2, bl_frozen hb (World.block_lt_of_cell? W _ s0) z0, bl_frozen hb (World.block_lt_of_cell? W _ s1) z1, bl_frozen hb (World.block_lt_of_cell? W _ s2) z2⟩
theorem TS.far (h : TS w F V D fx fy vx vy c0 c1 c2 W) (j : Nat) (v : Value) :
    Below w.heap.size w (W.setCell ⟨D, j, none⟩ v) ∧ (W.setCell ⟨D, j, none⟩ v).cell? ⟨F, 0, none⟩ = some (.int .i64 fx) ∧ (W.setCell ⟨D, j, none⟩ v).cell? ⟨F, 1, none⟩ = some (.int .i64 fy) ∧ (W.setCell ⟨D, j, none⟩ v).cell? ⟨V, 0, none⟩ = some (.int .i64 vx) ∧ (W.setCell ⟨D, j, none⟩ v).cell? ⟨V, 1, none⟩ = some (.int .i64 vy) := by
  have far : ∀ (b i : Nat) (u : Value), D ≠ b → W.cell? ⟨b, i, none⟩ = some u → (W.setCell ⟨D, j, none⟩ v).cell? ⟨b, i, none⟩ = some u := fun b i u hb hc => by
    rw [World.cell?_setCell_other _ _ _ _ (by intro e; cases e; exact hb rfl)]; exact hc
  exact ⟨bl_set h.bel h.hD, far _ _ _ h.hF h.f0, far _ _ _ h.hF h.f1, far _ _ _ h.hV h.v0, far _ _ _ h.hV h.v1⟩
theorem TS.put0 (h : TS w F V D fx fy vx vy c0 c1 c2 W) (v : Int) : TS w F V D fx fy vx vy v c1 c2 (W.setCell ⟨D, 0, none⟩ (.int .i64 v)) := by
  obtain ⟨a, b, c, d, e⟩ := h.far 0 (.int .i64 v)
  exact ⟨a, h.hD, h.hF, h.hV, b, c, d, e, World.cell?_setCell_same' _ _ _ (by rw [h.s0]; rfl), by rw [World.cell?_setCell_other _ _ _ _ (by intro e; cases e)]; exact h.s1, by rw [World.cell?_setCell_other _ _ _ _ (by intro e; cases e)]; exact h.s2, by rw [World.frozen?_setCell]; exact h.z0, by rw [World.frozen?_setCell]; exact h.z1, by rw [World.frozen?_setCell]; exact h.z2⟩
theorem TS.put1 (h : TS w F V D fx fy vx vy c0 c1 c2 W) (v : Int) : TS w F V D fx fy vx vy c0 v c2 (W.setCell ⟨D, 1, none⟩ (.int .i64 v)) := by
  obtain ⟨a, b, c, d, e⟩ := h.far 1 (.int .i64 v)
  exact ⟨a, h.hD, h.hF, h.hV, b, c, d, e, by rw [World.cell?_setCell_other _ _ _ _ (by intro e; cases e)]; exact h.s0, World.cell?_setCell_same' _ _ _ (by rw [h.s1]; rfl), by rw [World.cell?_setCell_other _ _ _ _ (by intro e; cases e)]; exact h.s2, by rw [World.frozen?_setCell]; exact h.z0, by rw [World.frozen?_setCell]; exact h.z1, by rw [World.frozen?_setCell]; exact h.z2⟩
theorem TS.put2 (h : TS w F V D fx fy vx vy c0 c1 c2 W) (v : Int) : TS w F V D fx fy vx vy c0 c1 v (W.setCell ⟨D, 2, none⟩ (.int .i64 v)) := by
  obtain ⟨a, b, c, d, e⟩ := h.far 2 (.int .i64 v)
  exact ⟨a, h.hD, h.hF, h.hV, b, c, d, e, by rw [World.cell?_setCell_other _ _ _ _ (by intro e; cases e)]; exact h.s0, by rw [World.cell?_setCell_other _ _ _ _ (by intro e; cases e)]; exact h.s1, World.cell?_setCell_same' _ _ _ (by rw [h.s2]; rfl), by rw [World.frozen?_setCell]; exact h.z0, by rw [World.frozen?_setCell]; exact h.z1, by rw [World.frozen?_setCell]; exact h.z2⟩
end
theorem touchC_in {fx fy tx ty lx ly hx hy : Int} (h : outB fx fy tx ty lx ly hx hy = false) {t0 t1 t2 t3 : Int} (e0 : turnAt fx fy tx ty lx ly = t0) (e1 : turnAt fx fy tx ty hx ly = t1) (e2 : turnAt fx fy tx ty lx hy = t2) (e3 : turnAt fx fy tx ty hx hy = t3) :
    touchC fx fy tx ty lx ly hx hy = (decide (cntK (tsAt t0 t1 t2 t3) (-1) 4 < 4) && decide (cntK (tsAt t0 t1 t2 t3) 1 4 < 4)) := by
  rw [cntK_four, cntK_four]
  unfold touchC
  rw [h, e0, e1, e2, e3]
  rfl
theorem touchC_out {fx fy tx ty lx ly hx hy : Int} (h : outB fx fy tx ty lx ly hx hy = true) : touchC fx fy tx ty lx ly hx hy = false := by
  unfold touchC; rw [h]; rfl
set_option maxHeartbeats 8000000 in
set_option maxRecDepth 100000 in
theorem touches_any (cx cy sd wd ht : Int) (A : Option Addr) (c : Nat) (pb : List Int) (B : Option Addr) (d : Nat) (pl : List Int) (fx fy tx ty k : Int) (w : World) (hcx : -6553600000 ≤ cx ∧ cx ≤ 6553600000) (hcy : -6553600000 ≤ cy ∧ cy ≤ 6553600000) (hs : 1 ≤ sd ∧ sd ≤ 6553600000) (hw : 1 ≤ wd ∧ wd ≤ 256) (hk0 : 0 ≤ k ∧ k < 256 * wd)
    (hfx : -6553600000 ≤ fx ∧ fx ≤ 6553600000) (hfy : -6553600000 ≤ fy ∧ fy ≤ 6553600000) (htx : -6553600000 ≤ tx ∧ tx ≤ 6553600000) (hty : -6553600000 ≤ ty ∧ ty ≤ 6553600000) :
    Calls Try.prog 59 #[.agg #[.int .i64 cx, .int .i64 cy, .int .i64 sd, .int .i64 wd, .int .i64 ht, .slice A pb.length c, .slice B pl.length d], .agg #[.int .i64 fx, .int .i64 fy], .agg #[.int .i64 tx, .int .i64 ty], .int .i64 k] w fun e w' => e = .returned (.bool (touchB cx cy sd wd fx fy tx ty k)) ∧ Below w.heap.size w w' := by
  have hk : 0 ≤ k ∧ k < 65536 := by omega
  have q1 : 0 ≤ k % wd ∧ k % wd < wd := ⟨Int.emod_nonneg _ (by omega), Int.emod_lt_of_pos _ (by omega)⟩
  have q2 : 0 ≤ k / wd ∧ k / wd < 256 := ⟨Int.ediv_nonneg hk.1 (by omega), Int.ediv_lt_of_lt_mul (by omega) hk0.2⟩
  have p1 : 0 ≤ k % wd * sd ∧ k % wd * sd ≤ 256 * 6553600000 := mul_bd (by omega) (by omega) (by omega) (by omega)
  have p2 : 0 ≤ k / wd * sd ∧ k / wd * sd ≤ 256 * 6553600000 := mul_bd (by omega) (by omega) (by omega) (by omega)
  have HC := fun W => Kp.mk (corners_any cx cy sd wd ht A c pb B d pl k W hcx hcy hs hw hk)
  have HF : Kp (touchB cx cy sd wd fx fy tx ty k = touchC fx fy tx ty (cx + k % wd * sd) (cy + k / wd * sd) (cx + k % wd * sd + sd) (cy + k / wd * sd + sd)) := ⟨rfl⟩
  generalize touchB cx cy sd wd fx fy tx ty k = R at *
  obtain ⟨lx, hlx⟩ : ∃ e, e = cx + k % wd * sd := ⟨_, rfl⟩
  obtain ⟨ly, hly⟩ : ∃ e, e = cy + k / wd * sd := ⟨_, rfl⟩
  rw [← hlx, ← hly] at HF
  simp only [← hlx, ← hly] at HC
  obtain ⟨hx, hhx⟩ : ∃ e, e = lx + sd := ⟨_, rfl⟩
  obtain ⟨hy, hhy⟩ : ∃ e, e = ly + sd := ⟨_, rfl⟩
  rw [← hhx, ← hhy] at HF
  simp only [← hhx, ← hhy] at HC
  have HB : Kp ((-6553600000 ≤ lx ∧ hx ≤ 1700000000000 ∧ lx ≤ hx) ∧ (-6553600000 ≤ ly ∧ hy ≤ 1700000000000 ∧ ly ≤ hy)) := ⟨by omega⟩
  have HT : Kp ((-6553600000 ≤ fx ∧ fx ≤ 6553600000) ∧ (-6553600000 ≤ fy ∧ fy ≤ 6553600000) ∧ (-6553600000 ≤ tx ∧ tx ≤ 6553600000) ∧ (-6553600000 ≤ ty ∧ ty ≤ 6553600000)) := ⟨⟨hfx, hfy, htx, hty⟩⟩
  clear hlx hly hhx hhy p1 p2 q1 q2 hk hk0 hfx hfy htx hty hcx hcy hs hw
  have hm1 : (if fx < tx then tx else fx) = maxI fx tx := rfl
  have hm2 : (if tx < fx then tx else fx) = minI fx tx := rfl
  have hm3 : (if fy < ty then ty else fy) = maxI fy ty := rfl
  have hm4 : (if ty < fy then ty else fy) = minI fy ty := rfl
  have HO : Kp (outB fx fy tx ty lx ly hx hy = (decide (maxI fx tx < lx) || decide (hx < minI fx tx) || decide (maxI fy ty < ly) || decide (hy < minI fy ty))) := ⟨rfl⟩
  generalize maxI fx tx = m1 at *
  generalize minI fx tx = m2 at *
  generalize maxI fy ty = m3 at *
  generalize minI fy ty = m4 at *
  have HL : Kp ((decide (m1 < lx) = true ∧ R = false) ∨ (decide (m1 < lx) = false ∧ decide (hx < m2) = true ∧ R = false) ∨ (decide (m1 < lx) = false ∧ decide (hx < m2) = false ∧ decide (m3 < ly) = true ∧ R = false) ∨ (decide (m1 < lx) = false ∧ decide (hx < m2) = false ∧ decide (m3 < ly) = false ∧ decide (hy < m4) = true ∧ R = false) ∨ (decide (m1 < lx) = false ∧ decide (hx < m2) = false ∧ decide (m3 < ly) = false ∧ decide (hy < m4) = false ∧ outB fx fy tx ty lx ly hx hy = false)) := ⟨by
    have h1 := HO.out
    have h2 := HF.out
    cases a : decide (m1 < lx) with
    | true => rw [a] at h1; simp only [Bool.true_or] at h1; rw [touchC_out h1] at h2; exact .inl ⟨rfl, h2⟩
    | false =>
      cases b : decide (hx < m2) with
      | true => rw [a, b] at h1; simp only [Bool.true_or, Bool.or_true] at h1; rw [touchC_out h1] at h2; exact .inr (.inl ⟨rfl, rfl, h2⟩)
      | false =>
        cases c : decide (m3 < ly) with
        | true => rw [a, b, c] at h1; simp only [Bool.true_or, Bool.or_true] at h1; rw [touchC_out h1] at h2; exact .inr (.inr (.inl ⟨rfl, rfl, rfl, h2⟩))
        | false =>
          cases d : decide (hy < m4) with
          | true => rw [a, b, c, d] at h1; simp only [Bool.true_or, Bool.or_true] at h1; rw [touchC_out h1] at h2; exact .inr (.inr (.inr (.inl ⟨rfl, rfl, rfl, rfl, h2⟩)))
          | false => rw [a, b, c, d] at h1; exact .inr (.inr (.inr (.inr ⟨rfl, rfl, rfl, rfl, h1⟩)))⟩
  clear HO
  rcases HL.out with ⟨b1, rfl⟩ | ⟨b1, b2, rfl⟩ | ⟨b1, b2, b3, rfl⟩ | ⟨b1, b2, b3, b4, rfl⟩ | ⟨b1, b2, b3, b4, hout⟩
  rotate_left 4
  · clear HL
    have HOut := Kp.mk hout
    clear hout
    have HM0 := fun W => Kp.mk (Minus_any tx ty fx fy ⟨by have := HT.out; omega, by have := HT.out; omega⟩ ⟨by have := HT.out; omega, by have := HT.out; omega⟩ ⟨by have := HT.out; omega, by have := HT.out; omega⟩ ⟨by have := HT.out; omega, by have := HT.out; omega⟩ ⟨by have := HT.out; omega, by have := HT.out; omega⟩ ⟨by have := HT.out; omega, by have := HT.out; omega⟩ W)
    have HMS : Kp (∀ sx sy : Int, -6553600000 ≤ sx → sx ≤ 1700000000000 → -6553600000 ≤ sy → sy ≤ 1700000000000 → (∀ W, Calls Try.prog 79 #[.agg #[.int .i64 sx, .int .i64 sy], .agg #[.int .i64 fx, .int .i64 fy]] W fun e w' => e = .returned (.tuple #[.agg #[.int .i64 (sx - fx), .int .i64 (sy - fy)], .int .i64 0]) ∧ Below W.heap.size W w') ∧
        (∀ W, Calls Try.prog 80 #[.agg #[.int .i64 (tx - fx), .int .i64 (ty - fy)], .agg #[.int .i64 (sx - fx), .int .i64 (sy - fy)]] W fun e w' => e = .returned (.tuple #[.int .i64 (turnAt fx fy tx ty sx sy), .int .i64 0]) ∧ Below W.heap.size W w')) := ⟨fun sx sy a b c d => by
      have ht := HT.out
      exact ⟨fun W => Minus_any sx sy fx fy ⟨by omega, by omega⟩ ⟨by omega, by omega⟩ ⟨by omega, by omega⟩ ⟨by omega, by omega⟩ ⟨by omega, by omega⟩ ⟨by omega, by omega⟩ W, fun W => Turn_any (tx - fx) (ty - fy) (sx - fx) (sy - fy) ⟨by omega, by omega⟩ ⟨by omega, by omega⟩ ⟨by omega, by omega⟩ ⟨by omega, by omega⟩ W⟩⟩
    obtain ⟨HM1, HU1⟩ := HMS.out lx ly (by have := HB.out; omega) (by have := HB.out; omega) (by have := HB.out; omega) (by have := HB.out; omega)
    obtain ⟨HM2, HU2⟩ := HMS.out hx ly (by have := HB.out; omega) (by have := HB.out; omega) (by have := HB.out; omega) (by have := HB.out; omega)
    obtain ⟨HM3, HU3⟩ := HMS.out lx hy (by have := HB.out; omega) (by have := HB.out; omega) (by have := HB.out; omega) (by have := HB.out; omega)
    obtain ⟨HM4, HU4⟩ := HMS.out hx hy (by have := HB.out; omega) (by have := HB.out; omega) (by have := HB.out; omega) (by have := HB.out; omega)
    have E0 := turnF_three (tx - fx) (ty - fy) (lx - fx) (ly - fy)
    have E1 := turnF_three (tx - fx) (ty - fy) (hx - fx) (ly - fy)
    have E2 := turnF_three (tx - fx) (ty - fy) (lx - fx) (hy - fy)
    have E3 := turnF_three (tx - fx) (ty - fy) (hx - fx) (hy - fy)
    have E0 : turnAt fx fy tx ty lx ly = -1 ∨ turnAt fx fy tx ty lx ly = 0 ∨ turnAt fx fy tx ty lx ly = 1 := E0
    have E1 : turnAt fx fy tx ty hx ly = -1 ∨ turnAt fx fy tx ty hx ly = 0 ∨ turnAt fx fy tx ty hx ly = 1 := E1
    have E2 : turnAt fx fy tx ty lx hy = -1 ∨ turnAt fx fy tx ty lx hy = 0 ∨ turnAt fx fy tx ty lx hy = 1 := E2
    have E3 : turnAt fx fy tx ty hx hy = -1 ∨ turnAt fx fy tx ty hx hy = 0 ∨ turnAt fx fy tx ty hx hy = 1 := E3
    have HR : Kp (R = (decide (cntK (tsAt (turnAt fx fy tx ty lx ly) (turnAt fx fy tx ty hx ly) (turnAt fx fy tx ty lx hy) (turnAt fx fy tx ty hx hy)) (-1) 4 < 4) && decide (cntK (tsAt (turnAt fx fy tx ty lx ly) (turnAt fx fy tx ty hx ly) (turnAt fx fy tx ty lx hy) (turnAt fx fy tx ty hx hy)) 1 4 < 4))) := ⟨HF.out.trans (touchC_in HOut.out rfl rfl rfl rfl)⟩
    clear HMS HF HOut HB HT
    generalize turnAt fx fy tx ty lx ly = t0 at *
    generalize turnAt fx fy tx ty hx ly = t1 at *
    generalize turnAt fx fy tx ty lx hy = t2 at *
    generalize turnAt fx fy tx ty hx hy = t3 at *
    have HS : Kp (∀ j : Nat, j < 4 → ∃ sx sy, (∀ W, (Instr.index 109 (.agg #[.int .i64 lx, .int .i64 ly, .int .i64 hx, .int .i64 ly, .int .i64 lx, .int .i64 hy, .int .i64 hx, .int .i64 hy]) (.int .i64 (j : Int))).run Try.prog W = .ok (.agg #[.int .i64 sx, .int .i64 sy]) W) ∧ (∀ W, Calls Try.prog 79 #[.agg #[.int .i64 sx, .int .i64 sy], .agg #[.int .i64 fx, .int .i64 fy]] W fun e w' => e = .returned (.tuple #[.agg #[.int .i64 (sx - fx), .int .i64 (sy - fy)], .int .i64 0]) ∧ Below W.heap.size W w') ∧
        (∀ W, Calls Try.prog 80 #[.agg #[.int .i64 (tx - fx), .int .i64 (ty - fy)], .agg #[.int .i64 (sx - fx), .int .i64 (sy - fy)]] W fun e w' => e = .returned (.tuple #[.int .i64 (tsAt t0 t1 t2 t3 j), .int .i64 0]) ∧ Below W.heap.size W w') ∧ (tsAt t0 t1 t2 t3 j = -1 ∨ tsAt t0 t1 t2 t3 j = 0 ∨ tsAt t0 t1 t2 t3 j = 1)) := ⟨fun j hj => by
      match j, hj with
      | 0, _ => exact ⟨lx, ly, fun W => by kernel_rfl, HM1, HU1, E0⟩
      | 1, _ => exact ⟨hx, ly, fun W => by kernel_rfl, HM2, HU2, E1⟩
      | 2, _ => exact ⟨lx, hy, fun W => by kernel_rfl, HM3, HU3, E2⟩
      | 3, _ => exact ⟨hx, hy, fun W => by kernel_rfl, HM4, HU4, E3⟩⟩
    clear HM1 HM2 HM3 HM4 HU1 HU2 HU3 HU4 E0 E1 E2 E3
    generalize tsAt t0 t1 t2 t3 = ts at *
    go_enter Try.func59, Try.ntmps59
    go_wp2_with (first | (go_at_call 76; (with_reducible refine (HC _).out.mono ?_); rintro e w1 ⟨rfl, hb'⟩; have x0 := fun o => bl_cell (bl_alloc (Below.refl _ w1) o) (bl_cell hb' (p := ⟨w.heap.size + 1, 0, none⟩) (v := .int .i64 fx) (by first | (go_simp; done) | exact bl_cell (by repeat (with_reducible first | apply bl_alloc | apply bl_drew | exact Below.refl _ _)) (by assumption))); have x1 := fun o => bl_cell (bl_alloc (Below.refl _ w1) o) (bl_cell hb' (p := ⟨w.heap.size + 1, 1, none⟩) (v := .int .i64 fy) (by first | (go_simp; done) | exact bl_cell (by repeat (with_reducible first | apply bl_alloc | apply bl_drew | exact Below.refl _ _)) (by assumption))); have x2 := fun o => bl_cell (bl_alloc (Below.refl _ w1) o) (bl_cell hb' (p := ⟨w.heap.size + 1 + 1, 0, none⟩) (v := .int .i64 tx) (by first | (go_simp; done) | exact bl_cell (by repeat (with_reducible first | apply bl_alloc | apply bl_drew | exact Below.refl _ _)) (by assumption))); have x3 := fun o => bl_cell (bl_alloc (Below.refl _ w1) o) (bl_cell hb' (p := ⟨w.heap.size + 1 + 1, 1, none⟩) (v := .int .i64 ty) (by first | (go_simp; done) | exact bl_cell (by repeat (with_reducible first | apply bl_alloc | apply bl_drew | exact Below.refl _ _)) (by assumption))); have hz2 : w.heap.size + 1 + 1 < w1.heap.size := World.block_lt_of_cell? w1 _ (bl_cell hb' (p := ⟨w.heap.size + 1 + 1, 0, none⟩) (v := .int .i64 tx) (by first | (go_simp; done) | exact bl_cell (by repeat (with_reducible first | apply bl_alloc | apply bl_drew | exact Below.refl _ _)) (by assumption))); have hb1 := Kp.mk hb'; clear hb') | (go_at_call 79; (with_reducible refine (HM0 _).out.mono ?_); rintro e w2 ⟨rfl, hb'⟩; have g0 := fun o o2 => bl_cell (bl_alloc (bl_alloc (Below.refl _ w2) o) o2) (bl_cell hb' (p := ⟨w1.heap.size, 0, none⟩) (v := .int .i64 lx) (by go_simp)); have g1 := fun o o2 => bl_cell (bl_alloc (bl_alloc (Below.refl _ w2) o) o2) (bl_cell hb' (p := ⟨w1.heap.size, 1, none⟩) (v := .int .i64 ly) (by go_simp)); have g2 := fun o o2 => bl_cell (bl_alloc (bl_alloc (Below.refl _ w2) o) o2) (bl_cell hb' (p := ⟨w1.heap.size, 2, none⟩) (v := .int .i64 hx) (by go_simp)); have g3 := fun o o2 => bl_cell (bl_alloc (bl_alloc (Below.refl _ w2) o) o2) (bl_cell hb' (p := ⟨w1.heap.size, 3, none⟩) (v := .int .i64 ly) (by go_simp)); have g4 := fun o o2 => bl_cell (bl_alloc (bl_alloc (Below.refl _ w2) o) o2) (bl_cell hb' (p := ⟨w1.heap.size, 4, none⟩) (v := .int .i64 lx) (by go_simp)); have g5 := fun o o2 => bl_cell (bl_alloc (bl_alloc (Below.refl _ w2) o) o2) (bl_cell hb' (p := ⟨w1.heap.size, 5, none⟩) (v := .int .i64 hy) (by go_simp)); have g6 := fun o o2 => bl_cell (bl_alloc (bl_alloc (Below.refl _ w2) o) o2) (bl_cell hb' (p := ⟨w1.heap.size, 6, none⟩) (v := .int .i64 hx) (by go_simp)); have g7 := fun o o2 => bl_cell (bl_alloc (bl_alloc (Below.refl _ w2) o) o2) (bl_cell hb' (p := ⟨w1.heap.size, 7, none⟩) (v := .int .i64 hy) (by go_simp)); have y0 := bl_cell hb' (p := ⟨w.heap.size + 1, 0, none⟩) (v := .int .i64 fx) (by go_simp); have y1 := bl_cell hb' (p := ⟨w.heap.size + 1, 1, none⟩) (v := .int .i64 fy) (by go_simp); have hb2 := Kp.mk hb'; clear hb'))
    have hup : Below w2.heap.size w2 ((w2.alloc (.cells #[.int .i64 (tx - fx), .int .i64 (ty - fy)] 24)).alloc (.cells #[.int .i64 0, .int .i64 0, .int .i64 0] 115)) := bl_alloc (bl_alloc (Below.refl _ _) _) _
    have HB2 : Kp (Below w.heap.size w w2) := ⟨(by repeat (with_reducible first | exact Below.refl _ _ | apply bl_drew | apply bl_drewN | (refine bl_then ?_ hb1.out) | (refine bl_then ?_ hb2.out) | (refine bl_then ?_ hb3.out) | (refine bl_then ?_ hb4.out) | (refine bl_then ?_ hb5.out) | (refine bl_then ?_ hb6.out) | (refine bl_then ?_ hb7.out) | (refine bl_then ?_ hb8.out) | (refine bl_then ?_ hb9.out) | apply bl_alloc | (refine bl_set ?_ (by go_simp))))⟩
    have hF2 : w.heap.size + 1 < w2.heap.size := World.block_lt_of_cell? w2 _ y0
    have HTS : Kp (TS w (w.heap.size + 1) w2.heap.size (w2.heap.size + 1) fx fy (tx - fx) (ty - fy) 0 0 0 ((w2.alloc (.cells #[.int .i64 (tx - fx), .int .i64 (ty - fy)] 24)).alloc (.cells #[.int .i64 0, .int .i64 0, .int .i64 0] 115))) :=
      ⟨⟨bl_then HB2.out hup, Nat.le_succ_of_le HB2.out.size, (Nat.ne_of_lt (Nat.lt_succ_of_lt hF2)).symm, Nat.succ_ne_self _, bl_cell hup y0, bl_cell hup y1, by go_simp, by go_simp, by go_simp, by go_simp, by go_simp, by go_simp, by go_simp, by go_simp⟩⟩
    clear g0 g1 g2 g3 g4 g5 g6 g7 x0 x1 x2 x3 hz2 hb1 hb2 hup HB2 hF2 y0 y1 HM0 HC E0 E1 E2 E3 hm1 hm2 hm3 hm4 b1 b2 b3 b4
    generalize (w2.alloc (.cells #[.int .i64 (tx - fx), .int .i64 (ty - fy)] 24)).alloc (.cells #[.int .i64 0, .int .i64 0, .int .i64 0] 115) = wS at *
    generalize w2.heap.size = V at *
    generalize V + 1 = D at *
    generalize w1.heap.size = U at *
    go_loopw [72] (fun i wr => ∃ k : Nat, k ≤ 4 ∧ i = .int .i64 k ∧ Kp (TS w (w.heap.size + 1) V D fx fy (tx - fx) (ty - fy) (cntK ts (-1) k) (cntK ts 0 k) (cntK ts 1 k) wr)) (fun i _ => 4 - (intOf i).toNat)
    case atStart => exact ⟨0, by omega, rfl, HTS⟩
    case round =>
      clear HTS
      obtain ⟨k, hk, rfl, HTS⟩ := hrel
      by_cases hlt : k < 4
      · obtain ⟨sx, sy, hix, hM, hU, hcase⟩ := HS.out k hlt
        have HM := fun W => Kp.mk (hM W)
        have q0 := cntK_bd ts (-1) k
        have q1 := cntK_bd ts 0 k
        have q2 := cntK_bd ts 1 k
        obtain ⟨n0, n0'⟩ := q0
        obtain ⟨n1, n1'⟩ := q1
        obtain ⟨n2, n2'⟩ := q2
        have k0 : (k : Int) ≤ 3 := by omega
        have HN : Kp ((cntK ts (-1) (k + 1) = cntK ts (-1) k + if ts k = -1 then 1 else 0) ∧ (cntK ts 0 (k + 1) = cntK ts 0 k + if ts k = 0 then 1 else 0) ∧ (cntK ts 1 (k + 1) = cntK ts 1 k + if ts k = 1 then 1 else 0)) := ⟨⟨rfl, rfl, rfl⟩⟩
        clear hM HS HR
        generalize cntK ts (-1) k = c0 at *
        generalize cntK ts 0 k = c1 at *
        generalize cntK ts 1 k = c2 at *
        generalize ts k = tk at *
        obtain ⟨bel, hD, hF, hV, f0, f1, v0, v1, s0, s1, s2, z0, z1, z2⟩ := HTS.out
        have a0 := fun o => bl_cell (bl_alloc (Below.refl _ wr) o) f0
        have a1 := fun o => bl_cell (bl_alloc (Below.refl _ wr) o) f1
        clear bel hD hF hV f0 f1 v0 v1 s0 s1 s2 z0 z1 z2
        rcases hcase with rfl | rfl | rfl
        all_goals
          have HU := fun W => Kp.mk (hU W)
          clear hU
          go_wp2_with (first | (go_at_call 79; (with_reducible refine (HM _).out.mono ?_); rintro e w3 ⟨rfl, hb'⟩; have T3 := Kp.mk (HTS.out.below (bl_then (bl_alloc (Below.refl _ wr) _) hb')); have b0 := fun o => bl_cell (bl_alloc (Below.refl _ w3) o) T3.out.v0; have b1 := fun o => bl_cell (bl_alloc (Below.refl _ w3) o) T3.out.v1; clear hb') | (go_at_call 80; (with_reducible refine (HU _).out.mono ?_); rintro e w4 ⟨rfl, hb'⟩; have T4 := Kp.mk (T3.out.below (bl_then (bl_alloc (Below.refl _ w3) _) hb')); obtain ⟨bel, hD, hF, hV, f0, f1, v0, v1, s0, s1, s2, z0, z1, z2⟩ := T4.out; clear bel hD hF hV f0 f1 v0 v1 hb'))
          go_roundw
          case measure => simp [intOf]; omega
          case rel => exact ⟨k + 1, by omega, by go_num, ⟨by rw [HN.out.1, HN.out.2.1, HN.out.2.2]; first | simpa using T4.out.put0 (c0 + 1) | simpa using T4.out.put1 (c1 + 1) | simpa using T4.out.put2 (c2 + 1)⟩⟩
      · obtain rfl : k = 4 := by omega
        obtain ⟨bel, hD, hF, hV, f0, f1, v0, v1, s0, s1, s2, z0, z1, z2⟩ := HTS.out
        have HBel := Kp.mk bel
        clear HTS HS bel hD hF hV f0 f1 v0 v1 z0 z1 z2 s1
        generalize cntK ts (-1) 4 = c0 at *
        generalize cntK ts 0 4 = c1 at *
        generalize cntK ts 1 4 = c2 at *
        have HRr := HR.out
        clear HR
        cases hA : decide (c0 < 4) <;> cases hB : decide (c2 < 4) <;> rw [hA, hB] at HRr <;> subst HRr
        all_goals
          go_wp2
          go_ret
          exact ⟨rfl, HBel.out⟩
  all_goals
    clear HL HF HB HT
    go_enter Try.func59, Try.ntmps59
    go_wp2_with (go_at_call 76; (with_reducible refine (HC _).out.mono ?_); rintro e w1 ⟨rfl, hb'⟩; have x0 := fun o => bl_cell (bl_alloc (Below.refl _ w1) o) (bl_cell hb' (p := ⟨w.heap.size + 1, 0, none⟩) (v := .int .i64 fx) (by first | (go_simp; done) | exact bl_cell (by repeat (with_reducible first | apply bl_alloc | apply bl_drew | exact Below.refl _ _)) (by assumption))); have x1 := fun o => bl_cell (bl_alloc (Below.refl _ w1) o) (bl_cell hb' (p := ⟨w.heap.size + 1, 1, none⟩) (v := .int .i64 fy) (by first | (go_simp; done) | exact bl_cell (by repeat (with_reducible first | apply bl_alloc | apply bl_drew | exact Below.refl _ _)) (by assumption))); have x2 := fun o => bl_cell (bl_alloc (Below.refl _ w1) o) (bl_cell hb' (p := ⟨w.heap.size + 1 + 1, 0, none⟩) (v := .int .i64 tx) (by first | (go_simp; done) | exact bl_cell (by repeat (with_reducible first | apply bl_alloc | apply bl_drew | exact Below.refl _ _)) (by assumption))); have x3 := fun o => bl_cell (bl_alloc (Below.refl _ w1) o) (bl_cell hb' (p := ⟨w.heap.size + 1 + 1, 1, none⟩) (v := .int .i64 ty) (by first | (go_simp; done) | exact bl_cell (by repeat (with_reducible first | apply bl_alloc | apply bl_drew | exact Below.refl _ _)) (by assumption))); have hb1 := Kp.mk hb'; clear hb')
    go_ret
    exact ⟨rfl, (by repeat (with_reducible first | exact Below.refl _ _ | apply bl_drew | apply bl_drewN | (refine bl_then ?_ hb1.out) | (refine bl_then ?_ hb2.out) | (refine bl_then ?_ hb3.out) | (refine bl_then ?_ hb4.out) | (refine bl_then ?_ hb5.out) | (refine bl_then ?_ hb6.out) | (refine bl_then ?_ hb7.out) | (refine bl_then ?_ hb8.out) | (refine bl_then ?_ hb9.out) | apply bl_alloc | (refine bl_set ?_ (by go_simp))))⟩
end Go.Proofs.Ytibaapaglocpjaa.B

end
