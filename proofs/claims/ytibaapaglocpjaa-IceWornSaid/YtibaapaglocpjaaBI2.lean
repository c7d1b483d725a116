import Derived.Deep.LoopGhost
import Derived.Test.YtibaapaglocpjaaBI1
/- Proved here: lemmas for the laws' proofs (the texts Ig Ih Ii). No condition. -/
section
set_option linter.unusedSimpArgs false
set_option linter.unusedVariables false
namespace Go.Proofs.Ytibaapaglocpjaa.B
open Go.RowKit Go.Shelf Go.Proofs.YtibaapaglocpjaaW.PrintWords
structure WF (w : World) (G : Nat) (cx cy sd wd ht : Int) (A : Option Addr) (c : Nat) (pb : List Int) (B : Option Addr) (d : Nat) (pl : List Int) (fl ke sw be we x sY : Int) (W : World) : Prop where
  bel : Below w.heap.size w W
  i0 : W.cell? ⟨w.heap.size, 0, none⟩ = some (.int .i64 cx)
  i1 : W.cell? ⟨w.heap.size, 1, none⟩ = some (.int .i64 cy)
  i2 : W.cell? ⟨w.heap.size, 2, none⟩ = some (.int .i64 sd)
  i3 : W.cell? ⟨w.heap.size, 3, none⟩ = some (.int .i64 wd)
  i4 : W.cell? ⟨w.heap.size, 4, none⟩ = some (.int .i64 ht)
  i5 : W.cell? ⟨w.heap.size, 5, none⟩ = some (.slice A pb.length c)
  i6 : W.cell? ⟨w.heap.size, 6, none⟩ = some (.slice B pl.length d)
  g0 : W.cell? ⟨w.heap.size + 1, 0, none⟩ = some (.int .i64 fl)
  g1 : W.cell? ⟨w.heap.size + 1, 1, none⟩ = some (.int .i64 ke)
  g2 : W.cell? ⟨w.heap.size + 1, 2, none⟩ = some (.int .i64 sw)
  g3 : W.cell? ⟨w.heap.size + 1, 3, none⟩ = some (.int .i64 be)
  g4 : W.cell? ⟨w.heap.size + 1, 4, none⟩ = some (.int .i64 we)
  p0 : W.cell? ⟨G, 0, none⟩ = some (.int .i64 x)
  p1 : W.cell? ⟨G, 1, none⟩ = some (.int .i64 sY)
  fz : W.frozen? ⟨G, 1, none⟩ = false
theorem WF.below {w : World} {G : Nat} {cx cy sd wd ht : Int} {A : Option Addr} {c : Nat} {pb : List Int} {B : Option Addr} {d : Nat} {pl : List Int} {fl ke sw be we x sY : Int} {W W' : World} (h : WF w G cx cy sd wd ht A c pb B d pl fl ke sw be we x sY W) (hb : Below W.heap.size W W') : WF w G cx cy sd wd ht A c pb B d pl fl ke sw be we x sY W' := by
  obtain ⟨bel, i0, i1, i2, i3, i4, i5, i6, g0, g1, g2, g3, g4, p0, p1, fz⟩ := h
  exact ⟨bl_then bel hb, bl_cell hb i0, bl_cell hb i1, bl_cell hb i2, bl_cell hb i3, bl_cell hb i4, bl_cell hb i5, bl_cell hb i6, bl_cell hb g0, bl_cell hb g1, bl_cell hb g2, bl_cell hb g3, bl_cell hb g4, bl_cell hb p0, bl_cell hb p1, bl_frozen hb (World.block_lt_of_cell? W _ p1) fz⟩
theorem WF.put {w : World} {G : Nat} {cx cy sd wd ht : Int} {A : Option Addr} {c : Nat} {pb : List Int} {B : Option Addr} {d : Nat} {pl : List Int} {fl ke sw be we x sY : Int} {W : World} (h : WF w G cx cy sd wd ht A c pb B d pl fl ke sw be we x sY W) (hG : w.heap.size + 1 < G) (v : Int) : WF w G cx cy sd wd ht A c pb B d pl fl ke sw be we x v (W.setCell ⟨G, 1, none⟩ (.int .i64 v)) := by
  obtain ⟨bel, i0, i1, i2, i3, i4, i5, i6, g0, g1, g2, g3, g4, p0, p1, fz⟩ := h
  have n0 : w.heap.size ≠ G := by omega
  have n1 : w.heap.size + 1 ≠ G := by omega
  have far : ∀ (b j : Nat) (u : Value), b ≠ G → W.cell? ⟨b, j, none⟩ = some u → (W.setCell ⟨G, 1, none⟩ (.int .i64 v)).cell? ⟨b, j, none⟩ = some u := fun b j u hb hc => by
    rw [World.cell?_setCell_other _ _ _ _ (by intro e; cases e; exact hb rfl)]; exact hc
  exact ⟨bl_set bel (by simp; omega), far _ _ _ n0 i0, far _ _ _ n0 i1, far _ _ _ n0 i2, far _ _ _ n0 i3, far _ _ _ n0 i4, far _ _ _ n0 i5, far _ _ _ n0 i6, far _ _ _ n1 g0, far _ _ _ n1 g1, far _ _ _ n1 g2, far _ _ _ n1 g3, far _ _ _ n1 g4,
    by rw [World.cell?_setCell_other _ _ _ _ (by intro e; cases e)]; exact p0, World.cell?_setCell_same' _ _ _ (by rw [p1]; rfl), by rw [World.frozen?_setCell]; exact fz⟩
end Go.Proofs.Ytibaapaglocpjaa.B

end
section
set_option linter.unusedSimpArgs false
set_option linter.unusedVariables false
namespace Go.Proofs.Ytibaapaglocpjaa.B
open Go.RowKit Go.Shelf Go.Proofs.YtibaapaglocpjaaW.PrintWords
set_option maxHeartbeats 4000000 in
set_option maxRecDepth 100000 in
theorem Weight_ok (cx cy sd wd ht : Int) (A : Option Addr) (c : Nat) (pb : List Int) (B : Option Addr) (d : Nat) (pl : List Int) (fl ke sw be we x y te : Int) (w : World) (hr1 : ReadsInt w .i64 A pb.length pb) (hc1 : pb.length ≤ c) (hr2 : ReadsInt w .i64 B pl.length pl) (hc2 : pl.length ≤ d) (HWB : Kp (true = ((iceB cx cy sd wd ht pb pl && (grainB fl ke sw be we && plB x y)) && (decide (y < te) && decide (te ≤ 6553600000))))) (R : Int × Int)
    (HF : Kp (R = (((rootF ((2 * wSum (slowAt cx cy sd wd ht pb pl fl ke sw x) cy sd ht te 300 0 y 0).toNat * 65536) 2 : Nat) : Int), 0))) :
    Calls Try.prog 15 #[.agg #[.int .i64 cx, .int .i64 cy, .int .i64 sd, .int .i64 wd, .int .i64 ht, .slice A pb.length c, .slice B pl.length d], .agg #[.int .i64 fl, .int .i64 ke, .int .i64 sw, .int .i64 be, .int .i64 we], .agg #[.int .i64 x, .int .i64 y], .int .i64 te] w fun e w' => e = .returned (.tuple #[.int .i64 R.1, .int .i64 R.2]) ∧ Below w.heap.size w w' := by
  have HRt := fun bk cc W h h0 h1 => Kp.mk (right_any cx cy sd wd ht A c pb B d pl fl ke sw be we (.slice (some ⟨bk, 0, none⟩) 1 cc) (plB x y) W (hr1.below h) hc1 (hr2.below h) hc2 (fun W' hW => placed_1 x y bk cc W' (bl_cell hW h0) (bl_cell hW h1)))
  have hwb := HWB.out
  simp only [Bool.true_eq, Bool.and_eq_true, decide_eq_true_eq] at hwb
  obtain ⟨⟨hi, hg, hpl⟩, hlt, hle⟩ := hwb
  have HI := iceB_iff.1 hi
  have HGr := grainB_iff.1 hg
  have hpl2 := plB_iff.1 hpl
  rw [hi, hg, hpl] at HRt
  simp only [Bool.and_self] at HRt
  have HR := HF
  have HSl : Kp (∀ sY, -6553600000 ≤ sY → sY ≤ 6553600000 → (0 ≤ slowAt cx cy sd wd ht pb pl fl ke sw x sY ∧ slowAt cx cy sd wd ht pb pl fl ke sw x sY ≤ 65536) ∧ ∀ W, Below w.heap.size w W → Calls Try.prog 33 #[.agg #[.int .i64 cx, .int .i64 cy, .int .i64 sd, .int .i64 wd, .int .i64 ht, .slice A pb.length c, .slice B pl.length d], .agg #[.int .i64 fl, .int .i64 ke, .int .i64 sw, .int .i64 be, .int .i64 we], .agg #[.int .i64 x, .int .i64 sY]] W fun e w' => e = .returned (.int .i64 (slowAt cx cy sd wd ht pb pl fl ke sw x sY)) ∧ Below W.heap.size W w') := ⟨fun sY h0 h1 => by
    have hp : plB x sY = true := plB_iff.2 ⟨hpl2.1, h0, h1⟩
    have p := grV_bd (cx := cx) (cy := cy) (sd := sd) (wd := wd) (ht := ht) (x := x) (y := sY) HI.g1
    have q := grV_bd (cx := cx) (cy := cy) (sd := sd) (wd := wd) (ht := ht) (x := x) (y := sY) HI.g2
    have sb := slowF_bd HGr p.1 p.2 q.1 q.2
    have := HGr.f1
    exact ⟨⟨sb.1, by unfold slowAt; omega⟩, fun W hW => slow_any cx cy sd wd ht A c pb B d pl fl ke sw be we x sY W (hr1.below hW) hc1 (hr2.below hW) hc2 (HI.at hp) HI.n1 HI.n2 HI.g1 HI.g2 HGr⟩⟩
  obtain ⟨cx0, cx1, cy0, cy1, s0, s1, w0, w1, h0, h1, n1, n2, g1, g2⟩ := HI
  have y0 := hpl2.2.1
  clear HF HWB hr1 hr2 hc1 hc2 hi hg hpl hpl2 HGr w0 w1 n1 n2 g1 g2
  generalize slowAt cx cy sd wd ht pb pl fl ke sw x = sl at *
  have hd1 : decide (te ≤ y) = false := decide_eq_false (by omega)
  have hd2 : decide (6553600000 < te) = false := decide_eq_false (by omega)
  go_enter Try.func15, Try.ntmps15
  go_wp2
  go_step3
  go_wp2_with (first | (go_at_call 31; (with_reducible refine (HRt _ _ _ ?hb ?h0 ?h1).out.mono ?_); (case hb => exact (by repeat (first | exact Below.refl _ _ | (with_reducible assumption) | apply bl_drew | apply bl_drewN | apply bl_alloc | (refine bl_set ?_ (by go_simp))))); (case h0 => go_simp); (case h1 => go_simp); rintro e w1 ⟨rfl, hb'⟩; have c0 := bl_cell hb' (p := ⟨w.heap.size + 1 + 1, 0, none⟩) (v := .int .i64 x) (by first | (go_simp; done) | exact bl_cell (by repeat (with_reducible first | apply bl_alloc | apply bl_drew | exact Below.refl _ _)) (by assumption)); have c1 := bl_cell hb' (p := ⟨w.heap.size + 1 + 1, 1, none⟩) (v := .int .i64 y) (by first | (go_simp; done) | exact bl_cell (by repeat (with_reducible first | apply bl_alloc | apply bl_drew | exact Below.refl _ _)) (by assumption)); have iq0 := bl_cell hb' (p := ⟨w.heap.size, 0, none⟩) (v := .int .i64 cx) (by first | (go_simp; done) | exact bl_cell (by repeat (with_reducible first | apply bl_alloc | apply bl_drew | exact Below.refl _ _)) (by assumption)); have iq1 := bl_cell hb' (p := ⟨w.heap.size, 1, none⟩) (v := .int .i64 cy) (by first | (go_simp; done) | exact bl_cell (by repeat (with_reducible first | apply bl_alloc | apply bl_drew | exact Below.refl _ _)) (by assumption)); have iq2 := bl_cell hb' (p := ⟨w.heap.size, 2, none⟩) (v := .int .i64 sd) (by first | (go_simp; done) | exact bl_cell (by repeat (with_reducible first | apply bl_alloc | apply bl_drew | exact Below.refl _ _)) (by assumption)); have iq3 := bl_cell hb' (p := ⟨w.heap.size, 3, none⟩) (v := .int .i64 wd) (by first | (go_simp; done) | exact bl_cell (by repeat (with_reducible first | apply bl_alloc | apply bl_drew | exact Below.refl _ _)) (by assumption)); have iq4 := bl_cell hb' (p := ⟨w.heap.size, 4, none⟩) (v := .int .i64 ht) (by first | (go_simp; done) | exact bl_cell (by repeat (with_reducible first | apply bl_alloc | apply bl_drew | exact Below.refl _ _)) (by assumption)); have iq5 := bl_cell hb' (p := ⟨w.heap.size, 5, none⟩) (v := .slice A pb.length c) (by first | (go_simp; done) | exact bl_cell (by repeat (with_reducible first | apply bl_alloc | apply bl_drew | exact Below.refl _ _)) (by assumption)); have iq6 := bl_cell hb' (p := ⟨w.heap.size, 6, none⟩) (v := .slice B pl.length d) (by first | (go_simp; done) | exact bl_cell (by repeat (with_reducible first | apply bl_alloc | apply bl_drew | exact Below.refl _ _)) (by assumption)); have gq0 := bl_cell hb' (p := ⟨w.heap.size + 1, 0, none⟩) (v := .int .i64 fl) (by first | (go_simp; done) | exact bl_cell (by repeat (with_reducible first | apply bl_alloc | apply bl_drew | exact Below.refl _ _)) (by assumption)); have gq1 := bl_cell hb' (p := ⟨w.heap.size + 1, 1, none⟩) (v := .int .i64 ke) (by first | (go_simp; done) | exact bl_cell (by repeat (with_reducible first | apply bl_alloc | apply bl_drew | exact Below.refl _ _)) (by assumption)); have gq2 := bl_cell hb' (p := ⟨w.heap.size + 1, 2, none⟩) (v := .int .i64 sw) (by first | (go_simp; done) | exact bl_cell (by repeat (with_reducible first | apply bl_alloc | apply bl_drew | exact Below.refl _ _)) (by assumption)); have gq3 := bl_cell hb' (p := ⟨w.heap.size + 1, 3, none⟩) (v := .int .i64 be) (by first | (go_simp; done) | exact bl_cell (by repeat (with_reducible first | apply bl_alloc | apply bl_drew | exact Below.refl _ _)) (by assumption)); have gq4 := bl_cell hb' (p := ⟨w.heap.size + 1, 4, none⟩) (v := .int .i64 we) (by first | (go_simp; done) | exact bl_cell (by repeat (with_reducible first | apply bl_alloc | apply bl_drew | exact Below.refl _ _)) (by assumption)); have hz2 : w.heap.size + 1 + 1 < w1.heap.size := World.block_lt_of_cell? w1 _ c0; have hz1 : w.heap.size + 1 < w1.heap.size := World.block_lt_of_cell? w1 _ gq0; have hz0 : w.heap.size < w1.heap.size := World.block_lt_of_cell? w1 _ iq0; have hb1 := Kp.mk hb'; clear hb'))
  go_region
  go_wp2
  go_step3
  go_wp2
  have HBW : Kp (Below w.heap.size w w1) := ⟨(by repeat (with_reducible first | exact Below.refl _ _ | apply bl_drew | apply bl_drewN | (refine bl_then ?_ hb1.out) | (refine bl_then ?_ hb2.out) | (refine bl_then ?_ hb3.out) | (refine bl_then ?_ hb4.out) | (refine bl_then ?_ hb5.out) | (refine bl_then ?_ hb6.out) | (refine bl_then ?_ hb7.out) | (refine bl_then ?_ hb8.out) | (refine bl_then ?_ hb9.out) | apply bl_alloc | (refine bl_set ?_ (by go_simp))))⟩
  have hup : Below w1.heap.size w1 (w1.alloc (.cells #[.int .i64 x, .int .i64 y] 24)).drew := bl_drew (bl_alloc (Below.refl _ _) _)
  have HWF : Kp (WF w w1.heap.size cx cy sd wd ht A c pb B d pl fl ke sw be we x y (w1.alloc (.cells #[.int .i64 x, .int .i64 y] 24)).drew) := ⟨⟨bl_then HBW.out hup, bl_cell hup iq0, bl_cell hup iq1, bl_cell hup iq2, bl_cell hup iq3, bl_cell hup iq4, bl_cell hup iq5, bl_cell hup iq6, bl_cell hup gq0, bl_cell hup gq1, bl_cell hup gq2, bl_cell hup gq3, bl_cell hup gq4, by go_simp, by go_simp, by go_simp⟩⟩
  have HGz : Kp (w.heap.size + 1 < w1.heap.size) := ⟨hz1⟩
  have hg0 : w.heap.size ≠ w1.heap.size := by omega
  have hg1 : w.heap.size + 1 ≠ w1.heap.size := by omega
  clear c0 c1 iq0 iq1 iq2 iq3 iq4 iq5 iq6 gq0 gq1 gq2 gq3 gq4 hb1 HBW hup hz0 hz1 hz2
  generalize (w1.alloc (.cells #[.int .i64 x, .int .i64 y] 24)).drew = wS at *
  generalize w1.heap.size = G at *
  have HT : Kp (∃ T, T = wSum sl cy sd ht te 300 0 y 0) := ⟨_, rfl⟩
  obtain ⟨T, hT⟩ := HT.out
  rw [← hT] at HR
  have HT2 : Kp (wSum sl cy sd ht te 300 0 y 0 = T) := ⟨hT.symm⟩
  clear HT hT
  go_loopg [10, 12, 13, 14, 15, 16] 300 (fun k s b r _nx _p _q wr => ∃ rr sY acc : Int, s = .int .i64 acc ∧ b = .int .i64 (cy + rr * sd) ∧ r = .int .i64 rr ∧ Kp (wSum sl cy sd ht te k rr sY acc = T) ∧ Kp (0 ≤ rr ∧ rr ≤ ht ∧ y ≤ sY ∧ sY < te ∧ 0 ≤ acc ∧ acc ≤ sY - y ∧ ((rr = 0 ∧ k = 300) ∨ (cy + rr * sd ≤ sY ∧ 299 ≤ k + rr))) ∧ Kp (WF w G cx cy sd wd ht A c pb B d pl fl ke sw be we x sY wr))
  case atStart =>
    exact ⟨0, y, 0, rfl, by rw [Int.zero_mul, Int.add_zero], rfl, HT2, ⟨by omega⟩, HWF⟩
  case round =>
    clear HWF HT2
    obtain ⟨rr, sY, acc, rfl, rfl, rfl, HSum, HBd, HW⟩ := hrel
    obtain ⟨r0, r1, y1, y2, a0, a1, hcase⟩ := HBd.out
    have HCase := Kp.mk hcase
    clear hcase HBd
    have hY : decide (sY < te) = true := decide_eq_true y2
    obtain ⟨z0, z1, z2, z3, z4, z5, z6, z7, z8, z9, z10, z11, z12, z13, z14, z15⟩ := HW.out
    have Z0 := Kp.mk z0
    clear z0
    go_wp2
    go_step3
    go_wp2
    go_step3
    go_wp2
    have HGk : Kp (∃ gk1, gk = gk1 + 1) := ⟨⟨gk - 1, by have := HCase.out; omega⟩⟩
    obtain ⟨gk1, rfl⟩ := HGk.out
    clear HGk
    go_loopg [12, 13, 14] 300 (fun j b r nx wr2 => ∃ r2 n0 : Int, b = .int .i64 (cy + r2 * sd) ∧ r = .int .i64 r2 ∧ nx = .int .i64 n0 ∧ Kp (n0 = te) ∧ Kp (skipR cy sd ht sY j r2 = skipR cy sd ht sY 300 rr) ∧ Kp (rr ≤ r2 ∧ r2 ≤ ht + 1 ∧ 300 ≤ j + r2) ∧ Kp (WF w G cx cy sd wd ht A c pb B d pl fl ke sw be we x sY wr2))
    case atStart => exact ⟨rr, te, rfl, rfl, rfl, ⟨rfl⟩, ⟨rfl⟩, ⟨by omega⟩, HW⟩
    case round =>
      clear HW Z0 z1 z2 z3 z4 z5 z6 z7 z8 z9 z10 z11 z12 z13 z14 z15
      obtain ⟨r2, n0, rfl, rfl, rfl, HN0, HSk, HB2, HW2⟩ := hrel
      have b2 := HB2.out
      have hmr : 0 ≤ r2 * sd ∧ r2 * sd ≤ 257 * 6553600000 := mul_bd (by omega) (by omega) (by omega) (by omega)
      obtain ⟨z0, z1, z2, z3, z4, z5, z6, z7, z8, z9, z10, z11, z12, z13, z14, z15⟩ := HW2.out
      have Z0 := Kp.mk z0
      clear z0 b2
      have HmR := Kp.mk hmr
      have hX : (r2 ≤ ht ∧ cy + r2 * sd ≤ sY) ∨ (r2 ≤ ht ∧ ¬ cy + r2 * sd ≤ sY ∧ cy + r2 * sd < te) ∨ (r2 ≤ ht ∧ ¬ cy + r2 * sd ≤ sY ∧ ¬ cy + r2 * sd < te) ∨ ¬ r2 ≤ ht := by omega
      rcases hX with hX | hX | hX | hX
      · have dA : decide (r2 ≤ ht) = true := decide_eq_true hX.1
        have dB : decide (cy + r2 * sd ≤ sY) = true := decide_eq_true hX.2
        have HX := Kp.mk hX
        have HGk : Kp (∃ g, gk = g + 1) := ⟨⟨gk - 1, by have := HB2.out; omega⟩⟩
        obtain ⟨g2, rfl⟩ := HGk.out
        have HSk2 : Kp (skipR cy sd ht sY g2 (r2 + 1) = skipR cy sd ht sY 300 rr) := ⟨by rw [← HSk.out, skipR_go HX.out]⟩
        have HB3 : Kp (rr ≤ r2 + 1 ∧ r2 + 1 ≤ ht + 1 ∧ 300 ≤ (g2 : Int) + (r2 + 1)) := ⟨by have := HB2.out; have := HX.out; omega⟩
        have HW3 := fun n => Kp.mk (HW2.out.below (bl_drewN (Below.refl _ wr) n))
        have hwr1 : wrap64 (r2 + 1) = r2 + 1 := by have := HB2.out; unfold wrap64; omega
        have hwr2 : wrap64 (cy + r2 * sd + sd) = cy + (r2 + 1) * sd := by rw [Int.add_mul, Int.one_mul, ← Int.add_assoc]; unfold wrap64; omega
        clear hX HSk HB2 HX hmr HSum HCase
        go_wp2
        go_quiet (fail)
        go_wp2
        go_roundg g2
        case measure => omega
        case rel => exact ⟨r2 + 1, n0, by rw [hwr2], by rw [hwr1], rfl, HN0, HSk2, HB3, HW3 _⟩
      · have dA : decide (r2 ≤ ht) = true := decide_eq_true hX.1
        have dB : decide (cy + r2 * sd ≤ sY) = false := decide_eq_false hX.2.1
        have dC : decide (cy + r2 * sd < te) = true := decide_eq_true hX.2.2
        have hst : skipR cy sd ht sY 300 rr = r2 := by rw [← HSk.out]; exact skipR_stop (fun h => hX.2.1 h.2)
        have hnv : nextY cy sd ht te r2 = cy + r2 * sd := if_pos ⟨hX.1, hX.2.2⟩
        have HSum2 : Kp (wSum sl cy sd ht te gk1 r2 (cy + r2 * sd) (acc + mulF (sl sY) (cy + r2 * sd - sY) 2) = T) := ⟨by rw [← HSum.out]; exact (wSum_go hst hnv (by omega)).symm⟩
        have HBd2 : Kp (0 ≤ r2 ∧ r2 ≤ ht ∧ y ≤ cy + r2 * sd ∧ cy + r2 * sd < te ∧ 0 ≤ acc ∧ acc ≤ sY - y ∧ cy + r2 * sd ≤ cy + r2 * sd ∧ (299 ≤ (gk1 : Int) + r2)) := ⟨by
          have h1 := HB2.out
          have h2 := hX
          rcases HCase.out with h3 | h3
          · omega
          · have : r2 ≠ rr := by intro e; subst e; omega
            omega⟩
        clear hst hnv HSum HSk HCase
        go_wp2
        have HNv : Kp (sY < cy + r2 * sd ∧ cy + r2 * sd < te) := ⟨by omega⟩
        have HBr : Kp (∃ nv, nv = cy + r2 * sd) := ⟨_, rfl⟩
        obtain ⟨nv, hnv⟩ := HBr.out
        have HNe := Kp.mk hnv
        rw [← hnv]
        rw [← hnv] at HSum2 HNv HBd2
        clear hnv hX hmr dA dB dC
        obtain ⟨v1, v2⟩ := HNv.out
        have HW2d := Kp.mk (HW2.out.below (bl_drew (Below.refl _ wr)))
        have HS2 := Kp.mk (HSl.out sY (by omega) (by omega)).2
        obtain ⟨sv0, sv1⟩ := (HSl.out sY (by omega) (by omega)).1
        have HM := fun W => Kp.mk (Mul_2 (sl sY) (nv - sY) ⟨by omega, by omega⟩ ⟨by omega, by omega⟩ (by have a := nabs_le (a := sl sY) (m := 65536) (by omega) (by omega); have b := nabs_le (a := nv - sY) (m := 13107200000) (by omega) (by omega); have := mul_bd (nabs_nonneg (sl sY)) a (nabs_nonneg (nv - sY)) b; omega) W)
        obtain ⟨P0, P1⟩ := mulF_up (a := sl sY) (b := nv - sY) sv0 sv1 (by omega)
        have HWk : Kp (IntKind.i64.wrap (nv - sY) = nv - sY) := ⟨by rw [IntKind.wrap_i64]; omega⟩
        clear HSl
        generalize mulF (sl sY) (nv - sY) 2 = P at *
        generalize sl sY = sv at *
        clear HW2 z1 z2 z3 z4 z5 z6 z7 z8 z9 z10 z11 z12 z13 z14 z15
        obtain ⟨y0_, y1_, y2_, y3_, y4_, y5_, y6_, y7_, y8_, y9_, y10_, y11_, y12_, y13_, y14_, y15_⟩ := HW2d.out
        have Y0 := Kp.mk y0_
        clear y0_
        go_region_held3 (fun w' => w'.cell? ⟨w.heap.size, 0, none⟩ = some (.int .i64 cx) ∧ w'.cell? ⟨w.heap.size, 1, none⟩ = some (.int .i64 cy) ∧ w'.cell? ⟨w.heap.size, 2, none⟩ = some (.int .i64 sd) ∧ w'.cell? ⟨w.heap.size, 3, none⟩ = some (.int .i64 wd) ∧ w'.cell? ⟨w.heap.size, 4, none⟩ = some (.int .i64 ht) ∧ w'.cell? ⟨w.heap.size, 5, none⟩ = some (.slice A pb.length c) ∧ w'.cell? ⟨w.heap.size, 6, none⟩ = some (.slice B pl.length d) ∧ w'.cell? ⟨w.heap.size + 1, 0, none⟩ = some (.int .i64 fl) ∧ w'.cell? ⟨w.heap.size + 1, 1, none⟩ = some (.int .i64 ke) ∧ w'.cell? ⟨w.heap.size + 1, 2, none⟩ = some (.int .i64 sw) ∧ w'.cell? ⟨w.heap.size + 1, 3, none⟩ = some (.int .i64 be) ∧ w'.cell? ⟨w.heap.size + 1, 4, none⟩ = some (.int .i64 we) ∧ w'.cell? ⟨G, 0, none⟩ = some (.int .i64 x) ∧ w'.cell? ⟨G, 1, none⟩ = some (.int .i64 sY)) (first | go_simp | exact ⟨x1_, x2_, x3_, x4_, x5_, x6_, x7_, x8_, x9_, x10_, x11_, x12_, x13_, x14_⟩ | exact ⟨v1_, v2_, v3_, v4_, v5_, v6_, v7_, v8_, v9_, v10_, v11_, v12_, v13_, v14_⟩) (first | (go_at_call 33; (with_reducible refine (HS2.out _ Y0.out).mono ?_); rintro e w3 ⟨rfl, hb'⟩; have HW3 := Kp.mk (HW2d.out.below hb'); obtain ⟨x0_, x1_, x2_, x3_, x4_, x5_, x6_, x7_, x8_, x9_, x10_, x11_, x12_, x13_, x14_, x15_⟩ := HW3.out; have X0 := Kp.mk x0_; clear x0_ hb') | (go_at_call 32; rw [HWk.out]; (with_reducible refine (HM _).out.mono ?_); rintro e w4 ⟨rfl, hb'⟩; have HW4 := Kp.mk (HW3.out.below hb'); obtain ⟨v0_, v1_, v2_, v3_, v4_, v5_, v6_, v7_, v8_, v9_, v10_, v11_, v12_, v13_, v14_, v15_⟩ := HW4.out; have V0 := Kp.mk v0_; clear v0_ hb'))
        have HW5 := Kp.mk (HW4.out.put HGz.out nv)
        have dE : (nv == te) = false := beq_eq_false_iff_ne.2 (by omega)
        have hws : wrap64 (acc + P) = acc + P := by have := HBd2.out; unfold wrap64; omega
        have HBd3 : Kp (0 ≤ r2 ∧ r2 ≤ ht ∧ y ≤ nv ∧ nv < te ∧ 0 ≤ acc + P ∧ acc + P ≤ nv - y ∧ ((r2 = 0 ∧ gk1 = 300) ∨ (cy + r2 * sd ≤ nv ∧ 299 ≤ (gk1 : Int) + r2))) := ⟨by have := HBd2.out; have := HNe.out; omega⟩
        clear HBd2 HM
        go_wp2
        rw [Exit.noGoto_normal]
        go_wp2
        go_roundg gk1
        case measure => omega
        case rel => exact ⟨r2, nv, acc + P, rfl, by rw [← HNe.out], rfl, HSum2, HBd3, HW5⟩
      · have dA : decide (r2 ≤ ht) = true := decide_eq_true hX.1
        have dB : decide (cy + r2 * sd ≤ sY) = false := decide_eq_false hX.2.1
        have dC : decide (cy + r2 * sd < te) = false := decide_eq_false hX.2.2
        have hst : skipR cy sd ht sY 300 rr = r2 := by rw [← HSk.out]; exact skipR_stop (fun h => hX.2.1 h.2)
        have hnv : nextY cy sd ht te r2 = te := if_neg (fun h => hX.2.2 h.2)
        have HSum2 : Kp (acc + mulF (sl sY) (te - sY) 2 = T) := ⟨by rw [← HSum.out]; exact (wSum_stop hst hnv).symm⟩
        clear hst hnv HSum HSk HCase
        go_wp2
        have hn0 := HN0.out
        have dE : (n0 == te) = true := beq_iff_eq.2 hn0
        have HSum3 : Kp (acc + mulF (sl sY) (n0 - sY) 2 = T) := ⟨by rw [hn0]; exact HSum2.out⟩
        clear HSum2
        have HSum2 := HSum3
        clear HSum3
        have hn1 : sY < n0 ∧ n0 ≤ 6553600000 := by omega
        clear hX dA hn0
        obtain ⟨hn1, hn2⟩ := hn1
        have HW2d := Kp.mk (HW2.out.below (bl_drew (Below.refl _ wr)))
        have HS2 := Kp.mk (HSl.out sY (by omega) (by omega)).2
        obtain ⟨sv0, sv1⟩ := (HSl.out sY (by omega) (by omega)).1
        have HM := fun W => Kp.mk (Mul_2 (sl sY) (n0 - sY) ⟨by omega, by omega⟩ ⟨by omega, by omega⟩ (by have a := nabs_le (a := sl sY) (m := 65536) (by omega) (by omega); have b := nabs_le (a := n0 - sY) (m := 13107200000) (by omega) (by omega); have := mul_bd (nabs_nonneg (sl sY)) a (nabs_nonneg (n0 - sY)) b; omega) W)
        obtain ⟨P0, P1⟩ := mulF_up (a := sl sY) (b := n0 - sY) sv0 sv1 (by omega)
        have HWk : Kp (IntKind.i64.wrap (n0 - sY) = n0 - sY) := ⟨by rw [IntKind.wrap_i64]; omega⟩
        clear HSl
        generalize mulF (sl sY) (n0 - sY) 2 = P at *
        generalize sl sY = sv at *
        clear HW2 z1 z2 z3 z4 z5 z6 z7 z8 z9 z10 z11 z12 z13 z14 z15
        obtain ⟨y0_, y1_, y2_, y3_, y4_, y5_, y6_, y7_, y8_, y9_, y10_, y11_, y12_, y13_, y14_, y15_⟩ := HW2d.out
        have Y0 := Kp.mk y0_
        clear y0_
        go_region_held3 (fun w' => w'.cell? ⟨w.heap.size, 0, none⟩ = some (.int .i64 cx) ∧ w'.cell? ⟨w.heap.size, 1, none⟩ = some (.int .i64 cy) ∧ w'.cell? ⟨w.heap.size, 2, none⟩ = some (.int .i64 sd) ∧ w'.cell? ⟨w.heap.size, 3, none⟩ = some (.int .i64 wd) ∧ w'.cell? ⟨w.heap.size, 4, none⟩ = some (.int .i64 ht) ∧ w'.cell? ⟨w.heap.size, 5, none⟩ = some (.slice A pb.length c) ∧ w'.cell? ⟨w.heap.size, 6, none⟩ = some (.slice B pl.length d) ∧ w'.cell? ⟨w.heap.size + 1, 0, none⟩ = some (.int .i64 fl) ∧ w'.cell? ⟨w.heap.size + 1, 1, none⟩ = some (.int .i64 ke) ∧ w'.cell? ⟨w.heap.size + 1, 2, none⟩ = some (.int .i64 sw) ∧ w'.cell? ⟨w.heap.size + 1, 3, none⟩ = some (.int .i64 be) ∧ w'.cell? ⟨w.heap.size + 1, 4, none⟩ = some (.int .i64 we) ∧ w'.cell? ⟨G, 0, none⟩ = some (.int .i64 x) ∧ w'.cell? ⟨G, 1, none⟩ = some (.int .i64 sY)) (first | go_simp | exact ⟨x1_, x2_, x3_, x4_, x5_, x6_, x7_, x8_, x9_, x10_, x11_, x12_, x13_, x14_⟩ | exact ⟨v1_, v2_, v3_, v4_, v5_, v6_, v7_, v8_, v9_, v10_, v11_, v12_, v13_, v14_⟩) (first | (go_at_call 33; (with_reducible refine (HS2.out _ Y0.out).mono ?_); rintro e w3 ⟨rfl, hb'⟩; have HW3 := Kp.mk (HW2d.out.below hb'); obtain ⟨x0_, x1_, x2_, x3_, x4_, x5_, x6_, x7_, x8_, x9_, x10_, x11_, x12_, x13_, x14_, x15_⟩ := HW3.out; have X0 := Kp.mk x0_; clear x0_ hb') | (go_at_call 32; rw [HWk.out]; (with_reducible refine (HM _).out.mono ?_); rintro e w4 ⟨rfl, hb'⟩; have HW4 := Kp.mk (HW3.out.below hb'); obtain ⟨v0_, v1_, v2_, v3_, v4_, v5_, v6_, v7_, v8_, v9_, v10_, v11_, v12_, v13_, v14_, v15_⟩ := HW4.out; have V0 := Kp.mk v0_; clear v0_ hb'))
        have hws : wrap64 (acc + P) = acc + P := by unfold wrap64; omega
        have HRE : Kp (∃ rv : Int, R = (rv, 0) ∧ ∀ W, Kp (Calls Try.prog 34 #[.int .i64 (2 * (acc + P)), .int .i64 2] W fun e w' => e = .returned (.tuple #[.int .i64 rv, .int .i64 0]) ∧ Below W.heap.size W w')) := ⟨⟨_, by rw [HSum2.out]; exact HR.out, fun W => ⟨Root_2 (2 * (acc + P)) (by omega) (by omega) W⟩⟩⟩
        obtain ⟨rv, hRv, HR0⟩ := HRE.out
        have HRR := Kp.mk hRv
        clear hRv HRE
        clear HM HSum2 HR
        have hws2 : wrap64 (2 * (acc + P)) = 2 * (acc + P) := by unfold wrap64; omega
        go_wp2
        rw [Exit.noGoto_exit]
        go_wp2_with (go_at_call 34; (with_reducible refine (HR0 _).out.mono ?_); rintro e w6 ⟨rfl, hb'⟩; have hb6 := Kp.mk hb'; clear hb')
        have HW5 := Kp.mk (HW4.out.put HGz.out n0)
        rw [Exit.noGoto_ret]
        go_wp2
        go_ret2
        rw [HRR.out]
        exact ⟨rfl, bl_then HW5.out.bel hb6.out⟩
      · have dA : decide (r2 ≤ ht) = false := decide_eq_false hX
        have hst : skipR cy sd ht sY 300 rr = r2 := by rw [← HSk.out]; exact skipR_stop (fun h => hX h.1)
        have hnv : nextY cy sd ht te r2 = te := if_neg (fun h => hX h.1)
        have HSum2 : Kp (acc + mulF (sl sY) (te - sY) 2 = T) := ⟨by rw [← HSum.out]; exact (wSum_stop hst hnv).symm⟩
        clear hst hnv HSum HSk HCase
        go_wp2
        have hn0 := HN0.out
        have dE : (n0 == te) = true := beq_iff_eq.2 hn0
        have HSum3 : Kp (acc + mulF (sl sY) (n0 - sY) 2 = T) := ⟨by rw [hn0]; exact HSum2.out⟩
        clear HSum2
        have HSum2 := HSum3
        clear HSum3
        have hn1 : sY < n0 ∧ n0 ≤ 6553600000 := by omega
        clear hX dA hn0
        obtain ⟨hn1, hn2⟩ := hn1
        have HW2d := Kp.mk (HW2.out.below (bl_drew (Below.refl _ wr)))
        have HS2 := Kp.mk (HSl.out sY (by omega) (by omega)).2
        obtain ⟨sv0, sv1⟩ := (HSl.out sY (by omega) (by omega)).1
        have HM := fun W => Kp.mk (Mul_2 (sl sY) (n0 - sY) ⟨by omega, by omega⟩ ⟨by omega, by omega⟩ (by have a := nabs_le (a := sl sY) (m := 65536) (by omega) (by omega); have b := nabs_le (a := n0 - sY) (m := 13107200000) (by omega) (by omega); have := mul_bd (nabs_nonneg (sl sY)) a (nabs_nonneg (n0 - sY)) b; omega) W)
        obtain ⟨P0, P1⟩ := mulF_up (a := sl sY) (b := n0 - sY) sv0 sv1 (by omega)
        have HWk : Kp (IntKind.i64.wrap (n0 - sY) = n0 - sY) := ⟨by rw [IntKind.wrap_i64]; omega⟩
        clear HSl
        generalize mulF (sl sY) (n0 - sY) 2 = P at *
        generalize sl sY = sv at *
        clear HW2 z1 z2 z3 z4 z5 z6 z7 z8 z9 z10 z11 z12 z13 z14 z15
        obtain ⟨y0_, y1_, y2_, y3_, y4_, y5_, y6_, y7_, y8_, y9_, y10_, y11_, y12_, y13_, y14_, y15_⟩ := HW2d.out
        have Y0 := Kp.mk y0_
        clear y0_
        go_region_held3 (fun w' => w'.cell? ⟨w.heap.size, 0, none⟩ = some (.int .i64 cx) ∧ w'.cell? ⟨w.heap.size, 1, none⟩ = some (.int .i64 cy) ∧ w'.cell? ⟨w.heap.size, 2, none⟩ = some (.int .i64 sd) ∧ w'.cell? ⟨w.heap.size, 3, none⟩ = some (.int .i64 wd) ∧ w'.cell? ⟨w.heap.size, 4, none⟩ = some (.int .i64 ht) ∧ w'.cell? ⟨w.heap.size, 5, none⟩ = some (.slice A pb.length c) ∧ w'.cell? ⟨w.heap.size, 6, none⟩ = some (.slice B pl.length d) ∧ w'.cell? ⟨w.heap.size + 1, 0, none⟩ = some (.int .i64 fl) ∧ w'.cell? ⟨w.heap.size + 1, 1, none⟩ = some (.int .i64 ke) ∧ w'.cell? ⟨w.heap.size + 1, 2, none⟩ = some (.int .i64 sw) ∧ w'.cell? ⟨w.heap.size + 1, 3, none⟩ = some (.int .i64 be) ∧ w'.cell? ⟨w.heap.size + 1, 4, none⟩ = some (.int .i64 we) ∧ w'.cell? ⟨G, 0, none⟩ = some (.int .i64 x) ∧ w'.cell? ⟨G, 1, none⟩ = some (.int .i64 sY)) (first | go_simp | exact ⟨x1_, x2_, x3_, x4_, x5_, x6_, x7_, x8_, x9_, x10_, x11_, x12_, x13_, x14_⟩ | exact ⟨v1_, v2_, v3_, v4_, v5_, v6_, v7_, v8_, v9_, v10_, v11_, v12_, v13_, v14_⟩) (first | (go_at_call 33; (with_reducible refine (HS2.out _ Y0.out).mono ?_); rintro e w3 ⟨rfl, hb'⟩; have HW3 := Kp.mk (HW2d.out.below hb'); obtain ⟨x0_, x1_, x2_, x3_, x4_, x5_, x6_, x7_, x8_, x9_, x10_, x11_, x12_, x13_, x14_, x15_⟩ := HW3.out; have X0 := Kp.mk x0_; clear x0_ hb') | (go_at_call 32; rw [HWk.out]; (with_reducible refine (HM _).out.mono ?_); rintro e w4 ⟨rfl, hb'⟩; have HW4 := Kp.mk (HW3.out.below hb'); obtain ⟨v0_, v1_, v2_, v3_, v4_, v5_, v6_, v7_, v8_, v9_, v10_, v11_, v12_, v13_, v14_, v15_⟩ := HW4.out; have V0 := Kp.mk v0_; clear v0_ hb'))
        have hws : wrap64 (acc + P) = acc + P := by unfold wrap64; omega
        have HRE : Kp (∃ rv : Int, R = (rv, 0) ∧ ∀ W, Kp (Calls Try.prog 34 #[.int .i64 (2 * (acc + P)), .int .i64 2] W fun e w' => e = .returned (.tuple #[.int .i64 rv, .int .i64 0]) ∧ Below W.heap.size W w')) := ⟨⟨_, by rw [HSum2.out]; exact HR.out, fun W => ⟨Root_2 (2 * (acc + P)) (by omega) (by omega) W⟩⟩⟩
        obtain ⟨rv, hRv, HR0⟩ := HRE.out
        have HRR := Kp.mk hRv
        clear hRv HRE
        clear HM HSum2 HR
        have hws2 : wrap64 (2 * (acc + P)) = 2 * (acc + P) := by unfold wrap64; omega
        go_wp2
        rw [Exit.noGoto_exit]
        go_wp2_with (go_at_call 34; (with_reducible refine (HR0 _).out.mono ?_); rintro e w6 ⟨rfl, hb'⟩; have hb6 := Kp.mk hb'; clear hb')
        have HW5 := Kp.mk (HW4.out.put HGz.out n0)
        rw [Exit.noGoto_ret]
        go_wp2
        go_ret2
        rw [HRR.out]
        exact ⟨rfl, bl_then HW5.out.bel hb6.out⟩
end Go.Proofs.Ytibaapaglocpjaa.B

end
section
set_option linter.unusedSimpArgs false
set_option linter.unusedVariables false
namespace Go.Proofs.Ytibaapaglocpjaa.B
open Go.RowKit Go.Shelf Go.Proofs.YtibaapaglocpjaaW.PrintWords
set_option maxHeartbeats 4000000 in
set_option maxRecDepth 100000 in
theorem Weight_any (cx cy sd wd ht : Int) (A : Option Addr) (c : Nat) (pb : List Int) (B : Option Addr) (d : Nat) (pl : List Int) (fl ke sw be we x y te : Int) (w : World) (hr1 : ReadsInt w .i64 A pb.length pb) (hc1 : pb.length ≤ c) (hr2 : ReadsInt w .i64 B pl.length pl) (hc2 : pl.length ≤ d) :
    Calls Try.prog 15 #[.agg #[.int .i64 cx, .int .i64 cy, .int .i64 sd, .int .i64 wd, .int .i64 ht, .slice A pb.length c, .slice B pl.length d], .agg #[.int .i64 fl, .int .i64 ke, .int .i64 sw, .int .i64 be, .int .i64 we], .agg #[.int .i64 x, .int .i64 y], .int .i64 te] w fun e w' => e = .returned (.tuple #[.int .i64 (iceWeight cx cy sd wd ht pb pl fl ke sw be we x y te).1, .int .i64 (iceWeight cx cy sd wd ht pb pl fl ke sw be we x y te).2]) ∧ Below w.heap.size w w' := by
  have HRt := fun bk cc W h h0 h1 => Kp.mk (right_any cx cy sd wd ht A c pb B d pl fl ke sw be we (.slice (some ⟨bk, 0, none⟩) 1 cc) (plB x y) W (hr1.below h) hc1 (hr2.below h) hc2 (fun W' hW => placed_1 x y bk cc W' (bl_cell hW h0) (bl_cell hW h1)))
  have HF : Kp (iceWeight cx cy sd wd ht pb pl fl ke sw be we x y te = if weightB cx cy sd wd ht pb pl fl ke sw be we x y te = true then (((rootF ((2 * wSum (slowAt cx cy sd wd ht pb pl fl ke sw x) cy sd ht te 300 0 y 0).toNat * 65536) 2 : Nat) : Int), 0) else (0, 2)) := ⟨rfl⟩
  have HWB : Kp (weightB cx cy sd wd ht pb pl fl ke sw be we x y te = ((iceB cx cy sd wd ht pb pl && (grainB fl ke sw be we && plB x y)) && (decide (y < te) && decide (te ≤ 6553600000)))) := ⟨rfl⟩
  generalize iceWeight cx cy sd wd ht pb pl fl ke sw be we x y te = R at *
  generalize weightB cx cy sd wd ht pb pl fl ke sw be we x y te = wb at *
  cases wb with
  | false =>
    obtain rfl : R = (0, 2) := HF.out
    have HL : Kp (((iceB cx cy sd wd ht pb pl && (grainB fl ke sw be we && plB x y)) = false) ∨ ((iceB cx cy sd wd ht pb pl && (grainB fl ke sw be we && plB x y)) = true ∧ te ≤ y) ∨ ((iceB cx cy sd wd ht pb pl && (grainB fl ke sw be we && plB x y)) = true ∧ y < te ∧ 6553600000 < te)) := ⟨by
      have h := HWB.out
      cases hb : (iceB cx cy sd wd ht pb pl && (grainB fl ke sw be we && plB x y)) with
      | false => exact .inl rfl
      | true =>
        rw [hb] at h
        simp only [Bool.true_and] at h
        by_cases h1 : y < te
        · rw [decide_eq_true h1] at h
          simp at h
          exact .inr (.inr ⟨rfl, h1, h⟩)
        · exact .inr (.inl ⟨rfl, by omega⟩)⟩
    clear HF HWB hr1 hr2 hc1 hc2
    generalize (iceB cx cy sd wd ht pb pl && (grainB fl ke sw be we && plB x y)) = b at *
    rcases HL.out with rfl | ⟨rfl, h1⟩ | ⟨rfl, h1, h2⟩
    all_goals
      clear HL
      go_enter Try.func15, Try.ntmps15
      go_wp2
      go_step3
      go_wp2_with (first | (go_at_call 31; (with_reducible refine (HRt _ _ _ ?hb ?h0 ?h1).out.mono ?_); (case hb => exact (by repeat (first | exact Below.refl _ _ | (with_reducible assumption) | apply bl_drew | apply bl_drewN | apply bl_alloc | (refine bl_set ?_ (by go_simp))))); (case h0 => go_simp); (case h1 => go_simp); rintro e w1 ⟨rfl, hb'⟩; have c0 := bl_cell hb' (p := ⟨w.heap.size + 1 + 1, 0, none⟩) (v := .int .i64 x) (by first | (go_simp; done) | exact bl_cell (by repeat (with_reducible first | apply bl_alloc | apply bl_drew | exact Below.refl _ _)) (by assumption)); have c1 := bl_cell hb' (p := ⟨w.heap.size + 1 + 1, 1, none⟩) (v := .int .i64 y) (by first | (go_simp; done) | exact bl_cell (by repeat (with_reducible first | apply bl_alloc | apply bl_drew | exact Below.refl _ _)) (by assumption)); have iq0 := bl_cell hb' (p := ⟨w.heap.size, 0, none⟩) (v := .int .i64 cx) (by first | (go_simp; done) | exact bl_cell (by repeat (with_reducible first | apply bl_alloc | apply bl_drew | exact Below.refl _ _)) (by assumption)); have iq1 := bl_cell hb' (p := ⟨w.heap.size, 1, none⟩) (v := .int .i64 cy) (by first | (go_simp; done) | exact bl_cell (by repeat (with_reducible first | apply bl_alloc | apply bl_drew | exact Below.refl _ _)) (by assumption)); have iq2 := bl_cell hb' (p := ⟨w.heap.size, 2, none⟩) (v := .int .i64 sd) (by first | (go_simp; done) | exact bl_cell (by repeat (with_reducible first | apply bl_alloc | apply bl_drew | exact Below.refl _ _)) (by assumption)); have iq3 := bl_cell hb' (p := ⟨w.heap.size, 3, none⟩) (v := .int .i64 wd) (by first | (go_simp; done) | exact bl_cell (by repeat (with_reducible first | apply bl_alloc | apply bl_drew | exact Below.refl _ _)) (by assumption)); have iq4 := bl_cell hb' (p := ⟨w.heap.size, 4, none⟩) (v := .int .i64 ht) (by first | (go_simp; done) | exact bl_cell (by repeat (with_reducible first | apply bl_alloc | apply bl_drew | exact Below.refl _ _)) (by assumption)); have iq5 := bl_cell hb' (p := ⟨w.heap.size, 5, none⟩) (v := .slice A pb.length c) (by first | (go_simp; done) | exact bl_cell (by repeat (with_reducible first | apply bl_alloc | apply bl_drew | exact Below.refl _ _)) (by assumption)); have iq6 := bl_cell hb' (p := ⟨w.heap.size, 6, none⟩) (v := .slice B pl.length d) (by first | (go_simp; done) | exact bl_cell (by repeat (with_reducible first | apply bl_alloc | apply bl_drew | exact Below.refl _ _)) (by assumption)); have gq0 := bl_cell hb' (p := ⟨w.heap.size + 1, 0, none⟩) (v := .int .i64 fl) (by first | (go_simp; done) | exact bl_cell (by repeat (with_reducible first | apply bl_alloc | apply bl_drew | exact Below.refl _ _)) (by assumption)); have gq1 := bl_cell hb' (p := ⟨w.heap.size + 1, 1, none⟩) (v := .int .i64 ke) (by first | (go_simp; done) | exact bl_cell (by repeat (with_reducible first | apply bl_alloc | apply bl_drew | exact Below.refl _ _)) (by assumption)); have gq2 := bl_cell hb' (p := ⟨w.heap.size + 1, 2, none⟩) (v := .int .i64 sw) (by first | (go_simp; done) | exact bl_cell (by repeat (with_reducible first | apply bl_alloc | apply bl_drew | exact Below.refl _ _)) (by assumption)); have gq3 := bl_cell hb' (p := ⟨w.heap.size + 1, 3, none⟩) (v := .int .i64 be) (by first | (go_simp; done) | exact bl_cell (by repeat (with_reducible first | apply bl_alloc | apply bl_drew | exact Below.refl _ _)) (by assumption)); have gq4 := bl_cell hb' (p := ⟨w.heap.size + 1, 4, none⟩) (v := .int .i64 we) (by first | (go_simp; done) | exact bl_cell (by repeat (with_reducible first | apply bl_alloc | apply bl_drew | exact Below.refl _ _)) (by assumption)); have hb1 := Kp.mk hb'; clear hb'))
      rw [Exit.noGoto_ret]
      go_ret2
      exact ⟨rfl, (by repeat (with_reducible first | exact Below.refl _ _ | apply bl_drew | apply bl_drewN | (refine bl_then ?_ hb1.out) | (refine bl_then ?_ hb2.out) | (refine bl_then ?_ hb3.out) | (refine bl_then ?_ hb4.out) | (refine bl_then ?_ hb5.out) | (refine bl_then ?_ hb6.out) | (refine bl_then ?_ hb7.out) | (refine bl_then ?_ hb8.out) | (refine bl_then ?_ hb9.out) | apply bl_alloc | (refine bl_set ?_ (by go_simp))))⟩
  | true =>
    exact Weight_ok cx cy sd wd ht A c pb B d pl fl ke sw be we x y te w hr1 hc1 hr2 hc2 HWB R ⟨HF.out⟩
end Go.Proofs.Ytibaapaglocpjaa.B

end
