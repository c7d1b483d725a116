import Derived.Test.YtibaapaglocpjaaBLd
/- Proved here: lemmas for the laws' proofs (the texts Mg). No condition. -/
section
set_option linter.unusedSimpArgs false
set_option linter.unusedVariables false
namespace Go.Proofs.Ytibaapaglocpjaa.B
open Go.RowKit Go.Shelf Go.Proofs.YtibaapaglocpjaaW.PrintWords Go.Proofs.Ytibaapaglocpjaa.Q
set_option maxHeartbeats 8000000 in
set_option maxRecDepth 100000 in
theorem IcePlaces_any (cx cy sd wd ht : Int) (A : Option Addr) (c : Nat) (pb : List Int) (B : Option Addr) (d : Nat) (pl : List Int) (fx fy tx ty part : Int) (w : World) (hr1 : ReadsInt w .i64 A pb.length pb) (hc1 : pb.length ≤ c) (hr2 : ReadsInt w .i64 B pl.length pl) (hc2 : pl.length ≤ d) (hp : 0 ≤ part ∧ part ≤ 65535) :
    Calls Try.prog 3 #[.agg #[.int .i64 cx, .int .i64 cy, .int .i64 sd, .int .i64 wd, .int .i64 ht, .slice A pb.length c, .slice B pl.length d], .agg #[.int .i64 fx, .int .i64 fy], .agg #[.int .i64 tx, .int .i64 ty], .int .u16 part] w fun e w' => e = .returned (.bool true) ∧ Below w.heap.size w w' := by
  have HG := fun W (h : Below w.heap.size w W) => Kp.mk (Great_any cx cy sd wd ht A c pb B d pl 400 W (hr1.below h) hc1 (hr2.below h) hc2)
  have HA := fun W => Kp.mk (alive_any W)
  cases hgr : (decide ((pb.length : Int) > 400) || decide ((pl.length : Int) > 400)) with
  | true =>
    rw [hgr] at HG
    go_enter Try.func3, Try.ntmps3
    go_wp2_with (first | (go_at_call 9; (with_reducible refine (HA _).out.mono ?_); rintro e w1 ⟨rfl, hb'⟩; have iq0 := bl_cell hb' (p := ⟨w.heap.size, 0, none⟩) (v := .int .i64 cx) (by first | (go_simp; done) | exact bl_cell (by repeat (with_reducible first | apply bl_alloc | apply bl_drew | exact Below.refl _ _)) (by assumption)); have iq1 := bl_cell hb' (p := ⟨w.heap.size, 1, none⟩) (v := .int .i64 cy) (by first | (go_simp; done) | exact bl_cell (by repeat (with_reducible first | apply bl_alloc | apply bl_drew | exact Below.refl _ _)) (by assumption)); have iq2 := bl_cell hb' (p := ⟨w.heap.size, 2, none⟩) (v := .int .i64 sd) (by first | (go_simp; done) | exact bl_cell (by repeat (with_reducible first | apply bl_alloc | apply bl_drew | exact Below.refl _ _)) (by assumption)); have iq3 := bl_cell hb' (p := ⟨w.heap.size, 3, none⟩) (v := .int .i64 wd) (by first | (go_simp; done) | exact bl_cell (by repeat (with_reducible first | apply bl_alloc | apply bl_drew | exact Below.refl _ _)) (by assumption)); have iq4 := bl_cell hb' (p := ⟨w.heap.size, 4, none⟩) (v := .int .i64 ht) (by first | (go_simp; done) | exact bl_cell (by repeat (with_reducible first | apply bl_alloc | apply bl_drew | exact Below.refl _ _)) (by assumption)); have iq5 := bl_cell hb' (p := ⟨w.heap.size, 5, none⟩) (v := .slice A pb.length c) (by first | (go_simp; done) | exact bl_cell (by repeat (with_reducible first | apply bl_alloc | apply bl_drew | exact Below.refl _ _)) (by assumption)); have iq6 := bl_cell hb' (p := ⟨w.heap.size, 6, none⟩) (v := .slice B pl.length d) (by first | (go_simp; done) | exact bl_cell (by repeat (with_reducible first | apply bl_alloc | apply bl_drew | exact Below.refl _ _)) (by assumption)); have hb1 := Kp.mk (bl_then (by repeat (first | exact Below.refl _ _ | (with_reducible assumption) | apply bl_drew | apply bl_drewN | apply bl_alloc | (refine bl_set ?_ (by go_simp)))) hb' : Below w.heap.size w w1); clear hb') | (go_at_call 10; (with_reducible refine (HG _ ?hb).out.mono ?_); (case hb => exact hb1.out); rintro e w2 ⟨rfl, hb'⟩; have hb2 := Kp.mk hb'; clear hb'))
    go_ret
    exact ⟨rfl, bl_then hb1.out hb2.out⟩
  | false =>
    rw [hgr] at HG
    clear hgr
    have HT1 := fun W (h : Below w.heap.size w W) => Kp.mk (Touched_any cx cy sd wd ht A c pb B d pl fx fy tx ty W (hr1.below h) hc1 (hr2.below h) hc2)
    have HT2 := fun W (h : Below w.heap.size w W) => Kp.mk (Touched_any cx cy sd wd ht A c pb B d pl tx ty fx fy W (hr1.below h) hc1 (hr2.below h) hc2)
    rw [wayB_back, touched_back] at HT2
    cases hwy : wayB cx cy sd wd ht pb pl fx fy tx ty with
    | false =>
      rw [hwy] at HT1 HT2
      clear hr1 hr2 hc1 hc2
      go_enter Try.func3, Try.ntmps3
      go_wp2_with (first | (go_at_call 9; (with_reducible refine (HA _).out.mono ?_); rintro e w1 ⟨rfl, hb'⟩; have iq0 := bl_cell hb' (p := ⟨w.heap.size, 0, none⟩) (v := .int .i64 cx) (by first | (go_simp; done) | exact bl_cell (by repeat (with_reducible first | apply bl_alloc | apply bl_drew | exact Below.refl _ _)) (by assumption)); have iq1 := bl_cell hb' (p := ⟨w.heap.size, 1, none⟩) (v := .int .i64 cy) (by first | (go_simp; done) | exact bl_cell (by repeat (with_reducible first | apply bl_alloc | apply bl_drew | exact Below.refl _ _)) (by assumption)); have iq2 := bl_cell hb' (p := ⟨w.heap.size, 2, none⟩) (v := .int .i64 sd) (by first | (go_simp; done) | exact bl_cell (by repeat (with_reducible first | apply bl_alloc | apply bl_drew | exact Below.refl _ _)) (by assumption)); have iq3 := bl_cell hb' (p := ⟨w.heap.size, 3, none⟩) (v := .int .i64 wd) (by first | (go_simp; done) | exact bl_cell (by repeat (with_reducible first | apply bl_alloc | apply bl_drew | exact Below.refl _ _)) (by assumption)); have iq4 := bl_cell hb' (p := ⟨w.heap.size, 4, none⟩) (v := .int .i64 ht) (by first | (go_simp; done) | exact bl_cell (by repeat (with_reducible first | apply bl_alloc | apply bl_drew | exact Below.refl _ _)) (by assumption)); have iq5 := bl_cell hb' (p := ⟨w.heap.size, 5, none⟩) (v := .slice A pb.length c) (by first | (go_simp; done) | exact bl_cell (by repeat (with_reducible first | apply bl_alloc | apply bl_drew | exact Below.refl _ _)) (by assumption)); have iq6 := bl_cell hb' (p := ⟨w.heap.size, 6, none⟩) (v := .slice B pl.length d) (by first | (go_simp; done) | exact bl_cell (by repeat (with_reducible first | apply bl_alloc | apply bl_drew | exact Below.refl _ _)) (by assumption)); have sf0 := bl_cell hb' (p := ⟨w.heap.size + 1, 0, none⟩) (v := .int .i64 fx) (by first | (go_simp; done) | exact bl_cell (by repeat (with_reducible first | apply bl_alloc | apply bl_drew | exact Below.refl _ _)) (by assumption)); have sf1 := bl_cell hb' (p := ⟨w.heap.size + 1, 1, none⟩) (v := .int .i64 fy) (by first | (go_simp; done) | exact bl_cell (by repeat (with_reducible first | apply bl_alloc | apply bl_drew | exact Below.refl _ _)) (by assumption)); have st0 := bl_cell hb' (p := ⟨w.heap.size + 1 + 1, 0, none⟩) (v := .int .i64 tx) (by first | (go_simp; done) | exact bl_cell (by repeat (with_reducible first | apply bl_alloc | apply bl_drew | exact Below.refl _ _)) (by assumption)); have st1 := bl_cell hb' (p := ⟨w.heap.size + 1 + 1, 1, none⟩) (v := .int .i64 ty) (by first | (go_simp; done) | exact bl_cell (by repeat (with_reducible first | apply bl_alloc | apply bl_drew | exact Below.refl _ _)) (by assumption)); have hb1 := Kp.mk (bl_then (by repeat (first | exact Below.refl _ _ | (with_reducible assumption) | apply bl_drew | apply bl_drewN | apply bl_alloc | (refine bl_set ?_ (by go_simp)))) hb' : Below w.heap.size w w1); clear hb') | (go_at_call 10; (with_reducible refine (HG _ ?hb).out.mono ?_); (case hb => exact hb1.out); rintro e w2 ⟨rfl, hb'⟩; have iq0 := bl_cell hb' (p := ⟨w.heap.size, 0, none⟩) (v := .int .i64 cx) (by first | (go_simp; done) | exact bl_cell (by repeat (with_reducible first | apply bl_alloc | apply bl_drew | exact Below.refl _ _)) (by assumption)); have iq1 := bl_cell hb' (p := ⟨w.heap.size, 1, none⟩) (v := .int .i64 cy) (by first | (go_simp; done) | exact bl_cell (by repeat (with_reducible first | apply bl_alloc | apply bl_drew | exact Below.refl _ _)) (by assumption)); have iq2 := bl_cell hb' (p := ⟨w.heap.size, 2, none⟩) (v := .int .i64 sd) (by first | (go_simp; done) | exact bl_cell (by repeat (with_reducible first | apply bl_alloc | apply bl_drew | exact Below.refl _ _)) (by assumption)); have iq3 := bl_cell hb' (p := ⟨w.heap.size, 3, none⟩) (v := .int .i64 wd) (by first | (go_simp; done) | exact bl_cell (by repeat (with_reducible first | apply bl_alloc | apply bl_drew | exact Below.refl _ _)) (by assumption)); have iq4 := bl_cell hb' (p := ⟨w.heap.size, 4, none⟩) (v := .int .i64 ht) (by first | (go_simp; done) | exact bl_cell (by repeat (with_reducible first | apply bl_alloc | apply bl_drew | exact Below.refl _ _)) (by assumption)); have iq5 := bl_cell hb' (p := ⟨w.heap.size, 5, none⟩) (v := .slice A pb.length c) (by first | (go_simp; done) | exact bl_cell (by repeat (with_reducible first | apply bl_alloc | apply bl_drew | exact Below.refl _ _)) (by assumption)); have iq6 := bl_cell hb' (p := ⟨w.heap.size, 6, none⟩) (v := .slice B pl.length d) (by first | (go_simp; done) | exact bl_cell (by repeat (with_reducible first | apply bl_alloc | apply bl_drew | exact Below.refl _ _)) (by assumption)); have sf0 := bl_cell hb' (p := ⟨w.heap.size + 1, 0, none⟩) (v := .int .i64 fx) (by first | (go_simp; done) | exact bl_cell (by repeat (with_reducible first | apply bl_alloc | apply bl_drew | exact Below.refl _ _)) (by assumption)); have sf1 := bl_cell hb' (p := ⟨w.heap.size + 1, 1, none⟩) (v := .int .i64 fy) (by first | (go_simp; done) | exact bl_cell (by repeat (with_reducible first | apply bl_alloc | apply bl_drew | exact Below.refl _ _)) (by assumption)); have st0 := bl_cell hb' (p := ⟨w.heap.size + 1 + 1, 0, none⟩) (v := .int .i64 tx) (by first | (go_simp; done) | exact bl_cell (by repeat (with_reducible first | apply bl_alloc | apply bl_drew | exact Below.refl _ _)) (by assumption)); have st1 := bl_cell hb' (p := ⟨w.heap.size + 1 + 1, 1, none⟩) (v := .int .i64 ty) (by first | (go_simp; done) | exact bl_cell (by repeat (with_reducible first | apply bl_alloc | apply bl_drew | exact Below.refl _ _)) (by assumption)); have hb2 := Kp.mk (bl_then hb1.out hb'); clear hb') | (go_at_call 11; (with_reducible refine (HT1 _ ?h1).out.mono ?_); (case h1 => exact hb2.out); rintro e w3 ⟨v, rfl, hown', hb'⟩; have hown : w3.ownsRow _ 3 1 v 0 [] := hown'; clear hown'; obtain ⟨R1, cr1, rfl⟩ := row_shape hown; have iq0 := bl_cell hb' (p := ⟨w.heap.size, 0, none⟩) (v := .int .i64 cx) (by first | (go_simp; done) | exact bl_cell (by repeat (with_reducible first | apply bl_alloc | apply bl_drew | exact Below.refl _ _)) (by assumption)); have iq1 := bl_cell hb' (p := ⟨w.heap.size, 1, none⟩) (v := .int .i64 cy) (by first | (go_simp; done) | exact bl_cell (by repeat (with_reducible first | apply bl_alloc | apply bl_drew | exact Below.refl _ _)) (by assumption)); have iq2 := bl_cell hb' (p := ⟨w.heap.size, 2, none⟩) (v := .int .i64 sd) (by first | (go_simp; done) | exact bl_cell (by repeat (with_reducible first | apply bl_alloc | apply bl_drew | exact Below.refl _ _)) (by assumption)); have iq3 := bl_cell hb' (p := ⟨w.heap.size, 3, none⟩) (v := .int .i64 wd) (by first | (go_simp; done) | exact bl_cell (by repeat (with_reducible first | apply bl_alloc | apply bl_drew | exact Below.refl _ _)) (by assumption)); have iq4 := bl_cell hb' (p := ⟨w.heap.size, 4, none⟩) (v := .int .i64 ht) (by first | (go_simp; done) | exact bl_cell (by repeat (with_reducible first | apply bl_alloc | apply bl_drew | exact Below.refl _ _)) (by assumption)); have iq5 := bl_cell hb' (p := ⟨w.heap.size, 5, none⟩) (v := .slice A pb.length c) (by first | (go_simp; done) | exact bl_cell (by repeat (with_reducible first | apply bl_alloc | apply bl_drew | exact Below.refl _ _)) (by assumption)); have iq6 := bl_cell hb' (p := ⟨w.heap.size, 6, none⟩) (v := .slice B pl.length d) (by first | (go_simp; done) | exact bl_cell (by repeat (with_reducible first | apply bl_alloc | apply bl_drew | exact Below.refl _ _)) (by assumption)); have sf0 := bl_cell hb' (p := ⟨w.heap.size + 1, 0, none⟩) (v := .int .i64 fx) (by first | (go_simp; done) | exact bl_cell (by repeat (with_reducible first | apply bl_alloc | apply bl_drew | exact Below.refl _ _)) (by assumption)); have sf1 := bl_cell hb' (p := ⟨w.heap.size + 1, 1, none⟩) (v := .int .i64 fy) (by first | (go_simp; done) | exact bl_cell (by repeat (with_reducible first | apply bl_alloc | apply bl_drew | exact Below.refl _ _)) (by assumption)); have st0 := bl_cell hb' (p := ⟨w.heap.size + 1 + 1, 0, none⟩) (v := .int .i64 tx) (by first | (go_simp; done) | exact bl_cell (by repeat (with_reducible first | apply bl_alloc | apply bl_drew | exact Below.refl _ _)) (by assumption)); have st1 := bl_cell hb' (p := ⟨w.heap.size + 1 + 1, 1, none⟩) (v := .int .i64 ty) (by first | (go_simp; done) | exact bl_cell (by repeat (with_reducible first | apply bl_alloc | apply bl_drew | exact Below.refl _ _)) (by assumption)); have hb3 := Kp.mk (bl_then hb2.out hb'); clear hb' hown; simp only [errI, Bool.false_eq_true, if_false]) | (go_at_call 11; (with_reducible refine (HT2 _ ?h1).out.mono ?_); (case h1 => exact hb3.out); rintro e w4 ⟨v, rfl, hown', hb'⟩; have hown : w4.ownsRow _ 3 1 v 0 [] := hown'; clear hown'; obtain ⟨R2, cr2, rfl⟩ := row_shape hown; have iq0 := bl_cell hb' (p := ⟨w.heap.size, 0, none⟩) (v := .int .i64 cx) (by first | (go_simp; done) | exact bl_cell (by repeat (with_reducible first | apply bl_alloc | apply bl_drew | exact Below.refl _ _)) (by assumption)); have iq1 := bl_cell hb' (p := ⟨w.heap.size, 1, none⟩) (v := .int .i64 cy) (by first | (go_simp; done) | exact bl_cell (by repeat (with_reducible first | apply bl_alloc | apply bl_drew | exact Below.refl _ _)) (by assumption)); have iq2 := bl_cell hb' (p := ⟨w.heap.size, 2, none⟩) (v := .int .i64 sd) (by first | (go_simp; done) | exact bl_cell (by repeat (with_reducible first | apply bl_alloc | apply bl_drew | exact Below.refl _ _)) (by assumption)); have iq3 := bl_cell hb' (p := ⟨w.heap.size, 3, none⟩) (v := .int .i64 wd) (by first | (go_simp; done) | exact bl_cell (by repeat (with_reducible first | apply bl_alloc | apply bl_drew | exact Below.refl _ _)) (by assumption)); have iq4 := bl_cell hb' (p := ⟨w.heap.size, 4, none⟩) (v := .int .i64 ht) (by first | (go_simp; done) | exact bl_cell (by repeat (with_reducible first | apply bl_alloc | apply bl_drew | exact Below.refl _ _)) (by assumption)); have iq5 := bl_cell hb' (p := ⟨w.heap.size, 5, none⟩) (v := .slice A pb.length c) (by first | (go_simp; done) | exact bl_cell (by repeat (with_reducible first | apply bl_alloc | apply bl_drew | exact Below.refl _ _)) (by assumption)); have iq6 := bl_cell hb' (p := ⟨w.heap.size, 6, none⟩) (v := .slice B pl.length d) (by first | (go_simp; done) | exact bl_cell (by repeat (with_reducible first | apply bl_alloc | apply bl_drew | exact Below.refl _ _)) (by assumption)); have sf0 := bl_cell hb' (p := ⟨w.heap.size + 1, 0, none⟩) (v := .int .i64 fx) (by first | (go_simp; done) | exact bl_cell (by repeat (with_reducible first | apply bl_alloc | apply bl_drew | exact Below.refl _ _)) (by assumption)); have sf1 := bl_cell hb' (p := ⟨w.heap.size + 1, 1, none⟩) (v := .int .i64 fy) (by first | (go_simp; done) | exact bl_cell (by repeat (with_reducible first | apply bl_alloc | apply bl_drew | exact Below.refl _ _)) (by assumption)); have st0 := bl_cell hb' (p := ⟨w.heap.size + 1 + 1, 0, none⟩) (v := .int .i64 tx) (by first | (go_simp; done) | exact bl_cell (by repeat (with_reducible first | apply bl_alloc | apply bl_drew | exact Below.refl _ _)) (by assumption)); have st1 := bl_cell hb' (p := ⟨w.heap.size + 1 + 1, 1, none⟩) (v := .int .i64 ty) (by first | (go_simp; done) | exact bl_cell (by repeat (with_reducible first | apply bl_alloc | apply bl_drew | exact Below.refl _ _)) (by assumption)); have hb4 := Kp.mk (bl_then hb3.out hb'); clear hb' hown; simp only [errI, Bool.false_eq_true, if_false]))
      go_ret
      exact ⟨rfl, hb4.out⟩
    | true =>
      have HA1 := fun x y W (h : Below w.heap.size w W) => Kp.mk (At_any cx cy sd wd ht A c pb B d pl x y W (hr1.below h) hc1 (hr2.below h) hc2)
      rw [hwy] at HT1 HT2
      have HLP := Kp.mk (touched_rises cx cy sd wd ht fx fy tx ty)
      have HLI := Kp.mk (fun c (h : c ∈ touchedL cx cy sd wd ht fx fy tx ty) => touched_in h)
      have HLT := Kp.mk (places_part (cx := cx) (cy := cy) (sd := sd) (wd := wd) (ht := ht) (pb := pb) (pl := pl) (fx := fx) (fy := fy) (tx := tx) (ty := ty) hwy)
      have HLL := Kp.mk (touchedL_len (cx := cx) (cy := cy) (sd := sd) fx fy tx ty (wayB_hyp hwy).hw (wayB_hyp hwy).hh)
      generalize touchedL cx cy sd wd ht fx fy tx ty = L at HT1 HT2 HLP HLI HLT HLL
      have HWy := wayB_hyp hwy
      have HW := Kp.mk HWy
      obtain ⟨⟨x0, x1⟩, ⟨y0, y1⟩, ⟨x2, x3⟩, ⟨y2, y3⟩⟩ : (-6553600000 ≤ fx ∧ fx ≤ 6553600000) ∧ (-6553600000 ≤ fy ∧ fy ≤ 6553600000) ∧ (-6553600000 ≤ tx ∧ tx ≤ 6553600000) ∧ (-6553600000 ≤ ty ∧ ty ≤ 6553600000) := ⟨HWy.hfx, HWy.hfy, HWy.htx, HWy.hty⟩
      clear HWy
      have HGc := fun W => Kp.mk (gcd_any (tx - fx) (ty - fy) W ⟨by omega, by omega⟩ ⟨by omega, by omega⟩)
      have hU : wrap64 (tx - fx) = tx - fx := w_id (by omega) (by omega)
      have hV : wrap64 (ty - fy) = ty - fy := w_id (by omega) (by omega)
      clear hr1 hr2 hc1 hc2
      go_enter Try.func3, Try.ntmps3
      go_wp2_with (first | (go_at_call 9; (with_reducible refine (HA _).out.mono ?_); rintro e w1 ⟨rfl, hb'⟩; have iq0 := bl_cell hb' (p := ⟨w.heap.size, 0, none⟩) (v := .int .i64 cx) (by first | (go_simp; done) | exact bl_cell (by repeat (with_reducible first | apply bl_alloc | apply bl_drew | exact Below.refl _ _)) (by assumption)); have iq1 := bl_cell hb' (p := ⟨w.heap.size, 1, none⟩) (v := .int .i64 cy) (by first | (go_simp; done) | exact bl_cell (by repeat (with_reducible first | apply bl_alloc | apply bl_drew | exact Below.refl _ _)) (by assumption)); have iq2 := bl_cell hb' (p := ⟨w.heap.size, 2, none⟩) (v := .int .i64 sd) (by first | (go_simp; done) | exact bl_cell (by repeat (with_reducible first | apply bl_alloc | apply bl_drew | exact Below.refl _ _)) (by assumption)); have iq3 := bl_cell hb' (p := ⟨w.heap.size, 3, none⟩) (v := .int .i64 wd) (by first | (go_simp; done) | exact bl_cell (by repeat (with_reducible first | apply bl_alloc | apply bl_drew | exact Below.refl _ _)) (by assumption)); have iq4 := bl_cell hb' (p := ⟨w.heap.size, 4, none⟩) (v := .int .i64 ht) (by first | (go_simp; done) | exact bl_cell (by repeat (with_reducible first | apply bl_alloc | apply bl_drew | exact Below.refl _ _)) (by assumption)); have iq5 := bl_cell hb' (p := ⟨w.heap.size, 5, none⟩) (v := .slice A pb.length c) (by first | (go_simp; done) | exact bl_cell (by repeat (with_reducible first | apply bl_alloc | apply bl_drew | exact Below.refl _ _)) (by assumption)); have iq6 := bl_cell hb' (p := ⟨w.heap.size, 6, none⟩) (v := .slice B pl.length d) (by first | (go_simp; done) | exact bl_cell (by repeat (with_reducible first | apply bl_alloc | apply bl_drew | exact Below.refl _ _)) (by assumption)); have sf0 := bl_cell hb' (p := ⟨w.heap.size + 1, 0, none⟩) (v := .int .i64 fx) (by first | (go_simp; done) | exact bl_cell (by repeat (with_reducible first | apply bl_alloc | apply bl_drew | exact Below.refl _ _)) (by assumption)); have sf1 := bl_cell hb' (p := ⟨w.heap.size + 1, 1, none⟩) (v := .int .i64 fy) (by first | (go_simp; done) | exact bl_cell (by repeat (with_reducible first | apply bl_alloc | apply bl_drew | exact Below.refl _ _)) (by assumption)); have st0 := bl_cell hb' (p := ⟨w.heap.size + 1 + 1, 0, none⟩) (v := .int .i64 tx) (by first | (go_simp; done) | exact bl_cell (by repeat (with_reducible first | apply bl_alloc | apply bl_drew | exact Below.refl _ _)) (by assumption)); have st1 := bl_cell hb' (p := ⟨w.heap.size + 1 + 1, 1, none⟩) (v := .int .i64 ty) (by first | (go_simp; done) | exact bl_cell (by repeat (with_reducible first | apply bl_alloc | apply bl_drew | exact Below.refl _ _)) (by assumption)); have hb1 := Kp.mk (bl_then (by repeat (first | exact Below.refl _ _ | (with_reducible assumption) | apply bl_drew | apply bl_drewN | apply bl_alloc | (refine bl_set ?_ (by go_simp)))) hb' : Below w.heap.size w w1); clear hb') | (go_at_call 10; (with_reducible refine (HG _ ?hb).out.mono ?_); (case hb => exact hb1.out); rintro e w2 ⟨rfl, hb'⟩; have iq0 := bl_cell hb' (p := ⟨w.heap.size, 0, none⟩) (v := .int .i64 cx) (by first | (go_simp; done) | exact bl_cell (by repeat (with_reducible first | apply bl_alloc | apply bl_drew | exact Below.refl _ _)) (by assumption)); have iq1 := bl_cell hb' (p := ⟨w.heap.size, 1, none⟩) (v := .int .i64 cy) (by first | (go_simp; done) | exact bl_cell (by repeat (with_reducible first | apply bl_alloc | apply bl_drew | exact Below.refl _ _)) (by assumption)); have iq2 := bl_cell hb' (p := ⟨w.heap.size, 2, none⟩) (v := .int .i64 sd) (by first | (go_simp; done) | exact bl_cell (by repeat (with_reducible first | apply bl_alloc | apply bl_drew | exact Below.refl _ _)) (by assumption)); have iq3 := bl_cell hb' (p := ⟨w.heap.size, 3, none⟩) (v := .int .i64 wd) (by first | (go_simp; done) | exact bl_cell (by repeat (with_reducible first | apply bl_alloc | apply bl_drew | exact Below.refl _ _)) (by assumption)); have iq4 := bl_cell hb' (p := ⟨w.heap.size, 4, none⟩) (v := .int .i64 ht) (by first | (go_simp; done) | exact bl_cell (by repeat (with_reducible first | apply bl_alloc | apply bl_drew | exact Below.refl _ _)) (by assumption)); have iq5 := bl_cell hb' (p := ⟨w.heap.size, 5, none⟩) (v := .slice A pb.length c) (by first | (go_simp; done) | exact bl_cell (by repeat (with_reducible first | apply bl_alloc | apply bl_drew | exact Below.refl _ _)) (by assumption)); have iq6 := bl_cell hb' (p := ⟨w.heap.size, 6, none⟩) (v := .slice B pl.length d) (by first | (go_simp; done) | exact bl_cell (by repeat (with_reducible first | apply bl_alloc | apply bl_drew | exact Below.refl _ _)) (by assumption)); have sf0 := bl_cell hb' (p := ⟨w.heap.size + 1, 0, none⟩) (v := .int .i64 fx) (by first | (go_simp; done) | exact bl_cell (by repeat (with_reducible first | apply bl_alloc | apply bl_drew | exact Below.refl _ _)) (by assumption)); have sf1 := bl_cell hb' (p := ⟨w.heap.size + 1, 1, none⟩) (v := .int .i64 fy) (by first | (go_simp; done) | exact bl_cell (by repeat (with_reducible first | apply bl_alloc | apply bl_drew | exact Below.refl _ _)) (by assumption)); have st0 := bl_cell hb' (p := ⟨w.heap.size + 1 + 1, 0, none⟩) (v := .int .i64 tx) (by first | (go_simp; done) | exact bl_cell (by repeat (with_reducible first | apply bl_alloc | apply bl_drew | exact Below.refl _ _)) (by assumption)); have st1 := bl_cell hb' (p := ⟨w.heap.size + 1 + 1, 1, none⟩) (v := .int .i64 ty) (by first | (go_simp; done) | exact bl_cell (by repeat (with_reducible first | apply bl_alloc | apply bl_drew | exact Below.refl _ _)) (by assumption)); have hb2 := Kp.mk (bl_then hb1.out hb'); clear hb') | (go_at_call 11; (with_reducible refine (HT1 _ ?h1).out.mono ?_); (case h1 => exact hb2.out); rintro e w3 ⟨v, rfl, hown, hb'⟩; obtain ⟨R1, cr1, rfl, hr1', hc1'⟩ := own_reads2 (xs := L) hown; have RD1 := Kp.mk hr1'; have CP1 := Kp.mk hc1'; clear hr1' hc1'; have iq0 := bl_cell hb' (p := ⟨w.heap.size, 0, none⟩) (v := .int .i64 cx) (by first | (go_simp; done) | exact bl_cell (by repeat (with_reducible first | apply bl_alloc | apply bl_drew | exact Below.refl _ _)) (by assumption)); have iq1 := bl_cell hb' (p := ⟨w.heap.size, 1, none⟩) (v := .int .i64 cy) (by first | (go_simp; done) | exact bl_cell (by repeat (with_reducible first | apply bl_alloc | apply bl_drew | exact Below.refl _ _)) (by assumption)); have iq2 := bl_cell hb' (p := ⟨w.heap.size, 2, none⟩) (v := .int .i64 sd) (by first | (go_simp; done) | exact bl_cell (by repeat (with_reducible first | apply bl_alloc | apply bl_drew | exact Below.refl _ _)) (by assumption)); have iq3 := bl_cell hb' (p := ⟨w.heap.size, 3, none⟩) (v := .int .i64 wd) (by first | (go_simp; done) | exact bl_cell (by repeat (with_reducible first | apply bl_alloc | apply bl_drew | exact Below.refl _ _)) (by assumption)); have iq4 := bl_cell hb' (p := ⟨w.heap.size, 4, none⟩) (v := .int .i64 ht) (by first | (go_simp; done) | exact bl_cell (by repeat (with_reducible first | apply bl_alloc | apply bl_drew | exact Below.refl _ _)) (by assumption)); have iq5 := bl_cell hb' (p := ⟨w.heap.size, 5, none⟩) (v := .slice A pb.length c) (by first | (go_simp; done) | exact bl_cell (by repeat (with_reducible first | apply bl_alloc | apply bl_drew | exact Below.refl _ _)) (by assumption)); have iq6 := bl_cell hb' (p := ⟨w.heap.size, 6, none⟩) (v := .slice B pl.length d) (by first | (go_simp; done) | exact bl_cell (by repeat (with_reducible first | apply bl_alloc | apply bl_drew | exact Below.refl _ _)) (by assumption)); have sf0 := bl_cell hb' (p := ⟨w.heap.size + 1, 0, none⟩) (v := .int .i64 fx) (by first | (go_simp; done) | exact bl_cell (by repeat (with_reducible first | apply bl_alloc | apply bl_drew | exact Below.refl _ _)) (by assumption)); have sf1 := bl_cell hb' (p := ⟨w.heap.size + 1, 1, none⟩) (v := .int .i64 fy) (by first | (go_simp; done) | exact bl_cell (by repeat (with_reducible first | apply bl_alloc | apply bl_drew | exact Below.refl _ _)) (by assumption)); have st0 := bl_cell hb' (p := ⟨w.heap.size + 1 + 1, 0, none⟩) (v := .int .i64 tx) (by first | (go_simp; done) | exact bl_cell (by repeat (with_reducible first | apply bl_alloc | apply bl_drew | exact Below.refl _ _)) (by assumption)); have st1 := bl_cell hb' (p := ⟨w.heap.size + 1 + 1, 1, none⟩) (v := .int .i64 ty) (by first | (go_simp; done) | exact bl_cell (by repeat (with_reducible first | apply bl_alloc | apply bl_drew | exact Below.refl _ _)) (by assumption)); have hb3 := Kp.mk (bl_then hb2.out hb'); clear hb' hown; simp only [errI, if_true]) | (go_at_call 11; (with_reducible refine (HT2 _ ?h1).out.mono ?_); (case h1 => exact hb3.out); rintro e w4 ⟨v, rfl, hown, hb'⟩; obtain ⟨R2, cr2, rfl, hr2', hc2'⟩ := own_reads2 (xs := L) hown; have RD2 := Kp.mk hr2'; have CP2 := Kp.mk hc2'; clear hr2' hc2'; have iq0 := bl_cell hb' (p := ⟨w.heap.size, 0, none⟩) (v := .int .i64 cx) (by first | (go_simp; done) | exact bl_cell (by repeat (with_reducible first | apply bl_alloc | apply bl_drew | exact Below.refl _ _)) (by assumption)); have iq1 := bl_cell hb' (p := ⟨w.heap.size, 1, none⟩) (v := .int .i64 cy) (by first | (go_simp; done) | exact bl_cell (by repeat (with_reducible first | apply bl_alloc | apply bl_drew | exact Below.refl _ _)) (by assumption)); have iq2 := bl_cell hb' (p := ⟨w.heap.size, 2, none⟩) (v := .int .i64 sd) (by first | (go_simp; done) | exact bl_cell (by repeat (with_reducible first | apply bl_alloc | apply bl_drew | exact Below.refl _ _)) (by assumption)); have iq3 := bl_cell hb' (p := ⟨w.heap.size, 3, none⟩) (v := .int .i64 wd) (by first | (go_simp; done) | exact bl_cell (by repeat (with_reducible first | apply bl_alloc | apply bl_drew | exact Below.refl _ _)) (by assumption)); have iq4 := bl_cell hb' (p := ⟨w.heap.size, 4, none⟩) (v := .int .i64 ht) (by first | (go_simp; done) | exact bl_cell (by repeat (with_reducible first | apply bl_alloc | apply bl_drew | exact Below.refl _ _)) (by assumption)); have iq5 := bl_cell hb' (p := ⟨w.heap.size, 5, none⟩) (v := .slice A pb.length c) (by first | (go_simp; done) | exact bl_cell (by repeat (with_reducible first | apply bl_alloc | apply bl_drew | exact Below.refl _ _)) (by assumption)); have iq6 := bl_cell hb' (p := ⟨w.heap.size, 6, none⟩) (v := .slice B pl.length d) (by first | (go_simp; done) | exact bl_cell (by repeat (with_reducible first | apply bl_alloc | apply bl_drew | exact Below.refl _ _)) (by assumption)); have sf0 := bl_cell hb' (p := ⟨w.heap.size + 1, 0, none⟩) (v := .int .i64 fx) (by first | (go_simp; done) | exact bl_cell (by repeat (with_reducible first | apply bl_alloc | apply bl_drew | exact Below.refl _ _)) (by assumption)); have sf1 := bl_cell hb' (p := ⟨w.heap.size + 1, 1, none⟩) (v := .int .i64 fy) (by first | (go_simp; done) | exact bl_cell (by repeat (with_reducible first | apply bl_alloc | apply bl_drew | exact Below.refl _ _)) (by assumption)); have st0 := bl_cell hb' (p := ⟨w.heap.size + 1 + 1, 0, none⟩) (v := .int .i64 tx) (by first | (go_simp; done) | exact bl_cell (by repeat (with_reducible first | apply bl_alloc | apply bl_drew | exact Below.refl _ _)) (by assumption)); have st1 := bl_cell hb' (p := ⟨w.heap.size + 1 + 1, 1, none⟩) (v := .int .i64 ty) (by first | (go_simp; done) | exact bl_cell (by repeat (with_reducible first | apply bl_alloc | apply bl_drew | exact Below.refl _ _)) (by assumption)); have RE1 := Kp.mk (RD1.out.below hb'); have hb4 := Kp.mk (bl_then hb3.out hb'); clear hb' hown; simp only [errI, if_true]))
      go_quiet (fail)
      go_wp2_with (go_at_call 12; (with_reducible refine (HGc _).out.mono ?_); rintro e w5 ⟨n, rfl, hn', hb'⟩; have iq0 := bl_cell hb' (p := ⟨w.heap.size, 0, none⟩) (v := .int .i64 cx) (by first | (go_simp; done) | exact bl_cell (by repeat (with_reducible first | apply bl_alloc | apply bl_drew | exact Below.refl _ _)) (by assumption)); have iq1 := bl_cell hb' (p := ⟨w.heap.size, 1, none⟩) (v := .int .i64 cy) (by first | (go_simp; done) | exact bl_cell (by repeat (with_reducible first | apply bl_alloc | apply bl_drew | exact Below.refl _ _)) (by assumption)); have iq2 := bl_cell hb' (p := ⟨w.heap.size, 2, none⟩) (v := .int .i64 sd) (by first | (go_simp; done) | exact bl_cell (by repeat (with_reducible first | apply bl_alloc | apply bl_drew | exact Below.refl _ _)) (by assumption)); have iq3 := bl_cell hb' (p := ⟨w.heap.size, 3, none⟩) (v := .int .i64 wd) (by first | (go_simp; done) | exact bl_cell (by repeat (with_reducible first | apply bl_alloc | apply bl_drew | exact Below.refl _ _)) (by assumption)); have iq4 := bl_cell hb' (p := ⟨w.heap.size, 4, none⟩) (v := .int .i64 ht) (by first | (go_simp; done) | exact bl_cell (by repeat (with_reducible first | apply bl_alloc | apply bl_drew | exact Below.refl _ _)) (by assumption)); have iq5 := bl_cell hb' (p := ⟨w.heap.size, 5, none⟩) (v := .slice A pb.length c) (by first | (go_simp; done) | exact bl_cell (by repeat (with_reducible first | apply bl_alloc | apply bl_drew | exact Below.refl _ _)) (by assumption)); have iq6 := bl_cell hb' (p := ⟨w.heap.size, 6, none⟩) (v := .slice B pl.length d) (by first | (go_simp; done) | exact bl_cell (by repeat (with_reducible first | apply bl_alloc | apply bl_drew | exact Below.refl _ _)) (by assumption)); have sf0 := bl_cell hb' (p := ⟨w.heap.size + 1, 0, none⟩) (v := .int .i64 fx) (by first | (go_simp; done) | exact bl_cell (by repeat (with_reducible first | apply bl_alloc | apply bl_drew | exact Below.refl _ _)) (by assumption)); have sf1 := bl_cell hb' (p := ⟨w.heap.size + 1, 1, none⟩) (v := .int .i64 fy) (by first | (go_simp; done) | exact bl_cell (by repeat (with_reducible first | apply bl_alloc | apply bl_drew | exact Below.refl _ _)) (by assumption)); have st0 := bl_cell hb' (p := ⟨w.heap.size + 1 + 1, 0, none⟩) (v := .int .i64 tx) (by first | (go_simp; done) | exact bl_cell (by repeat (with_reducible first | apply bl_alloc | apply bl_drew | exact Below.refl _ _)) (by assumption)); have st1 := bl_cell hb' (p := ⟨w.heap.size + 1 + 1, 1, none⟩) (v := .int .i64 ty) (by first | (go_simp; done) | exact bl_cell (by repeat (with_reducible first | apply bl_alloc | apply bl_drew | exact Below.refl _ _)) (by assumption)); have l0 := World.block_lt_of_cell? w5 _ iq0; have l1 := World.block_lt_of_cell? w5 _ sf0; have l2 := World.block_lt_of_cell? w5 _ st0; have RE1 := Kp.mk ((RE1.out.drewN _).below hb'); have RE2 := Kp.mk ((RD2.out.drewN _).below hb'); have HN := Kp.mk hn'; have hb5 := Kp.mk (bl_then (by repeat (with_reducible first | exact hb4.out | apply bl_drewN | apply bl_drew) : Below w.heap.size w _) hb'); clear hb' hn')
      · rename_i hn0
        obtain ⟨n0, n1, n2, n3⟩ := HN.out
        have m0 := mul_bd n0 n1 hp.1 hp.2
        have e1 : wrap64 (n * part) = n * part := w_id (by omega) (by omega)
        have k0 : 0 ≤ (n * part).tdiv 65536 := Int.tdiv_nonneg m0.1 (by decide)
        have k1 : (n * part).tdiv 65536 ≤ n := by
          rw [Int.tdiv_eq_ediv_of_nonneg m0.1]
          have := Int.mul_le_mul_of_nonneg_left hp.2 n0
          omega
        obtain ⟨sx, sy, hsx, hsy, bx, by', cx', cy', hAt⟩ := HLT.out n _ k0 k1 n2 n3
        have HAt := Kp.mk hAt
        clear hAt
        have e2 : wrap64 ((n * part).tdiv 65536) = (n * part).tdiv 65536 := w_id (by omega) (by omega)
        have e3 : wrap64 ((tx - fx).tdiv n * (n * part).tdiv 65536) = (tx - fx).tdiv n * (n * part).tdiv 65536 := w_id (by omega) (by omega)
        have e4 : wrap64 ((ty - fy).tdiv n * (n * part).tdiv 65536) = (ty - fy).tdiv n * (n * part).tdiv 65536 := w_id (by omega) (by omega)
        have e5 : wrap64 (fx + (tx - fx).tdiv n * (n * part).tdiv 65536) = sx := by rw [← hsx]; exact w_id (by omega) (by omega)
        have e6 : wrap64 (fy + (ty - fy).tdiv n * (n * part).tdiv 65536) = sy := by rw [← hsy]; exact w_id (by omega) (by omega)
        have nz : ¬ n = 0 := by omega
        clear bx by' cx' cy' k0 k1 m0 n1 n2 n3 hsx hsy
        rcases HAt.out with hA | ⟨c0, hA, hc0⟩
        all_goals have HA2 := fun W q => HA1 sx sy W q
        all_goals simp only [hA] at HA2
        all_goals clear HA1 hA HAt
        all_goals go_region
        all_goals go_wp2_with (first | (go_at_call 13; (with_reducible refine (HA2 _ ?hb).out.mono ?_); (case hb => exact (by repeat (with_reducible first | exact hb5.out | apply bl_drewN | apply bl_drew | apply bl_alloc | (refine bl_set ?_ (by go_simp))))); rintro e w6 ⟨rfl, hb'⟩; have iq0 := bl_cell hb' (p := ⟨w.heap.size, 0, none⟩) (v := .int .i64 cx) (by first | (go_simp; done) | exact bl_cell (by repeat (with_reducible first | apply bl_alloc | apply bl_drew | exact Below.refl _ _)) (by assumption)); have iq1 := bl_cell hb' (p := ⟨w.heap.size, 1, none⟩) (v := .int .i64 cy) (by first | (go_simp; done) | exact bl_cell (by repeat (with_reducible first | apply bl_alloc | apply bl_drew | exact Below.refl _ _)) (by assumption)); have iq2 := bl_cell hb' (p := ⟨w.heap.size, 2, none⟩) (v := .int .i64 sd) (by first | (go_simp; done) | exact bl_cell (by repeat (with_reducible first | apply bl_alloc | apply bl_drew | exact Below.refl _ _)) (by assumption)); have iq3 := bl_cell hb' (p := ⟨w.heap.size, 3, none⟩) (v := .int .i64 wd) (by first | (go_simp; done) | exact bl_cell (by repeat (with_reducible first | apply bl_alloc | apply bl_drew | exact Below.refl _ _)) (by assumption)); have iq4 := bl_cell hb' (p := ⟨w.heap.size, 4, none⟩) (v := .int .i64 ht) (by first | (go_simp; done) | exact bl_cell (by repeat (with_reducible first | apply bl_alloc | apply bl_drew | exact Below.refl _ _)) (by assumption)); have iq5 := bl_cell hb' (p := ⟨w.heap.size, 5, none⟩) (v := .slice A pb.length c) (by first | (go_simp; done) | exact bl_cell (by repeat (with_reducible first | apply bl_alloc | apply bl_drew | exact Below.refl _ _)) (by assumption)); have iq6 := bl_cell hb' (p := ⟨w.heap.size, 6, none⟩) (v := .slice B pl.length d) (by first | (go_simp; done) | exact bl_cell (by repeat (with_reducible first | apply bl_alloc | apply bl_drew | exact Below.refl _ _)) (by assumption)); have RF1 := Kp.mk (RE1.out.below (bl_then (by repeat (with_reducible first | exact Below.refl _ _ | apply bl_drewN | apply bl_drew | apply bl_alloc | (refine bl_set ?_ (by go_simp))) : Below w5.heap.size w5 _) hb')); have RF2 := Kp.mk (RE2.out.below (bl_then (by repeat (with_reducible first | exact Below.refl _ _ | apply bl_drewN | apply bl_drew | apply bl_alloc | (refine bl_set ?_ (by go_simp))) : Below w5.heap.size w5 _) hb')); have hb6 := Kp.mk (bl_then (by repeat (with_reducible first | exact hb5.out | apply bl_drewN | apply bl_drew | apply bl_alloc | (refine bl_set ?_ (by go_simp))) : Below w.heap.size w _) hb'); clear hb'))
        · go_loop [21, 117] (fun f i => ∃ (I : Int) (fb : Bool), f = .bool fb ∧ i = .int .i64 I ∧ Kp (0 ≤ I ∧ I ≤ L.length) ∧ Kp (fb = true)) (fun _ i => L.length - (intOf i).toNat)
          case atStart => exact ⟨0, _, rfl, rfl, ⟨by omega, by omega⟩, ⟨rfl⟩⟩
          case round =>
            obtain ⟨I, fb, rfl, rfl, hI, hf⟩ := hrel
            obtain ⟨i0, i1⟩ := hI.out
            by_cases hlt : I < L.length
            · have hmem := rd_mem i0 hlt
              obtain ⟨d0, d1, _⟩ := HLI.out _ hmem
              obtain ⟨ad, hR, hcell⟩ := RF1.out.at_ I i0 hlt
              have HNX := hf
              obtain rfl := hf.out
              have hwh : wrap64 (wd * ht) = wd * ht := by
                have := mul_bd (show 0 ≤ wd by have := HW.out.hw.1; omega) HW.out.hw.2 (show 0 ≤ ht by have := HW.out.hh.1; omega) HW.out.hh.2
                exact w_id (by omega) (by omega)
              have ei : wrap64 (I + 1) = I + 1 := w_id (by have := HLL.out; omega) (by have := HLL.out; omega)
              subst hR
              by_cases hI0 : 0 < I
              · obtain ⟨ad2, hR2, hcell2⟩ := RF1.out.at_ (I - 1) (by omega) (by omega)
                obtain rfl : ad = ad2 := by simpa using hR2
                have hlt2 := rises_rd HLP.out hI0 hlt
                have ej : wrap64 (I - 1) = I - 1 := w_id (by have := HLL.out; omega) (by have := HLL.out; omega)
                have il : (0 : Int) ≤ I - 1 := by omega
                have iu : I - 1 < L.length := by omega
                rw [show (I - 1).toNat = I.toNat - 1 by omega] at hcell2
                generalize rd L (I - 1) = dp at *
                generalize rd L I = dv at *
                go_wp2_with (fail)
                go_round
                case rel => exact ⟨I + 1, _, rfl, by rw [ei], ⟨by omega, by omega⟩, ⟨rfl⟩⟩
                case measure => simp [intOf, ei]; omega
              · obtain rfl : I = 0 := by omega
                have hz : ad.add (0 : Int).toNat = ad := by cases ad; simp [Addr.add]
                rw [hz] at hcell
                generalize rd L 0 = dv at *
                go_wp2_with (fail)
                go_round
                case rel => exact ⟨1, _, rfl, rfl, ⟨by omega, by omega⟩, ⟨rfl⟩⟩
                case measure => simp [intOf]; omega
            · have HIn := Kp.mk (Ints_any L L R1 cr1 R2 cr2 w6 RF1.out CP1.out RF2.out CP2.out HLL.out)
              rw [show decide (L = L) = true from decide_eq_true rfl] at HIn
              obtain rfl := hf.out
              go_wp2_with (go_at_call 14; (with_reducible refine HIn.out.mono ?_); rintro e w7 ⟨rfl, hb'⟩; have hb7 := Kp.mk hb'; clear hb')
              go_ret
              exact ⟨rfl, bl_then hb6.out hb7.out⟩
        · go_loop [21, 117] (fun f i => ∃ (I : Int) (fb : Bool), f = .bool fb ∧ i = .int .i64 I ∧ Kp (0 ≤ I ∧ I ≤ L.length) ∧ Kp (SeenB L c0 I fb)) (fun _ i => L.length - (intOf i).toNat)
          case atStart => exact ⟨0, _, rfl, rfl, ⟨by omega, by omega⟩, ⟨rfl⟩⟩
          case round =>
            obtain ⟨I, fb, rfl, rfl, hI, hf⟩ := hrel
            obtain ⟨i0, i1⟩ := hI.out
            by_cases hlt : I < L.length
            · have hmem := rd_mem i0 hlt
              obtain ⟨d0, d1, _⟩ := HLI.out _ hmem
              obtain ⟨ad, hR, hcell⟩ := RF1.out.at_ I i0 hlt
              have HNX := Kp.mk (seen_next hf.out i0 hlt)
              have hwh : wrap64 (wd * ht) = wd * ht := by
                have := mul_bd (show 0 ≤ wd by have := HW.out.hw.1; omega) HW.out.hw.2 (show 0 ≤ ht by have := HW.out.hh.1; omega) HW.out.hh.2
                exact w_id (by omega) (by omega)
              have ei : wrap64 (I + 1) = I + 1 := w_id (by have := HLL.out; omega) (by have := HLL.out; omega)
              subst hR
              by_cases hI0 : 0 < I
              · obtain ⟨ad2, hR2, hcell2⟩ := RF1.out.at_ (I - 1) (by omega) (by omega)
                obtain rfl : ad = ad2 := by simpa using hR2
                have hlt2 := rises_rd HLP.out hI0 hlt
                have ej : wrap64 (I - 1) = I - 1 := w_id (by have := HLL.out; omega) (by have := HLL.out; omega)
                have il : (0 : Int) ≤ I - 1 := by omega
                have iu : I - 1 < L.length := by omega
                rw [show (I - 1).toNat = I.toNat - 1 by omega] at hcell2
                generalize rd L (I - 1) = dp at *
                generalize rd L I = dv at *
                cases fb
                all_goals go_wp2_with (fail)
                all_goals go_round
                all_goals first | exact ⟨I + 1, _, rfl, by rw [ei], ⟨by omega, by omega⟩, ⟨by simpa using HNX.out⟩⟩ | (simp [intOf, ei]; omega)
              · obtain rfl : I = 0 := by omega
                have hz : ad.add (0 : Int).toNat = ad := by cases ad; simp [Addr.add]
                rw [hz] at hcell
                generalize rd L 0 = dv at *
                cases fb
                all_goals go_wp2_with (fail)
                all_goals go_round
                all_goals first | exact ⟨1, _, rfl, rfl, ⟨by omega, by omega⟩, ⟨by simpa using HNX.out⟩⟩ | (simp [intOf]; omega)
            · have HIn := Kp.mk (Ints_any L L R1 cr1 R2 cr2 w6 RF1.out CP1.out RF2.out CP2.out HLL.out)
              rw [show decide (L = L) = true from decide_eq_true rfl] at HIn
              obtain rfl := seen_all hf.out (by omega) hc0
              go_wp2_with (go_at_call 14; (with_reducible refine HIn.out.mono ?_); rintro e w7 ⟨rfl, hb'⟩; have hb7 := Kp.mk hb'; clear hb')
              go_ret
              exact ⟨rfl, bl_then hb6.out hb7.out⟩
      · rename_i hn0
        obtain ⟨n0, n1, n2, n3⟩ := HN.out
        obtain ⟨sx, sy, hsx, hsy, _, _, _, _, hAt⟩ := HLT.out n 0 (Int.le_refl _) n0 n2 n3
        rw [Int.mul_zero, Int.add_zero] at hsx hsy
        rw [hsx, hsy] at hAt
        have HAt := Kp.mk hAt
        clear hAt hsx hsy n1 n2 n3
        rcases HAt.out with hA | ⟨c0, hA, hc0⟩
        all_goals have HA2 := fun W q => HA1 fx fy W q
        all_goals simp only [hA] at HA2
        all_goals clear HA1 hA HAt
        all_goals go_wp2_with (first | (go_at_call 13; (with_reducible refine (HA2 _ ?hb).out.mono ?_); (case hb => exact (by repeat (with_reducible first | exact hb5.out | apply bl_drewN | apply bl_drew | apply bl_alloc | (refine bl_set ?_ (by go_simp))))); rintro e w6 ⟨rfl, hb'⟩; have iq0 := bl_cell hb' (p := ⟨w.heap.size, 0, none⟩) (v := .int .i64 cx) (by first | (go_simp; done) | exact bl_cell (by repeat (with_reducible first | apply bl_alloc | apply bl_drew | exact Below.refl _ _)) (by assumption)); have iq1 := bl_cell hb' (p := ⟨w.heap.size, 1, none⟩) (v := .int .i64 cy) (by first | (go_simp; done) | exact bl_cell (by repeat (with_reducible first | apply bl_alloc | apply bl_drew | exact Below.refl _ _)) (by assumption)); have iq2 := bl_cell hb' (p := ⟨w.heap.size, 2, none⟩) (v := .int .i64 sd) (by first | (go_simp; done) | exact bl_cell (by repeat (with_reducible first | apply bl_alloc | apply bl_drew | exact Below.refl _ _)) (by assumption)); have iq3 := bl_cell hb' (p := ⟨w.heap.size, 3, none⟩) (v := .int .i64 wd) (by first | (go_simp; done) | exact bl_cell (by repeat (with_reducible first | apply bl_alloc | apply bl_drew | exact Below.refl _ _)) (by assumption)); have iq4 := bl_cell hb' (p := ⟨w.heap.size, 4, none⟩) (v := .int .i64 ht) (by first | (go_simp; done) | exact bl_cell (by repeat (with_reducible first | apply bl_alloc | apply bl_drew | exact Below.refl _ _)) (by assumption)); have iq5 := bl_cell hb' (p := ⟨w.heap.size, 5, none⟩) (v := .slice A pb.length c) (by first | (go_simp; done) | exact bl_cell (by repeat (with_reducible first | apply bl_alloc | apply bl_drew | exact Below.refl _ _)) (by assumption)); have iq6 := bl_cell hb' (p := ⟨w.heap.size, 6, none⟩) (v := .slice B pl.length d) (by first | (go_simp; done) | exact bl_cell (by repeat (with_reducible first | apply bl_alloc | apply bl_drew | exact Below.refl _ _)) (by assumption)); have RF1 := Kp.mk (RE1.out.below (bl_then (by repeat (with_reducible first | exact Below.refl _ _ | apply bl_drewN | apply bl_drew | apply bl_alloc | (refine bl_set ?_ (by go_simp))) : Below w5.heap.size w5 _) hb')); have RF2 := Kp.mk (RE2.out.below (bl_then (by repeat (with_reducible first | exact Below.refl _ _ | apply bl_drewN | apply bl_drew | apply bl_alloc | (refine bl_set ?_ (by go_simp))) : Below w5.heap.size w5 _) hb')); have hb6 := Kp.mk (bl_then (by repeat (with_reducible first | exact hb5.out | apply bl_drewN | apply bl_drew | apply bl_alloc | (refine bl_set ?_ (by go_simp))) : Below w.heap.size w _) hb'); clear hb'))
        · go_loop [21, 117] (fun f i => ∃ (I : Int) (fb : Bool), f = .bool fb ∧ i = .int .i64 I ∧ Kp (0 ≤ I ∧ I ≤ L.length) ∧ Kp (fb = true)) (fun _ i => L.length - (intOf i).toNat)
          case atStart => exact ⟨0, _, rfl, rfl, ⟨by omega, by omega⟩, ⟨rfl⟩⟩
          case round =>
            obtain ⟨I, fb, rfl, rfl, hI, hf⟩ := hrel
            obtain ⟨i0, i1⟩ := hI.out
            by_cases hlt : I < L.length
            · have hmem := rd_mem i0 hlt
              obtain ⟨d0, d1, _⟩ := HLI.out _ hmem
              obtain ⟨ad, hR, hcell⟩ := RF1.out.at_ I i0 hlt
              have HNX := hf
              obtain rfl := hf.out
              have hwh : wrap64 (wd * ht) = wd * ht := by
                have := mul_bd (show 0 ≤ wd by have := HW.out.hw.1; omega) HW.out.hw.2 (show 0 ≤ ht by have := HW.out.hh.1; omega) HW.out.hh.2
                exact w_id (by omega) (by omega)
              have ei : wrap64 (I + 1) = I + 1 := w_id (by have := HLL.out; omega) (by have := HLL.out; omega)
              subst hR
              by_cases hI0 : 0 < I
              · obtain ⟨ad2, hR2, hcell2⟩ := RF1.out.at_ (I - 1) (by omega) (by omega)
                obtain rfl : ad = ad2 := by simpa using hR2
                have hlt2 := rises_rd HLP.out hI0 hlt
                have ej : wrap64 (I - 1) = I - 1 := w_id (by have := HLL.out; omega) (by have := HLL.out; omega)
                have il : (0 : Int) ≤ I - 1 := by omega
                have iu : I - 1 < L.length := by omega
                rw [show (I - 1).toNat = I.toNat - 1 by omega] at hcell2
                generalize rd L (I - 1) = dp at *
                generalize rd L I = dv at *
                go_wp2_with (fail)
                go_round
                case rel => exact ⟨I + 1, _, rfl, by rw [ei], ⟨by omega, by omega⟩, ⟨rfl⟩⟩
                case measure => simp [intOf, ei]; omega
              · obtain rfl : I = 0 := by omega
                have hz : ad.add (0 : Int).toNat = ad := by cases ad; simp [Addr.add]
                rw [hz] at hcell
                generalize rd L 0 = dv at *
                go_wp2_with (fail)
                go_round
                case rel => exact ⟨1, _, rfl, rfl, ⟨by omega, by omega⟩, ⟨rfl⟩⟩
                case measure => simp [intOf]; omega
            · have HIn := Kp.mk (Ints_any L L R1 cr1 R2 cr2 w6 RF1.out CP1.out RF2.out CP2.out HLL.out)
              rw [show decide (L = L) = true from decide_eq_true rfl] at HIn
              obtain rfl := hf.out
              go_wp2_with (go_at_call 14; (with_reducible refine HIn.out.mono ?_); rintro e w7 ⟨rfl, hb'⟩; have hb7 := Kp.mk hb'; clear hb')
              go_ret
              exact ⟨rfl, bl_then hb6.out hb7.out⟩
        · go_loop [21, 117] (fun f i => ∃ (I : Int) (fb : Bool), f = .bool fb ∧ i = .int .i64 I ∧ Kp (0 ≤ I ∧ I ≤ L.length) ∧ Kp (SeenB L c0 I fb)) (fun _ i => L.length - (intOf i).toNat)
          case atStart => exact ⟨0, _, rfl, rfl, ⟨by omega, by omega⟩, ⟨rfl⟩⟩
          case round =>
            obtain ⟨I, fb, rfl, rfl, hI, hf⟩ := hrel
            obtain ⟨i0, i1⟩ := hI.out
            by_cases hlt : I < L.length
            · have hmem := rd_mem i0 hlt
              obtain ⟨d0, d1, _⟩ := HLI.out _ hmem
              obtain ⟨ad, hR, hcell⟩ := RF1.out.at_ I i0 hlt
              have HNX := Kp.mk (seen_next hf.out i0 hlt)
              have hwh : wrap64 (wd * ht) = wd * ht := by
                have := mul_bd (show 0 ≤ wd by have := HW.out.hw.1; omega) HW.out.hw.2 (show 0 ≤ ht by have := HW.out.hh.1; omega) HW.out.hh.2
                exact w_id (by omega) (by omega)
              have ei : wrap64 (I + 1) = I + 1 := w_id (by have := HLL.out; omega) (by have := HLL.out; omega)
              subst hR
              by_cases hI0 : 0 < I
              · obtain ⟨ad2, hR2, hcell2⟩ := RF1.out.at_ (I - 1) (by omega) (by omega)
                obtain rfl : ad = ad2 := by simpa using hR2
                have hlt2 := rises_rd HLP.out hI0 hlt
                have ej : wrap64 (I - 1) = I - 1 := w_id (by have := HLL.out; omega) (by have := HLL.out; omega)
                have il : (0 : Int) ≤ I - 1 := by omega
                have iu : I - 1 < L.length := by omega
                rw [show (I - 1).toNat = I.toNat - 1 by omega] at hcell2
                generalize rd L (I - 1) = dp at *
                generalize rd L I = dv at *
                cases fb
                all_goals go_wp2_with (fail)
                all_goals go_round
                all_goals first | exact ⟨I + 1, _, rfl, by rw [ei], ⟨by omega, by omega⟩, ⟨by simpa using HNX.out⟩⟩ | (simp [intOf, ei]; omega)
              · obtain rfl : I = 0 := by omega
                have hz : ad.add (0 : Int).toNat = ad := by cases ad; simp [Addr.add]
                rw [hz] at hcell
                generalize rd L 0 = dv at *
                cases fb
                all_goals go_wp2_with (fail)
                all_goals go_round
                all_goals first | exact ⟨1, _, rfl, rfl, ⟨by omega, by omega⟩, ⟨by simpa using HNX.out⟩⟩ | (simp [intOf]; omega)
            · have HIn := Kp.mk (Ints_any L L R1 cr1 R2 cr2 w6 RF1.out CP1.out RF2.out CP2.out HLL.out)
              rw [show decide (L = L) = true from decide_eq_true rfl] at HIn
              obtain rfl := seen_all hf.out (by omega) hc0
              go_wp2_with (go_at_call 14; (with_reducible refine HIn.out.mono ?_); rintro e w7 ⟨rfl, hb'⟩; have hb7 := Kp.mk hb'; clear hb')
              go_ret
              exact ⟨rfl, bl_then hb6.out hb7.out⟩
end Go.Proofs.Ytibaapaglocpjaa.B

end
