import Derived.Deep.CutRange
import Derived.Test.YtibaapaglocpjaaBF2
/- Proved here: lemmas for the laws' proofs (the texts Ga). No condition. -/
section
set_option linter.unusedSimpArgs false
set_option linter.unusedVariables false
namespace Go.Proofs.Ytibaapaglocpjaa.B
open Go.RowKit Go.Shelf Go.Proofs.YtibaapaglocpjaaW.PrintWords
theorem wrap_cmp (a b : Int) : wrap64 (-cmpI a b) = -cmpI a b := by have := cmpI_bd a b; unfold wrap64; omega
theorem eql_wide (w : World) (x0 y0 x1 y1 : Int) :
    (binOp .eql 104 (.agg #[.int .u64 x0, .int .u64 x1]) (.agg #[.int .u64 y0, .int .u64 y1])).run Try.prog w = .ok (.bool (x0 == y0 && (x1 == y1))) w := by
  simp only [binOp]
  simp [Op.equal, Op.maxDepth, eqA_wide 9998]
theorem wide_zero {a : Int} (h : 0 ≤ a) : (whi a == 0 && (wlo a == 0)) = decide (a = 0) := by
  by_cases h0 : a = 0
  · subst h0; rfl
  · rw [decide_eq_false h0]
    rw [Bool.and_eq_false_iff]
    by_cases h1 : whi a = 0
    · right
      rw [beq_eq_false_iff_ne]
      unfold whi at h1; unfold wlo; omega
    · left; exact beq_eq_false_iff_ne.2 h1
structure Bx (w : World) (b : Nat) : Prop where
  c0 : w.cell? ⟨b, 0, none⟩ = some (.int .u64 0)
  c1 : w.cell? ⟨b, 1, none⟩ = some (.int .u64 0)
  f0 : w.frozen? ⟨b, 0, none⟩ = false
  f1 : w.frozen? ⟨b, 1, none⟩ = false
theorem Bx.mono {w w2 : World} {b : Nat} (h : Below w.heap.size w w2) (x : Bx w b) : Bx w2 b :=
  have l := World.block_lt_of_cell? w _ x.c0
  ⟨bl_cell h x.c0, bl_cell h x.c1, bl_frozen h l x.f0, bl_frozen h l x.f1⟩
theorem bx_alloc (w : World) (t : TypeId) : Bx (w.alloc (.cells #[.int .u64 0, .int .u64 0] t)) w.heap.size := ⟨by go_simp, by go_simp, by go_simp, by go_simp⟩
theorem bx_alloc2 (w : World) (o : Obj) (t : TypeId) : Bx ((w.alloc o).alloc (.cells #[.int .u64 0, .int .u64 0] t)) (w.heap.size + 1) := ⟨by go_simp, by go_simp, by go_simp, by go_simp⟩
theorem Bx.facts {w2 : World} {b : Nat} (x : Bx w2 b) : w2.cell? ⟨b, 0, none⟩ = some (.int .u64 0) ∧ w2.cell? ⟨b, 1, none⟩ = some (.int .u64 0) ∧ w2.frozen? ⟨b, 0, none⟩ = false ∧ w2.frozen? ⟨b, 1, none⟩ = false ∧ b ≠ w2.heap.size ∧ b ≠ w2.heap.size + 1 ∧ w2.heap.size ≠ b ∧ w2.heap.size + 1 ≠ b ∧ (∀ o, (w2.alloc o).cell? ⟨b, 0, none⟩ = some (.int .u64 0)) ∧ (∀ o, (w2.alloc o).cell? ⟨b, 1, none⟩ = some (.int .u64 0)) ∧ (∀ o, (w2.alloc o).frozen? ⟨b, 0, none⟩ = false) ∧ (∀ o, (w2.alloc o).frozen? ⟨b, 1, none⟩ = false) :=
  have l2 := World.block_lt_of_cell? w2 _ x.c0
  ⟨x.c0, x.c1, x.f0, x.f1, Nat.ne_of_lt l2, Nat.ne_of_lt (Nat.lt_succ_of_lt l2), (Nat.ne_of_lt l2).symm, (Nat.ne_of_lt (Nat.lt_succ_of_lt l2)).symm, fun o => bl_cell (bl_alloc (Below.refl _ w2) o) x.c0, fun o => bl_cell (bl_alloc (Below.refl _ w2) o) x.c1, fun o => bl_frozen (bl_alloc (Below.refl _ w2) o) l2 x.f0, fun o => bl_frozen (bl_alloc (Below.refl _ w2) o) l2 x.f1⟩
theorem Bx.sep {w2 : World} {b : Nat} (x : Bx w2 b) : b ≠ w2.heap.size ∧ b ≠ w2.heap.size + 1 ∧ w2.heap.size ≠ b ∧ w2.heap.size + 1 ≠ b := ⟨x.facts.2.2.2.2.1, x.facts.2.2.2.2.2.1, x.facts.2.2.2.2.2.2.1, x.facts.2.2.2.2.2.2.2.1⟩
theorem kp_cut {p G : Prop} (h : p) (k : Kp p → G) : G := k ⟨h⟩
theorem and_cut {p G : Prop} (h : p) (k : p → G) : G := k h
set_option maxRecDepth 100000 in
set_option maxHeartbeats 40000000 in
theorem turn_do (ax ay bx by' : Int) (b1 b2 : Nat) (w : World) (ha : okFix ax) (hb : okFix ay) (hc : okFix bx) (hd : okFix by')
    (h0 : w.cell? ⟨b1, 0, none⟩ = some (.int .i64 ax)) (h1 : w.cell? ⟨b1, 1, none⟩ = some (.int .i64 ay)) (h2 : w.cell? ⟨b2, 0, none⟩ = some (.int .i64 bx)) (h3 : w.cell? ⟨b2, 1, none⟩ = some (.int .i64 by')) :
    Calls Try.prog 96 #[.pointer (some ⟨b1, 0, none⟩), .pointer (some ⟨b2, 0, none⟩)] w fun e w' => e = .returned (.int .i64 (turnR (negOf ax by') (negOf ay bx) (nabs ax * nabs by') (nabs ay * nabs bx))) ∧ Below w.heap.size w w' := by
  have HOK : Kp (okFix ax ∧ okFix ay ∧ okFix bx ∧ okFix by') := ⟨⟨ha, hb, hc, hd⟩⟩
  obtain ⟨ha0, ha1⟩ := ha
  obtain ⟨hb0, hb1⟩ := hb
  obtain ⟨hc0, hc1⟩ := hc
  obtain ⟨hd0, hd1⟩ := hd
  have HSA := fun W => Kp.mk (size_fix ax (by omega) (by omega) W)
  have HSB := fun W => Kp.mk (size_fix ay (by omega) (by omega) W)
  have HSC := fun W => Kp.mk (size_fix bx (by omega) (by omega) W)
  have HSD := fun W => Kp.mk (size_fix by' (by omega) (by omega) W)
  have na := nabs_nonneg ax
  have nb := nabs_nonneg ay
  have nc := nabs_nonneg bx
  have nd := nabs_nonneg by'
  have ua : nabs ax < 18446744073709551616 := by unfold nabs; split <;> omega
  have ub : nabs ay < 18446744073709551616 := by unfold nabs; split <;> omega
  have uc : nabs bx < 18446744073709551616 := by unfold nabs; split <;> omega
  have ud : nabs by' < 18446744073709551616 := by unfold nabs; split <;> omega
  have HP1 := fun W => Kp.mk (product_any (nabs ax) (nabs by') na ua nd ud W)
  have HP2 := fun W => Kp.mk (product_any (nabs ay) (nabs bx) nb ub nc uc W)
  have hz1 := wide_zero (Int.mul_nonneg na nd)
  have hz2 := wide_zero (Int.mul_nonneg nb nc)
  have hm1 : (!(decide (ax < 0) == decide (by' < 0))) = negOf ax by' := rfl
  have hm2 : (!(decide (ay < 0) == decide (bx < 0))) = negOf ay bx := rfl
  clear ua ub uc ud na nb nc nd ha0 ha1 hb0 hb1 hc0 hc1 hd0 hd1
  generalize nabs ax * nabs by' = X at *
  generalize nabs ay * nabs bx = Y at *
  generalize negOf ax by' = m at *
  generalize negOf ay bx = n at *
  generalize nabs ax = sa at *
  generalize nabs ay = sb at *
  generalize nabs bx = sc at *
  generalize nabs by' = sd at *
  have HCM := fun W => Kp.mk (compare_w X Y W)
  have e0 := fun o => bl_cell (bl_alloc (Below.refl _ w) o) h0
  have e1 := fun o => bl_cell (bl_alloc (Below.refl _ w) o) h1
  have e2 := fun o => bl_cell (bl_alloc (Below.refl _ w) o) h2
  have e3 := fun o => bl_cell (bl_alloc (Below.refl _ w) o) h3
  go_enter Try.func96, Try.ntmps96
  go_wp2_with (first | (go_at_call 66; (with_reducible refine (right_4 ax ay bx by' _ _ _ HOK.out.1 HOK.out.2.1 HOK.out.2.2.1 HOK.out.2.2.2 ?h0 ?h1 ?h2 ?h3).mono ?_); (case h0 => go_simp); (case h1 => go_simp); (case h2 => go_simp); (case h3 => go_simp); rintro e w' ⟨rfl, rfl⟩))
  have HB1 : Kp (Below w.heap.size w (w.alloc (.cells #[.int .i64 ax, .int .i64 ay, .int .i64 bx, .int .i64 by'] 22))) := ⟨(by repeat (first | exact Below.refl _ _ | (with_reducible assumption) | apply bl_drew | apply bl_drewN | apply bl_alloc | (refine bl_set ?_ (by go_simp))))⟩
  have s0 := e0 (.cells #[.int .i64 ax, .int .i64 ay, .int .i64 bx, .int .i64 by'] 22)
  have s1 := e1 (.cells #[.int .i64 ax, .int .i64 ay, .int .i64 bx, .int .i64 by'] 22)
  have s2 := e2 (.cells #[.int .i64 ax, .int .i64 ay, .int .i64 bx, .int .i64 by'] 22)
  have s3 := e3 (.cells #[.int .i64 ax, .int .i64 ay, .int .i64 bx, .int .i64 by'] 22)
  clear e0 e1 e2 e3 h0 h1 h2 h3
  generalize w.alloc (.cells #[.int .i64 ax, .int .i64 ay, .int .i64 bx, .int .i64 by'] 22) = wS at *
  have vv1 : b1 ≠ wS.heap.size := Nat.ne_of_lt (World.block_lt_of_cell? wS _ s0)
  have vv2 : b2 ≠ wS.heap.size := Nat.ne_of_lt (World.block_lt_of_cell? wS _ s2)
  have vv3 : b1 ≠ wS.heap.size + 1 := Nat.ne_of_lt (Nat.lt_succ_of_lt (World.block_lt_of_cell? wS _ s0))
  have vv4 : b2 ≠ wS.heap.size + 1 := Nat.ne_of_lt (Nat.lt_succ_of_lt (World.block_lt_of_cell? wS _ s2))
  have za0 := fun o => bl_cell (bl_alloc (Below.refl _ wS) o) s0
  have zb0 := fun o o2 => bl_cell (bl_alloc (bl_alloc (Below.refl _ wS) o) o2) s0
  have za1 := fun o => bl_cell (bl_alloc (Below.refl _ wS) o) s1
  have zb1 := fun o o2 => bl_cell (bl_alloc (bl_alloc (Below.refl _ wS) o) o2) s1
  have za2 := fun o => bl_cell (bl_alloc (Below.refl _ wS) o) s2
  have zb2 := fun o o2 => bl_cell (bl_alloc (bl_alloc (Below.refl _ wS) o) o2) s2
  have za3 := fun o => bl_cell (bl_alloc (Below.refl _ wS) o) s3
  have zb3 := fun o o2 => bl_cell (bl_alloc (bl_alloc (Below.refl _ wS) o) o2) s3
  go_cut [3, 4] from 18 to 31 (fun pp qq wx => ∃ B C : Nat, pp = .pointer (some ⟨B, 0, none⟩) ∧ qq = .pointer (some ⟨C, 0, none⟩) ∧ Kp (Below wS.heap.size wS wx) ∧ wx.cell? ⟨B, 0, none⟩ = some (.int .u64 (whi X)) ∧ wx.cell? ⟨B, 1, none⟩ = some (.int .u64 (wlo X)) ∧ wx.cell? ⟨C, 0, none⟩ = some (.int .u64 (whi Y)) ∧ wx.cell? ⟨C, 1, none⟩ = some (.int .u64 (wlo Y)) ∧ wx.cell? ⟨b1, 0, none⟩ = some (.int .i64 ax) ∧ wx.cell? ⟨b1, 1, none⟩ = some (.int .i64 ay) ∧ wx.cell? ⟨b2, 0, none⟩ = some (.int .i64 bx) ∧ wx.cell? ⟨b2, 1, none⟩ = some (.int .i64 by'))
  case first =>
    have HS4 : Kp (∀ W, Below wS.heap.size wS W → W.cell? ⟨b1, 0, none⟩ = some (.int .i64 ax) ∧ W.cell? ⟨b1, 1, none⟩ = some (.int .i64 ay) ∧ W.cell? ⟨b2, 0, none⟩ = some (.int .i64 bx) ∧ W.cell? ⟨b2, 1, none⟩ = some (.int .i64 by')) := ⟨fun W h => ⟨bl_cell h s0, bl_cell h s1, bl_cell h s2, bl_cell h s3⟩⟩
    clear za0 za1 za2 za3 zb0 zb1 zb2 zb3 vv1 vv2 vv3 vv4 s0 s1 s2 s3 hm1 hm2 hz1 hz2 HCM HOK HB1
    go_region_held3 (fun w' => w'.cell? ⟨b1, 0, none⟩ = some (.int .i64 ax) ∧ w'.cell? ⟨b1, 1, none⟩ = some (.int .i64 ay) ∧ w'.cell? ⟨b2, 0, none⟩ = some (.int .i64 bx) ∧ w'.cell? ⟨b2, 1, none⟩ = some (.int .i64 by')) (exact HS4.out _ (by repeat (with_reducible first | exact Below.refl _ _ | apply bl_drew | apply bl_drewN | (refine bl_then ?_ hb2.out) | (refine bl_then ?_ hb1.out) | apply bl_alloc | (refine bl_set ?_ (by go_simp)))))
      (first | (go_at_call 72; (with_reducible first | refine (HSA _).out.mono ?_ | refine (HSB _).out.mono ?_ | refine (HSC _).out.mono ?_ | refine (HSD _).out.mono ?_); rintro e w' ⟨rfl, rfl⟩) | (go_at_call 69; (with_reducible refine (HP1 _).out.mono ?_); rintro e w1 ⟨rfl, hb1'⟩; have l1 : wS.heap.size ≤ w1.heap.size := (show Below wS.heap.size wS w1 from by repeat (with_reducible first | exact Below.refl _ _ | apply bl_drew | apply bl_drewN | (refine bl_then ?_ hb1') | (refine bl_then ?_ hb2') | (refine bl_then ?_ hb1.out) | (refine bl_then ?_ hb2.out) | apply bl_alloc)).size; have l1a : wS.heap.size ≤ w1.heap.size + 1 := Nat.le_succ_of_le l1; (try (refine kp_cut (Bx.mono (w2 := w1) ?hb (bx_alloc wS 104)) ?_; (case hb => (repeat (with_reducible first | exact Below.refl _ _ | apply bl_drew | apply bl_drewN | (refine bl_then ?_ hb1') | (refine bl_then ?_ hb2') | (refine bl_then ?_ hb1.out) | (refine bl_then ?_ hb2.out) | apply bl_alloc))); intro Y1; refine and_cut Y1.out.sep ?_; rintro ⟨ga0, ga1, ga2, ga3⟩));  (try (refine kp_cut (Bx.mono (w2 := w1) ?hb (bx_alloc2 wS (.cells #[.int .u64 0, .int .u64 0] 104) 104)) ?_; (case hb => (repeat (with_reducible first | exact Below.refl _ _ | apply bl_drew | apply bl_drewN | (refine bl_then ?_ hb1') | (refine bl_then ?_ hb2') | (refine bl_then ?_ hb1.out) | (refine bl_then ?_ hb2.out) | apply bl_alloc))); intro Y2; refine and_cut Y2.out.sep ?_; rintro ⟨gb0, gb1, gb2, gb3⟩));  have hb1 := Kp.mk hb1'; clear hb1') | (go_at_call 69; (with_reducible refine (HP2 _).out.mono ?_); rintro e w2 ⟨rfl, hb2'⟩; have l2 : wS.heap.size ≤ w2.heap.size := (show Below wS.heap.size wS w2 from by repeat (with_reducible first | exact Below.refl _ _ | apply bl_drew | apply bl_drewN | (refine bl_then ?_ hb1') | (refine bl_then ?_ hb2') | (refine bl_then ?_ hb1.out) | (refine bl_then ?_ hb2.out) | apply bl_alloc)).size; have l2a : wS.heap.size ≤ w2.heap.size + 1 := Nat.le_succ_of_le l2; (try (refine and_cut (Bx.mono (w2 := w2) ?hb Y1.out).facts ?_; (case hb => (repeat (with_reducible first | exact Below.refl _ _ | apply bl_drew | apply bl_drewN | (refine bl_then ?_ hb1') | (refine bl_then ?_ hb2') | (refine bl_then ?_ hb1.out) | (refine bl_then ?_ hb2.out) | apply bl_alloc))); rintro ⟨fa0, fa1, fa2, fa3, fa4, fa5, fa6, fa7, fa8, fa9, faA, faB⟩));  (try (refine and_cut (Bx.mono (w2 := w2) ?hb Y2.out).facts ?_; (case hb => (repeat (with_reducible first | exact Below.refl _ _ | apply bl_drew | apply bl_drewN | (refine bl_then ?_ hb1') | (refine bl_then ?_ hb2') | (refine bl_then ?_ hb1.out) | (refine bl_then ?_ hb2.out) | apply bl_alloc))); rintro ⟨fb0, fb1, fb2, fb3, fb4, fb5, fb6, fb7, fb8, fb9, fbA, fbB⟩));  (try (refine kp_cut (Bx.mono (w2 := w2) ?hb (bx_alloc w1 104)) ?_; (case hb => (repeat (with_reducible first | exact Below.refl _ _ | apply bl_drew | apply bl_drewN | (refine bl_then ?_ hb1') | (refine bl_then ?_ hb2') | (refine bl_then ?_ hb1.out) | (refine bl_then ?_ hb2.out) | apply bl_alloc))); intro Y3));  (try (refine and_cut (Bx.mono (w2 := w2) ?hb Y3.out).facts ?_; (case hb => (repeat (with_reducible first | exact Below.refl _ _ | apply bl_drew | apply bl_drewN | (refine bl_then ?_ hb1') | (refine bl_then ?_ hb2') | (refine bl_then ?_ hb1.out) | (refine bl_then ?_ hb2.out) | apply bl_alloc))); rintro ⟨fc0, fc1, fc2, fc3, fc4, fc5, fc6, fc7, fc8, fc9, fcA, fcB⟩));  (try (refine kp_cut (Bx.mono (w2 := w2) ?hb (bx_alloc2 w1 (.cells #[.int .u64 0, .int .u64 0] 104) 104)) ?_; (case hb => (repeat (with_reducible first | exact Below.refl _ _ | apply bl_drew | apply bl_drewN | (refine bl_then ?_ hb1') | (refine bl_then ?_ hb2') | (refine bl_then ?_ hb1.out) | (refine bl_then ?_ hb2.out) | apply bl_alloc))); intro Y4));  (try (refine and_cut (Bx.mono (w2 := w2) ?hb Y4.out).facts ?_; (case hb => (repeat (with_reducible first | exact Below.refl _ _ | apply bl_drew | apply bl_drewN | (refine bl_then ?_ hb1') | (refine bl_then ?_ hb2') | (refine bl_then ?_ hb1.out) | (refine bl_then ?_ hb2.out) | apply bl_alloc))); rintro ⟨fd0, fd1, fd2, fd3, fd4, fd5, fd6, fd7, fd8, fd9, fdA, fdB⟩));  have hb2 := Kp.mk hb2'; clear hb2'))
    all_goals
      go_wp2
      go_meet
      refine ⟨_, _, rfl, rfl, ⟨(by repeat (with_reducible first | exact Below.refl _ _ | apply bl_drew | apply bl_drewN | (refine bl_then ?_ hb1.out) | (refine bl_then ?_ hb2.out) | (refine bl_then ?_ hb3.out) | (refine bl_then ?_ hb4.out) | (refine bl_then ?_ hb5.out) | (refine bl_then ?_ hb6.out) | (refine bl_then ?_ hb7.out) | (refine bl_then ?_ hb8.out) | (refine bl_then ?_ hb9.out) | apply bl_alloc | (refine bl_set ?_ (by go_simp))))⟩, ?_, ?_, ?_, ?_, HS4.out _ (by repeat (with_reducible first | exact Below.refl _ _ | apply bl_drew | apply bl_drewN | (refine bl_then ?_ hb1.out) | (refine bl_then ?_ hb2.out) | (refine bl_then ?_ hb3.out) | (refine bl_then ?_ hb4.out) | (refine bl_then ?_ hb5.out) | (refine bl_then ?_ hb6.out) | (refine bl_then ?_ hb7.out) | (refine bl_then ?_ hb8.out) | (refine bl_then ?_ hb9.out) | apply bl_alloc | (refine bl_set ?_ (by go_simp))))⟩
      all_goals go_simp
  case rest =>
    obtain ⟨B, C, rfl, rfl, HB, x1, x2, x3, x4, x5, x6, x7, x8⟩ := hcut
    clear za0 za1 za2 za3 zb0 zb1 zb2 zb3 vv1 vv2 vv3 vv4 s0 s1 s2 s3
    have hq := eql_wide
    go_wp2
    go_quiet (fail)
    have HDX : Kp (∃ d, decide (X = 0) = d) := ⟨⟨_, rfl⟩⟩
    obtain ⟨dx, hdx⟩ := HDX.out
    have HDY : Kp (∃ d, decide (Y = 0) = d) := ⟨⟨_, rfl⟩⟩
    obtain ⟨dy, hdy⟩ := HDY.out
    rw [hdx] at hz1
    rw [hdy] at hz2
    clear HDX HDY
    have HDX := Kp.mk hdx
    have HDY := Kp.mk hdy
    have hwn : wrap64 (-cmpI X Y) = -cmpI X Y := by have := cmpI_bd X Y; unfold wrap64; omega
    clear hdx hdy
    cases m <;> cases n <;> cases dx <;> cases dy
    all_goals
      go_wp2_with (go_at_call 88; (with_reducible refine (HCM _).out.mono ?_); rintro e w3 ⟨rfl, hb3'⟩; have y1 := bl_cell hb3' (p := ⟨B, 0, none⟩) (v := .int .u64 (whi X)) (by go_simp); have y2 := bl_cell hb3' (p := ⟨B, 1, none⟩) (v := .int .u64 (wlo X)) (by go_simp); have y3 := bl_cell hb3' (p := ⟨C, 0, none⟩) (v := .int .u64 (whi Y)) (by go_simp); have y4 := bl_cell hb3' (p := ⟨C, 1, none⟩) (v := .int .u64 (wlo Y)) (by go_simp); have HB3 := Kp.mk (bl_then (bl_drewN HB.out _) hb3'); clear hb3')
      go_ret
      refine ⟨congrArg (fun z => Ending.returned (.int .i64 z)) ?_, HB1.out.trans (HB3.out.mono HB1.out.size)⟩
      have h1 := HDX.out
      have h2 := HDY.out
      simp only [decide_eq_true_eq, decide_eq_false_iff_not] at h1 h2
      simp [turnR, h1, h2, wrap_cmp]
end Go.Proofs.Ytibaapaglocpjaa.B

end
