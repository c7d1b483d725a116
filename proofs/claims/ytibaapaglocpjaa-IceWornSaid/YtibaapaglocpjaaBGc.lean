import Derived.Test.YtibaapaglocpjaaBGb
/- Proved here: lemmas for the laws' proofs (the texts Gc). No condition. -/
section
set_option linter.unusedSimpArgs false
set_option linter.unusedVariables false
namespace Go.Proofs.Ytibaapaglocpjaa.B
open Go.RowKit Go.Shelf Go.Proofs.YtibaapaglocpjaaW.PrintWords
set_option maxRecDepth 100000 in
set_option maxHeartbeats 4000000 in
theorem each_do (k : Nat) (cap : Array Value) (ax ay bx by' rx ry : Int) (b1 b2 b3 : Nat) (w : World) (eg0 : Enters Try.prog k) (ha : okFix ax) (hb : okFix ay) (hc : okFix bx) (hd : okFix by')
    (hx : ∀ W, Below w.heap.size w W → Calls Try.prog k (#[.int .i64 ax, .int .i64 bx] ++ cap) W fun e w' => e = .returned (.int .i64 rx) ∧ Below W.heap.size W w')
    (hy : ∀ W, Below w.heap.size w W → Calls Try.prog k (#[.int .i64 ay, .int .i64 by'] ++ cap) W fun e w' => e = .returned (.int .i64 ry) ∧ Below W.heap.size W w')
    (h0 : w.cell? ⟨b1, 0, none⟩ = some (.int .i64 ax)) (h1 : w.cell? ⟨b1, 1, none⟩ = some (.int .i64 ay)) (h2 : w.cell? ⟨b2, 0, none⟩ = some (.int .i64 bx)) (h3 : w.cell? ⟨b2, 1, none⟩ = some (.int .i64 by'))
    (h4 : w.cell? ⟨b3, 0, none⟩ = some (.func (.func k) #[] cap)) :
    Calls Try.prog 102 #[.pointer (some ⟨b1, 0, none⟩), .pointer (some ⟨b2, 0, none⟩), .pointer (some ⟨b3, 0, none⟩)] w fun e w' => e = .returned (.agg #[.int .i64 rx, .int .i64 ry]) ∧ Below w.heap.size w w' := by
  have eg : ∀ args w, (callFunc k args).run Try.prog w = .ok (.enter k args) w := eg0
  clear eg0
  have HOK : Kp (okFix ax ∧ okFix ay ∧ okFix bx ∧ okFix by') := ⟨⟨ha, hb, hc, hd⟩⟩
  have HX := Kp.mk hx
  have HY := Kp.mk hy
  clear ha hb hc hd hx hy
  have e0 := fun W (h : Below w.heap.size w W) => bl_cell h h0
  have e1 := fun W (h : Below w.heap.size w W) => bl_cell h h1
  have e2 := fun W (h : Below w.heap.size w W) => bl_cell h h2
  have e3 := fun W (h : Below w.heap.size w W) => bl_cell h h3
  have e4 := fun W (h : Below w.heap.size w W) => bl_cell h h4
  have z1 := fun o o2 => e0 _ (bl_alloc (bl_alloc (Below.refl _ w) o) o2)
  have z2 := fun o o2 => e1 _ (bl_alloc (bl_alloc (Below.refl _ w) o) o2)
  have z3 := fun o o2 => e2 _ (bl_alloc (bl_alloc (Below.refl _ w) o) o2)
  have z4 := fun o o2 => e3 _ (bl_alloc (bl_alloc (Below.refl _ w) o) o2)
  have z5 := fun o o2 => e4 _ (bl_alloc (bl_alloc (Below.refl _ w) o) o2)
  have y1 := fun o => e0 _ (bl_alloc (Below.refl _ w) o)
  have y2 := fun o => e1 _ (bl_alloc (Below.refl _ w) o)
  have y3 := fun o => e2 _ (bl_alloc (Below.refl _ w) o)
  have y4 := fun o => e3 _ (bl_alloc (Below.refl _ w) o)
  have y5 := fun o => e4 _ (bl_alloc (Below.refl _ w) o)
  have n1 : b1 ≠ w.heap.size := Nat.ne_of_lt (World.block_lt_of_cell? w _ h0)
  have n2 : b2 ≠ w.heap.size := Nat.ne_of_lt (World.block_lt_of_cell? w _ h2)
  have n3 : b3 ≠ w.heap.size := Nat.ne_of_lt (World.block_lt_of_cell? w _ h4)
  have E0 := Kp.mk e0
  have E1 := Kp.mk e1
  have E2 := Kp.mk e2
  have E3 := Kp.mk e3
  have E4 := Kp.mk e4
  clear e0 e1 e2 e3 e4 h0 h1 h2 h3 h4
  go_enter Try.func102, Try.ntmps102
  go_wp2_with (first | (go_at_call 66; (with_reducible refine (right_4 ax ay bx by' _ _ _ HOK.out.1 HOK.out.2.1 HOK.out.2.2.1 HOK.out.2.2.2 ?h0 ?h1 ?h2 ?h3).mono ?_); (case h0 => go_simp); (case h1 => go_simp); (case h2 => go_simp); (case h3 => go_simp); rintro e w' ⟨rfl, rfl⟩))
  go_region_held3 (fun w' => w'.cell? ⟨b1, 0, none⟩ = some (.int .i64 ax) ∧ w'.cell? ⟨b1, 1, none⟩ = some (.int .i64 ay) ∧ w'.cell? ⟨b2, 0, none⟩ = some (.int .i64 bx) ∧ w'.cell? ⟨b2, 1, none⟩ = some (.int .i64 by') ∧ w'.cell? ⟨b3, 0, none⟩ = some (.func (.func k) #[] cap)) (go_simp)
    (first | ((with_reducible refine (HX.out _ ?hb).mono ?_); (case hb => exact (by repeat (first | exact Below.refl _ _ | (with_reducible assumption) | apply bl_drew | apply bl_drewN | apply bl_alloc | (refine bl_set ?_ (by go_simp))))); rintro e w1 ⟨rfl, hb1'⟩; have B1 := Kp.mk (bl_then (by repeat (first | exact Below.refl _ _ | (with_reducible assumption) | apply bl_drew | apply bl_drewN | apply bl_alloc | (refine bl_set ?_ (by go_simp)))) hb1' : Below w.heap.size w w1); have c0 := E0.out _ B1.out; have c1 := E1.out _ B1.out; have c2 := E2.out _ B1.out; have c3 := E3.out _ B1.out; have c4 := E4.out _ B1.out; have r0 := bl_cell hb1' (p := ⟨w.heap.size, 0, none⟩) (v := .int .i64 0) (by go_simp); have r1 := bl_cell hb1' (p := ⟨w.heap.size, 1, none⟩) (v := .int .i64 0) (by go_simp); have f0 : w1.frozen? ⟨w.heap.size, 0, none⟩ = false := (hb1'.frozen (p := ⟨w.heap.size, 0, none⟩) (by go_simp)).trans (by go_simp); have f1 : w1.frozen? ⟨w.heap.size, 1, none⟩ = false := (hb1'.frozen (p := ⟨w.heap.size, 1, none⟩) (by go_simp)).trans (by go_simp); have l1 := World.block_lt_of_cell? w1 _ r0; clear hb1') | ((with_reducible refine (HY.out _ B1.out).mono ?_); rintro e w2 ⟨rfl, hb2'⟩; have B2 := Kp.mk (bl_then B1.out hb2' : Below w.heap.size w w2); have d0 := E0.out _ B2.out; have d1 := E1.out _ B2.out; have d2 := E2.out _ B2.out; have d3 := E3.out _ B2.out; have d4 := E4.out _ B2.out; have s0 := bl_cell hb2' r0; have s1 := bl_cell hb2' r1; have g0 := bl_frozen hb2' l1 f0; have g1 := bl_frozen hb2' l1 f1; clear hb2'))
  go_wp2
  (try simp only [Exit.inBlock, Exit.then])
  refine bodyPost_ret (v := .agg #[.int .i64 rx, .int .i64 ry]) (by simp [results, Try.results102, go_sem, s0, s1]) rfl ?_
  exact ⟨rfl, bl_set (bl_set B2.out (by simp)) (by simp)⟩
set_option maxRecDepth 100000 in
theorem each_any (k : Nat) (cap : Array Value) (ax ay bx by' rx ry : Int) (w : World) (eg0 : Enters Try.prog k) (ha : okFix ax) (hb : okFix ay) (hc : okFix bx) (hd : okFix by')
    (hx : ∀ W, Below w.heap.size w W → Calls Try.prog k (#[.int .i64 ax, .int .i64 bx] ++ cap) W fun e w' => e = .returned (.int .i64 rx) ∧ Below W.heap.size W w')
    (hy : ∀ W, Below w.heap.size w W → Calls Try.prog k (#[.int .i64 ay, .int .i64 by'] ++ cap) W fun e w' => e = .returned (.int .i64 ry) ∧ Below W.heap.size W w') :
    Calls Try.prog 93 #[.agg #[.int .i64 ax, .int .i64 ay], .agg #[.int .i64 bx, .int .i64 by'], .func (.func k) #[] cap] w fun e w' => e = .returned (.tuple #[.agg #[.int .i64 rx, .int .i64 ry], .int .i64 0]) ∧ Below w.heap.size w w' := by
  have HM := fun b1 b2 b3 W (hW : Below w.heap.size w W) h0 h1 h2 h3 h4 => Kp.mk (each_do k cap ax ay bx by' rx ry b1 b2 b3 W eg0 ha hb hc hd (fun W2 h => hx W2 (bl_then hW h)) (fun W2 h => hy W2 (bl_then hW h)) h0 h1 h2 h3 h4)
  have hmk := hmf
  have EG := Kp.mk (enters_of Try.func102 (by kernel_rfl) rfl)
  clear ha hb hc hd hx hy eg0
  go_enter Try.func93, Try.ntmps93
  go_wp2_with (go_at_call 101; (with_reducible refine (tried_spot _ _ rx ry _ EG.out ?hdo).mono ?_); (case hdo => exact fun W hW => (HM _ _ _ W (bl_then (by repeat (first | exact Below.refl _ _ | (with_reducible assumption) | apply bl_drew | apply bl_drewN | apply bl_alloc | (refine bl_set ?_ (by go_simp)))) hW) (bl_cell hW (by go_simp)) (bl_cell hW (by go_simp)) (bl_cell hW (by go_simp)) (bl_cell hW (by go_simp)) (bl_cell hW (by go_simp))).out); rintro e w2 ⟨rfl, hb2'⟩; have r0 := bl_cell hb2' (p := ⟨w.heap.size + 1 + 1 + 1, 0, none⟩) (v := .int .i64 0) (by go_simp); have r1 := bl_cell hb2' (p := ⟨w.heap.size + 1 + 1 + 1, 1, none⟩) (v := .int .i64 0) (by go_simp); have f0 : w2.frozen? ⟨w.heap.size + 1 + 1 + 1, 0, none⟩ = false := (hb2'.frozen (p := ⟨w.heap.size + 1 + 1 + 1, 0, none⟩) (by go_simp)).trans (by go_simp); have f1 : w2.frozen? ⟨w.heap.size + 1 + 1 + 1, 1, none⟩ = false := (hb2'.frozen (p := ⟨w.heap.size + 1 + 1 + 1, 1, none⟩) (by go_simp)).trans (by go_simp); have B2 := Kp.mk (bl_then (by repeat (first | exact Below.refl _ _ | (with_reducible assumption) | apply bl_drew | apply bl_drewN | apply bl_alloc | (refine bl_set ?_ (by go_simp)))) hb2' : Below w.heap.size w w2); clear hb2')
  (try simp only [Exit.inBlock, Exit.then])
  refine bodyPost_ret (v := .tuple #[.agg #[.int .i64 rx, .int .i64 ry], .int .i64 0]) (by simp [results, Try.results93, go_sem, r0, r1]) rfl ?_
  exact ⟨rfl, bl_set (bl_set B2.out (by simp; omega)) (by simp; omega)⟩
theorem Minus_any (ax ay bx by' : Int) (ha : okFix ax) (hb : okFix ay) (hc : okFix bx) (hd : okFix by') (hx : okFix (ax - bx)) (hy : okFix (ay - by')) (w : World) :
    Calls Try.prog 79 #[.agg #[.int .i64 ax, .int .i64 ay], .agg #[.int .i64 bx, .int .i64 by']] w fun e w' => e = .returned (.tuple #[.agg #[.int .i64 (ax - bx), .int .i64 (ay - by')], .int .i64 0]) ∧ Below w.heap.size w w' := by
  have EG : Enters Try.prog 94 := enters_of Try.func94 (by kernel_rfl) rfl
  have HE := fun W => Kp.mk (each_any 94 #[] ax ay bx by' (ax - bx) (ay - by') W EG ha hb hc hd (fun W2 _ => sub_any ax bx ha hc hx W2) (fun W2 _ => sub_any ay by' hb hd hy W2))
  clear ha hb hc hd hx hy EG
  go_enter Try.func79, Try.ntmps79
  go_wp2_with (go_at_call 93; (with_reducible refine (HE _).out.mono ?_); rintro e w2 ⟨rfl, hb2'⟩; have r0 := bl_cell hb2' (p := ⟨w.heap.size + 1 + 1, 0, none⟩) (v := .int .i64 0) (by go_simp); have r1 := bl_cell hb2' (p := ⟨w.heap.size + 1 + 1, 1, none⟩) (v := .int .i64 0) (by go_simp); have f0 : w2.frozen? ⟨w.heap.size + 1 + 1, 0, none⟩ = false := (hb2'.frozen (p := ⟨w.heap.size + 1 + 1, 0, none⟩) (by go_simp)).trans (by go_simp); have f1 : w2.frozen? ⟨w.heap.size + 1 + 1, 1, none⟩ = false := (hb2'.frozen (p := ⟨w.heap.size + 1 + 1, 1, none⟩) (by go_simp)).trans (by go_simp); have B2 := Kp.mk (bl_then (by repeat (first | exact Below.refl _ _ | (with_reducible assumption) | apply bl_drew | apply bl_drewN | apply bl_alloc | (refine bl_set ?_ (by go_simp)))) hb2' : Below w.heap.size w w2); clear hb2')
  (try simp only [Exit.inBlock, Exit.then])
  refine bodyPost_ret (v := .tuple #[.agg #[.int .i64 (ax - bx), .int .i64 (ay - by')], .int .i64 0]) (by simp [results, Try.results79, go_sem, r0, r1]) rfl ?_
  exact ⟨rfl, bl_set (bl_set B2.out (by simp; omega)) (by simp; omega)⟩
end Go.Proofs.Ytibaapaglocpjaa.B

end
