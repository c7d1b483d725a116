import Derived.Test.YtibaapaglocpjaaBF2
/- Proved here: lemmas for the laws' proofs (the texts Gb). No condition. -/
section
set_option linter.unusedSimpArgs false
set_option linter.unusedVariables false
namespace Go.Proofs.Ytibaapaglocpjaa.B
open Go.RowKit Go.Shelf Go.Proofs.YtibaapaglocpjaaW.PrintWords
set_option maxRecDepth 100000 in
theorem tried_spot (k : Nat) (cap : Array Value) (x y : Int) (w : World) (eg0 : Enters Try.prog k)
    (hdo : ∀ W, Below w.heap.size w W → Calls Try.prog k cap W fun e w' => e = .returned (.agg #[.int .i64 x, .int .i64 y]) ∧ Below W.heap.size W w') :
    Calls Try.prog 101 #[.func (.func k) #[] cap] w fun e w' => e = .returned (.tuple #[.agg #[.int .i64 x, .int .i64 y], .int .i64 0]) ∧ Below w.heap.size w w' := by
  have eg : ∀ args w, (callFunc k args).run Try.prog w = .ok (.enter k args) w := eg0
  clear eg0
  have hm := hmf
  have HD := Kp.mk hdo
  clear hdo
  go_enter_defers Try.func101, Try.ntmps101
  go_wp2_with ((with_reducible refine (HD.out _ ?hb).mono ?_); (case hb => exact (by repeat (first | exact Below.refl _ _ | (with_reducible assumption) | apply bl_drew | apply bl_drewN | apply bl_alloc | (refine bl_set ?_ (by go_simp))))); rintro e w1 ⟨rfl, hb1⟩; have hc1 : w1.cell? ⟨w.heap.size, 0, none⟩ = some (.int .i64 0) := (hb1.cell (p := ⟨w.heap.size, 0, none⟩) (by simp; omega)).trans (by go_simp); have hd1 : w1.cell? ⟨w.heap.size, 1, none⟩ = some (.int .i64 0) := (hb1.cell (p := ⟨w.heap.size, 1, none⟩) (by simp; omega)).trans (by go_simp); have hf1 : w1.frozen? ⟨w.heap.size, 0, none⟩ = false := (hb1.frozen (p := ⟨w.heap.size, 0, none⟩) (by simp; omega)).trans (by go_simp); have hg1 : w1.frozen? ⟨w.heap.size, 1, none⟩ = false := (hb1.frozen (p := ⟨w.heap.size, 1, none⟩) (by simp; omega)).trans (by go_simp); have hc2 : w1.cell? ⟨w.heap.size + 1, 0, none⟩ = some (.int .i64 0) := (hb1.cell (p := ⟨w.heap.size + 1, 0, none⟩) (by simp)).trans (by go_simp); have hf2 : w1.frozen? ⟨w.heap.size + 1, 0, none⟩ = false := (hb1.frozen (p := ⟨w.heap.size + 1, 0, none⟩) (by simp)).trans (by go_simp); have HB := Kp.mk (bl_then (by repeat (first | exact Below.refl _ _ | (with_reducible assumption) | apply bl_drew | apply bl_drewN | apply bl_alloc | (refine bl_set ?_ (by go_simp)))) hb1 : Below w.heap.size w w1); clear hb1)
  refine leaves_cons (f := 106) (args := #[.pointer (some ⟨w.heap.size, 0, none⟩), .pointer (some ⟨w.heap.size + 1, 0, none⟩)]) (by simp) (by simp [go_sem]) ?_
  refine (tried_spot_idle ⟨w.heap.size, 0, none⟩ ⟨w.heap.size + 1, 0, none⟩ _).mono ?_
  rintro e u' w'' ⟨rfl, rfl, hb2⟩
  have hsz := HB.out.size
  have hlt : w.heap.size + 1 < w1.heap.size := World.block_lt_of_cell? w1 _ hc2
  have he1 : w''.cell? ⟨w.heap.size, 0, none⟩ = some (.int .i64 x) := (hb2.cell (p := ⟨w.heap.size, 0, none⟩) (by simp; omega)).trans (by go_simp)
  have he2 : w''.cell? ⟨w.heap.size, 1, none⟩ = some (.int .i64 y) := (hb2.cell (p := ⟨w.heap.size, 1, none⟩) (by simp; omega)).trans (by go_simp)
  have he3 : w''.cell? ⟨w.heap.size + 1, 0, none⟩ = some (.int .i64 0) := (hb2.cell (p := ⟨w.heap.size + 1, 0, none⟩) (by simp; omega)).trans (by go_simp)
  have hbw : Below w.heap.size w w'' := by
    refine bl_then ?_ hb2
    repeat (first | exact HB.out | (refine bl_set ?_ (by simp; try omega)))
  simp [Leaves, settle, results, Try.results101, go_sem, he1, he2, he3, hbw]
theorem sub_any (a b : Int) (ha : okFix a) (hb : okFix b) (hab : okFix (a - b)) (w : World) :
    Calls Try.prog 94 #[.int .i64 a, .int .i64 b] w fun e w' => e = .returned (.int .i64 (a - b)) ∧ Below w.heap.size w w' := by
  have HA : Kp (okFix a ∧ okFix b) := ⟨⟨ha, hb⟩⟩
  obtain ⟨c0, c1⟩ := hab
  have HS := fun W => Kp.mk (size_fix (a - b) (by omega) (by omega) W)
  have hw : wrap64 (a - b) = a - b := by unfold wrap64; omega
  have HG := fun W => Kp.mk (signed_any (nabs (a - b)) (decide (a - b < 0)) (nabs_nonneg _) (by unfold nabs; split <;> omega) W)
  have he : (if decide (a - b < 0) = true then -nabs (a - b) else nabs (a - b)) = a - b := by
    by_cases h : a - b < 0
    · rw [if_pos (decide_eq_true h)]; unfold nabs; rw [if_pos h]; omega
    · rw [if_neg (by rw [decide_eq_false h]; decide)]; unfold nabs; rw [if_neg h]
  simp only [he] at HG
  clear he ha hb c0 c1
  go_enter Try.func94, Try.ntmps94
  go_wp2_with (first | (go_at_call 66; (with_reducible refine (right_2 a b _ _ _ HA.out.1 HA.out.2 ?h0 ?h1).mono ?_); (case h0 => go_simp); (case h1 => go_simp); rintro e w' ⟨rfl, rfl⟩) | (go_at_call 72; (with_reducible refine (HS _).out.mono ?_); rintro e w' ⟨rfl, rfl⟩) | (go_at_call 89; (with_reducible refine (HG _).out.mono ?_); rintro e w' ⟨rfl, rfl⟩))
  go_ret
  exact ⟨rfl, (by repeat (first | exact Below.refl _ _ | (with_reducible assumption) | apply bl_drew | apply bl_drewN | apply bl_alloc | (refine bl_set ?_ (by go_simp))))⟩
end Go.Proofs.Ytibaapaglocpjaa.B

end
