import Derived.Test.YtibaapaglocpjaaBP
import Derived.Test.YtibaapaglocpjaaBL
/- Proved here: lemmas for the laws' proofs (the texts Lc). No condition. -/
section
set_option linter.unusedSimpArgs false
set_option linter.unusedVariables false
namespace Go.Proofs.Ytibaapaglocpjaa.B
open Go.RowKit Go.Shelf Go.Proofs.YtibaapaglocpjaaW.PrintWords Go.Proofs.Ytibaapaglocpjaa.Q
theorem made_at (W : World) (n : Nat) (hn : n ≤ 1000000) : ReadsInt (W.alloc (.cells (madeCells #[.int .i64 0] n) 3)) .i64 (some ⟨W.heap.size, 0, none⟩) n (List.replicate n 0) := by
  refine ⟨by simp, by omega, fun _ => ⟨_, rfl, fun j hj => ?_⟩⟩
  have h := (own_made W W.heap.size 3 .i64 n (Nat.le_refl _) (by omega)).cellAt j (by omega)
  rw [add_plain, h]
  simp [nums, hj]
theorem made_in (W : World) (n m g : Nat) (hn : n ≤ 1000000) (hg : W.heap.size = g) : ReadsInt ((W.alloc (.cells (madeCells #[.int .i64 0] n) 3)).alloc (.cells (madeCells #[.int .i64 0] m) 3)).drew .i64 (some ⟨g, 0, none⟩) n (List.replicate n 0) := by
  subst hg
  exact (made_at W n hn).allocS _
theorem made_out (W : World) (n m g : Nat) (hm : m ≤ 1000000) (hg : W.heap.size + 1 = g) : ReadsInt ((W.alloc (.cells (madeCells #[.int .i64 0] n) 3)).alloc (.cells (madeCells #[.int .i64 0] m) 3)).drew .i64 (some ⟨g, 0, none⟩) m (List.replicate m 0) := by
  subst hg
  have := made_at (W.alloc (.cells (madeCells #[.int .i64 0] n) 3)) m hm
  simp only [World.size_alloc] at this
  exact this
theorem weight_cases (cx cy sd wd ht : Int) (pb pl : List Int) (fl ke sw be we x y te : Int) : (∃ r, iceWeight cx cy sd wd ht pb pl fl ke sw be we x y te = (r, 0)) ∨ iceWeight cx cy sd wd ht pb pl fl ke sw be we x y te = (0, 2) := by
  unfold iceWeight
  split
  · exact .inl ⟨_, rfl⟩
  · exact .inr rfl
def FarNear (a fl te y ht : Int) : Prop :=
  wrap64 (wrap64 (2 * fl) * wrap64 (te - y)) ≤ wrap64 (a * a) ∧ wrap64 (wrap64 (a - 1) * wrap64 (a - 1)) < wrap64 (wrap64 (wrap64 (2 * fl) * wrap64 (te - y)) + wrap64 (131072 * wrap64 (ht + 2)))
theorem far_near {a fl te y ht : Int} (h : 0 ≤ a ∧ a ≤ 200000000 ∧ 0 ≤ fl ∧ fl ≤ 65536 ∧ 0 < te - y ∧ te - y ≤ 13107200000 ∧ 1 ≤ ht ∧ ht ≤ 256 ∧ 0 ≤ fl * (te - y) ∧ fl * (te - y) ≤ 65536 * 13107200000 ∧ 2 * (fl * (te - y)) ≤ a * a ∧ (a - 1) * (a - 1) < 2 * (fl * (te - y)) + 131072 * (ht + 2)) : FarNear a fl te y ht := by
  obtain ⟨a0, a1, f0, f1, t0, t1, h0, h1, m0, m1, n0, n1⟩ := h
  have q := mul_bd a0 a1 a0 a1
  have e1 : wrap64 (2 * fl) = 2 * fl := w_id (by omega) (by omega)
  have e2 : wrap64 (te - y) = te - y := w_id (by omega) (by omega)
  have e3 : 2 * fl * (te - y) = 2 * (fl * (te - y)) := Int.mul_assoc _ _ _
  have e4 : wrap64 (a - 1) = a - 1 := w_id (by omega) (by omega)
  have e5 : wrap64 (ht + 2) = ht + 2 := w_id (by omega) (by omega)
  have n2 : 0 ≤ (a - 1) * (a - 1) := by
    rcases Int.lt_or_le (a - 1) 0 with k | k
    · have := Int.mul_nonneg_of_nonpos_of_nonpos (show a - 1 ≤ 0 by omega) (show a - 1 ≤ 0 by omega); exact this
    · exact Int.mul_nonneg k k
  unfold FarNear
  rw [e1, e2, e3, e4, e5]
  generalize fl * (te - y) = D at *
  generalize a * a = S at *
  generalize (a - 1) * (a - 1) = U at *
  rw [w_id (x := 2 * D) (by omega) (by omega), w_id (x := S) (by omega) (by omega), w_id (x := U) (by omega) (by omega), w_id (x := 131072 * (ht + 2)) (by omega) (by omega), w_id (x := 2 * D + 131072 * (ht + 2)) (by omega) (by omega)]
  exact ⟨n0, n1⟩
def FarOk (R1 R2 : Int × Int) (fl te y ht : Int) (flat : Bool) : Prop :=
  R1 = (0, 2) ∨ (∃ a, R1 = (a, 0) ∧ R2 = (0, 2)) ∨ ∃ a b, R1 = (a, 0) ∧ R2 = (b, 0) ∧ a ≤ b ∧ (flat = true → FarNear a fl te y ht)
theorem far_ok {cx cy sd wd ht : Int} {pb pl : List Int} {fl ke sw be we x y te more : Int} (hm : 0 ≤ more ∧ more < 4294967296) (hte : -9223372036854775808 ≤ te) (flat : Bool) (hz : flat = true → (∀ z ∈ pb, z = 0) ∧ ∀ z ∈ pl, z = 0) :
    FarOk (iceWeight cx cy sd wd ht pb pl fl ke sw be we x y te) (iceWeight cx cy sd wd ht pb pl fl ke sw be we x y (wrap64 (te + more))) fl te y ht flat := by
  rcases weight_cases cx cy sd wd ht pb pl fl ke sw be we x y te with ⟨a, h1⟩ | h1
  · rcases weight_cases cx cy sd wd ht pb pl fl ke sw be we x y (wrap64 (te + more)) with ⟨b, h2⟩ | h2
    · have k1 : (iceWeight cx cy sd wd ht pb pl fl ke sw be we x y te).2 = 0 := by rw [h1]
      have k2 : (iceWeight cx cy sd wd ht pb pl fl ke sw be we x y (wrap64 (te + more))).2 = 0 := by rw [h2]
      have ht1 := (weightB_parts (iceWeight_ok k1)).2.2.2.2
      have hw : wrap64 (te + more) = te + more := by unfold wrap64; omega
      have hab := far_more k1 k2 (by rw [hw]; omega)
      rw [h1, h2] at hab
      refine .inr (.inr ⟨a, b, h1, h2, hab, fun hf => ?_⟩)
      obtain ⟨r, e, hr⟩ := far_flat k1 (hz hf).1 (hz hf).2
      rw [h1] at e
      obtain rfl : a = r := e
      exact far_near hr
    · exact .inr (.inl ⟨a, h1, h2⟩)
  · exact .inl h1
end Go.Proofs.Ytibaapaglocpjaa.B

end
