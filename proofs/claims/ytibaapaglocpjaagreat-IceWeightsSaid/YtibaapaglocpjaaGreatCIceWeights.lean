import Derived.Test.YtibaapaglocpjaaGreatRows
import Derived.Test.YtibaapaglocpjaaGreatIW0
import Derived.Test.YtibaapaglocpjaaGreatIW1
import Derived.Test.YtibaapaglocpjaaGreatIW2
import Derived.Test.YtibaapaglocpjaaGreatIW3
import Derived.Test.YtibaapaglocpjaaGreatIW20
import Derived.Test.YtibaapaglocpjaaGreatIW21
/- Proved here: the law IceWeights holds as its row says, for every input. No condition. -/
section
set_option linter.unusedSimpArgs false
set_option linter.unusedVariables false
namespace Go.Proofs.YtibaapaglocpjaaGreat.B
open Go.ChangeShapes Go.WideShapes Go.ChangeAt Go.RowKit Go.Proofs.YtibaapaglocpjaaGreatW.PrintWords
set_option maxRecDepth 100000 in
theorem iceWeights_lifted (os : Os) (started : os.Started) (H : Type) (enc : TypeId × Value → H) :
    ReturnsInHanded {} Tryz.checked os 3 .any (Rows.iceWeightsSpec.pre6 enc Tryz.prog Tryz.f3 Rows.iceWeightsRow.domain false) (Rows.iceWeightsSpec.post enc Tryz.prog Tryz.f3 false true false false) := by
  refine returnsInHanded_of_change_sized (C := Tryz.checked) own started (by kernel_rfl) Tryz.func3
    (ChangeSpec.witness6 (enc := enc) (C := Tryz.checked) false ⟨#[], #[.agg #[.int .i64 0, .int .i64 0, .int .i64 0, .int .i64 0, .int .i64 0, .slice none 0 0, .slice none 0 0], .agg #[.int .i64 0, .int .i64 0, .int .i64 0, .int .i64 0, .int .i64 0], .agg #[.int .i64 0, .int .i64 0], .int .i64 0], []⟩ 8 (by kernel_rfl) (by kernel_rfl) (by kernel_rfl) (by kernel_rfl)) ?_
  intro W base args ds gs before hval0 hW hcnd hsz0 _
  have hval : ∀ (j : Nat) t v, Tryz.f3.params[j]? = some t → args[j]? = some v → Value.okWide Tryz.prog W .any base t v := hval0
  have hW' := hW
  obtain ⟨p, q, hA0, hV, rfl, hfz, hnd⟩ := hW
  have hA : DataW.TrodAll enc Tryz.prog W 0 (fun _ => true) true Tryz.f3.params.toList args.toList ds p := hA0
  rw [Tryz.params3] at hA hval
  obtain ⟨v0, vs0, d0, ds0, p0, q0, hargs, rfl, rfl, h0, r0⟩ := trodAll_cons hA
  obtain ⟨v1, vs1, d1, ds1, p1, q1, rfl, rfl, rfl, h1, r1⟩ := trodAll_cons r0
  obtain ⟨v2, vs2, d2, ds2, p2, q2, rfl, rfl, rfl, h2, r2⟩ := trodAll_cons r1
  obtain ⟨v3, vs3, d3, ds3, p3, q3, rfl, rfl, rfl, h3, r3⟩ := trodAll_cons r2
  obtain ⟨rfl, rfl, rfl⟩ := trodAll_nil r3
  obtain rfl : args = #[v0, v1, v2, v3] := by cases args; simp_all
  obtain ⟨rfl, rfl⟩ := trodVars_none hV
  have k0 := h0
  have lt0 : ∀ x ∈ p0, x.block < W.heap.size := by obtain ⟨m, hm⟩ := k0; exact DataW.trod_lt m _ _ _ hm
  have ⟨cx0, cy0, sd0, wd0, ht0, A0, c0, pb0, B0, e0, pl0, eq0, hr10, hc10, hr20, hc20, wf0⟩ := open_ice (hval 0 27 v0 rfl rfl) k0
  subst eq0
  have k1 := h1
  have lt1 : ∀ x ∈ p1, x.block < W.heap.size := by obtain ⟨m, hm⟩ := k1; exact DataW.trod_lt m _ _ _ hm
  have ⟨fl1, ke1, sw1, be1, we1, eq1⟩ := open_grain (hval 1 29 v1 rfl rfl) k1
  subst eq1
  have k2 := h2
  have lt2 : ∀ x ∈ p2, x.block < W.heap.size := by obtain ⟨m, hm⟩ := k2; exact DataW.trod_lt m _ _ _ hm
  have ⟨x2, y2, eq2, wx2, wy2⟩ := open_spot (hval 2 24 v2 rfl rfl) k2
  subst eq2
  obtain ⟨a3, rfl, rfl, rfl, w3⟩ := open_int Tryz.underlying22 (hval 3 22 v3 rfl rfl) h3
  clear hA0 hval0 hsz0
  refine (IceWeights_any cx0 cy0 sd0 wd0 ht0 A0 c0 pb0 B0 e0 pl0 fl1 ke1 sw1 be1 we1 x2 y2 a3 W hr10 hc10 hr20 hc20).mono fun e W' ⟨he, bel⟩ => ?_
  subst he
  exact ⟨_, rfl, _, _, _, [], _, [], hW', trodAll_mk1 (shut_bool Tryz.underlying4 _), (trodAll_cons_mk (Below.trod laidOut (by kernel_rfl) (of_decide_eq_true (by kernel_rfl)) k0 bel lt0) (trodAll_cons_mk (Below.trod laidOut (by kernel_rfl) (of_decide_eq_true (by kernel_rfl)) k1 bel lt1) (trodAll_cons_mk (Below.trod laidOut (by kernel_rfl) (of_decide_eq_true (by kernel_rfl)) k2 bel lt2) (trodAll_cons_mk (shut_int Tryz.underlying22 w3) trodAll_mk0)))), rfl, bel.frame _, fun h => by cases h⟩
theorem iceWeights_inPlace : (Rows.iceWeightsRow.inPlace == Tryz.prog.inPlace 3) = true := by kernel_rfl
theorem iceWeights_unfollowed : (Rows.iceWeightsRow.unfollowed == Tryz.prog.unfollowed 3) = true := by kernel_rfl
theorem iceWeights_recurses : (Rows.iceWeightsRow.recurses == Tryz.prog.recurses 3) = true := by kernel_rfl
theorem iceWeights_named : (Rows.iceWeightsRow.named == Tryz.prog.varsNamed 3) = true := by kernel_rfl
set_option maxRecDepth 100000 in
theorem iceWeights_closed : joinedFacts Tryz.prog 3 Tryz.f3 Rows.iceWeightsSpec Rows.iceWeightsRow = true := by
  unfold joinedFacts
  simp only [Bool.and_eq_true]
  exact ⟨⟨⟨⟨⟨⟨⟨⟨⟨⟨⟨⟨⟨⟨⟨⟨⟨⟨⟨⟨⟨⟨⟨⟨⟨⟨⟨⟨⟨⟨⟨(by kernel_rfl), laidOut⟩, maps_rowed⟩, (by kernel_rfl)⟩, (by kernel_rfl)⟩, (by kernel_rfl)⟩, (by kernel_rfl)⟩, (by kernel_rfl)⟩, (by kernel_rfl)⟩, iceWeights_inPlace⟩, iceWeights_unfollowed⟩, iceWeights_recurses⟩, iceWeights_named⟩, (by kernel_rfl)⟩, (by kernel_rfl)⟩, (by kernel_rfl)⟩, (by kernel_rfl)⟩, (by kernel_rfl)⟩, (by kernel_rfl)⟩, (by kernel_rfl)⟩, (by kernel_rfl)⟩, (by kernel_rfl)⟩, (by kernel_rfl)⟩, (by kernel_rfl)⟩, stops_heard⟩, may_enter⟩, lifts_final⟩, made_as⟩, (by kernel_rfl)⟩, (by kernel_rfl)⟩, (by kernel_rfl)⟩, (by kernel_rfl)⟩
theorem iceWeights_wrap : Tryz.f3.isWrapper Tryz.prog Rows.iceWeightsRow.wrapper Rows.iceWeightsRow.mainSum := by
  unfold Func.isWrapper; first | (rw [if_pos (by decide +kernel)]; kernel_rfl) | (rw [if_neg (by decide +kernel)]; exact ⟨rfl, rfl⟩)
theorem iceWeights_found : Tryz.prog.funcNamed Rows.iceWeightsRow.func = some 3 := by kernel_rfl
theorem iceWeights_over : Rows.iceWeightsRow.holds Tryz.pinned (OpenSpec.ofChange Rows.iceWeightsSpec) :=
  OpenClaim.holds_of_wide 3 Tryz.f3 rfl rfl rfl rfl rfl rfl rfl ⟨rfl, rfl, rfl, rfl, rfl⟩ rfl rfl rfl rfl rfl iceWeights_found Tryz.func3 iceWeights_closed
    (of_decide_eq_true (by kernel_rfl)) iceWeights_wrap
    (fun os started H enc _ => iceWeights_lifted os started H enc)
end Go.Proofs.YtibaapaglocpjaaGreat.B
namespace Go.Proofs.YtibaapaglocpjaaGreat
theorem iceWeights_holds : Rows.IceWeightsSaid := B.iceWeights_over
#print axioms iceWeights_holds
end Go.Proofs.YtibaapaglocpjaaGreat

end
