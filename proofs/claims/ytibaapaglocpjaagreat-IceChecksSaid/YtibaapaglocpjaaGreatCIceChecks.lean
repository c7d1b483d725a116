import Derived.Test.YtibaapaglocpjaaGreatRows
import Derived.Test.YtibaapaglocpjaaGreatBYa
import Derived.Test.YtibaapaglocpjaaGreatBYb
import Derived.Test.YtibaapaglocpjaaGreatBYc
import Derived.Test.YtibaapaglocpjaaGreatBYd
import Derived.Test.YtibaapaglocpjaaGreatBOa
import Derived.Test.YtibaapaglocpjaaGreatBMc
/- Proved here: the law IceChecks holds as its row says, for every input. No condition. -/
section
set_option linter.unusedSimpArgs false
set_option linter.unusedVariables false
namespace Go.Proofs.YtibaapaglocpjaaGreat.B
open Go.ChangeShapes Go.WideShapes Go.ChangeAt Go.RowKit Go.Proofs.YtibaapaglocpjaaGreatW.PrintWords
set_option maxRecDepth 100000 in
theorem iceChecks_lifted (os : Os) (started : os.Started) (H : Type) (enc : TypeId × Value → H) :
    ReturnsInHanded {} Tryz.checked os 4 .any (Rows.iceChecksSpec.pre6 enc Tryz.prog Tryz.f4 Rows.iceChecksRow.domain false) (Rows.iceChecksSpec.post enc Tryz.prog Tryz.f4 false true false false) := by
  refine returnsInHanded_of_change_sized (C := Tryz.checked) own started (by kernel_rfl) Tryz.func4
    (ChangeSpec.witness6 (enc := enc) (C := Tryz.checked) false ⟨#[], #[.agg #[.int .i64 0, .int .i64 0, .int .i64 0, .int .i64 0, .int .i64 0, .slice none 0 0, .slice none 0 0], .agg #[.int .i64 0, .int .i64 0, .int .i64 0, .int .i64 0, .int .i64 0], .agg #[.int .i64 0, .int .i64 0]], []⟩ 8 (by kernel_rfl) (by kernel_rfl) (by kernel_rfl) (by kernel_rfl)) ?_
  intro W base args ds gs before hval0 hW hcnd hsz0 _
  have hval : ∀ (j : Nat) t v, Tryz.f4.params[j]? = some t → args[j]? = some v → Value.okWide Tryz.prog W .any base t v := hval0
  have hW' := hW
  obtain ⟨p, q, hA0, hV, rfl, hfz, hnd⟩ := hW
  have hA : DataW.TrodAll enc Tryz.prog W 0 (fun _ => true) true Tryz.f4.params.toList args.toList ds p := hA0
  rw [Tryz.params4] at hA hval
  obtain ⟨v0, vs0, d0, ds0, p0, q0, hargs, rfl, rfl, h0, r0⟩ := trodAll_cons hA
  obtain ⟨v1, vs1, d1, ds1, p1, q1, rfl, rfl, rfl, h1, r1⟩ := trodAll_cons r0
  obtain ⟨v2, vs2, d2, ds2, p2, q2, rfl, rfl, rfl, h2, r2⟩ := trodAll_cons r1
  obtain ⟨rfl, rfl, rfl⟩ := trodAll_nil r2
  obtain rfl : args = #[v0, v1, v2] := by cases args; simp_all
  obtain ⟨rfl, rfl⟩ := trodVars_none hV
  have k0 := h0
  have lt0 : ∀ x ∈ p0, x.block < W.heap.size := by obtain ⟨m, hm⟩ := k0; exact DataW.trod_lt m _ _ _ hm
  have ⟨cx0, cy0, sd0, wd0, ht0, A0, c0, pb0, B0, e0, pl0, eq0, hr10, hc10, hr20, hc20, wf0⟩ := open_ice (hval 0 27 v0 rfl rfl) k0
  subst eq0
  have k1 := h1
  have lt1 : ∀ x ∈ p1, x.block < W.heap.size := by obtain ⟨m, hm⟩ := k1; exact DataW.trod_lt m _ _ _ hm
  have ⟨fl1, ke1, sw1, be1, we1, eq1⟩ := open_grain (hval 1 29 v1 rfl rfl) k1
  subst eq1
  have k2 := h2
  have lt2 : ∀ x ∈ p2, x.block < W.heap.size := by obtain ⟨m, hm⟩ := k2; exact DataW.trod_lt m _ _ _ hm
  have ⟨x2, y2, eq2, wx2, wy2⟩ := open_spot (hval 2 24 v2 rfl rfl) k2
  subst eq2
  clear hA0 hval0 hsz0
  refine (IceChecks_any cx0 cy0 sd0 wd0 ht0 A0 c0 pb0 B0 e0 pl0 fl1 ke1 sw1 be1 we1 x2 y2 W hr10 hc10 hr20 hc20).mono fun e W' ⟨he, bel⟩ => ?_
  subst he
  exact ⟨_, rfl, _, _, _, [], _, [], hW', trodAll_mk1 (shut_bool Tryz.underlying4 _), (trodAll_cons_mk (Below.trod laidOut (by kernel_rfl) (of_decide_eq_true (by kernel_rfl)) k0 bel lt0) (trodAll_cons_mk (Below.trod laidOut (by kernel_rfl) (of_decide_eq_true (by kernel_rfl)) k1 bel lt1) (trodAll_cons_mk (Below.trod laidOut (by kernel_rfl) (of_decide_eq_true (by kernel_rfl)) k2 bel lt2) trodAll_mk0))), rfl, bel.frame _, fun h => by cases h⟩
theorem iceChecks_inPlace : (Rows.iceChecksRow.inPlace == Tryz.prog.inPlace 4) = true := by kernel_rfl
theorem iceChecks_unfollowed : (Rows.iceChecksRow.unfollowed == Tryz.prog.unfollowed 4) = true := by kernel_rfl
theorem iceChecks_recurses : (Rows.iceChecksRow.recurses == Tryz.prog.recurses 4) = true := by kernel_rfl
theorem iceChecks_named : (Rows.iceChecksRow.named == Tryz.prog.varsNamed 4) = true := by kernel_rfl
set_option maxRecDepth 100000 in
theorem iceChecks_closed : joinedFacts Tryz.prog 4 Tryz.f4 Rows.iceChecksSpec Rows.iceChecksRow = true := by
  unfold joinedFacts
  simp only [Bool.and_eq_true]
  exact ⟨⟨⟨⟨⟨⟨⟨⟨⟨⟨⟨⟨⟨⟨⟨⟨⟨⟨⟨⟨⟨⟨⟨⟨⟨⟨⟨⟨⟨⟨⟨(by kernel_rfl), laidOut⟩, maps_rowed⟩, (by kernel_rfl)⟩, (by kernel_rfl)⟩, (by kernel_rfl)⟩, (by kernel_rfl)⟩, (by kernel_rfl)⟩, (by kernel_rfl)⟩, iceChecks_inPlace⟩, iceChecks_unfollowed⟩, iceChecks_recurses⟩, iceChecks_named⟩, (by kernel_rfl)⟩, (by kernel_rfl)⟩, (by kernel_rfl)⟩, (by kernel_rfl)⟩, (by kernel_rfl)⟩, (by kernel_rfl)⟩, (by kernel_rfl)⟩, (by kernel_rfl)⟩, (by kernel_rfl)⟩, (by kernel_rfl)⟩, (by kernel_rfl)⟩, stops_heard⟩, may_enter⟩, lifts_final⟩, made_as⟩, (by kernel_rfl)⟩, (by kernel_rfl)⟩, (by kernel_rfl)⟩, (by kernel_rfl)⟩
theorem iceChecks_wrap : Tryz.f4.isWrapper Tryz.prog Rows.iceChecksRow.wrapper Rows.iceChecksRow.mainSum := by
  unfold Func.isWrapper; first | (rw [if_pos (by decide +kernel)]; kernel_rfl) | (rw [if_neg (by decide +kernel)]; exact ⟨rfl, rfl⟩)
theorem iceChecks_found : Tryz.prog.funcNamed Rows.iceChecksRow.func = some 4 := by kernel_rfl
theorem iceChecks_over : Rows.iceChecksRow.holds Tryz.pinned (OpenSpec.ofChange Rows.iceChecksSpec) :=
  OpenClaim.holds_of_wide 4 Tryz.f4 rfl rfl rfl rfl rfl rfl rfl ⟨rfl, rfl, rfl, rfl, rfl⟩ rfl rfl rfl rfl rfl iceChecks_found Tryz.func4 iceChecks_closed
    (of_decide_eq_true (by kernel_rfl)) iceChecks_wrap
    (fun os started H enc _ => iceChecks_lifted os started H enc)
end Go.Proofs.YtibaapaglocpjaaGreat.B
namespace Go.Proofs.YtibaapaglocpjaaGreat
theorem iceChecks_holds : Rows.IceChecksSaid := B.iceChecks_over
#print axioms iceChecks_holds
end Go.Proofs.YtibaapaglocpjaaGreat

end
