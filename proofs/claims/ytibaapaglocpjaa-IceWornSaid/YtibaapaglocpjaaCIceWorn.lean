import Derived.Test.YtibaapaglocpjaaRows
import Derived.Test.YtibaapaglocpjaaBYa
import Derived.Test.YtibaapaglocpjaaBYb
import Derived.Test.YtibaapaglocpjaaBYc
import Derived.Test.YtibaapaglocpjaaBYd
import Derived.Test.YtibaapaglocpjaaBOa
import Derived.Test.YtibaapaglocpjaaBMj
/- Proved here: the law IceWorn holds as its row says, for every input. No condition. -/
section
set_option linter.unusedSimpArgs false
set_option linter.unusedVariables false
namespace Go.Proofs.Ytibaapaglocpjaa.B
open Go.ChangeShapes Go.WideShapes Go.ChangeAt Go.RowKit Go.Proofs.YtibaapaglocpjaaW.PrintWords
set_option maxRecDepth 100000 in
theorem iceWorn_lifted (os : Os) (started : os.Started) (H : Type) (enc : TypeId × Value → H) :
    ReturnsInHanded {} Try.checked os 6 .any (Rows.iceWornSpec.pre6 enc Try.prog Try.f6 Rows.iceWornRow.domain false) (Rows.iceWornSpec.post enc Try.prog Try.f6 false true false false) := by
  refine returnsInHanded_of_change_sized (C := Try.checked) own started (by kernel_rfl) Try.func6
    (ChangeSpec.witness6 (enc := enc) (C := Try.checked) false ⟨#[], #[.agg #[.int .i64 0, .int .i64 0, .int .i64 0, .int .i64 0, .int .i64 0, .slice none 0 0, .slice none 0 0], .agg #[.int .i64 0, .int .i64 0, .int .i64 0, .int .i64 0, .int .i64 0], .agg #[.int .i64 0, .int .i64 0], .agg #[.int .i64 0, .int .i64 0], .int .u16 0], []⟩ 8 (by kernel_rfl) (by kernel_rfl) (by kernel_rfl) (by kernel_rfl)) ?_
  intro W base args ds gs before hval0 hW hcnd hsz0 _
  have hval : ∀ (j : Nat) t v, Try.f6.params[j]? = some t → args[j]? = some v → Value.okWide Try.prog W .any base t v := hval0
  have hW' := hW
  obtain ⟨p, q, hA0, hV, rfl, hfz, hnd⟩ := hW
  have hA : DataW.TrodAll enc Try.prog W 0 (fun _ => true) true Try.f6.params.toList args.toList ds p := hA0
  rw [Try.params6] at hA hval
  obtain ⟨v0, vs0, d0, ds0, p0, q0, hargs, rfl, rfl, h0, r0⟩ := trodAll_cons hA
  obtain ⟨v1, vs1, d1, ds1, p1, q1, rfl, rfl, rfl, h1, r1⟩ := trodAll_cons r0
  obtain ⟨v2, vs2, d2, ds2, p2, q2, rfl, rfl, rfl, h2, r2⟩ := trodAll_cons r1
  obtain ⟨v3, vs3, d3, ds3, p3, q3, rfl, rfl, rfl, h3, r3⟩ := trodAll_cons r2
  obtain ⟨v4, vs4, d4, ds4, p4, q4, rfl, rfl, rfl, h4, r4⟩ := trodAll_cons r3
  obtain ⟨rfl, rfl, rfl⟩ := trodAll_nil r4
  obtain rfl : args = #[v0, v1, v2, v3, v4] := by cases args; simp_all
  obtain ⟨rfl, rfl⟩ := trodVars_none hV
  have k0 := h0
  have lt0 : ∀ x ∈ p0, x.block < W.heap.size := by obtain ⟨m, hm⟩ := k0; exact DataW.trod_lt m _ _ _ hm
  have ⟨cx0, cy0, sd0, wd0, ht0, A0, c0, pb0, B0, e0, pl0, eq0, hr10, hc10, hr20, hc20, wf0⟩ := open_ice (hval 0 27 v0 rfl rfl) k0
  subst eq0
  have k1 := h1
  have lt1 : ∀ x ∈ p1, x.block < W.heap.size := by obtain ⟨m, hm⟩ := k1; exact DataW.trod_lt m _ _ _ hm
  have ⟨fl1, ke1, sw1, be1, we1, eq1⟩ := open_grain (hval 1 40 v1 rfl rfl) k1
  subst eq1
  have k2 := h2
  have lt2 : ∀ x ∈ p2, x.block < W.heap.size := by obtain ⟨m, hm⟩ := k2; exact DataW.trod_lt m _ _ _ hm
  have ⟨x2, y2, eq2, wx2, wy2⟩ := open_spot (hval 2 24 v2 rfl rfl) k2
  subst eq2
  have k3 := h3
  have lt3 : ∀ x ∈ p3, x.block < W.heap.size := by obtain ⟨m, hm⟩ := k3; exact DataW.trod_lt m _ _ _ hm
  have ⟨x3, y3, eq3, wx3, wy3⟩ := open_spot (hval 3 24 v3 rfl rfl) k3
  subst eq3
  obtain ⟨a4, rfl, rfl, rfl, w4⟩ := open_int Try.underlying28 (hval 4 28 v4 rfl rfl) h4
  clear hA0 hval0 hsz0
  refine (IceWorn_any cx0 cy0 sd0 wd0 ht0 A0 c0 pb0 B0 e0 pl0 fl1 ke1 sw1 be1 we1 x2 y2 x3 y3 a4 W hr10 hc10 hr20 hc20 (bounds_u16 w4)).mono fun e W' ⟨he, bel⟩ => ?_
  subst he
  exact ⟨_, rfl, _, _, _, [], _, [], hW', trodAll_mk1 (shut_bool Try.underlying4 _), (trodAll_cons_mk (Below.trod laidOut (by kernel_rfl) (of_decide_eq_true (by kernel_rfl)) k0 bel lt0) (trodAll_cons_mk (Below.trod laidOut (by kernel_rfl) (of_decide_eq_true (by kernel_rfl)) k1 bel lt1) (trodAll_cons_mk (Below.trod laidOut (by kernel_rfl) (of_decide_eq_true (by kernel_rfl)) k2 bel lt2) (trodAll_cons_mk (Below.trod laidOut (by kernel_rfl) (of_decide_eq_true (by kernel_rfl)) k3 bel lt3) (trodAll_cons_mk (shut_int Try.underlying28 w4) trodAll_mk0))))), rfl, bel.frame _, fun h => by cases h⟩
theorem iceWorn_inPlace : (Rows.iceWornRow.inPlace == Try.prog.inPlace 6) = true := by kernel_rfl
theorem iceWorn_unfollowed : (Rows.iceWornRow.unfollowed == Try.prog.unfollowed 6) = true := by kernel_rfl
theorem iceWorn_recurses : (Rows.iceWornRow.recurses == Try.prog.recurses 6) = true := by kernel_rfl
theorem iceWorn_named : (Rows.iceWornRow.named == Try.prog.varsNamed 6) = true := by kernel_rfl
set_option maxRecDepth 100000 in
theorem iceWorn_closed : joinedFacts Try.prog 6 Try.f6 Rows.iceWornSpec Rows.iceWornRow = true := by
  unfold joinedFacts
  simp only [Bool.and_eq_true]
  exact ⟨⟨⟨⟨⟨⟨⟨⟨⟨⟨⟨⟨⟨⟨⟨⟨⟨⟨⟨⟨⟨⟨⟨⟨⟨⟨⟨⟨⟨⟨⟨(by kernel_rfl), laidOut⟩, maps_rowed⟩, (by kernel_rfl)⟩, (by kernel_rfl)⟩, (by kernel_rfl)⟩, (by kernel_rfl)⟩, (by kernel_rfl)⟩, (by kernel_rfl)⟩, iceWorn_inPlace⟩, iceWorn_unfollowed⟩, iceWorn_recurses⟩, iceWorn_named⟩, (by kernel_rfl)⟩, (by kernel_rfl)⟩, (by kernel_rfl)⟩, (by kernel_rfl)⟩, (by kernel_rfl)⟩, (by kernel_rfl)⟩, (by kernel_rfl)⟩, (by kernel_rfl)⟩, (by kernel_rfl)⟩, (by kernel_rfl)⟩, (by kernel_rfl)⟩, stops_heard⟩, may_enter⟩, lifts_final⟩, made_as⟩, (by kernel_rfl)⟩, (by kernel_rfl)⟩, (by kernel_rfl)⟩, (by kernel_rfl)⟩
theorem iceWorn_wrap : Try.f6.isWrapper Try.prog Rows.iceWornRow.wrapper Rows.iceWornRow.mainSum := by
  unfold Func.isWrapper; first | (rw [if_pos (by decide +kernel)]; kernel_rfl) | (rw [if_neg (by decide +kernel)]; exact ⟨rfl, rfl⟩)
theorem iceWorn_found : Try.prog.funcNamed Rows.iceWornRow.func = some 6 := by kernel_rfl
theorem iceWorn_over : Rows.iceWornRow.holds Try.pinned (OpenSpec.ofChange Rows.iceWornSpec) :=
  OpenClaim.holds_of_wide 6 Try.f6 rfl rfl rfl rfl rfl rfl rfl ⟨rfl, rfl, rfl, rfl, rfl⟩ rfl rfl rfl rfl rfl iceWorn_found Try.func6 iceWorn_closed
    (of_decide_eq_true (by kernel_rfl)) iceWorn_wrap
    (fun os started H enc _ => iceWorn_lifted os started H enc)
end Go.Proofs.Ytibaapaglocpjaa.B
namespace Go.Proofs.Ytibaapaglocpjaa
theorem iceWorn_holds : Rows.IceWornSaid := B.iceWorn_over
#print axioms iceWorn_holds
end Go.Proofs.Ytibaapaglocpjaa

end
