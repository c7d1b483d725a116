import Derived.Deep.RegionHeld3
import Derived.OrdersHeld
import Derived.Test.YtibaapaglocpjaaBJf
/- Proved here: lemmas for the laws' proofs (the texts Kr). No condition. -/
section
set_option linter.unusedSimpArgs false
set_option linter.unusedVariables false
namespace Go.Proofs.Ytibaapaglocpjaa.B
open Go.RowKit Go.Shelf
section
variable {P : Program} {md : Region.Mode} {ops : Array Oper} {Q : Exit → Act → World → Prop} {n l : Nat}
theorem rows_round {row : String} {args : Array Value} {w : World} {R : Value → World → Prop} (h : Rows P row args w R) : RowsIn (Fence.wide.inRound l) n P row args w R :=
  fun c cs _ => let ⟨v, w', r, s⟩ := h c cs; ⟨v, w', r, stepsIn_wide.2 s⟩
theorem upon_round {o : Oper} {a : Act} {K : Act → World → Prop} (r : Result Next) (h : o.upon P a K Q r) : o.uponIn (Fence.wide.inRound l) n P a K Q r := by
  cases r with
  | ok nx w' =>
    cases nx <;> first | exact h | exact False.elim h | exact ⟨fun k => by simp [Fence.wide] at k, CallsIn.inRound l (callsIn_wide.2 h)⟩ | exact ⟨fun k => by simp [Fence.wide] at k, rows_round h⟩
  | halt hl w' => cases hl <;> first | exact h | exact False.elim h
theorem op_round {o : Oper} {a : Act} {w : World} {K : Act → World → Prop} (hd : ∀ c, o.op ≠ .defer c) (h : o.wp P a w K Q) : o.wpIn (Fence.wide.inRound l) n P a w K Q := by
  refine ⟨fun _ _ => trivial, ?_⟩
  rw [show (Fence.wide.inRound l).round = some l from rfl, Oper.semAt_some l _ _ hd]
  exact upon_round _ h
def noDefer (ops : Array Oper) : Bool := ops.all fun o => match o.op with | .defer _ => false | _ => true
theorem noDefer_at (h : noDefer ops = true) {i : Nat} {o : Oper} (ho : ops[i]? = some o) : ∀ c, o.op ≠ .defer c := by
  intro c hc
  obtain ⟨hi, rfl⟩ := Array.getElem?_eq_some_iff.1 ho
  unfold noDefer at h
  rw [Array.all_eq_true] at h
  have := h i hi
  rw [hc] at this
  exact absurd this (by simp)
theorem any_round (hd : noDefer ops = true) (hL : ¬ LetsOut Q) : ∀ (fuel : Nat) (listed : Array Bool) (a : Act) (w : World), wpAny P md ops Q fuel listed a w → wpAnyIn (Fence.wide.inRound l) n P md ops Q fuel listed a w
  | 0, _, _, _, h => h
  | fuel + 1, listed, a, w, h => ⟨h.1, fun i hi => by
    have k := wpOp_mono (fun a' w' h' => any_round hd hL fuel _ a' w' h') (h.2 i hi)
    unfold wpOp at k
    unfold wpOpIn
    cases ho : ops[i]? with
    | none => rw [ho] at k; exact k
    | some o =>
      rw [ho] at k
      simp only at k ⊢
      split
      · rename_i hw; rw [if_pos hw] at k; rcases k with k | k; exact op_round (noDefer_at hd ho) k; exact absurd k.2 hL
      · rename_i hw; rw [if_neg hw] at k; exact ⟨fun _ _ => trivial, k⟩⟩
theorem region_round {S : World → Prop} {id : Nat} {a : Act} {w : World} (hm : P.follows .mixedOrders = true) (hd : noDefer ops = true) (hL : ¬ LetsOut Q) (hS : S w.drew)
    (h : S w.drew → wpAnyH P .any ops Q S ops.size (Array.replicate ops.size false) a w.drew) : (Code.region id ops true).wpIn (Fence.wide.inRound l) n P Q a w :=
  wpIn_region_any hm (any_round hd hL _ _ _ _ (wpAny_of_held _ _ _ _ (h hS)))
end
end Go.Proofs.Ytibaapaglocpjaa.B

end
