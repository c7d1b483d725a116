import Derived.Test.YtibaapaglocpjaaBOa
/- Proved here: lemmas for the laws' proofs (the texts Ob). No condition. -/
section
set_option linter.unusedSimpArgs false
set_option linter.unusedVariables false
namespace Go.Proofs.Ytibaapaglocpjaa.B
open Go.ChangeShapes Go.WideShapes Go.ChangeAt Go.RowKit Go.Proofs.YtibaapaglocpjaaW.PrintWords
theorem cellsU16 : Try.prog.cellsOf 28 = 1 := by kernel_rfl
theorem cellsPair : Try.prog.cellsOf 45 = 2 := by kernel_rfl
theorem okWide_arr {P : Program} {w : World} {r : Reach} {b0 : Nat} {t e : TypeId} {n : Nat} {v : Value} (ht : P.underlying t = some (.array n e)) (h : Value.okWide P w r b0 t v) : ∃ cs, v = .agg cs ∧ cs.size = P.cellsOf t := by
  simp only [Value.okWide, ht] at h
  obtain ⟨cs, h1, h2, _⟩ := h
  exact ⟨cs, h1, h2⟩
theorem open_arr {H : Type} {enc : TypeId × Value → H} {P : Program} {w : World} {base : Nat} {held : Bool} {r : Reach} {b0 : Nat} {t : TypeId} {v : Value} {d : DataW H} {p : List MemPlace} {m : Nat} {e : TypeId} {n : Nat} (ht : P.underlying t = some (.array m e)) (hn : P.cellsOf t = n) (hv : Value.okWide P w r b0 t v)
    (h : DataW.Trod enc P w base (fun _ => true) held t v d p) : ∃ l : List Value, v = .agg ⟨l⟩ ∧ l.length = n ∧ ∃ fuel y, DataW.trod enc P w base (fun _ => true) held fuel t l = some y := by
  obtain ⟨cs, rfl, hsz⟩ := okWide_arr ht hv
  obtain ⟨l⟩ := cs
  obtain ⟨fuel, hf⟩ := h
  exact ⟨l, rfl, hsz.trans hn, fuel, _, hf⟩
section
variable {H : Type} {enc : TypeId × Value → H} {w : World} {base : Nat} {held : Bool}
theorem cells_pair {n : Nat} {c0 c1 : Value} {o : Option (DataW H × List MemPlace)} {y : DataW H × List MemPlace} (ho : DataW.trod enc Try.prog w base (fun _ => true) held n 45 [c0, c1] = o) (hy : o = some y) : ∃ i j, c0 = .int .u16 i ∧ c1 = .int .u16 j ∧ (Lit.int .u16 i).wf = true ∧ (Lit.int .u16 j).wf = true := by
  subst hy
  obtain ⟨xs, n', _, _, _, hlen, hf⟩ := DataW.trod_array Try.underlying45 ho
  match xs, hlen with
  | [y0, y1], _ =>
    obtain ⟨i, e0, w0⟩ := field_int Try.underlying28 (show DataW.trod enc Try.prog w base (fun _ => true) held n' 28 [c0] = some y0 by simpa [cellsU16] using hf 0 (by omega)) rfl
    obtain ⟨j, e1, w1⟩ := field_int Try.underlying28 (show DataW.trod enc Try.prog w base (fun _ => true) held n' 28 [c1] = some y1 by simpa [cellsU16] using hf 1 (by omega)) rfl
    exact ⟨i, j, e0, e1, w0, w1⟩
set_option maxRecDepth 100000 in
theorem open_pair {r : Reach} {b0 : Nat} {v : Value} {d : DataW H} {p : List MemPlace} (hv : Value.okWide Try.prog w r b0 45 v) (h : DataW.Trod enc Try.prog w base (fun _ => true) held 45 v d p) :
    ∃ i j : Int, v = .agg #[.int .u16 i, .int .u16 j] ∧ (Lit.int .u16 i).wf = true ∧ (Lit.int .u16 j).wf = true := by
  have ⟨l, e, hl, fuel, y, hf⟩ := open_arr Try.underlying45 cellsPair hv h
  match l, hl, e, hf with
  | [c0, c1], _, e, hf =>
    have ⟨i, j, e0, e1, w0, w1⟩ := cells_pair hf rfl
    exact ⟨i, j, by rw [e, e0, e1], w0, w1⟩
end
end Go.Proofs.Ytibaapaglocpjaa.B

end
