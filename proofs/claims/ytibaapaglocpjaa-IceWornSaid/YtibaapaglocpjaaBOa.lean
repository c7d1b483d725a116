import Derived.Below
import Derived.Carry
import Derived.ChangeOld
import Derived.ChangeSlices
import Derived.OpenShut
import Derived.ProofKit
import Derived.ShutString
import Derived.SizedLaws
import Derived.Test.YtibaapaglocpjaaProg
import Derived.WalkKit
import Derived.Test.YtibaapaglocpjaaBW0
/- Proved here: lemmas for the laws' proofs (the texts Oa). No condition. -/
section
set_option linter.unusedSimpArgs false
set_option linter.unusedVariables false
namespace Go.Proofs.Ytibaapaglocpjaa.B
open Go.ChangeShapes Go.WideShapes Go.ChangeAt Go.RowKit Go.Proofs.YtibaapaglocpjaaW.PrintWords
theorem laidOut : laidOutB Try.prog = true := by kernel_rfl
theorem own : ownKnob Try.prog.godebug = none := by kernel_rfl
theorem cellsSpot : Try.prog.cellsOf 24 = 2 := by kernel_rfl
theorem cellsFix : Try.prog.cellsOf 22 = 1 := by kernel_rfl
theorem cellsInt : Try.prog.cellsOf 3 = 1 := by kernel_rfl
theorem cellsInts : Try.prog.cellsOf 25 = 1 := by kernel_rfl
theorem cellsGrain : Try.prog.cellsOf 40 = 5 := by kernel_rfl
theorem cellsIce : Try.prog.cellsOf 27 = 7 := by kernel_rfl
theorem open_struct {H : Type} {enc : TypeId × Value → H} {P : Program} {w : World} {base : Nat} {held : Bool} {r : Reach} {b0 : Nat} {t : TypeId} {v : Value} {d : DataW H} {p : List MemPlace} {fs : Array Field} {n : Nat} (ht : P.underlying t = some (.struct fs)) (hn : P.cellsOf t = n) (hv : Value.okWide P w r b0 t v)
    (h : DataW.Trod enc P w base (fun _ => true) held t v d p) : ∃ l : List Value, v = .agg ⟨l⟩ ∧ l.length = n ∧ ∃ fuel y, DataW.trod enc P w base (fun _ => true) held fuel t l = some y := by
  obtain ⟨cs, rfl, hsz⟩ := okWide_struct ht hv
  obtain ⟨l⟩ := cs
  obtain ⟨fuel, hf⟩ := h
  exact ⟨l, rfl, hsz.trans hn, fuel, _, hf⟩
section
variable {H : Type} {enc : TypeId × Value → H} {w : World} {base : Nat} {held : Bool}
theorem field_int {t : TypeId} {k : IntKind} {n : Nat} {c : Value} {o : Option (DataW H × List MemPlace)} {y : DataW H × List MemPlace} (ht : Try.prog.underlying t = some (.int k)) (ho : DataW.trod enc Try.prog w base (fun _ => true) held n t [c] = o) (hy : o = some y) : ∃ i, c = .int k i ∧ (Lit.int k i).wf = true := by
  subst hy
  obtain ⟨i, hc, _, hw⟩ := DataW.trod_int ht ho
  simp at hc
  exact ⟨i, hc, hw⟩
def IntsAt (w : World) (c : Value) : Prop := ∃ (A : Option Addr) (cap : Nat) (l : List Int), c = .slice A l.length cap ∧ ReadsInt w .i64 A l.length l ∧ l.length ≤ cap ∧ ∀ x ∈ l, (Lit.int .i64 x).wf = true
theorem field_ints {n : Nat} {c : Value} {o : Option (DataW H × List MemPlace)} {y : DataW H × List MemPlace} (ho : DataW.trod enc Try.prog w base (fun _ => true) held n 25 [c] = o) (hy : o = some y) : IntsAt w c := by
  subst hy
  rcases open_ints Try.underlying25 Try.underlying3 (by kernel_rfl) ho with ⟨hcs, _⟩ | ⟨x, l, cap, zs, hcs, _, hl, hm, hz, _, hcell, hw⟩
  · simp at hcs
    subst hcs
    exact ⟨none, 0, [], rfl, ⟨rfl, by simp, fun h => absurd h (by simp)⟩, by simp, fun x hx => by cases hx⟩
  · simp at hcs
    subst hcs
    have hlen : (zs.take l).length = l := by rw [List.length_take, hz]; simp; omega
    refine ⟨some x, cap, zs.take l, by rw [hlen], ⟨rfl, by simp only [maxLen] at hm; omega, fun h => ⟨x, rfl, fun j hj => ?_⟩⟩, by rw [hlen]; exact hl, fun z hx => hw z (List.mem_of_mem_take hx)⟩
    rw [hlen] at hj
    have := hcell j (by rw [hz]; simp; omega)
    rw [this]
    simp [List.getD_eq_getElem?_getD, List.getElem?_take, hj]
theorem cells_spot {n : Nat} {c0 c1 : Value} {o : Option (DataW H × List MemPlace)} {y : DataW H × List MemPlace} (ho : DataW.trod enc Try.prog w base (fun _ => true) held n 24 [c0, c1] = o) (hy : o = some y) : ∃ i j, c0 = .int .i64 i ∧ c1 = .int .i64 j ∧ (Lit.int .i64 i).wf = true ∧ (Lit.int .i64 j).wf = true := by
  subst hy
  obtain ⟨y0, y1, n', _, _, h0, h1⟩ := trod_struct2 Try.underlying24 ho
  obtain ⟨i, e0, w0⟩ := field_int Try.underlying22 (show DataW.trod enc Try.prog w base (fun _ => true) held n' 22 [c0] = some y0 by simpa [cellsSpot, cellsFix, cellsInt, cellsInts] using h0) rfl
  obtain ⟨j, e1, w1⟩ := field_int Try.underlying22 (show DataW.trod enc Try.prog w base (fun _ => true) held n' 22 [c1] = some y1 by simpa [cellsSpot, cellsFix, cellsInt, cellsInts] using h1) rfl
  exact ⟨i, j, e0, e1, w0, w1⟩
theorem cells_grain {n : Nat} {c0 c1 c2 c3 c4 : Value} {o : Option (DataW H × List MemPlace)} {y : DataW H × List MemPlace} (ho : DataW.trod enc Try.prog w base (fun _ => true) held n 40 [c0, c1, c2, c3, c4] = o) (hy : o = some y) :
    ∃ i j k l m, c0 = .int .i64 i ∧ c1 = .int .i64 j ∧ c2 = .int .i64 k ∧ c3 = .int .i64 l ∧ c4 = .int .i64 m := by
  subst hy
  obtain ⟨xs, n', _, _, _, hlen, hf⟩ := DataW.trod_struct Try.underlying40 ho
  match xs, hlen with
  | [y0, y1, y2, y3, y4], _ =>
    obtain ⟨i, e0, _⟩ := field_int Try.underlying22 (show DataW.trod enc Try.prog w base (fun _ => true) held n' 22 [c0] = some y0 by simpa [cellsSpot, cellsFix, cellsInt, cellsInts] using hf 0 _ rfl) rfl
    obtain ⟨j, e1, _⟩ := field_int Try.underlying22 (show DataW.trod enc Try.prog w base (fun _ => true) held n' 22 [c1] = some y1 by simpa [cellsSpot, cellsFix, cellsInt, cellsInts] using hf 1 _ rfl) rfl
    obtain ⟨k, e2, _⟩ := field_int Try.underlying3 (show DataW.trod enc Try.prog w base (fun _ => true) held n' 3 [c2] = some y2 by simpa [cellsSpot, cellsFix, cellsInt, cellsInts] using hf 2 _ rfl) rfl
    obtain ⟨l, e3, _⟩ := field_int Try.underlying3 (show DataW.trod enc Try.prog w base (fun _ => true) held n' 3 [c3] = some y3 by simpa [cellsSpot, cellsFix, cellsInt, cellsInts] using hf 3 _ rfl) rfl
    obtain ⟨m, e4, _⟩ := field_int Try.underlying3 (show DataW.trod enc Try.prog w base (fun _ => true) held n' 3 [c4] = some y4 by simpa [cellsSpot, cellsFix, cellsInt, cellsInts] using hf 4 _ rfl) rfl
    exact ⟨i, j, k, l, m, e0, e1, e2, e3, e4⟩
def IceCells (w : World) (cs : List Value) : Prop := ∃ (cx cy sd wd ht : Int) (A : Option Addr) (c : Nat) (pb : List Int) (B : Option Addr) (d : Nat) (pl : List Int),
  cs = [.int .i64 cx, .int .i64 cy, .int .i64 sd, .int .i64 wd, .int .i64 ht, .slice A pb.length c, .slice B pl.length d] ∧ ReadsInt w .i64 A pb.length pb ∧ pb.length ≤ c ∧ ReadsInt w .i64 B pl.length pl ∧ pl.length ≤ d ∧
  (((Lit.int .i64 cx).wf = true ∧ (Lit.int .i64 cy).wf = true ∧ (Lit.int .i64 sd).wf = true ∧ (Lit.int .i64 wd).wf = true ∧ (Lit.int .i64 ht).wf = true) ∧ (∀ x ∈ pb, (Lit.int .i64 x).wf = true) ∧ ∀ x ∈ pl, (Lit.int .i64 x).wf = true)
theorem cells_ice {n : Nat} {c0 c1 c2 c3 c4 c5 c6 : Value} {o : Option (DataW H × List MemPlace)} {y : DataW H × List MemPlace} (ho : DataW.trod enc Try.prog w base (fun _ => true) held n 27 [c0, c1, c2, c3, c4, c5, c6] = o) (hy : o = some y) : IceCells w [c0, c1, c2, c3, c4, c5, c6] := by
  subst hy
  obtain ⟨xs, n', _, _, _, hlen, hf⟩ := DataW.trod_struct Try.underlying27 ho
  match xs, hlen with
  | [y0, y1, y2, y3, y4, y5], _ =>
    obtain ⟨cx, cy, e0, e1, w0, w1⟩ := cells_spot (show DataW.trod enc Try.prog w base (fun _ => true) held n' 24 [c0, c1] = some y0 by simpa [cellsSpot, cellsFix, cellsInt, cellsInts] using hf 0 _ rfl) rfl
    obtain ⟨sd, e2, w2⟩ := field_int Try.underlying22 (show DataW.trod enc Try.prog w base (fun _ => true) held n' 22 [c2] = some y1 by simpa [cellsSpot, cellsFix, cellsInt, cellsInts] using hf 1 _ rfl) rfl
    obtain ⟨wd, e3, w3⟩ := field_int Try.underlying3 (show DataW.trod enc Try.prog w base (fun _ => true) held n' 3 [c3] = some y2 by simpa [cellsSpot, cellsFix, cellsInt, cellsInts] using hf 2 _ rfl) rfl
    obtain ⟨ht, e4, w4⟩ := field_int Try.underlying3 (show DataW.trod enc Try.prog w base (fun _ => true) held n' 3 [c4] = some y3 by simpa [cellsSpot, cellsFix, cellsInt, cellsInts] using hf 3 _ rfl) rfl
    obtain ⟨A, c, pb, e5, r5, l5, w5⟩ := field_ints (show DataW.trod enc Try.prog w base (fun _ => true) held n' 25 [c5] = some y4 by simpa [cellsSpot, cellsFix, cellsInt, cellsInts] using hf 4 _ rfl) rfl
    obtain ⟨B, d, pl, e6, r6, l6, w6⟩ := field_ints (show DataW.trod enc Try.prog w base (fun _ => true) held n' 25 [c6] = some y5 by simpa [cellsSpot, cellsFix, cellsInt, cellsInts] using hf 5 _ rfl) rfl
    subst e0 e1 e2 e3 e4 e5 e6
    exact ⟨cx, cy, sd, wd, ht, A, c, pb, B, d, pl, rfl, r5, l5, r6, l6, ⟨w0, w1, w2, w3, w4⟩, w5, w6⟩
set_option maxRecDepth 100000 in
theorem open_ice {r : Reach} {b0 : Nat} {v : Value} {d : DataW H} {p : List MemPlace} (hv : Value.okWide Try.prog w r b0 27 v) (h : DataW.Trod enc Try.prog w base (fun _ => true) held 27 v d p) :
    ∃ (cx cy sd wd ht : Int) (A : Option Addr) (c : Nat) (pb : List Int) (B : Option Addr) (d : Nat) (pl : List Int), v = .agg #[.int .i64 cx, .int .i64 cy, .int .i64 sd, .int .i64 wd, .int .i64 ht, .slice A pb.length c, .slice B pl.length d] ∧ ReadsInt w .i64 A pb.length pb ∧ pb.length ≤ c ∧ ReadsInt w .i64 B pl.length pl ∧ pl.length ≤ d ∧
      (((Lit.int .i64 cx).wf = true ∧ (Lit.int .i64 cy).wf = true ∧ (Lit.int .i64 sd).wf = true ∧ (Lit.int .i64 wd).wf = true ∧ (Lit.int .i64 ht).wf = true) ∧ (∀ x ∈ pb, (Lit.int .i64 x).wf = true) ∧ ∀ x ∈ pl, (Lit.int .i64 x).wf = true) := by
  have ⟨l, e, hl, fuel, y, hf⟩ := open_struct Try.underlying27 cellsIce hv h
  match l, hl, e, hf with
  | [c0, c1, c2, c3, c4, c5, c6], _, e, hf =>
    have ⟨cx, cy, sd, wd, ht, A, c, pb, B, d, pl, e', r⟩ := cells_ice hf rfl
    exact ⟨cx, cy, sd, wd, ht, A, c, pb, B, d, pl, by rw [e, e'], r⟩
set_option maxRecDepth 100000 in
theorem open_grain {r : Reach} {b0 : Nat} {v : Value} {d : DataW H} {p : List MemPlace} (hv : Value.okWide Try.prog w r b0 40 v) (h : DataW.Trod enc Try.prog w base (fun _ => true) held 40 v d p) :
    ∃ i j k l m : Int, v = .agg #[.int .i64 i, .int .i64 j, .int .i64 k, .int .i64 l, .int .i64 m] := by
  have ⟨l, e, hl, fuel, y, hf⟩ := open_struct Try.underlying40 cellsGrain hv h
  match l, hl, e, hf with
  | [c0, c1, c2, c3, c4], _, e, hf =>
    have ⟨i, j, k, l, m, e0, e1, e2, e3, e4⟩ := cells_grain hf rfl
    exact ⟨i, j, k, l, m, by rw [e, e0, e1, e2, e3, e4]⟩
set_option maxRecDepth 100000 in
theorem open_spot {r : Reach} {b0 : Nat} {v : Value} {d : DataW H} {p : List MemPlace} (hv : Value.okWide Try.prog w r b0 24 v) (h : DataW.Trod enc Try.prog w base (fun _ => true) held 24 v d p) :
    ∃ i j : Int, v = .agg #[.int .i64 i, .int .i64 j] ∧ (Lit.int .i64 i).wf = true ∧ (Lit.int .i64 j).wf = true := by
  have ⟨l, e, hl, fuel, y, hf⟩ := open_struct Try.underlying24 cellsSpot hv h
  match l, hl, e, hf with
  | [c0, c1], _, e, hf =>
    have ⟨i, j, e0, e1, w0, w1⟩ := cells_spot hf rfl
    exact ⟨i, j, by rw [e, e0, e1], w0, w1⟩
end
end Go.Proofs.Ytibaapaglocpjaa.B

end
