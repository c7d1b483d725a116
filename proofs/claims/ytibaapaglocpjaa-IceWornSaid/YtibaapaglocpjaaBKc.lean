import Derived.Test.YtibaapaglocpjaaBJf
import Derived.Test.YtibaapaglocpjaaBL
/- Proved here: lemmas for the laws' proofs (the texts Kc). No condition. -/
section
set_option linter.unusedSimpArgs false
set_option linter.unusedVariables false
namespace Go.Proofs.Ytibaapaglocpjaa.B
open Go.RowKit Go.Shelf Go.Proofs.YtibaapaglocpjaaW.PrintWords
theorem made_new (W : World) (base g : Nat) (hb : base ≤ W.heap.size) (hg : W.heap.size = g) : (W.alloc (.cells #[] 3)).ownsRow base 3 1 (.slice (some ⟨g, 0, none⟩) 0 0) 0 [] := by
  subst hg
  exact World.ownsRow_made W #[] 0 hb (Nat.zero_le _) rfl
set_option maxRecDepth 100000 in
theorem copy_step {w0 W : World} {ops : Array Oper} {o : Oper} {a : Act} {K : Act → World → Prop} {Q : Exit → Act → World → Prop} {E : Prop} (hgd : o.guard = none) (s x : Operand)
    (ho : o.op = .call { callee := .builtin .append, args := #[s, x], argTypes := #[25, 25] }) (base : Nat)
    (v : Value) (ys : List Int) (A : Option Addr) (c : Nat) (hs : a.eval s = v) (hx : a.eval x = .slice A ys.length c)
    (HO : W.ownsRow base 3 1 v 0 []) (HR : ReadsInt W .i64 A ys.length ys) (HB : Below base w0 W) (hbase : base ≤ W.heap.size) (hl : ys.length ≤ 1000000)
    (h : ∀ R cr w1, w1.ownsRow base 3 1 (.slice R ys.length cr) ys.length (ys.map (Value.int .i64)) → Below base w0 w1 → W.grownBy w1 v.ownBlock → ((Value.slice R ys.length cr).ownBlock = v.ownBlock ∨ (Value.slice R ys.length cr).ownBlock = some W.heap.size) → K (a.put o.dst (.slice R ys.length cr)) w1) :
    if Region.wanted o (yielded ops a.tmps) = true then Oper.wp Try.prog o a W K Q else E := by
  have hw : Region.wanted o (yielded ops a.tmps) = true := by simp [Region.wanted, hgd]
  rw [if_pos hw]
  obtain ⟨i0, hi, hz0, hz1, hz2⟩ := info_parts info_int
  have hrun : ∃ v1 w1, (Builtin.append_ #[25, 25] o.type #[v, .slice A ys.length c]).run Try.prog W = .ok v1 w1 ∧ w1.ownsRow base 3 1 v1 ys.length (ys.map (Value.int .i64)) ∧ W.grownBy w1 v.ownBlock ∧ (v1.ownBlock = v.ownBlock ∨ v1.ownBlock = some W.heap.size) := by
    rcases A with _ | ad
    · have h0 : ys = [] := by
        rcases Nat.eq_zero_or_pos ys.length with h0 | h0
        · exact List.length_eq_zero_iff.1 h0
        · obtain ⟨ad, h, _⟩ := HR.2.2 h0; cases h
      subst h0
      refine ⟨v, W, ?_, by simpa using HO, World.grownBy.refl W _, .inl rfl⟩
      rcases HO.2 with ⟨rfl, hn⟩ | ⟨g, cap, cur, rfl, _, _, hnc, _⟩
      · simp [Builtin.append_, run_underlying Try.underlying25, sizeOf, typeInfo, hi, Builtin.lenOf, Builtin.firstCells]
      · simp [Builtin.append_, run_underlying Try.underlying25, sizeOf, typeInfo, hi, Builtin.lenOf, Builtin.firstCells, hnc, storeCells]
    · have hcells : ∀ j u, (ys.map (Value.int .i64))[j]? = some u → W.cell? (ad.add j) = some u := by
        intro j u hu
        rw [List.getElem?_map] at hu
        obtain ⟨z, hz, rfl⟩ := Option.map_eq_some_iff.1 hu
        have hj := (List.getElem?_eq_some_iff.1 hz).1
        obtain ⟨ad', h', hc⟩ := HR.2.2 (by omega)
        injection h' with h'
        subst h'
        rw [hc j hj, List.getD_eq_getElem?_getD, hz]; rfl
      obtain ⟨v1, w1, hr, hown, hg, _, hat⟩ := run_append_own_at (P := Try.prog) W base 25 o.type 3 i0 (.int .i64 0) 1 8 Try.underlying25 hi hz0 hz1 hz2 rfl (by decide) v 0 [] HO ad ys.length c (ys.map (Value.int .i64)) (by simp) hcells (by intro u hu; obtain ⟨z, _, rfl⟩ := List.mem_map.1 hu; rfl) (by simp only [maxLen]; omega) (by omega) hbase
      exact ⟨v1, w1, hr, by simpa using hown, hg, hat⟩
  obtain ⟨v1, w1, hr, hown, hg, hat⟩ := hrun
  obtain ⟨R, cr, rfl⟩ : ∃ R cr, v1 = .slice R ys.length cr := by
    rcases hown.2 with ⟨rfl, hn⟩ | ⟨g, cap, cur, rfl, _⟩
    · exact ⟨none, 0, by rw [hn]⟩
    · exact ⟨_, cap, rfl⟩
  unfold Oper.wp execOp
  simp only [ho, resolve, invoke, builtin, Sem.run_bind, Sem.run_pure, Result.andThen_ok, List.map_toArray, List.map_cons, List.map_nil, hs, hx, hr]
  exact h R cr w1 hown (HB.grown hg hbase (own_base HO)) hg hat
theorem bk_ne {W : World} {base : Nat} {e : TypeId} {n : Nat} {v : Value} {xs : List Value} (h : W.ownsRow base e 1 v n xs) : v.ownBlock = none ∨ v.ownBlock ≠ (Value.slice (some ⟨W.heap.size, 0, none⟩) 0 0).ownBlock := by
  right
  intro hk
  have := (h.lt W.heap.size (by rw [hk]; simp [Value.ownBlock])).2
  omega
theorem row_some {W : World} {base : Nat} {e : TypeId} {n c : Nat} {R : Option Addr} {xs : List Value} (h : W.ownsRow base e 1 (.slice R n c) n xs) (hn : 0 < n) : ∃ g, R = some ⟨g, 0, none⟩ ∧ base ≤ g ∧ g < W.heap.size ∧ n ≤ c := by
  rcases h.2 with ⟨hv, h0⟩ | ⟨g, cap, cur, hv, hb, hg, hc, _⟩
  · omega
  · cases hv
    exact ⟨g, rfl, hb, (Array.getElem?_eq_some_iff.1 hg).1, hc⟩
theorem row_reads {W : World} {base : Nat} {e : TypeId} {n c : Nat} {R : Option Addr} {xs : List Int} (h : W.ownsRow base e 1 (.slice R n c) n (xs.map (Value.int .i64))) (hn : xs.length = n) : ReadsInt W .i64 R xs.length xs ∧ xs.length ≤ c := by
  subst hn
  obtain ⟨A, c', hv, hr, hc⟩ := own_reads2 h
  cases hv
  exact ⟨hr, hc⟩
end Go.Proofs.Ytibaapaglocpjaa.B

end
