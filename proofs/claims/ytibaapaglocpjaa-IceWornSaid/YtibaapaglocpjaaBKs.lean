import Derived.Test.YtibaapaglocpjaaBKr
/- Proved here: lemmas for the laws' proofs (the texts Ks). No condition. -/
section
set_option linter.unusedSimpArgs false
set_option linter.unusedVariables false
namespace Go.Proofs.Ytibaapaglocpjaa.B
open Go.RowKit Go.Shelf
def AbB {β : Type} (B : Nat) (J : β → World → Prop) : Prop := ∀ s X Y, J s X → Below B X Y → J s Y
theorem AbB.more {β : Type} {B B' : Nat} {J : β → World → Prop} (h : AbB B J) (hb : B ≤ B') : AbB B' J := fun s X Y hj hy => h s X Y hj (hy.mono hb)
theorem AbB.and {β : Type} {B : Nat} {J J' : β → World → Prop} (h : AbB B J) (h' : AbB B J') : AbB B (fun s X => J s X ∧ J' s X) := fun s X Y hj hy => ⟨h s X Y hj.1 hy, h' s X Y hj.2 hy⟩
theorem AbB.below {β : Type} {B n : Nat} (hn : n ≤ B) (w : World) : AbB B (fun (_ : β) X => Below n w X) := fun _ _ _ hj hy => hj.trans (hy.mono hn)
structure KA (B : Nat) (X Y : World) : Prop where
  size : X.heap.size ≤ Y.heap.size
  same : ∀ k, B ≤ k → k < X.heap.size → Y.heap[k]? = X.heap[k]?
theorem KA.trans {B : Nat} {X Y Z : World} (h : KA B X Y) (k : KA B Y Z) : KA B X Z := ⟨Nat.le_trans h.size k.size, fun i hi hx => (k.same i hi (Nat.lt_of_lt_of_le hx h.size)).trans (h.same i hi hx)⟩
theorem KA.mono {B B' : Nat} {X Y : World} (h : KA B X Y) (hb : B ≤ B') : KA B' X Y := ⟨h.size, fun k hk => h.same k (Nat.le_trans hb hk)⟩
theorem KA.of_below {B n : Nat} {X Y : World} (h : Below n X Y) (hn : X.heap.size ≤ n) : KA B X Y := ⟨h.size, fun k _ hk => h.block k (Nat.lt_of_lt_of_le hk hn)⟩
theorem KA.put {B : Nat} (X : World) {r : Nat} (o : Obj) (hr : r < B) : KA B X (X.putObj r o) := ⟨by simp, fun k hk _ => World.putObj_heap_other (by omega)⟩
theorem KA.set {B : Nat} (X : World) {p : Addr} (v : Value) (hr : p.block < B) : KA B X (X.setCell p v) := ⟨by simp, fun k hk _ => heap_setCell_other X p k v (by omega)⟩
theorem below_put (X : World) {n r : Nat} (o : Obj) (hr : n ≤ r) : Below n X (X.putObj r o) := ⟨rfl, rfl, rfl, by simp, fun k hk => World.putObj_heap_other (by omega)⟩
def SeqB (n₀ gf : Nat) (lb : Array Value) (L : List Int) (w : World) : Prop :=
  ∀ n, 1 ≤ n → ∀ (l : Nat) (J Jx : List Int → World → Prop) (W : World), Below w.heap.size w W → AbB W.heap.size J → AbB W.heap.size Jx →
    (∀ pre x X, pre ++ [x] <+: L → J pre X → W.heap.size ≤ X.heap.size → YieldAt Fence.wide (n - 1) Try.prog l #[.int .i64 x] X fun e Y =>
      (e = .returned (.bool true) ∧ J (pre ++ [x]) Y ∧ Below n₀ X Y ∧ KA W.heap.size X Y) ∨ (e = .returned (.bool false) ∧ Jx (pre ++ [x]) Y ∧ KA W.heap.size X Y)) →
    J [] W → CallsIn Fence.wide n Try.prog gf (#[.func (.yield l) #[] #[]] ++ lb) W fun e W' => (∃ v, e = .returned v) ∧ (J L W' ∨ ∃ pre, pre <+: L ∧ Jx pre W')
theorem SeqB.later {n₀ gf : Nat} {lb : Array Value} {L : List Int} {w w' : World} (h : SeqB n₀ gf lb L w) (hb : Below w.heap.size w w') : SeqB n₀ gf lb L w' := fun n hn l J Jx W hW => h n hn l J Jx W (bl_then hb hW)
def postB (B n₀ : Nat) (I : List Int → World → Prop) (Ix : Code → List Int → World → Prop) (xs : List Int) (X : World) : Exit → Act → World → Prop
  | .normal, _, Y => KA B X Y ∧ Below n₀ X Y ∧ I xs Y
  | .ret, _, Y => KA B X Y ∧ Ix .ret xs Y
  | .exit id, _, Y => KA B X Y ∧ Ix (.exit id) xs Y
  | .goto t, _, Y => KA B X Y ∧ Ix (.goto t) xs Y
  | .panic _, _, _ => False
  | .outgrown, _, _ => False
def recB (fn : FuncId) (a : Act) (ps : Array Tmp) (assign body : Code) (D : Nat) (st : LoopState) (pe : Option Code) : Loop := { state := st, pending := pe, fn, tmps := a.tmps, params := ps, assign, body, defers := D }
structure RecAt (D : Nat) (r : Loop) (X : World) : Prop where
  rc : X.heap[D + 1]? = some (.loop r)
  defd : X.heap[D]? = some (.deferred (some []))
theorem RecAt.below {D n : Nat} {r : Loop} {X Y : World} (h : RecAt D r X) (hb : Below n X Y) (hn : D + 2 ≤ n) : RecAt D r Y := ⟨(hb.block _ (by omega)).trans h.rc, (hb.block _ (by omega)).trans h.defd⟩
theorem RecAt.ka {D B : Nat} {r : Loop} {X Y : World} (h : RecAt D r X) (hb : KA B X Y) (hn : B ≤ D) : RecAt D r Y :=
  ⟨(hb.same _ (by omega) (Array.getElem?_eq_some_iff.1 h.rc).1).trans h.rc, (hb.same _ hn (Array.getElem?_eq_some_iff.1 h.defd).1).trans h.defd⟩
theorem RecAt.put {D : Nat} {r r' : Loop} {X : World} (h : RecAt D r X) : RecAt D r' (X.putObj (D + 1) (.loop r')) :=
  ⟨World.putObj_heap_same (Array.getElem?_eq_some_iff.1 h.rc).1, (World.putObj_heap_other (by omega)).trans h.defd⟩
theorem wpIn_rangeB {n : Nat} {g : Operand} {ps : Array Tmp} {assign body : Code} {Q : Exit → Act → World → Prop} {a : Act} {w : World} (h1 : 2 ≤ n) {gf : Nat} {lb : Array Value} (hg : a.eval g = .func (.func gf) #[] lb) (eg : ∀ args w, (callFunc gf args).run Try.prog w = .ok (.enter gf args) w)
    {n₀ : Nat} {L : List Int} {w0 : World} (hseq : SeqB n₀ gf lb L w0) (hb0 : Below w0.heap.size w0 w) (hn0 : n₀ ≤ w.heap.size) (hps : ps.size = 1)
    (I : List Int → World → Prop) (Ix : Code → List Int → World → Prop) (hI : AbB w.heap.size I) (hIx : ∀ c, AbB w.heap.size (Ix c)) (h0 : I [] w) (a₁ : Int → Act)
    (hassign : ∀ (l : Nat) (x : Int) (X : World) (K : Act → World → Prop), K (a₁ x) X → assign.wpIn (Fence.wide.inRound l) (n - 1 - 1) Try.prog (Exit.then K (fun _ _ _ => False)) { tmps := (ps.zip #[Value.int .i64 x]).foldl (fun t (p, v) => t.setIfInBounds p v) a.tmps, defers := [] } X)
    (hbody : ∀ (l : Nat) (pre : List Int) (x : Int) (X : World), pre ++ [x] <+: L → I pre X → w.heap.size + 2 ≤ X.heap.size → body.wpIn (Fence.wide.inRound l) (n - 1 - 1) Try.prog (postB w.heap.size n₀ I Ix (pre ++ [x]) X) (a₁ x) X)
    (hdone : ∀ (D : Nat) (W : World), w.heap.size ≤ D → I L W → W.heap[D]? = some (.deferred (some [])) → Q .normal { a with defers := { target := .collected D, args := #[] } :: a.defers } W)
    (hstop : ∀ (D : Nat) (c : Code) (pre : List Int) (W : World), w.heap.size ≤ D → pre <+: L → Ix c pre W → W.heap[D]? = some (.deferred (some [])) → c.wpIn Fence.wide n Try.prog Q { a with defers := { target := .collected D, args := #[] } :: a.defers } W) :
    (Code.rangeFunc g ps assign body).wpIn Fence.wide n Try.prog Q a w := by
  refine wpIn_rangeFunc fun fn hfn => ?_
  generalize hD : w.heap.size = D at *
  obtain ⟨R, hR⟩ : ∃ R : LoopState → Option Code → Loop, R = recB fn a ps assign body D := ⟨_, rfl⟩
  obtain ⟨W1, hW1⟩ : ∃ W1, (w.alloc (.deferred (some []))).alloc (.loop (R .ready none)) = W1 := ⟨_, rfl⟩
  have hs1 : W1.heap.size = D + 2 := by rw [← hW1, ← hD]; simp
  have hr1 : RecAt D (R .ready none) W1 := by
    rw [← hW1, ← hD]
    refine ⟨?_, (Below.heap_alloc _ _ _ (by simp)).trans (World.alloc_heap_new w _)⟩
    have := World.alloc_heap_new (w.alloc (.deferred (some []))) (.loop (R .ready none))
    rwa [World.size_alloc] at this
  have hbw : Below D w W1 := by rw [← hW1, ← hD]; exact bl_alloc (bl_alloc (Below.refl _ w) _) _
  have hI1 : I [] W1 := hI _ _ _ h0 hbw
  have hb1 : Below w0.heap.size w0 W1 := hb0.trans (hbw.mono (by rw [← hD]; exact hb0.size))
  have hbegin : ∀ X, RecAt D (R .ready none) X → (Instr.beginRound (D + 1)).run Try.prog X = .ok () (X.putObj (D + 1) (.loop (R .busy none))) := fun X h => by
    have := run_beginRound (P := Try.prog) h.rc (by rw [hR]; rfl)
    rw [hR] at this ⊢; exact this
  have hend : ∀ jump X, RecAt D (R .busy none) X → (Instr.endRound (D + 1) jump).run Try.prog X = .ok (.bool jump.isNone) (X.putObj (D + 1) (.loop (R (if jump.isNone then .ready else .done) jump))) := fun jump X h => by
    have := run_endRound (P := Try.prog) jump h.rc
    rw [hR] at this ⊢; exact this
  refine ⟨D + 1, [{ target := .collected D, args := #[] }], W1, { target := .fn (.func gf) lb, args := #[.func (.yield (D + 1)) #[] #[]] }, W1, gf, #[.func (.yield (D + 1)) #[] #[]] ++ lb, W1, ?_, ?_, ?_, ?_, fun _ => by omega, ?_⟩
  · rw [← hW1, hR, ← hD]; exact run_enterLoop_outer _ _ _ _ _
  · simp only [resolve, hg]; simp [go_sem]
  · intro f' hf'; trivial
  · simp [invoke, go_sem, eg]
  · refine ((hseq (n - 1) (by omega) (D + 1) (fun pre X => I pre X ∧ RecAt D (R .ready none) X) (fun pre X => ∃ c, Ix c pre X ∧ RecAt D (R .done (some c)) X) W1 hb1
      (fun s X Y hs hb => ⟨hI s X Y hs.1 (hb.mono (by omega)), hs.2.below hb (by omega)⟩)
      (fun s X Y hs hb => by obtain ⟨c, hc, hr⟩ := hs; exact ⟨c, hIx c s X Y hc (hb.mono (by omega)), hr.below hb (by omega)⟩) ?_ ⟨hI1, hr1⟩)).mono ?_
    · rintro pre x X hpx ⟨hi, hr⟩ hsX
      have hy := run_yield (P := Try.prog) (args := #[Value.int .i64 x]) hr.rc (by rw [hR]; exact hps.symm)
      rw [hR] at hy
      refine ⟨fn, _, assign, body, hy, roundIn_of_wpIn hfn (hassign _ x X _ ⟨_, hbegin X hr, ?_⟩)⟩
      have hX2 : Below D X (X.putObj (D + 1) (.loop (R .busy none))) := below_put X _ (by omega)
      refine wpIn_mono (hbody _ pre x _ hpx (hI _ _ _ hi hX2) (by simp; omega)) ?_
      rintro e a3 Y hp
      have fin : ∀ jump, KA D (X.putObj (D + 1) (.loop (R .busy none))) Y → RecAt D (R (if jump.isNone then .ready else .done) jump) (Y.putObj (D + 1) (.loop (R (if jump.isNone then .ready else .done) jump))) ∧
          (Instr.endRound (D + 1) jump).run Try.prog Y = .ok (.bool jump.isNone) (Y.putObj (D + 1) (.loop (R (if jump.isNone then .ready else .done) jump))) ∧ KA W1.heap.size X (Y.putObj (D + 1) (.loop (R (if jump.isNone then .ready else .done) jump))) := fun jump hk => by
        have hr2 : RecAt D (R .busy none) Y := hr.put.ka hk (Nat.le_refl _)
        exact ⟨hr2.put, hend jump Y hr2, ((KA.put X _ (by omega)).trans (hk.mono (by omega))).trans (KA.put Y _ (by omega))⟩
      have ab : ∀ o, Below D Y (Y.putObj (D + 1) o) := fun o => below_put Y o (by omega)
      cases e with
      | normal =>
        obtain ⟨hk, hb, hi3⟩ := hp
        obtain ⟨r1, r2, r3⟩ := fin none hk
        exact ⟨_, _, r2, .inl ⟨rfl, ⟨hI _ _ _ hi3 (ab _), r1⟩, ((below_put X _ (by omega)).trans hb).trans (below_put Y _ (by omega)), r3⟩⟩
      | ret =>
        obtain ⟨hk, hi3⟩ := hp
        obtain ⟨r1, r2, r3⟩ := fin (some .ret) hk
        exact ⟨_, _, r2, .inr ⟨rfl, ⟨.ret, hIx _ _ _ _ hi3 (ab _), r1⟩, r3⟩⟩
      | exit id =>
        obtain ⟨hk, hi3⟩ := hp
        obtain ⟨r1, r2, r3⟩ := fin (some (.exit id)) hk
        exact ⟨_, _, r2, .inr ⟨rfl, ⟨.exit id, hIx _ _ _ _ hi3 (ab _), r1⟩, r3⟩⟩
      | goto t =>
        obtain ⟨hk, hi3⟩ := hp
        obtain ⟨r1, r2, r3⟩ := fin (some (.goto t)) hk
        exact ⟨_, _, r2, .inr ⟨rfl, ⟨.goto t, hIx _ _ _ _ hi3 (ab _), r1⟩, r3⟩⟩
      | panic ch => exact hp.elim
      | outgrown => exact hp.elim
    · rintro e W2 ⟨⟨v, rfl⟩, (⟨hi, hr⟩ | ⟨pre, hpre, c, hi, hr⟩)⟩
      · have he := run_endLoop (P := Try.prog) hr.rc (by rw [hR]; simp [recB])
        rw [hR] at he
        exact ⟨none, _, he, hdone _ _ (Nat.le_refl _) (hI _ _ _ hi (below_put W2 _ (by omega))) ((World.putObj_heap_other (by omega)).trans hr.defd)⟩
      · have he := run_endLoop (P := Try.prog) hr.rc (by rw [hR]; simp [recB])
        rw [hR] at he
        exact ⟨some c, _, he, hstop _ c pre _ (Nat.le_refl _) hpre (hIx c _ _ _ hi (below_put W2 _ (by omega))) ((World.putObj_heap_other (by omega)).trans hr.defd)⟩
end Go.Proofs.Ytibaapaglocpjaa.B

end
