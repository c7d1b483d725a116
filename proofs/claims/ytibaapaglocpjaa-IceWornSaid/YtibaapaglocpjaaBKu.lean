import Derived.Test.YtibaapaglocpjaaBKt
/- Proved here: lemmas for the laws' proofs (the texts Ku). No condition. -/
section
set_option linter.unusedSimpArgs false
set_option linter.unusedVariables false
namespace Go.Proofs.Ytibaapaglocpjaa.B
open Go.RowKit Go.Shelf Go.Proofs.YtibaapaglocpjaaW.PrintWords
attribute [local go_sem] Oper.semAt_some
theorem row_under {W Y : World} {b m : Nat} {e : TypeId} {size n : Nat} {v : Value} {cs : List Value} (h : W.ownsRow b e size v n cs) (hb : Below m W Y) (hv : ∀ g, v.ownBlock = some g → g < m) : Y.ownsRow b e size v n cs := by
  obtain ⟨h1, h2⟩ := h
  refine ⟨h1, ?_⟩
  rcases h2 with h2 | ⟨g, cap, cur, rfl, hg, hk, r⟩
  · exact .inl h2
  · exact .inr ⟨g, cap, cur, rfl, hg, (hb.block g (hv g rfl)).trans hk, r⟩
theorem boxed_under {W Y : World} {B m : Nat} {t : TypeId} {v : Value} (h : Boxed W B t v) (hb : Below m W Y) (hB : B < m) : Boxed Y B t v := (hb.block B hB).trans h
def ChgB (n₀ B : Nat) (w1 : World) (vr : Value) (f : Int → Int) (xs pre : List Int) (W : World) : Prop :=
  (Boxed W B 25 vr ∧ W.ownsRow n₀ 3 1 vr xs.length ((chg f xs pre).map (Value.int .i64))) ∧ Below n₀ w1 W
set_option maxRecDepth 100000 in
set_option maxHeartbeats 4000000 in
theorem changedB_any (A : Option Addr) (c : Nat) (xs : List Int) (gf : Nat) (lb : Array Value) (L : List Int) (df : Nat) (lbd : Array Value) (f : Int → Int) (G : Int → Prop) (w : World)
    (hr : ReadsInt w .i64 A xs.length xs) (hc : xs.length ≤ c) (hlen : xs.length ≤ 1000000) (hseq : SeqB w.heap.size gf lb L w) (eg : ∀ args w, (callFunc gf args).run Try.prog w = .ok (.enter gf args) w)
    (egd : ∀ args w, (callFunc df args).run Try.prog w = .ok (.enter df args) w) (hL : ∀ c ∈ L, 0 ≤ c ∧ c < (xs.length : Int)) (hG0 : ∀ x ∈ xs, G x) (hG1 : ∀ n, G n → G (f n))
    (hd : ∀ W n, G n → Below w.heap.size w W → Calls Try.prog df (#[.int .i64 n] ++ lbd) W fun e w' => e = .returned (.int .i64 (f n)) ∧ Below W.heap.size W w') :
    Calls Try.prog 37 #[.slice A xs.length c, .func (.func gf) #[] lb, .func (.func df) #[] lbd] w (FreshInts (chg f xs L) w) := by
  have HCl := fun W (h : Below w.heap.size w W) => Kp.mk ((callsIn_wide (n := 3)).2 (clone_any A c xs W (hr.below h) hc hlen))
  have HS := Kp.mk hseq
  have HD := Kp.mk hd
  have HL := Kp.mk hL
  have HG := Kp.mk hG0
  clear hseq hd hr hc hlen hL hG0
  refine (callsIn_wide (n := 4)).1 ?_
  refine callsIn_of_wp_marks Try.func37 rfl trivial ?_ rfl
  simp only [Try.ntmps37, List.size_toArray, List.length_cons, List.length_nil, Nat.reduceAdd, Nat.reduceSub, Array.replicate_succ, Array.replicate_zero, List.push_toArray, List.append_toArray, List.nil_append, List.cons_append]
  gi_wp2_with (refine ⟨trivial, ?_⟩; gi_at_call 40; (with_reducible refine (HCl _ ?hb).out.mono ?_); (case hb => exact (by repeat (first | exact Below.refl _ _ | (with_reducible assumption) | apply bl_drew | apply bl_drewN | apply bl_alloc | (refine bl_set ?_ (by go_simp))))); rintro e w2 ⟨vr, rfl, hrow', hb2'⟩; obtain ⟨R, cr, rfl, hform⟩ := row_form hrow'; have HF := Kp.mk hform; clear hform; have HB2 := Kp.mk hb2'; have HRow := Kp.mk hrow'; have k0 : w2.cell? ⟨w.heap.size, 0, none⟩ = some (.func (.func df) #[] lbd) := bl_cell hb2' (by go_simp); clear hb2' hrow')
  have hs1 : (w.alloc (.cells #[.func (.func df) #[] lbd] 77)).heap.size = w.heap.size + 1 := by simp
  have HB0 : Below w.heap.size w (w2.alloc (.cells #[.slice R xs.length cr] 25)) := bl_alloc (bl_then (bl_alloc (Below.refl _ w) _) HB2.out) _
  have hsz2 := HB2.out.size
  rw [hs1] at hsz2
  have hRb : ∀ g, (Value.slice R xs.length cr).ownBlock = some g → g < w2.heap.size := fun g hg => (HRow.out.lt g hg).2
  have HRb := Kp.mk hRb
  clear hRb
  refine wpIn_rangeB (n := 4) (w0 := w) (n₀ := w.heap.size) (by omega) (gf := gf) (lb := lb) rfl eg HS.out HB0 (by simp; omega) rfl
    (ChgB (w.heap.size + 1) w2.heap.size (w.alloc (.cells #[.func (.func df) #[] lbd] 77)) (.slice R xs.length cr) f xs)
    (fun _ _ _ => False)
    (fun s X Y hj hb => ⟨⟨boxed_under hj.1.1 hb (by simp), row_under hj.1.2 hb (fun g hg => by have := HRb.out g hg; simp; omega)⟩, hj.2.trans (hb.mono (by simp; omega))⟩)
    (fun _ _ _ _ hs _ => hs)
    ⟨⟨Boxed.new _ _ _, by simpa [hs1, chg] using (HRow.out.alloc _)⟩, by have := bl_alloc HB2.out (.cells #[.slice R xs.length cr] 25); rwa [hs1] at this⟩
    (fun x => { tmps := #[.slice A xs.length c, .func (.func gf) #[] lb, .func (.func df) #[] lbd, undef, undef, .pointer (some ⟨w.heap.size, 0, none⟩), .slice none 0 0, .pointer (some ⟨w2.heap.size, 0, none⟩), .int .i64 x, .slice A xs.length c, .slice R xs.length cr, .func (.func gf) #[] lb, .int .i64 x, undef, undef, undef, undef, undef, undef, undef, undef, undef, undef], defers := [] }) ?assign ?body ?done ?stop
  case assign =>
    intro l x W K hK
    gi_wp2
    exact hK
  case body =>
    rintro l pre x W hpx ⟨⟨hv, hrow⟩, hB⟩ hszW
    obtain ⟨x0, x1⟩ := HL.out x (hpx.subset (by simp))
    have hpre : ∀ c ∈ pre, 0 ≤ c ∧ c < (xs.length : Int) := fun c hc => HL.out c (hpx.subset (by simp [hc]))
    obtain ⟨g, rfl, hg0, hg1⟩ := HF.out (by omega)
    have hc := hv.cell
    have hf := hv.frozen
    have hlc := chg_len f pre xs
    have hgd := rd_good (chg_good hG1 pre xs HG.out hpre) x0 (show x < ((chg f xs pre).length : Int) by omega)
    have hsn' : chg f xs (pre ++ [x]) = (chg f xs pre).set x.toNat (f (rd (chg f xs pre) x)) := chg_snoc f xs pre x
    have hget : ∃ u, rd (chg f xs pre) x = u ∧ ((chg f xs pre).map (Value.int .i64))[x.toNat]? = some (.int .i64 u) := ⟨_, rfl, rd_get (by omega)⟩
    obtain ⟨u, hu, hg?⟩ := hget
    rw [hu] at hgd hsn'
    have hel : W.cell? ⟨g, x.toNat, none⟩ = some (.int .i64 u) := (hrow.cellAt x.toNat (by omega)).trans hg?
    have hfz := hrow.frozenAt x.toNat
    have HSn := Kp.mk hsn'
    have HRw := Kp.mk hrow
    clear hsn' hu hg? hlc hrow
    have hdo : W.cell? ⟨w.heap.size, 0, none⟩ = some (.func (.func df) #[] lbd) := (hB.cell (by simp)).trans (by go_simp)
    have mixed : Try.prog.follows .mixedOrders = true := by kernel_rfl
    have x1' : x < (xs.length : Int) := x1
    have hsB := hB.size
    rw [hs1] at hsB
    simp only [World.size_alloc] at hszW
    have hgB : g < W.heap.size := by omega
    have HBw : Kp (Below w.heap.size w W.drew) := ⟨bl_drew (bl_then (bl_alloc (Below.refl _ w) _) (by rw [hs1]; exact hB))⟩
    have HALL := Kp.mk (And.intro hv (And.intro hB (And.intro hgB (And.intro HSn.out (And.intro HRw.out (And.intro hgd (And.intro hg1 hsz2)))))))
    have hgB' := hgB
    have ne1 : ¬ g = w2.heap.size := by omega
    have ne2 : ¬ w2.heap.size = g := by omega
    have ne3 : ¬ g = w.heap.size := by rw [hs1] at hg0; omega
    have ne4 : ¬ w.heap.size = g := by rw [hs1] at hg0; omega
    have HNE := Kp.mk (show w.heap.size + 1 ≤ g by rw [hs1] at hg0; exact hg0)
    clear hv hB hgd hsB hgB hsz2 HB0 hg0 hg1 hs1 HSn HRw HCl HS HF HRow HB2 HG hG1 x1 hpx hpre hszW
    gi_wp2_with (fail)
    refine region_round (S := fun w' => w'.cell? ⟨w2.heap.size, 0, none⟩ = some (.slice (some ⟨g, 0, none⟩) xs.length cr) ∧ w'.cell? ⟨w.heap.size, 0, none⟩ = some (.func (.func df) #[] lbd)) (by kernel_rfl) (by kernel_rfl) (fun h => by obtain ⟨_, _, h⟩ := h; exact h) ⟨hc, hdo⟩ (fun hHeld => ?_)
    (refine wpAnyH_take (i := 1) (v := ?_) rfl (by kernel_rfl) (by kernel_rfl) (by kernel_rfl) (fun _ _ _ h => h) (Or.inl ⟨by rfl, ?_⟩) (by assumption) ?_; rotate_left; (intro w hSw; (try dsimp only at hSw); go_simp; try (with_reducible rfl)); (try simp only [Act.put, List.setIfInBounds_toArray, List.set_cons_zero, List.set_cons_succ, List.getElem_toArray, List.getElem_cons_zero, List.getElem_cons_succ, Fin.getElem_fin]))
    (refine wpAnyH_take (i := 4) (v := ?_) rfl (by kernel_rfl) (by kernel_rfl) (by kernel_rfl) (fun _ _ _ h => h) (Or.inl ⟨by rfl, ?_⟩) (by assumption) ?_; rotate_left; (intro w hSw; (try dsimp only at hSw); go_simp; try (with_reducible rfl)); (try simp only [Act.put, List.setIfInBounds_toArray, List.set_cons_zero, List.set_cons_succ, List.getElem_toArray, List.getElem_cons_zero, List.getElem_cons_succ, Fin.getElem_fin]))
    (refine wpAnyH_take (i := 0) (v := ?_) rfl (by kernel_rfl) (by kernel_rfl) (by kernel_rfl) (fun _ _ _ h => h) (Or.inl ⟨by rfl, ?_⟩) (by assumption) ?_; rotate_left; (intro w hSw; (try dsimp only at hSw); go_simp; try (with_reducible rfl)); (try simp only [Act.put, List.setIfInBounds_toArray, List.set_cons_zero, List.set_cons_succ, List.getElem_toArray, List.getElem_cons_zero, List.getElem_cons_succ, Fin.getElem_fin]))
    (refine wpAnyH_take (i := 2) (v := ?_) rfl (by kernel_rfl) (by kernel_rfl) (by kernel_rfl) (fun _ _ _ h => h) (Or.inl ⟨by rfl, ?_⟩) (by assumption) ?_; rotate_left; (intro w hSw; (try dsimp only at hSw); go_simp; try (with_reducible rfl)); (try simp only [Act.put, List.setIfInBounds_toArray, List.set_cons_zero, List.set_cons_succ, List.getElem_toArray, List.getElem_cons_zero, List.getElem_cons_succ, Fin.getElem_fin]))
    (refine wpAnyH_take (i := 3) (v := ?_) rfl (by kernel_rfl) (by kernel_rfl) (by kernel_rfl) (fun _ _ _ h => h) (Or.inl ⟨by rfl, ?_⟩) (by assumption) ?_; rotate_left; (intro w hSw; (try dsimp only at hSw); go_simp; try (with_reducible rfl)); (try simp only [Act.put, List.setIfInBounds_toArray, List.set_cons_zero, List.set_cons_succ, List.getElem_toArray, List.getElem_cons_zero, List.getElem_cons_succ, Fin.getElem_fin]))
    (refine wpAnyH_take (i := 5) (v := ?_) rfl (by kernel_rfl) (by kernel_rfl) (by kernel_rfl) (fun _ _ _ h => h) (Or.inl ⟨by rfl, ?_⟩) (by assumption) ?_; rotate_left; (intro w hSw; (try dsimp only at hSw); go_simp; try (with_reducible rfl)); (try simp only [Act.put, List.setIfInBounds_toArray, List.set_cons_zero, List.set_cons_succ, List.getElem_toArray, List.getElem_cons_zero, List.getElem_cons_succ, Fin.getElem_fin]))
    (refine wpAnyH_ready (rs := [6]) (by kernel_rfl) (by simp) ?_; refine AllReadyH.cons rfl (fun K hK => ?_) AllReadyH.nil; go_simp; skip; refine hK.out _ _ (by go_simp) (fun hHeld => ?_); clear hK K; (try simp only [Act.put, List.setIfInBounds_toArray, List.set_cons_zero, List.set_cons_succ, List.getElem_toArray, List.getElem_cons_zero, List.getElem_cons_succ, Fin.getElem_fin]))
    (refine wpAnyH_ready (rs := [7]) (by kernel_rfl) (by simp) ?_; refine AllReadyH.cons rfl (fun K hK => ?_) AllReadyH.nil; go_simp; (with_reducible refine (HD.out _ u HALL.out.2.2.2.2.2.1 HBw.out).mono ?_); rintro e w3 ⟨rfl, hb'⟩; have c3 := bl_cell hb' (p := ⟨w2.heap.size, 0, none⟩) hc; have d3 := bl_cell hb' (p := ⟨w.heap.size, 0, none⟩) hdo; have e3 := bl_cell hb' (p := ⟨g, x.toNat, none⟩) hel; have f3 : w3.frozen? ⟨g, x.toNat, none⟩ = false := (hb'.frozen (p := ⟨g, x.toNat, none⟩) (by simpa using hgB')).trans hfz; have HB3 := Kp.mk hb'; clear hb'; refine hK.out _ _ (by go_simp) (fun hHeld => ?_); clear hK K; (try simp only [Act.put, List.setIfInBounds_toArray, List.set_cons_zero, List.set_cons_succ, List.getElem_toArray, List.getElem_cons_zero, List.getElem_cons_succ, Fin.getElem_fin]))
    (refine wpAnyH_ready (rs := [8]) (by kernel_rfl) (by simp) ?_; refine AllReadyH.cons rfl (fun K hK => ?_) AllReadyH.nil; go_simp; skip; refine hK.out _ _ (by go_simp) (fun hHeld => ?_); clear hK K; (try simp only [Act.put, List.setIfInBounds_toArray, List.set_cons_zero, List.set_cons_succ, List.getElem_toArray, List.getElem_cons_zero, List.getElem_cons_succ, Fin.getElem_fin]))
    (refine wpAnyH_ready (rs := [9]) (by kernel_rfl) (by simp) ?_; refine AllReadyH.cons rfl (fun K hK => ?_) AllReadyH.nil; go_simp; skip; refine hK.out _ _ (by go_simp) (fun hHeld => ?_); clear hK K; (try simp only [Act.put, List.setIfInBounds_toArray, List.set_cons_zero, List.set_cons_succ, List.getElem_toArray, List.getElem_cons_zero, List.getElem_cons_succ, Fin.getElem_fin]))
    refine wpAnyH_done (by kernel_rfl) ?_ _
    obtain ⟨hv, hB, _, hSn, hRw, _, hg1, hs2⟩ := HALL.out
    have hb3 : Below W.heap.size W w3 := bl_then (bl_drew (Below.refl _ _)) HB3.out
    have hsz := hB.size
    simp only [World.size_alloc] at hsz
    have hg := HNE.out
    have hst := (row_below hRw hb3).stored x.toNat (.int .i64 (f u))
    rw [← List.map_set, ← hSn] at hst
    refine ⟨(KA.of_below hb3 (Nat.le_refl _)).trans (KA.set _ _ (by simp; omega)), (hb3.mono (by omega)).setCell (by simp only []; omega) _, ⟨?_, hst.1⟩, (hB.trans (hb3.mono (by omega))).setCell (by simp only []; omega) _⟩
    exact (heap_setCell_other w3 ⟨g, x.toNat, none⟩ w2.heap.size _ (by simpa using ne2)).trans ((hb3.block _ hv.lt).trans hv)
  case done =>
    rintro D W hD ⟨⟨hv, hrow⟩, hB⟩ hK
    have hc := hv.cell
    have HP : Kp (FreshInts (chg f xs L) w (.returned (.slice R xs.length cr)) (W.putObj D (.deferred none))) := ⟨⟨_, rfl, by rw [chg_len]; exact ownsRow_putObj (own_down hrow (Nat.le_succ _)) _ hK rfl, bl_then (bl_alloc (Below.refl _ w) (.cells #[.func (.func df) #[] lbd] 77)) (by rw [hs1]; exact hB.trans (below_put W _ (by simp at hD; omega)))⟩⟩
    gi_wp2
    refine ⟨by simp, .inl ⟨_, _, rfl, run_takeDeferred hK, ?_⟩⟩
    exact ⟨_, by simp [results, Try.results37, go_sem], HP.out⟩
  case stop =>
    rintro D c pre W _ _ h _
    exact h.elim
end Go.Proofs.Ytibaapaglocpjaa.B

end
