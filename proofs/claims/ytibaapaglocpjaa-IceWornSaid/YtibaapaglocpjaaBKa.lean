import Derived.Test.YtibaapaglocpjaaBKr
/- Proved here: lemmas for the laws' proofs (the texts Ka). No condition. -/
section
set_option linter.unusedSimpArgs false
set_option linter.unusedVariables false
namespace Go.Proofs.Ytibaapaglocpjaa.B
open Go.RowKit Go.Shelf Go.Proofs.YtibaapaglocpjaaW.PrintWords
attribute [local go_sem] Oper.semAt_some
def FreshInts (L : List Int) (w : World) (e : Ending) (w' : World) : Prop :=
  ∃ v, e = .returned v ∧ w'.ownsRow w.heap.size 3 1 v L.length (L.map (Value.int .i64)) ∧ Below w.heap.size w w'
theorem infoInt : (Try.prog.info? 3).map (fun i => (i.zero, i.size, i.bytes)) = some (some (.int .i64 0), 1, 8) := by kernel_rfl
theorem eql_nil (w : World) (a : Option Addr) (n c n' c' : Nat) : (binOp .eql 25 (.slice a n c) (.slice none n' c')).run Try.prog w = .ok (.bool a.isNone) w := Lib.run_eql_slice_nil w _ _ a n c n' c' Try.underlying25
set_option maxRecDepth 100000 in
set_option maxHeartbeats 2000000 in
theorem clone_any (A : Option Addr) (c : Nat) (xs : List Int) (w : World) (hr : ReadsInt w .i64 A xs.length xs) (hc : xs.length ≤ c) (hlen : xs.length ≤ 1000000) :
    Calls Try.prog 40 #[.slice A xs.length c] w (FreshInts xs w) := by
  have he := eql_nil
  cases A with
  | none =>
    have h0 : xs = [] := by
      rcases Nat.eq_zero_or_pos xs.length with h | h
      · exact List.length_eq_zero_iff.1 h
      · obtain ⟨_, h, _⟩ := hr.2.2 h; cases h
    subst h0
    clear hr
    go_enter Try.func40, Try.ntmps40
    go_wp2
    go_ret
    exact ⟨_, rfl, World.ownsRow_nil _ _ _ _, Below.refl _ _⟩
  | some a =>
    have HR := Kp.mk hr
    clear hr
    go_enter Try.func40, Try.ntmps40
    go_wp2_with (at_builtin; refine print_append_row_of (w0 := w) (Value.int .i64) (0 : Int) w.heap.size rfl _ _ 25 3 (.int .i64 0) 8 rfl Try.underlying25 infoInt rfl (by decide) (fun _ => rfl) _ [] xs _ xs.length c rfl rfl (World.ownsRow_made w #[] 0 (Nat.le_refl _) (Nat.zero_le _) rfl) (HR.out.allocS _) (bl_alloc (Below.refl _ _) _) (by simp) (by simp; omega) ?_; intro v1 w1 hown hb _ _)
    go_wp2
    go_ret
    exact ⟨v1, rfl, by simpa [encs] using hown, hb⟩
def chg (f : Int → Int) (xs : List Int) (L : List Int) : List Int := L.foldl (fun l c => l.set c.toNat (f (rd l c))) xs
theorem chg_len (f : Int → Int) : ∀ (L xs : List Int), (chg f xs L).length = xs.length
  | [], xs => rfl
  | c :: L, xs => by show (chg f (xs.set c.toNat (f (rd xs c))) L).length = _; rw [chg_len f L]; simp
theorem chg_snoc (f : Int → Int) (xs L : List Int) (c : Int) : chg f xs (L ++ [c]) = (chg f xs L).set c.toNat (f (rd (chg f xs L) c)) := by unfold chg; rw [List.foldl_append]; rfl
theorem rd_good {G : Int → Prop} {l : List Int} {c : Int} (h : ∀ x ∈ l, G x) (h0 : 0 ≤ c) (h1 : c < l.length) : G (rd l c) := by
  obtain ⟨n, rfl⟩ := Int.eq_ofNat_of_zero_le h0
  have hn : n < l.length := by omega
  have : rd l ((n : Nat) : Int) = l[n] := by simp [rd, List.getD_eq_getElem?_getD, List.getElem?_eq_getElem hn]
  rw [this]; exact h _ (List.getElem_mem hn)
theorem rd_get {l : List Int} {x : Int} (h : x.toNat < l.length) : (l.map (Value.int .i64))[x.toNat]? = some (.int .i64 (rd l x)) := by
  rw [List.getElem?_map, List.getElem?_eq_getElem h]
  simp [rd, List.getD_eq_getElem?_getD, List.getElem?_eq_getElem h]
theorem chg_good {G : Int → Prop} {f : Int → Int} (hf : ∀ n, G n → G (f n)) : ∀ (L xs : List Int), (∀ x ∈ xs, G x) → (∀ c ∈ L, 0 ≤ c ∧ c < (xs.length : Int)) → ∀ x ∈ chg f xs L, G x
  | [], xs, h, _ => h
  | c :: L, xs, h, hL => by
    obtain ⟨c0, c1⟩ := hL c (by simp)
    refine chg_good hf L (xs.set c.toNat (f (rd xs c))) (fun x hx => ?_) (fun d hd => by rw [List.length_set]; exact hL d (by simp [hd]))
    rcases List.mem_or_eq_of_mem_set hx with k | k
    · exact h x k
    · rw [k]; exact hf _ (rd_good h c0 c1)
theorem row_form {w : World} {base : Nat} {e : TypeId} {v : Value} {n : Nat} {xs : List Value} (h : w.ownsRow base e 1 v n xs) : ∃ (R : Option Addr) (cr : Nat), v = .slice R n cr ∧ (0 < n → ∃ g, R = some ⟨g, 0, none⟩ ∧ base ≤ g ∧ g < w.heap.size) := by
  rcases h.2 with ⟨rfl, rfl⟩ | ⟨g, cap, cur, rfl, hb, hg, _⟩
  · exact ⟨none, 0, rfl, fun h => absurd h (Nat.lt_irrefl 0)⟩
  · exact ⟨_, cap, rfl, fun _ => ⟨g, rfl, hb, (Array.getElem?_eq_some_iff.1 hg).1⟩⟩
theorem row_below {w w' : World} {base : Nat} {e : TypeId} {size : Nat} {v : Value} {n : Nat} {xs : List Value} (h : w.ownsRow base e size v n xs) (hb : Below w.heap.size w w') : w'.ownsRow base e size v n xs := h.kept (grown_none hb) (by
  rcases h.2 with ⟨rfl, _⟩ | ⟨g, cap, cur, rfl, _⟩
  · exact .inl rfl
  · exact .inr (by simp [Value.ownBlock]))
def ChgI (n₀ B : Nat) (w1 : World) (vr : Value) (f : Int → Int) (xs : List Int) {L : List Int} (pre : List {x : Int // x ∈ L}) (W : World) : Prop :=
  (∃ v, Boxed W B 25 v ∧ W.ownsRow n₀ 3 1 v xs.length ((chg f xs (pre.map (·.1))).map (Value.int .i64)) ∧ v = vr) ∧ Below n₀ w1 W
set_option maxRecDepth 100000 in
set_option maxHeartbeats 4000000 in
theorem changed_any (A : Option Addr) (c : Nat) (xs : List Int) (gf : Nat) (lb : Array Value) (L : List Int) (df : Nat) (lbd : Array Value) (f : Int → Int) (G : Int → Prop) (w : World)
    (hr : ReadsInt w .i64 A xs.length xs) (hc : xs.length ≤ c) (hlen : xs.length ≤ 1000000) (hseq : Seqs w.heap.size gf lb L w) (eg : ∀ args w, (callFunc gf args).run Try.prog w = .ok (.enter gf args) w)
    (egd : ∀ args w, (callFunc df args).run Try.prog w = .ok (.enter df args) w) (hL : ∀ c ∈ L, 0 ≤ c ∧ c < (xs.length : Int)) (hG0 : ∀ x ∈ xs, G x) (hG1 : ∀ n, G n → G (f n))
    (hd : ∀ W n, G n → Below w.heap.size w W → Calls Try.prog df (#[.int .i64 n] ++ lbd) W fun e w' => e = .returned (.int .i64 (f n)) ∧ Below W.heap.size W w') :
    Calls Try.prog 37 #[.slice A xs.length c, .func (.func gf) #[] lb, .func (.func df) #[] lbd] w (FreshInts (chg f xs L) w) := by
  have HCl := fun W (h : Below w.heap.size w W) => Kp.mk ((callsIn_wide (n := 3)).2 (clone_any A c xs W (hr.below h) hc hlen))
  have HS := Kp.mk hseq
  have HD := Kp.mk hd
  have HL := Kp.mk hL
  have HG := Kp.mk hG0
  clear hseq hd hr hc hlen hL hG0
  refine (callsIn_wide (n := 4)).1 ?_
  refine callsIn_of_wp_marks Try.func37 rfl trivial ?_ rfl
  simp only [Try.ntmps37, List.size_toArray, List.length_cons, List.length_nil, Nat.reduceAdd, Nat.reduceSub, Array.replicate_succ, Array.replicate_zero, List.push_toArray, List.append_toArray, List.nil_append, List.cons_append]
  gi_wp2_with (refine ⟨trivial, ?_⟩; gi_at_call 40; (with_reducible refine (HCl _ ?hb).out.mono ?_); (case hb => exact (by repeat (first | exact Below.refl _ _ | (with_reducible assumption) | apply bl_drew | apply bl_drewN | apply bl_alloc | (refine bl_set ?_ (by go_simp))))); rintro e w2 ⟨vr, rfl, hrow', hb2'⟩; obtain ⟨R, cr, rfl, hform⟩ := row_form hrow'; have HF := Kp.mk hform; clear hform; have HB2 := Kp.mk hb2'; have HRow := Kp.mk hrow'; have k0 : w2.cell? ⟨w.heap.size, 0, none⟩ = some (.func (.func df) #[] lbd) := bl_cell hb2' (by go_simp); clear hb2' hrow')
  have hs1 : (w.alloc (.cells #[.func (.func df) #[] lbd] 77)).heap.size = w.heap.size + 1 := by simp
  have HB0 : Below w.heap.size w (w2.alloc (.cells #[.slice R xs.length cr] 25)) := bl_alloc (bl_then (bl_alloc (Below.refl _ w) _) HB2.out) _
  have hsz2 := HB2.out.size
  rw [hs1] at hsz2
  refine wpIn_rangeFunc_ownG rfl (by omega : 1 ≤ 4) (gf := gf) (lb := lb) rfl trivial eg ((HS.out.later HB0) (4 - 1) (by omega)) belowK_t (belowK_b (by simp; omega)) (Below.refl _ _) (fun _ => rfl)
    (ChgI (w.heap.size + 1) w2.heap.size (w.alloc (.cells #[.func (.func df) #[] lbd] 77)) (.slice R xs.length cr) f xs)
    (fun _ _ _ => False)
    (OwnFrom.and (Own.from (holdsRow_own (w.heap.size + 1) w2.heap.size 25 3 1 (fun (_ : List {x : Int // x ∈ L}) => xs.length) (fun (pre : List {x : Int // x ∈ L}) => (chg f xs (pre.map (·.1))).map (Value.int .i64)) (fun (_ : List {x : Int // x ∈ L}) v => v = .slice R xs.length cr)) _) (ownFrom_below (by simp) (by simp; omega)))
    (fun _ _ _ _ _ hs _ _ => hs)
    ⟨⟨_, Boxed.new _ _ _, by simpa [hs1, chg] using (HRow.out.alloc _), rfl⟩, by have := bl_alloc HB2.out (.cells #[.slice R xs.length cr] 25); rwa [hs1] at this⟩
    (fun x => { tmps := #[.slice A xs.length c, .func (.func gf) #[] lb, .func (.func df) #[] lbd, undef, undef, .pointer (some ⟨w.heap.size, 0, none⟩), .slice none 0 0, .pointer (some ⟨w2.heap.size, 0, none⟩), .int .i64 x.1, .slice A xs.length c, .slice R xs.length cr, .func (.func gf) #[] lb, .int .i64 x.1, undef, undef, undef, undef, undef, undef, undef, undef, undef, undef], defers := [] }) ?assign ?body ?done ?stop
  case assign =>
    intro l x W K hK
    gi_wp2
    exact hK
  case body =>
    rintro l pre ⟨x, hx⟩ W ⟨⟨v, hv, hrow, rfl⟩, hB⟩ hlt
    obtain ⟨x0, x1⟩ := HL.out x hx
    obtain ⟨g, rfl, hg0, hg1⟩ := HF.out (by omega)
    have hc := hv.cell
    have hf := hv.frozen
    have hlc := chg_len f (pre.map (·.1)) xs
    have hgd := rd_good (chg_good hG1 (pre.map (·.1)) xs HG.out (fun c hc => by obtain ⟨y, _, rfl⟩ := List.mem_map.1 hc; exact HL.out y.1 y.2)) x0 (show x < ((chg f xs (pre.map (·.1))).length : Int) by omega)
    have hsn := chg_snoc f xs (pre.map (·.1)) x
    have hsn' : chg f xs ((pre ++ [(⟨x, hx⟩ : {x : Int // x ∈ L})]).map (·.1)) = (chg f xs (pre.map (·.1))).set x.toNat (f (rd (chg f xs (pre.map (·.1))) x)) := by rw [List.map_append]; exact hsn
    have hget : ∃ u, rd (chg f xs (pre.map (·.1))) x = u ∧ ((chg f xs (pre.map (·.1))).map (Value.int .i64))[x.toNat]? = some (.int .i64 u) := ⟨_, rfl, rd_get (by omega)⟩
    clear hsn
    obtain ⟨u, hu, hg?⟩ := hget
    rw [hu] at hgd hsn'
    have hel : W.cell? ⟨g, x.toNat, none⟩ = some (.int .i64 u) := (hrow.cellAt x.toNat (by omega)).trans hg?
    have hfz := hrow.frozenAt x.toNat
    have HSn := Kp.mk hsn'
    have HRw := Kp.mk hrow
    have hrl := (hrow.lt g rfl).2
    clear hsn' hu hg? hlc hrow
    have hdo : W.cell? ⟨w.heap.size, 0, none⟩ = some (.func (.func df) #[] lbd) := (hB.cell (by simp)).trans (by go_simp)
    have mixed : Try.prog.follows .mixedOrders = true := by kernel_rfl
    have x1' : x < (xs.length : Int) := x1
    have hsB := hB.size
    rw [hs1] at hsB
    have hgB : g < W.heap.size := by have := hrl; omega
    have HBw : Kp (Below w.heap.size w W.drew) := ⟨bl_drew (bl_then (bl_alloc (Below.refl _ w) _) (by rw [hs1]; exact hB))⟩
    have HALL := Kp.mk (And.intro hv (And.intro hB (And.intro hgB (And.intro HSn.out (And.intro HRw.out (And.intro hgd (And.intro hg1 hsz2)))))))
    have hgB' := hgB
    have ne1 : ¬ g = w2.heap.size := by omega
    have ne2 : ¬ w2.heap.size = g := by omega
    have ne3 : ¬ g = w.heap.size := by rw [hs1] at hg0; omega
    have ne4 : ¬ w.heap.size = g := by rw [hs1] at hg0; omega
    have HNE := Kp.mk (show w.heap.size + 1 ≤ g by rw [hs1] at hg0; exact hg0)
    clear hv hB hgd hsB hgB hsz2 hlt HB0 hg0 hg1 hrl hs1 HSn HRw HCl HS HF HRow HB2 HG hG1 x1
    gi_wp2_with (fail)
    refine region_round (S := fun w' => w'.cell? ⟨w2.heap.size, 0, none⟩ = some (.slice (some ⟨g, 0, none⟩) xs.length cr) ∧ w'.cell? ⟨w.heap.size, 0, none⟩ = some (.func (.func df) #[] lbd)) (by kernel_rfl) (by kernel_rfl) (fun h => by obtain ⟨_, _, h⟩ := h; exact h) ⟨hc, hdo⟩ (fun hHeld => ?_)
    (refine wpAnyH_take (i := 1) (v := ?_) rfl (by kernel_rfl) (by kernel_rfl) (by kernel_rfl) (fun _ _ _ h => h) (Or.inl ⟨by rfl, ?_⟩) (by assumption) ?_; rotate_left; (intro w hSw; (try dsimp only at hSw); go_simp; try (with_reducible rfl)); (try simp only [Act.put, List.setIfInBounds_toArray, List.set_cons_zero, List.set_cons_succ, List.getElem_toArray, List.getElem_cons_zero, List.getElem_cons_succ, Fin.getElem_fin]))
    (refine wpAnyH_take (i := 4) (v := ?_) rfl (by kernel_rfl) (by kernel_rfl) (by kernel_rfl) (fun _ _ _ h => h) (Or.inl ⟨by rfl, ?_⟩) (by assumption) ?_; rotate_left; (intro w hSw; (try dsimp only at hSw); go_simp; try (with_reducible rfl)); (try simp only [Act.put, List.setIfInBounds_toArray, List.set_cons_zero, List.set_cons_succ, List.getElem_toArray, List.getElem_cons_zero, List.getElem_cons_succ, Fin.getElem_fin]))
    (refine wpAnyH_take (i := 0) (v := ?_) rfl (by kernel_rfl) (by kernel_rfl) (by kernel_rfl) (fun _ _ _ h => h) (Or.inl ⟨by rfl, ?_⟩) (by assumption) ?_; rotate_left; (intro w hSw; (try dsimp only at hSw); go_simp; try (with_reducible rfl)); (try simp only [Act.put, List.setIfInBounds_toArray, List.set_cons_zero, List.set_cons_succ, List.getElem_toArray, List.getElem_cons_zero, List.getElem_cons_succ, Fin.getElem_fin]))
    (refine wpAnyH_take (i := 2) (v := ?_) rfl (by kernel_rfl) (by kernel_rfl) (by kernel_rfl) (fun _ _ _ h => h) (Or.inl ⟨by rfl, ?_⟩) (by assumption) ?_; rotate_left; (intro w hSw; (try dsimp only at hSw); go_simp; try (with_reducible rfl)); (try simp only [Act.put, List.setIfInBounds_toArray, List.set_cons_zero, List.set_cons_succ, List.getElem_toArray, List.getElem_cons_zero, List.getElem_cons_succ, Fin.getElem_fin]))
    (refine wpAnyH_take (i := 3) (v := ?_) rfl (by kernel_rfl) (by kernel_rfl) (by kernel_rfl) (fun _ _ _ h => h) (Or.inl ⟨by rfl, ?_⟩) (by assumption) ?_; rotate_left; (intro w hSw; (try dsimp only at hSw); go_simp; try (with_reducible rfl)); (try simp only [Act.put, List.setIfInBounds_toArray, List.set_cons_zero, List.set_cons_succ, List.getElem_toArray, List.getElem_cons_zero, List.getElem_cons_succ, Fin.getElem_fin]))
    (refine wpAnyH_take (i := 5) (v := ?_) rfl (by kernel_rfl) (by kernel_rfl) (by kernel_rfl) (fun _ _ _ h => h) (Or.inl ⟨by rfl, ?_⟩) (by assumption) ?_; rotate_left; (intro w hSw; (try dsimp only at hSw); go_simp; try (with_reducible rfl)); (try simp only [Act.put, List.setIfInBounds_toArray, List.set_cons_zero, List.set_cons_succ, List.getElem_toArray, List.getElem_cons_zero, List.getElem_cons_succ, Fin.getElem_fin]))
    (refine wpAnyH_ready (rs := [6]) (by kernel_rfl) (by simp) ?_; refine AllReadyH.cons rfl (fun K hK => ?_) AllReadyH.nil; go_simp; skip; refine hK.out _ _ (by go_simp) (fun hHeld => ?_); clear hK K; (try simp only [Act.put, List.setIfInBounds_toArray, List.set_cons_zero, List.set_cons_succ, List.getElem_toArray, List.getElem_cons_zero, List.getElem_cons_succ, Fin.getElem_fin]))
    (refine wpAnyH_ready (rs := [7]) (by kernel_rfl) (by simp) ?_; refine AllReadyH.cons rfl (fun K hK => ?_) AllReadyH.nil; go_simp; (with_reducible refine (HD.out _ u HALL.out.2.2.2.2.2.1 HBw.out).mono ?_); rintro e w3 ⟨rfl, hb'⟩; have c3 := bl_cell hb' (p := ⟨w2.heap.size, 0, none⟩) hc; have d3 := bl_cell hb' (p := ⟨w.heap.size, 0, none⟩) hdo; have e3 := bl_cell hb' (p := ⟨g, x.toNat, none⟩) hel; have f3 : w3.frozen? ⟨g, x.toNat, none⟩ = false := (hb'.frozen (p := ⟨g, x.toNat, none⟩) (by simpa using hgB')).trans hfz; have HB3 := Kp.mk hb'; clear hb'; refine hK.out _ _ (by go_simp) (fun hHeld => ?_); clear hK K; (try simp only [Act.put, List.setIfInBounds_toArray, List.set_cons_zero, List.set_cons_succ, List.getElem_toArray, List.getElem_cons_zero, List.getElem_cons_succ, Fin.getElem_fin]))
    (refine wpAnyH_ready (rs := [8]) (by kernel_rfl) (by simp) ?_; refine AllReadyH.cons rfl (fun K hK => ?_) AllReadyH.nil; go_simp; skip; refine hK.out _ _ (by go_simp) (fun hHeld => ?_); clear hK K; (try simp only [Act.put, List.setIfInBounds_toArray, List.set_cons_zero, List.set_cons_succ, List.getElem_toArray, List.getElem_cons_zero, List.getElem_cons_succ, Fin.getElem_fin]))
    (refine wpAnyH_ready (rs := [9]) (by kernel_rfl) (by simp) ?_; refine AllReadyH.cons rfl (fun K hK => ?_) AllReadyH.nil; go_simp; skip; refine hK.out _ _ (by go_simp) (fun hHeld => ?_); clear hK K; (try simp only [Act.put, List.setIfInBounds_toArray, List.set_cons_zero, List.set_cons_succ, List.getElem_toArray, List.getElem_cons_zero, List.getElem_cons_succ, Fin.getElem_fin]))
    refine wpAnyH_done (by kernel_rfl) ?_ _
    obtain ⟨hv, hB, _, hSn, hRw, _, _, hs2⟩ := HALL.out
    have hb3 : Below W.heap.size W w3 := bl_then (bl_drew (Below.refl _ _)) HB3.out
    have hsz := hB.size
    simp only [World.size_alloc] at hsz
    have hsz3 := hb3.size
    have hg := HNE.out
    have hst := (row_below hRw hb3).stored x.toNat (.int .i64 (f u))
    rw [← List.map_set, ← hSn] at hst
    refine ⟨KeepsOthers.from ((KeepsOthers.of_grownBy (grown_none hb3) (fun _ _ h => by cases h)).trans (KeepsOthers.setCell _ _ _)) _, (hb3.mono (by omega)).grown hst.2 (by omega) (fun k e => by cases e; omega), ⟨_, ?_, hst.1, rfl⟩, (hB.trans (hb3.mono (by omega))).grown hst.2 (by omega) (fun k e => by cases e; exact hg)⟩
    exact (heap_setCell_other w3 ⟨g, x.toNat, none⟩ w2.heap.size _ (by simpa using ne2)).trans ((hb3.block _ hv.lt).trans hv)
  case done =>
    rintro D ys W hD hys ⟨⟨v, hv, hrow, rfl⟩, hB⟩ hK
    have hc := hv.cell
    simp only [hys] at hrow
    have HP : Kp (FreshInts (chg f xs L) w (.returned (.slice R xs.length cr)) (W.putObj D (.deferred none))) := ⟨⟨_, rfl, by rw [chg_len]; exact ownsRow_putObj (own_down hrow (Nat.le_succ _)) _ hK rfl, bl_then (bl_alloc (Below.refl _ w) (.cells #[.func (.func df) #[] lbd] 77)) (by rw [hs1]; exact hB.trans (belowK_b (w := w2.alloc (.cells #[.slice R xs.length cr] 25)) (by simp; omega) W D _ _ (by simpa using hD) hK rfl rfl))⟩⟩
    gi_wp2
    refine ⟨by simp, .inl ⟨_, _, rfl, run_takeDeferred hK, ?_⟩⟩
    exact ⟨_, by simp [results, Try.results37, go_sem], HP.out⟩
  case stop =>
    rintro D c pre W _ _ h _
    exact h.elim
end Go.Proofs.Ytibaapaglocpjaa.B

end
