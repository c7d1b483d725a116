import Derived.RangeFuncOne
import Derived.Test.YtibaapaglocpjaaBJe
/- Proved here: lemmas for the laws' proofs (the texts Jf). No condition. -/
section
set_option linter.unusedSimpArgs false
set_option linter.unusedVariables false
namespace Go.Proofs.Ytibaapaglocpjaa.B
open Go.RowKit Go.Shelf Go.Proofs.YtibaapaglocpjaaW.PrintWords
attribute [local go_sem] Oper.semAt_some
def Seqs (n₀ : Nat) (gf : Nat) (lb : Array Value) (L : List Int) (w : World) : Prop :=
  ∀ n, 1 ≤ n → SeqStopsK Fence.wide n Try.prog gf lb (fun x : {x : Int // x ∈ L} => #[Value.int .i64 x.1]) (Below n₀) (fun ys => ys.map (·.1) = L) (fun pre => pre.map (·.1) <+: L) L.length w
def OverInts {L : List Int} (J : List {x : Int // x ∈ L} → World → Prop) (pre : List Int) (W : World) : Prop := ∃ ys : List {x : Int // x ∈ L}, ys.map (·.1) = pre ∧ J ys W
theorem OverInts.abides {L : List Int} {J : List {x : Int // x ∈ L} → World → Prop} {B : Nat} (h : AbidesFrom B J) : AbidesFrom B (OverInts J) := fun s W W' row ⟨ys, e, hj⟩ hg hr => ⟨ys, e, h ys W W' row hj hg hr⟩
theorem seqs_of {n₀ gf : Nat} {lb : Array Value} {L : List Int} {w : World}
    (h : ∀ (n l : Nat) (J Jx : List Int → World → Prop) (W : World), 1 ≤ n → Below w.heap.size w W → AbidesFrom W.heap.size J →
      (∀ pre x W, x ∈ L → J pre W → pre.length < L.length → YieldAt Fence.wide (n - 1) Try.prog l #[.int .i64 x] W fun e W' => (e = .returned (.bool true) ∧ J (pre ++ [x]) W' ∧ Below n₀ W W') ∨ (e = .returned (.bool false) ∧ Jx (pre ++ [x]) W')) →
      J [] W → CallsIn Fence.wide n Try.prog gf (#[.func (.yield l) #[] #[]] ++ lb) W (SeqEnd L J Jx)) : Seqs n₀ gf lb L w := by
  intro n hn l J Jx W hW hJ hJx hY h0
  refine (h n l (OverInts J) (OverInts Jx) W hn hW (OverInts.abides hJ) ?_ ⟨[], rfl, h0⟩).mono ?_
  · rintro pre x W1 hx ⟨ys, rfl, hj⟩ hl
    have hy := hY ys ⟨x, hx⟩ W1 hj (by simpa using hl)
    obtain ⟨fn, tmps, assign, body, hy, hR⟩ := hy
    refine ⟨fn, tmps, assign, body, hy, hR.mono ?_⟩
    rintro e W' (⟨a, b, c⟩ | ⟨a, b⟩)
    · exact .inl ⟨a, ⟨_, by simp, b⟩, c⟩
    · exact .inr ⟨a, _, by simp, b⟩
  · rintro e W' ⟨hv, ⟨ys, rfl, zs, hz, hj⟩ | ⟨pre, hp, zs, rfl, hj⟩⟩
    · exact ⟨hv, .inl ⟨zs, hz, hj⟩⟩
    · exact ⟨hv, .inr ⟨zs, hp, hj⟩⟩
theorem Seqs.later {n₀ gf : Nat} {lb : Array Value} {L : List Int} {w w' : World} (h : Seqs n₀ gf lb L w) (hb : Below w.heap.size w w') : Seqs n₀ gf lb L w' := fun n hn l J Jx W hW hJ hJx hY h0 => h n hn l J Jx W (bl_then hb hW) hJ hJx hY h0
theorem Seqs.more {n₀ n₁ gf : Nat} {lb : Array Value} {L : List Int} {w : World} (h : Seqs n₀ gf lb L w) (hn : n₀ ≤ n₁) : Seqs n₁ gf lb L w := fun n h1 l J Jx W hW hJ hJx hY h0 =>
  h n h1 l J Jx W hW hJ hJx (fun pre x W1 hj hl => by
    obtain ⟨fn, tmps, assign, body, hy, hR⟩ := hY pre x W1 hj hl
    refine ⟨fn, tmps, assign, body, hy, hR.mono ?_⟩
    rintro e W' (⟨a, b, c⟩ | k)
    · exact .inl ⟨a, b, c.mono hn⟩
    · exact .inr k) h0
theorem own_down {W : World} {b b' : Nat} {e : TypeId} {size n : Nat} {v : Value} {cs : List Value} (h : W.ownsRow b e size v n cs) (hb : b' ≤ b) : W.ownsRow b' e size v n cs := by
  obtain ⟨h1, h2⟩ := h
  refine ⟨h1, ?_⟩
  rcases h2 with h2 | ⟨g, cap, cur, rfl, hg, r⟩
  · exact .inl h2
  · exact .inr ⟨g, cap, cur, rfl, Nat.le_trans hb hg, r⟩
def touchedW (cx cy sd wd ht : Int) (A : Option Addr) (c : Nat) (pb : List Int) (B : Option Addr) (d : Nat) (pl : List Int) (fx fy tx ty : Int) (w : World) : World := ((w.alloc (.cells #[.int .i64 cx, .int .i64 cy, .int .i64 sd, .int .i64 wd, .int .i64 ht, .slice A pb.length c, .slice B pl.length d] 27)).alloc (.cells #[.int .i64 fx, .int .i64 fy] 24)).alloc (.cells #[.int .i64 tx, .int .i64 ty] 24)
set_option maxRecDepth 100000 in
theorem touched_any (cx cy sd wd ht : Int) (A : Option Addr) (c : Nat) (pb : List Int) (B : Option Addr) (d : Nat) (pl : List Int) (fx fy tx ty : Int) (w : World) :
    Calls Try.prog 29 #[.agg #[.int .i64 cx, .int .i64 cy, .int .i64 sd, .int .i64 wd, .int .i64 ht, .slice A pb.length c, .slice B pl.length d], .agg #[.int .i64 fx, .int .i64 fy], .agg #[.int .i64 tx, .int .i64 ty]] w fun e w' => e = .returned (.func (.func 57) #[] #[.pointer (some ⟨w.heap.size, 0, none⟩), .pointer (some ⟨w.heap.size + 1, 0, none⟩), .pointer (some ⟨w.heap.size + 1 + 1, 0, none⟩)]) ∧ w' = touchedW cx cy sd wd ht A c pb B d pl fx fy tx ty w := by
  have hm := hmf
  go_enter Try.func29, Try.ntmps29
  go_wp2
  go_ret
  exact ⟨rfl, rfl⟩
theorem touchedW_below (cx cy sd wd ht : Int) (A : Option Addr) (c : Nat) (pb : List Int) (B : Option Addr) (d : Nat) (pl : List Int) (fx fy tx ty : Int) (w : World) : Below w.heap.size w (touchedW cx cy sd wd ht A c pb B d pl fx fy tx ty w) := bl_alloc (bl_alloc (bl_alloc (Below.refl _ w) _) _) _
theorem touchedW_size (cx cy sd wd ht : Int) (A : Option Addr) (c : Nat) (pb : List Int) (B : Option Addr) (d : Nat) (pl : List Int) (fx fy tx ty : Int) (w : World) : (touchedW cx cy sd wd ht A c pb B d pl fx fy tx ty w).heap.size = w.heap.size + 1 + 1 + 1 := by simp [touchedW]
theorem touchedW_IB (cx cy sd wd ht : Int) (A : Option Addr) (c : Nat) (pb : List Int) (B : Option Addr) (d : Nat) (pl : List Int) (fx fy tx ty : Int) (w : World) : IB w.heap.size (w.heap.size + 1) (w.heap.size + 1 + 1) cx cy sd wd ht A c pb B d pl fx fy tx ty (touchedW cx cy sd wd ht A c pb B d pl fx fy tx ty w) := by
  unfold touchedW
  exact ⟨by go_simp, by go_simp, by go_simp, by go_simp, by go_simp, by go_simp, by go_simp, by go_simp, by go_simp, by go_simp, by go_simp⟩
structure WayHyp (cx cy sd wd ht fx fy tx ty : Int) : Prop where
  hcx : -6553600000 ≤ cx ∧ cx ≤ 6553600000
  hcy : -6553600000 ≤ cy ∧ cy ≤ 6553600000
  hs : 1 ≤ sd ∧ sd ≤ 6553600000
  hw : 1 ≤ wd ∧ wd ≤ 256
  hh : 1 ≤ ht ∧ ht ≤ 256
  hfx : -6553600000 ≤ fx ∧ fx ≤ 6553600000
  hfy : -6553600000 ≤ fy ∧ fy ≤ 6553600000
  htx : -6553600000 ≤ tx ∧ tx ≤ 6553600000
  hty : -6553600000 ≤ ty ∧ ty ≤ 6553600000
theorem touched_seqs (cx cy sd wd ht : Int) (A : Option Addr) (c : Nat) (pb : List Int) (B : Option Addr) (d : Nat) (pl : List Int) (fx fy tx ty : Int) (w : World) (H : WayHyp cx cy sd wd ht fx fy tx ty) :
    Seqs (touchedW cx cy sd wd ht A c pb B d pl fx fy tx ty w).heap.size 57 #[.pointer (some ⟨w.heap.size, 0, none⟩), .pointer (some ⟨w.heap.size + 1, 0, none⟩), .pointer (some ⟨w.heap.size + 1 + 1, 0, none⟩)] (touchedL cx cy sd wd ht fx fy tx ty) (touchedW cx cy sd wd ht A c pb B d pl fx fy tx ty w) := by
  refine seqs_of fun n l J Jx W hn hW hJ hY h0 => ?_
  have hsz := touchedW_size cx cy sd wd ht A c pb B d pl fx fy tx ty w
  exact touched1_in n l (touchedW cx cy sd wd ht A c pb B d pl fx fy tx ty w).heap.size _ _ _ cx cy sd wd ht A c pb B d pl fx fy tx ty hn _ J Jx W H.hcx H.hcy H.hs H.hw H.hh H.hfx H.hfy H.htx H.hty rfl hY hJ ((touchedW_IB cx cy sd wd ht A c pb B d pl fx fy tx ty w).below hW (by omega) (by omega) (by omega)) (by omega) (by omega) (by omega) hW.size h0
theorem info_int : (Try.prog.info? 3).map (fun i => (i.zero, i.size, i.bytes)) = some (some (.int .i64 0), 1, 8) := by kernel_rfl
def NewInts (L : List Int) (w : World) (e : Ending) (w' : World) : Prop :=
  ∃ v, e = .returned v ∧ w'.ownsRow w.heap.size 3 1 v L.length (L.map (Value.int .i64)) ∧ (v = .slice none 0 0 ↔ L = []) ∧ Below w.heap.size w w'
set_option maxRecDepth 100000 in
set_option maxHeartbeats 2000000 in
theorem appendSeq_any (gf : Nat) (lb : Array Value) (L : List Int) (w : World) (hseq : Seqs w.heap.size gf lb L w) (eg : ∀ args w, (callFunc gf args).run Try.prog w = .ok (.enter gf args) w) (hlen : L.length ≤ 1000000) :
    Calls Try.prog 56 #[.slice none 0 0, .func (.func gf) #[] lb] w (NewInts L w) := by
  refine (callsIn_wide (n := 3)).1 ?_
  obtain ⟨i0, hi, hz0, hz1, hz2⟩ := info_parts info_int
  refine callsIn_of_wp_marks Try.func56 rfl trivial ?_ rfl
  simp only [Try.ntmps56, List.size_toArray, List.length_cons, List.length_nil, Nat.reduceAdd, Nat.reduceSub, Array.replicate_succ, Array.replicate_zero, List.push_toArray, List.append_toArray, List.nil_append, List.cons_append]
  gi_wp2
  have bO := Boxed.new w 25 (.slice none 0 0)
  have hB0 : Below w.heap.size w (w.alloc (.cells #[.slice none 0 0] 25)) := bl_alloc (Below.refl _ w) _
  refine wpIn_rangeFunc_ownG rfl (by omega : 1 ≤ 3) (gf := gf) (lb := lb) rfl trivial eg ((hseq.later hB0) (3 - 1) (by omega)) belowK_t (belowK_b (by simp)) (Below.refl _ _) (fun _ => rfl)
    (fun (pre : List {x : Int // x ∈ L}) W => (∃ v, Boxed W w.heap.size 25 v ∧ W.ownsRow w.heap.size 3 1 v pre.length ((pre.map (·.1)).map (Value.int .i64)) ∧ (v = .slice none 0 0 ↔ pre = [])) ∧ Below w.heap.size w W)
    (fun _ _ _ => False)
    (OwnFrom.and (Own.from (holdsRow_own w.heap.size w.heap.size 25 3 1 (fun (pre : List {x : Int // x ∈ L}) => pre.length) (fun (pre : List {x : Int // x ∈ L}) => (pre.map (·.1)).map (Value.int .i64)) (fun (pre : List {x : Int // x ∈ L}) v => v = .slice none 0 0 ↔ pre = [])) _) (ownFrom_below (Nat.le_refl _) (by simp)))
    (fun _ _ _ _ _ hs _ _ => hs)
    ⟨⟨_, bO, World.ownsRow_nil _ _ _ _, by simp⟩, hB0⟩
    (fun x => { tmps := #[.slice none 0 0, .func (.func gf) #[] lb, .pointer (some ⟨w.heap.size, 0, none⟩), undef, .slice none 0 0, .int .i64 x.1, .func (.func gf) #[] lb, .int .i64 x.1, undef, undef, undef, undef, undef], defers := [] }) ?assign ?body ?done ?stop
  case assign =>
    intro l x W K hK
    gi_wp2
    exact hK
  case body =>
    rintro l pre x W ⟨⟨v, hv, hrow, hnil⟩, hB⟩ hlt
    have hc := hv.cell
    gi_wp2_with (gi_at_builtin; refine wpListIn_append_own _ rfl _ _ 25 rfl w.heap.size 3 i0 (.int .i64 0) 1 8 Try.underlying25 hi hz0 hz1 hz2 rfl (by decide) _ _ _ rfl (hrow.alloc _) ⟨W.heap.size, 0, none⟩ 1 1 [.int .i64 x.1] rfl rfl (cell_one_new _ _ _) (by simp [Value.oneCell']) (by simp only [maxLen]; omega) (by omega) (by have := hB.size; simp; omega) ?_; intro v' w1 hown' hgrow _; obtain ⟨g', cap', rfl⟩ := ownsRow_succ hown'; obtain ⟨hv1, hv2, hr2, hk2, hb2⟩ := hv.appended (by decide) hrow hB.size (Nat.le_refl _) hown' hgrow; have hc1 := hv1.cell; have hf1 := hv1.frozen)
    exact ⟨hk2.from _, hb2, ⟨_, hv2, by simpa using hr2, by simp⟩, hB.trans hb2⟩
  case done =>
    rintro D ys W hD hys ⟨⟨v, hv, hrow, hnil⟩, hB⟩ hK
    have hl : ys.length = L.length := by have := congrArg List.length hys; simpa using this
    rw [hl] at hrow
    simp only [hys] at hrow
    have hnil' : v = .slice none 0 0 ↔ L = [] := hnil.trans ⟨fun h => List.length_eq_zero_iff.1 (hl.symm.trans (by rw [h]; rfl)), fun h => List.length_eq_zero_iff.1 (hl.trans (by rw [h]; rfl))⟩
    have hc := hv.cell
    have HP : Kp (NewInts L w (.returned v) (W.putObj D (.deferred none))) := ⟨⟨v, rfl, ownsRow_putObj hrow _ hK rfl, hnil', hB.trans (belowK_b (w := w) (Nat.le_refl _) W D _ _ (by simp at hD; omega) hK rfl rfl)⟩⟩
    gi_wp2
    refine ⟨by simp, .inl ⟨_, _, rfl, run_takeDeferred hK, ?_⟩⟩
    exact ⟨v, by simp [results, Try.results56, go_sem], HP.out⟩
  case stop =>
    rintro D c pre W _ _ h _
    exact h.elim
set_option maxRecDepth 100000 in
theorem collect_any (gf : Nat) (lb : Array Value) (L : List Int) (w : World) (hseq : Seqs w.heap.size gf lb L w) (eg : ∀ args w, (callFunc gf args).run Try.prog w = .ok (.enter gf args) w) (hlen : L.length ≤ 1000000) :
    Calls Try.prog 28 #[.func (.func gf) #[] lb] w (NewInts L w) := by
  have HA := Kp.mk (appendSeq_any gf lb L w hseq eg hlen)
  clear hseq eg hlen
  go_enter Try.func28, Try.ntmps28
  go_wp2_with (go_at_call 56; (with_reducible refine HA.out.mono ?_); rintro e w1 ⟨v, rfl, hP⟩; have HP := Kp.mk hP; clear hP)
  exact bodyPost_ret (v := v) (by simp [results, Try.results28, go_sem]) rfl ⟨v, rfl, HP.out⟩
theorem touchedL_len {cx cy sd wd ht : Int} (fx fy tx ty : Int) (hw : 1 ≤ wd ∧ wd ≤ 256) (hh : 1 ≤ ht ∧ ht ≤ 256) : (touchedL cx cy sd wd ht fx fy tx ty).length ≤ 1000000 := by
  have h1 : (touchedL cx cy sd wd ht fx fy tx ty).length ≤ (fromTo 0 (wd * ht - 1)).length := List.length_filter_le _ _
  have h2 : (fromTo 0 (wd * ht - 1)).length = (wd * ht - 1 - 0 + 1).toNat := by unfold fromTo; simp
  have h3 : wd * ht ≤ 256 * 256 := Int.mul_le_mul hw.2 hh.2 (by omega) (by omega)
  omega
def wayB (cx cy sd wd ht : Int) (pb pl : List Int) (fx fy tx ty : Int) : Bool := iceB cx cy sd wd ht pb pl && (plB fx fy && plB tx ty)
theorem wayB_hyp {cx cy sd wd ht : Int} {pb pl : List Int} {fx fy tx ty : Int} (h : wayB cx cy sd wd ht pb pl fx fy tx ty = true) : WayHyp cx cy sd wd ht fx fy tx ty := by
  unfold wayB at h
  simp only [Bool.and_eq_true] at h
  obtain ⟨h1, h2, h3⟩ := h
  have hi := iceB_iff.1 h1
  have hf := plB_iff.1 h2
  have ht := plB_iff.1 h3
  exact ⟨⟨hi.cx0, hi.cx1⟩, ⟨hi.cy0, hi.cy1⟩, ⟨hi.s0, hi.s1⟩, ⟨hi.w0, hi.w1⟩, ⟨hi.h0, hi.h1⟩, hf.1, hf.2, ht.1, ht.2⟩
def TouchedPost (b : Bool) (L : List Int) (w : World) (e : Ending) (w' : World) : Prop :=
  ∃ v, e = .returned (.tuple #[v, .int .i64 (errI b)]) ∧ w'.ownsRow w.heap.size 3 1 v (if b = true then L else []).length ((if b = true then L else []).map (Value.int .i64)) ∧ Below w.heap.size w w'
set_option maxHeartbeats 2000000 in
set_option maxRecDepth 100000 in
theorem Touched_any (cx cy sd wd ht : Int) (A : Option Addr) (c : Nat) (pb : List Int) (B : Option Addr) (d : Nat) (pl : List Int) (fx fy tx ty : Int) (w : World) (hr1 : ReadsInt w .i64 A pb.length pb) (hc1 : pb.length ≤ c) (hr2 : ReadsInt w .i64 B pl.length pl) (hc2 : pl.length ≤ d) :
    Calls Try.prog 11 #[.agg #[.int .i64 cx, .int .i64 cy, .int .i64 sd, .int .i64 wd, .int .i64 ht, .slice A pb.length c, .slice B pl.length d], .agg #[.int .i64 fx, .int .i64 fy], .agg #[.int .i64 tx, .int .i64 ty]] w (TouchedPost (wayB cx cy sd wd ht pb pl fx fy tx ty) (touchedL cx cy sd wd ht fx fy tx ty) w) := by
  have HC := fun W h => Kp.mk (icecheck_any cx cy sd wd ht A c pb B d pl W (hr1.below h) hc1 (hr2.below h) hc2)
  have HP := fun bk c W h0 h1 h2 h3 => Kp.mk (placed_2 fx fy tx ty bk c W h0 h1 h2 h3)
  have HT := fun W => Kp.mk (touched_any cx cy sd wd ht A c pb B d pl fx fy tx ty W)
  have HS : Kp (wayB cx cy sd wd ht pb pl fx fy tx ty = true → ∀ W, Calls Try.prog 28 #[.func (.func 57) #[] #[.pointer (some ⟨W.heap.size, 0, none⟩), .pointer (some ⟨W.heap.size + 1, 0, none⟩), .pointer (some ⟨W.heap.size + 1 + 1, 0, none⟩)]] (touchedW cx cy sd wd ht A c pb B d pl fx fy tx ty W) (NewInts (touchedL cx cy sd wd ht fx fy tx ty) (touchedW cx cy sd wd ht A c pb B d pl fx fy tx ty W))) := ⟨fun h W => collect_any _ _ _ _ (touched_seqs cx cy sd wd ht A c pb B d pl fx fy tx ty W (wayB_hyp h)) (enters_of Try.func57 (by kernel_rfl) rfl) (touchedL_len fx fy tx ty (wayB_hyp h).hw (wayB_hyp h).hh)⟩
  have HTB := fun W => Kp.mk (touchedW_below cx cy sd wd ht A c pb B d pl fx fy tx ty W)
  have HL : Kp ((iceB cx cy sd wd ht pb pl = false ∧ wayB cx cy sd wd ht pb pl fx fy tx ty = false) ∨ (iceB cx cy sd wd ht pb pl = true ∧ (plB fx fy && plB tx ty) = false ∧ wayB cx cy sd wd ht pb pl fx fy tx ty = false) ∨ (iceB cx cy sd wd ht pb pl = true ∧ (plB fx fy && plB tx ty) = true ∧ wayB cx cy sd wd ht pb pl fx fy tx ty = true)) := ⟨by
    unfold wayB
    cases iceB cx cy sd wd ht pb pl <;> cases (plB fx fy && plB tx ty) <;> simp⟩
  clear hr1 hr2 hc1 hc2
  generalize wayB cx cy sd wd ht pb pl fx fy tx ty = R at *
  generalize touchedL cx cy sd wd ht fx fy tx ty = L at *
  generalize iceB cx cy sd wd ht pb pl = b1 at *
  generalize (plB fx fy && plB tx ty) = b2 at *
  rcases HL.out with ⟨rfl, rfl⟩ | ⟨rfl, rfl, rfl⟩ | ⟨rfl, rfl, rfl⟩
  · clear HL HS HT HTB HP
    go_enter Try.func11, Try.ntmps11
    go_wp2_with (go_at_call 26; (with_reducible refine (HC _ ?hb).out.mono ?_); (case hb => exact (by repeat (first | exact Below.refl _ _ | (with_reducible assumption) | apply bl_drew | apply bl_drewN | apply bl_alloc | (refine bl_set ?_ (by go_simp))))); rintro e w1 ⟨rfl, hb'⟩; have hb1 := Kp.mk hb'; clear hb'; simp only [errI, Bool.false_eq_true, if_true, if_false])
    go_ret2
    exact ⟨_, rfl, own_nil _ _ _ _, (by repeat (with_reducible first | exact Below.refl _ _ | apply bl_drew | apply bl_drewN | (refine bl_then ?_ hb1.out) | (refine bl_then ?_ hb2.out) | (refine bl_then ?_ hb3.out) | (refine bl_then ?_ hb4.out) | (refine bl_then ?_ hb5.out) | (refine bl_then ?_ hb6.out) | (refine bl_then ?_ hb7.out) | (refine bl_then ?_ hb8.out) | (refine bl_then ?_ hb9.out) | apply bl_alloc | (refine bl_set ?_ (by go_simp))))⟩
  · clear HL HS HT HTB
    go_enter Try.func11, Try.ntmps11
    go_wp2_with (first | (go_at_call 26; (with_reducible refine (HC _ ?hb).out.mono ?_); (case hb => exact (by repeat (first | exact Below.refl _ _ | (with_reducible assumption) | apply bl_drew | apply bl_drewN | apply bl_alloc | (refine bl_set ?_ (by go_simp))))); rintro e w1 ⟨rfl, hb'⟩; have c0 := bl_cell hb' (p := ⟨w.heap.size + 1, 0, none⟩) (v := .int .i64 fx) (by first | (go_simp; done) | exact bl_cell (by repeat (with_reducible first | apply bl_alloc | apply bl_drew | exact Below.refl _ _)) (by assumption)); have c1 := bl_cell hb' (p := ⟨w.heap.size + 1, 1, none⟩) (v := .int .i64 fy) (by first | (go_simp; done) | exact bl_cell (by repeat (with_reducible first | apply bl_alloc | apply bl_drew | exact Below.refl _ _)) (by assumption)); have d0 := bl_cell hb' (p := ⟨w.heap.size + 1 + 1, 0, none⟩) (v := .int .i64 tx) (by first | (go_simp; done) | exact bl_cell (by repeat (with_reducible first | apply bl_alloc | apply bl_drew | exact Below.refl _ _)) (by assumption)); have d1 := bl_cell hb' (p := ⟨w.heap.size + 1 + 1, 1, none⟩) (v := .int .i64 ty) (by first | (go_simp; done) | exact bl_cell (by repeat (with_reducible first | apply bl_alloc | apply bl_drew | exact Below.refl _ _)) (by assumption)); have iq0 := bl_cell hb' (p := ⟨w.heap.size, 0, none⟩) (v := .int .i64 cx) (by first | (go_simp; done) | exact bl_cell (by repeat (with_reducible first | apply bl_alloc | apply bl_drew | exact Below.refl _ _)) (by assumption)); have iq1 := bl_cell hb' (p := ⟨w.heap.size, 1, none⟩) (v := .int .i64 cy) (by first | (go_simp; done) | exact bl_cell (by repeat (with_reducible first | apply bl_alloc | apply bl_drew | exact Below.refl _ _)) (by assumption)); have iq2 := bl_cell hb' (p := ⟨w.heap.size, 2, none⟩) (v := .int .i64 sd) (by first | (go_simp; done) | exact bl_cell (by repeat (with_reducible first | apply bl_alloc | apply bl_drew | exact Below.refl _ _)) (by assumption)); have iq3 := bl_cell hb' (p := ⟨w.heap.size, 3, none⟩) (v := .int .i64 wd) (by first | (go_simp; done) | exact bl_cell (by repeat (with_reducible first | apply bl_alloc | apply bl_drew | exact Below.refl _ _)) (by assumption)); have iq4 := bl_cell hb' (p := ⟨w.heap.size, 4, none⟩) (v := .int .i64 ht) (by first | (go_simp; done) | exact bl_cell (by repeat (with_reducible first | apply bl_alloc | apply bl_drew | exact Below.refl _ _)) (by assumption)); have iq5 := bl_cell hb' (p := ⟨w.heap.size, 5, none⟩) (v := .slice A pb.length c) (by first | (go_simp; done) | exact bl_cell (by repeat (with_reducible first | apply bl_alloc | apply bl_drew | exact Below.refl _ _)) (by assumption)); have iq6 := bl_cell hb' (p := ⟨w.heap.size, 6, none⟩) (v := .slice B pl.length d) (by first | (go_simp; done) | exact bl_cell (by repeat (with_reducible first | apply bl_alloc | apply bl_drew | exact Below.refl _ _)) (by assumption)); have hb1 := Kp.mk hb'; clear hb'; simp only [errI, Bool.false_eq_true, if_true, if_false]) | (go_at_call 27; (with_reducible refine (HP _ _ _ ?h0 ?h1 ?h2 ?h3).out.mono ?_); (case h0 => go_simp); (case h1 => go_simp); (case h2 => go_simp); (case h3 => go_simp); rintro e w2 ⟨rfl, hb'⟩; have c0 := bl_cell hb' (p := ⟨w.heap.size + 1, 0, none⟩) (v := .int .i64 fx) (by first | (go_simp; done) | exact bl_cell (by repeat (with_reducible first | apply bl_alloc | apply bl_drew | exact Below.refl _ _)) (by assumption)); have c1 := bl_cell hb' (p := ⟨w.heap.size + 1, 1, none⟩) (v := .int .i64 fy) (by first | (go_simp; done) | exact bl_cell (by repeat (with_reducible first | apply bl_alloc | apply bl_drew | exact Below.refl _ _)) (by assumption)); have d0 := bl_cell hb' (p := ⟨w.heap.size + 1 + 1, 0, none⟩) (v := .int .i64 tx) (by first | (go_simp; done) | exact bl_cell (by repeat (with_reducible first | apply bl_alloc | apply bl_drew | exact Below.refl _ _)) (by assumption)); have d1 := bl_cell hb' (p := ⟨w.heap.size + 1 + 1, 1, none⟩) (v := .int .i64 ty) (by first | (go_simp; done) | exact bl_cell (by repeat (with_reducible first | apply bl_alloc | apply bl_drew | exact Below.refl _ _)) (by assumption)); have iq0 := bl_cell hb' (p := ⟨w.heap.size, 0, none⟩) (v := .int .i64 cx) (by first | (go_simp; done) | exact bl_cell (by repeat (with_reducible first | apply bl_alloc | apply bl_drew | exact Below.refl _ _)) (by assumption)); have iq1 := bl_cell hb' (p := ⟨w.heap.size, 1, none⟩) (v := .int .i64 cy) (by first | (go_simp; done) | exact bl_cell (by repeat (with_reducible first | apply bl_alloc | apply bl_drew | exact Below.refl _ _)) (by assumption)); have iq2 := bl_cell hb' (p := ⟨w.heap.size, 2, none⟩) (v := .int .i64 sd) (by first | (go_simp; done) | exact bl_cell (by repeat (with_reducible first | apply bl_alloc | apply bl_drew | exact Below.refl _ _)) (by assumption)); have iq3 := bl_cell hb' (p := ⟨w.heap.size, 3, none⟩) (v := .int .i64 wd) (by first | (go_simp; done) | exact bl_cell (by repeat (with_reducible first | apply bl_alloc | apply bl_drew | exact Below.refl _ _)) (by assumption)); have iq4 := bl_cell hb' (p := ⟨w.heap.size, 4, none⟩) (v := .int .i64 ht) (by first | (go_simp; done) | exact bl_cell (by repeat (with_reducible first | apply bl_alloc | apply bl_drew | exact Below.refl _ _)) (by assumption)); have iq5 := bl_cell hb' (p := ⟨w.heap.size, 5, none⟩) (v := .slice A pb.length c) (by first | (go_simp; done) | exact bl_cell (by repeat (with_reducible first | apply bl_alloc | apply bl_drew | exact Below.refl _ _)) (by assumption)); have iq6 := bl_cell hb' (p := ⟨w.heap.size, 6, none⟩) (v := .slice B pl.length d) (by first | (go_simp; done) | exact bl_cell (by repeat (with_reducible first | apply bl_alloc | apply bl_drew | exact Below.refl _ _)) (by assumption)); have hb2 := Kp.mk hb'; clear hb'))
    go_ret2
    exact ⟨_, rfl, own_nil _ _ _ _, (by repeat (with_reducible first | exact Below.refl _ _ | apply bl_drew | apply bl_drewN | (refine bl_then ?_ hb1.out) | (refine bl_then ?_ hb2.out) | (refine bl_then ?_ hb3.out) | (refine bl_then ?_ hb4.out) | (refine bl_then ?_ hb5.out) | (refine bl_then ?_ hb6.out) | (refine bl_then ?_ hb7.out) | (refine bl_then ?_ hb8.out) | (refine bl_then ?_ hb9.out) | apply bl_alloc | (refine bl_set ?_ (by go_simp))))⟩
  · clear HL
    have HS' := fun W => Kp.mk (HS.out rfl W)
    clear HS
    go_enter Try.func11, Try.ntmps11
    go_wp2_with (first | (go_at_call 26; (with_reducible refine (HC _ ?hb).out.mono ?_); (case hb => exact (by repeat (first | exact Below.refl _ _ | (with_reducible assumption) | apply bl_drew | apply bl_drewN | apply bl_alloc | (refine bl_set ?_ (by go_simp))))); rintro e w1 ⟨rfl, hb'⟩; have c0 := bl_cell hb' (p := ⟨w.heap.size + 1, 0, none⟩) (v := .int .i64 fx) (by first | (go_simp; done) | exact bl_cell (by repeat (with_reducible first | apply bl_alloc | apply bl_drew | exact Below.refl _ _)) (by assumption)); have c1 := bl_cell hb' (p := ⟨w.heap.size + 1, 1, none⟩) (v := .int .i64 fy) (by first | (go_simp; done) | exact bl_cell (by repeat (with_reducible first | apply bl_alloc | apply bl_drew | exact Below.refl _ _)) (by assumption)); have d0 := bl_cell hb' (p := ⟨w.heap.size + 1 + 1, 0, none⟩) (v := .int .i64 tx) (by first | (go_simp; done) | exact bl_cell (by repeat (with_reducible first | apply bl_alloc | apply bl_drew | exact Below.refl _ _)) (by assumption)); have d1 := bl_cell hb' (p := ⟨w.heap.size + 1 + 1, 1, none⟩) (v := .int .i64 ty) (by first | (go_simp; done) | exact bl_cell (by repeat (with_reducible first | apply bl_alloc | apply bl_drew | exact Below.refl _ _)) (by assumption)); have iq0 := bl_cell hb' (p := ⟨w.heap.size, 0, none⟩) (v := .int .i64 cx) (by first | (go_simp; done) | exact bl_cell (by repeat (with_reducible first | apply bl_alloc | apply bl_drew | exact Below.refl _ _)) (by assumption)); have iq1 := bl_cell hb' (p := ⟨w.heap.size, 1, none⟩) (v := .int .i64 cy) (by first | (go_simp; done) | exact bl_cell (by repeat (with_reducible first | apply bl_alloc | apply bl_drew | exact Below.refl _ _)) (by assumption)); have iq2 := bl_cell hb' (p := ⟨w.heap.size, 2, none⟩) (v := .int .i64 sd) (by first | (go_simp; done) | exact bl_cell (by repeat (with_reducible first | apply bl_alloc | apply bl_drew | exact Below.refl _ _)) (by assumption)); have iq3 := bl_cell hb' (p := ⟨w.heap.size, 3, none⟩) (v := .int .i64 wd) (by first | (go_simp; done) | exact bl_cell (by repeat (with_reducible first | apply bl_alloc | apply bl_drew | exact Below.refl _ _)) (by assumption)); have iq4 := bl_cell hb' (p := ⟨w.heap.size, 4, none⟩) (v := .int .i64 ht) (by first | (go_simp; done) | exact bl_cell (by repeat (with_reducible first | apply bl_alloc | apply bl_drew | exact Below.refl _ _)) (by assumption)); have iq5 := bl_cell hb' (p := ⟨w.heap.size, 5, none⟩) (v := .slice A pb.length c) (by first | (go_simp; done) | exact bl_cell (by repeat (with_reducible first | apply bl_alloc | apply bl_drew | exact Below.refl _ _)) (by assumption)); have iq6 := bl_cell hb' (p := ⟨w.heap.size, 6, none⟩) (v := .slice B pl.length d) (by first | (go_simp; done) | exact bl_cell (by repeat (with_reducible first | apply bl_alloc | apply bl_drew | exact Below.refl _ _)) (by assumption)); have hb1 := Kp.mk hb'; clear hb'; simp only [errI, Bool.false_eq_true, if_true, if_false]) | (go_at_call 27; (with_reducible refine (HP _ _ _ ?h0 ?h1 ?h2 ?h3).out.mono ?_); (case h0 => go_simp); (case h1 => go_simp); (case h2 => go_simp); (case h3 => go_simp); rintro e w2 ⟨rfl, hb'⟩; have c0 := bl_cell hb' (p := ⟨w.heap.size + 1, 0, none⟩) (v := .int .i64 fx) (by first | (go_simp; done) | exact bl_cell (by repeat (with_reducible first | apply bl_alloc | apply bl_drew | exact Below.refl _ _)) (by assumption)); have c1 := bl_cell hb' (p := ⟨w.heap.size + 1, 1, none⟩) (v := .int .i64 fy) (by first | (go_simp; done) | exact bl_cell (by repeat (with_reducible first | apply bl_alloc | apply bl_drew | exact Below.refl _ _)) (by assumption)); have d0 := bl_cell hb' (p := ⟨w.heap.size + 1 + 1, 0, none⟩) (v := .int .i64 tx) (by first | (go_simp; done) | exact bl_cell (by repeat (with_reducible first | apply bl_alloc | apply bl_drew | exact Below.refl _ _)) (by assumption)); have d1 := bl_cell hb' (p := ⟨w.heap.size + 1 + 1, 1, none⟩) (v := .int .i64 ty) (by first | (go_simp; done) | exact bl_cell (by repeat (with_reducible first | apply bl_alloc | apply bl_drew | exact Below.refl _ _)) (by assumption)); have iq0 := bl_cell hb' (p := ⟨w.heap.size, 0, none⟩) (v := .int .i64 cx) (by first | (go_simp; done) | exact bl_cell (by repeat (with_reducible first | apply bl_alloc | apply bl_drew | exact Below.refl _ _)) (by assumption)); have iq1 := bl_cell hb' (p := ⟨w.heap.size, 1, none⟩) (v := .int .i64 cy) (by first | (go_simp; done) | exact bl_cell (by repeat (with_reducible first | apply bl_alloc | apply bl_drew | exact Below.refl _ _)) (by assumption)); have iq2 := bl_cell hb' (p := ⟨w.heap.size, 2, none⟩) (v := .int .i64 sd) (by first | (go_simp; done) | exact bl_cell (by repeat (with_reducible first | apply bl_alloc | apply bl_drew | exact Below.refl _ _)) (by assumption)); have iq3 := bl_cell hb' (p := ⟨w.heap.size, 3, none⟩) (v := .int .i64 wd) (by first | (go_simp; done) | exact bl_cell (by repeat (with_reducible first | apply bl_alloc | apply bl_drew | exact Below.refl _ _)) (by assumption)); have iq4 := bl_cell hb' (p := ⟨w.heap.size, 4, none⟩) (v := .int .i64 ht) (by first | (go_simp; done) | exact bl_cell (by repeat (with_reducible first | apply bl_alloc | apply bl_drew | exact Below.refl _ _)) (by assumption)); have iq5 := bl_cell hb' (p := ⟨w.heap.size, 5, none⟩) (v := .slice A pb.length c) (by first | (go_simp; done) | exact bl_cell (by repeat (with_reducible first | apply bl_alloc | apply bl_drew | exact Below.refl _ _)) (by assumption)); have iq6 := bl_cell hb' (p := ⟨w.heap.size, 6, none⟩) (v := .slice B pl.length d) (by first | (go_simp; done) | exact bl_cell (by repeat (with_reducible first | apply bl_alloc | apply bl_drew | exact Below.refl _ _)) (by assumption)); have hb2 := Kp.mk hb'; clear hb') | (go_at_call 29; (with_reducible refine (HT _).out.mono ?_); rintro e w3 ⟨rfl, rfl⟩; have hb3 := HTB w2) | (go_at_call 28; (with_reducible refine (HS' _).out.mono ?_); rintro e w4 ⟨v, rfl, hown, hnil, hb'⟩; have HO := Kp.mk hown; have hb4 := Kp.mk hb'; clear hown hnil hb'))
    have HB2 : Kp (Below w.heap.size w w2) := ⟨(by repeat (with_reducible first | exact Below.refl _ _ | apply bl_drew | apply bl_drewN | (refine bl_then ?_ hb1.out) | (refine bl_then ?_ hb2.out) | (refine bl_then ?_ hb3.out) | (refine bl_then ?_ hb4.out) | (refine bl_then ?_ hb5.out) | (refine bl_then ?_ hb6.out) | (refine bl_then ?_ hb7.out) | (refine bl_then ?_ hb8.out) | (refine bl_then ?_ hb9.out) | apply bl_alloc | (refine bl_set ?_ (by go_simp))))⟩
    have HW3 := bl_then HB2.out hb3.out
    go_ret2
    exact ⟨v, rfl, own_down HO.out HW3.size, bl_then HW3 hb4.out⟩
end Go.Proofs.Ytibaapaglocpjaa.B

end
