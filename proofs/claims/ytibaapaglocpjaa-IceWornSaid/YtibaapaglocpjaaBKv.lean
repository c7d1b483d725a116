import Derived.Test.YtibaapaglocpjaaBKu
/- Proved here: lemmas for the laws' proofs (the texts Kv). No condition. -/
section
set_option linter.unusedSimpArgs false
set_option linter.unusedVariables false
namespace Go.Proofs.Ytibaapaglocpjaa.B
open Go.RowKit Go.Shelf Go.Proofs.YtibaapaglocpjaaW.PrintWords
attribute [local go_sem] Oper.semAt_some
theorem roundIn_any {n m l l' : Nat} {f : FuncId} {tmps : Array Value} {assign body : Code} {w : World} {R : Ending → World → Prop} (h : RoundIn Fence.wide n Try.prog l f tmps assign body w R) : RoundIn (Fence.wide.inRound l') m Try.prog l f tmps assign body w R := ⟨h.1, fun c cs _ => h.2 c cs (room_wide _)⟩
theorem all_any (cx cy sd wd ht : Int) (A : Option Addr) (c : Nat) (pb : List Int) (B : Option Addr) (d : Nat) (pl : List Int) (w : World) :
    Calls Try.prog 43 #[.agg #[.int .i64 cx, .int .i64 cy, .int .i64 sd, .int .i64 wd, .int .i64 ht, .slice A pb.length c, .slice B pl.length d]] w fun e w' => e = .returned (.func (.func 74) #[] #[.pointer (some ⟨w.heap.size, 0, none⟩)]) ∧ w' = w.alloc (.cells #[.int .i64 cx, .int .i64 cy, .int .i64 sd, .int .i64 wd, .int .i64 ht, .slice A pb.length c, .slice B pl.length d] 27) := by
  have hm := hmf
  go_enter Try.func43, Try.ntmps43
  go_wp2
  go_ret
  exact ⟨rfl, rfl⟩
theorem all_seqB (cx cy sd wd ht : Int) (A : Option Addr) (c : Nat) (pb : List Int) (B : Option Addr) (d : Nat) (pl : List Int) (n₀ : Nat) (w : World) (hw : 1 ≤ wd ∧ wd ≤ 256) (hh : 1 ≤ ht ∧ ht ≤ 256) : SeqB n₀ 74 #[.pointer (some ⟨w.heap.size, 0, none⟩)] (fromTo 0 (wd * ht - 1)) (w.alloc (.cells #[.int .i64 cx, .int .i64 cy, .int .i64 sd, .int .i64 wd, .int .i64 ht, .slice A pb.length c, .slice B pl.length d] 27)) :=
  all1_seqB w.heap.size n₀ wd ht _ hw hh (by go_simp) (by go_simp)
set_option maxRecDepth 100000 in
theorem inside_any (cx cy sd wd ht : Int) (A : Option Addr) (c : Nat) (pb : List Int) (B : Option Addr) (d : Nat) (pl : List Int) (lx ly hx hy : Int) (w : World) :
    Calls Try.prog 46 #[.agg #[.int .i64 cx, .int .i64 cy, .int .i64 sd, .int .i64 wd, .int .i64 ht, .slice A pb.length c, .slice B pl.length d], .agg #[.int .i64 lx, .int .i64 ly], .agg #[.int .i64 hx, .int .i64 hy]] w fun e w' => e = .returned (.func (.func 75) #[] #[.pointer (some ⟨w.heap.size, 0, none⟩), .pointer (some ⟨w.heap.size + 1, 0, none⟩), .pointer (some ⟨w.heap.size + 1 + 1, 0, none⟩)]) ∧ w' = touchedW cx cy sd wd ht A c pb B d pl lx ly hx hy w := by
  have hm := hmf
  go_enter Try.func46, Try.ntmps46
  go_wp2
  go_ret
  exact ⟨rfl, rfl⟩
structure BoxHyp (cx cy sd wd ht : Int) : Prop where
  hcx : -6553600000 ≤ cx ∧ cx ≤ 6553600000
  hcy : -6553600000 ≤ cy ∧ cy ≤ 6553600000
  hs : 1 ≤ sd ∧ sd ≤ 6553600000
  hw : 1 ≤ wd ∧ wd ≤ 256
  hh : 1 ≤ ht ∧ ht ≤ 256
theorem IceOk.box {cx cy sd wd ht : Int} {pb pl : List Int} (h : IceOk cx cy sd wd ht pb pl) : BoxHyp cx cy sd wd ht := ⟨⟨h.cx0, h.cx1⟩, ⟨h.cy0, h.cy1⟩, ⟨h.s0, h.s1⟩, ⟨h.w0, h.w1⟩, ⟨h.h0, h.h1⟩⟩
theorem ka_cell {B : Nat} {X Y : World} {p : Addr} {v : Value} (h : KA B X Y) (hp : B ≤ p.block) (hc : X.cell? p = some v) : Y.cell? p = some v := by
  have hlt := World.block_lt_of_cell? X p hc
  unfold World.cell? at hc ⊢
  rw [h.same _ hp hlt]
  exact hc
theorem filter_pre {p : Int → Bool} {pre M : List Int} {x : Int} (h : pre ++ [x] <+: M) (hp : p x = true) : pre.filter p ++ [x] <+: M.filter p := by
  have := h.filter p
  rwa [List.filter_append, show List.filter p [x] = [x] by simp [hp]] at this
theorem filter_no {p : Int → Bool} {pre : List Int} {x : Int} (hp : p x = false) : (pre ++ [x]).filter p = pre.filter p := by rw [List.filter_append, show List.filter p [x] = [] by simp [hp], List.append_nil]
theorem filter_yes {p : Int → Bool} {pre : List Int} {x : Int} (hp : p x = true) : (pre ++ [x]).filter p = pre.filter p ++ [x] := by rw [List.filter_append, show List.filter p [x] = [x] by simp [hp]]
def InsI (J : List Int → World → Prop) (p : Int → Bool) (bi bl bh : Nat) (cx cy sd wd ht : Int) (A : Option Addr) (c : Nat) (pb : List Int) (B : Option Addr) (d : Nat) (pl : List Int) (lx ly hx hy : Int) (b l : Nat) (pre : List Int) (X : World) : Prop :=
  J (pre.filter p) X ∧ IB bi bl bh cx cy sd wd ht A c pb B d pl lx ly hx hy X ∧ X.cell? ⟨b, 0, none⟩ = some (.func (.yield l) #[] #[])
def InsX (Jx : List Int → World → Prop) (p : Int → Bool) (c : Code) (pre : List Int) (X : World) : Prop := c = .ret ∧ Jx (pre.filter p) X
theorem inside_seq (cx cy sd wd ht : Int) (A : Option Addr) (c : Nat) (pb : List Int) (B : Option Addr) (d : Nat) (pl : List Int) (n₀ l : Nat) (W w2 : World) (H : BoxHyp cx cy sd wd ht) (hw2 : w2 = (W.alloc (.cells #[.func (.yield l) #[] #[]] 83)).alloc (.cells #[.int .i64 cx, .int .i64 cy, .int .i64 sd, .int .i64 wd, .int .i64 ht, .slice A pb.length c, .slice B pl.length d] 27)) :
    SeqB n₀ 74 #[.pointer (some ⟨W.heap.size + 1, 0, none⟩)] (fromTo 0 (wd * ht - 1)) w2 := by
  rw [hw2]
  have := all_seqB cx cy sd wd ht A c pb B d pl n₀ (W.alloc (.cells #[.func (.yield l) #[] #[]] 83)) H.hw H.hh
  simpa using this
set_option maxRecDepth 100000 in
set_option maxHeartbeats 4000000 in
theorem inside1_seqB (n₀ bi bl bh : Nat) (cx cy sd wd ht : Int) (A : Option Addr) (c : Nat) (pb : List Int) (B : Option Addr) (d : Nat) (pl : List Int) (lx ly hx hy : Int) (w : World) (H : BoxHyp cx cy sd wd ht) (hI : IB bi bl bh cx cy sd wd ht A c pb B d pl lx ly hx hy w) (h1 : bi < n₀) (h2 : bl < n₀) (h3 : bh < n₀) (hn0 : n₀ ≤ w.heap.size) :
    SeqB n₀ 75 #[.pointer (some ⟨bi, 0, none⟩), .pointer (some ⟨bl, 0, none⟩), .pointer (some ⟨bh, 0, none⟩)] (boxL cx cy sd wd ht lx ly hx hy) w := by
  intro n hn l J Jx W hW hJ hJx hY h0
  have hIW := hI.up hW
  have HY := Kp.mk hY
  have HJ := Kp.mk hJ
  have HJx := Kp.mk hJx
  have H0 := Kp.mk h0
  have HN : Kp (n₀ ≤ W.heap.size ∧ bi < n₀ ∧ bl < n₀ ∧ bh < n₀) := ⟨Nat.le_trans hn0 hW.size, h1, h2, h3⟩
  have HH := Kp.mk H
  have HIB0 := Kp.mk hIW
  clear hY hJ hJx h0 hI hW H h1 h2 h3 hn0
  have HAl := fun W => Kp.mk ((callsIn_wide (n := 4)).2 (all_any cx cy sd wd ht A c pb B d pl W))
  refine callsIn_wide.2 (callsIn_wide (n := 5).1 ?_)
  refine callsIn_of_wp_marks Try.func75 rfl trivial ?_ rfl
  simp only [Try.ntmps75, List.size_toArray, List.length_cons, List.length_nil, Nat.reduceAdd, Nat.reduceSub, Array.replicate_succ, Array.replicate_zero, List.push_toArray, List.append_toArray, List.nil_append, List.cons_append]
  obtain ⟨i0, i1, i2, i3, i4, i5, i6, f0, f1, t0, t1⟩ := hIW
  have hl1 := World.block_lt_of_cell? W _ i0
  gi_wp2_with (refine ⟨trivial, ?_⟩; gi_at_call 43; (with_reducible refine (HAl _).out.mono ?_); rintro e w2 ⟨rfl, hw2⟩; have HSq := Kp.mk (inside_seq cx cy sd wd ht A c pb B d pl n₀ l W w2 HH.out hw2); have HB2 : Kp (Below W.heap.size W w2) := ⟨by rw [hw2]; exact bl_alloc (bl_alloc (Below.refl _ _) _) _⟩; have hs2 : w2.heap.size = W.heap.size + 2 := (by rw [hw2]; simp); have HS2 := Kp.mk hs2; have hy2 : w2.cell? ⟨W.heap.size, 0, none⟩ = some (.func (.yield l) #[] #[]) := (by rw [hw2]; go_simp); have HY2 := Kp.mk hy2; clear hw2 hs2 hy2)
  have hs2 := HS2.out
  have hy2 := HY2.out
  clear i0 i1 i2 i3 i4 i5 i6 f0 f1 t0 t1 hl1
  refine wpIn_rangeB (n := 5) (w0 := w2) (n₀ := n₀) (by omega) (gf := 74) (lb := #[.pointer (some ⟨W.heap.size + 1, 0, none⟩)]) rfl (enters_of Try.func74 (by kernel_rfl) rfl) HSq.out (Below.refl _ _) (by have := HN.out; omega) rfl
    (InsI J (inBox cx cy sd wd lx ly hx hy) bi bl bh cx cy sd wd ht A c pb B d pl lx ly hx hy W.heap.size l)
    (InsX Jx (inBox cx cy sd wd lx ly hx hy))
    (fun s X Y hj hb => ⟨HJ.out _ _ _ hj.1 (hb.mono (by omega)), hj.2.1.below (hb.mono (by have := HN.out; omega)) HN.out.2.1 HN.out.2.2.1 HN.out.2.2.2, (hb.cell (p := ⟨W.heap.size, 0, none⟩) (by simp only []; omega)).trans hj.2.2⟩)
    (fun _ s X Y hj hb => ⟨hj.1, HJx.out _ _ _ hj.2 (hb.mono (by omega))⟩)
    ⟨HJ.out _ _ _ H0.out HB2.out, HIB0.out.up HB2.out, hy2⟩
    (fun x => { tmps := #[.func (.yield l) #[] #[], .pointer (some ⟨bi, 0, none⟩), .pointer (some ⟨bl, 0, none⟩), .pointer (some ⟨bh, 0, none⟩), .pointer (some ⟨W.heap.size, 0, none⟩), .int .i64 x, undef, undef, .agg #[.int .i64 cx, .int .i64 cy, .int .i64 sd, .int .i64 wd, .int .i64 ht, .slice A pb.length c, .slice B pl.length d], .func (.func 74) #[] #[.pointer (some ⟨W.heap.size + 1, 0, none⟩)], .int .i64 x, undef, undef, undef, undef, undef, undef, undef, undef, undef, undef, undef, undef, undef, undef, undef, undef, undef, undef, undef, undef, undef, undef, undef, undef, undef, undef, undef, undef, undef, undef, undef, undef, undef, undef, undef, undef, undef, undef, undef, undef], defers := [] }) ?assign ?body ?done ?stop
  case assign =>
    intro l' x X K hK
    gi_wp2
    exact hK
  case body =>
    rintro l' pre x X hpx ⟨hJp, hIB, hyc⟩ hszX
    have hxb := mem_fromTo.1 (hpx.subset (show x ∈ pre ++ [x] by simp))
    have hM := (mul_bd (by have := HH.out.hw; omega) HH.out.hw.2 (by have := HH.out.hh; omega) HH.out.hh.2 : 0 ≤ wd * ht ∧ wd * ht ≤ 256 * 256)
    have HCo := fun n' W' => Kp.mk (CallsIn.inRound l' ((callsIn_wide (n := n')).2 (corners_any cx cy sd wd ht A c pb B d pl x W' HH.out.hcx HH.out.hcy HH.out.hs HH.out.hw ⟨hxb.1, by omega⟩)))
    have hin : Kp (inBox cx cy sd wd lx ly hx hy x = (decide (lx ≤ cx + x % wd * sd) && (decide (ly ≤ cy + x / wd * sd) && (decide (cx + x % wd * sd + sd ≤ hx) && decide (cy + x / wd * sd + sd ≤ hy))))) := ⟨rfl⟩
    have HSW : Kp (W.heap.size ≤ X.heap.size) := ⟨by omega⟩
    have HS2' : Kp (w2.heap.size = W.heap.size + 2) := ⟨hs2⟩
    clear hM hxb
    have HJp := Kp.mk hJp
    have HIB := Kp.mk hIB
    have HPx := Kp.mk hpx
    have HSX := Kp.mk hszX
    clear hJp hpx hszX HSq HB2 HS2 HY2 HAl hs2 hy2
    generalize cx + x % wd * sd = u at *
    generalize cy + x / wd * sd = v at *
    generalize u + sd = u2 at *
    generalize v + sd = v2 at *
    obtain ⟨i0, i1, i2, i3, i4, i5, i6, f0, f1, t0, t1⟩ := hIB
    by_cases c1 : lx ≤ u
    · by_cases c2 : ly ≤ v
      · by_cases c3 : u2 ≤ hx
        · by_cases c4 : v2 ≤ hy
          ·
            have hyes : inBox cx cy sd wd lx ly hx hy x = true := by rw [hin.out]; simp [*]
            have HYes := Kp.mk hyes
            clear hyes
            gi_wp2_with (refine ⟨trivial, ?_⟩; gi_at_call 76; (with_reducible refine (HCo _ _).out.mono ?_); rintro e w3 ⟨rfl, hb3⟩; have HI3 := HIB.out.up hb3; clear i0 i1 i2 i3 i4 i5 i6 f0 f1 t0 t1; obtain ⟨i0, i1, i2, i3, i4, i5, i6, f0, f1, t0, t1⟩ := HI3; have hyc := bl_cell hb3 hyc; have hl1 := World.block_lt_of_cell? w3 _ i0; have hl2 := World.block_lt_of_cell? w3 _ f0; have hl3 := World.block_lt_of_cell? w3 _ t0; have hl4 := World.block_lt_of_cell? w3 _ hyc; have HI3 : Kp (IB bi bl bh cx cy sd wd ht A c pb B d pl lx ly hx hy w3) := ⟨⟨i0, i1, i2, i3, i4, i5, i6, f0, f1, t0, t1⟩⟩; have HB3 := Kp.mk hb3; clear hb3; obtain ⟨fn, tmps, assign, body, hy, hR⟩ := HY.out (pre.filter (inBox cx cy sd wd lx ly hx hy)) x (w3.alloc (.cells #[.int .i64 u, .int .i64 v, .int .i64 u2, .int .i64 v, .int .i64 u, .int .i64 v2, .int .i64 u2, .int .i64 v2] 109)) (filter_pre HPx.out HYes.out) (HJ.out _ _ _ HJp.out ((bl_alloc HB3.out _ : Below X.heap.size X (w3.alloc (.cells #[.int .i64 u, .int .i64 v, .int .i64 u2, .int .i64 v, .int .i64 u, .int .i64 v2, .int .i64 u2, .int .i64 v2] 109))).mono HSW.out)) (Nat.le_trans HSW.out (bl_alloc HB3.out _ : Below X.heap.size X (w3.alloc (.cells #[.int .i64 u, .int .i64 v, .int .i64 u2, .int .i64 v, .int .i64 u, .int .i64 v2, .int .i64 u2, .int .i64 v2] 109))).size))
            have hE : Below X.heap.size X (w3.alloc (.cells #[.int .i64 u, .int .i64 v, .int .i64 u2, .int .i64 v, .int .i64 u, .int .i64 v2, .int .i64 u2, .int .i64 v2] 109)) := bl_alloc HB3.out _
            refine (roundIn_any hR).mono ?_
            have HE := Kp.mk hE
            clear hE hR hy
            rintro e Y (⟨rfl, hJ4, hb4, hk4⟩ | ⟨rfl, hJx4, hk4⟩)
            · have HK4 := Kp.mk hk4
              have HB4 := Kp.mk hb4
              have HJ4 := Kp.mk hJ4
              clear hk4 hb4 hJ4
              gi_wp2
              refine ⟨(KA.of_below HE.out (Nat.le_refl _)).trans (HK4.out.mono (by have := HS2'.out; omega)), (HE.out.mono (by have := HN.out; have := HSW.out; omega)).trans HB4.out, ?_, (HI3.out.up (bl_alloc (Below.refl _ _) _)).below HB4.out HN.out.2.1 HN.out.2.2.1 HN.out.2.2.2, ka_cell HK4.out (Nat.le_refl _) (bl_cell (bl_alloc (Below.refl _ _) _) hyc)⟩
              rw [filter_yes HYes.out]
              exact HJ4.out
            · have HK4 := Kp.mk hk4
              have HJ4 := Kp.mk hJx4
              clear hk4 hJx4
              gi_wp2
              refine ⟨(KA.of_below HE.out (Nat.le_refl _)).trans (HK4.out.mono (by have := HS2'.out; omega)), rfl, ?_⟩
              rw [filter_yes HYes.out]
              exact HJ4.out
          ·
            have hno : inBox cx cy sd wd lx ly hx hy x = false := by rw [hin.out]; simp [*]
            have HNo := Kp.mk hno
            clear hno
            gi_wp2_with (refine ⟨trivial, ?_⟩; gi_at_call 76; (with_reducible refine (HCo _ _).out.mono ?_); rintro e w3 ⟨rfl, hb3⟩; have HI3 := HIB.out.up hb3; clear i0 i1 i2 i3 i4 i5 i6 f0 f1 t0 t1; obtain ⟨i0, i1, i2, i3, i4, i5, i6, f0, f1, t0, t1⟩ := HI3; have hyc := bl_cell hb3 hyc; have hl1 := World.block_lt_of_cell? w3 _ i0; have hl2 := World.block_lt_of_cell? w3 _ f0; have hl3 := World.block_lt_of_cell? w3 _ t0; have hl4 := World.block_lt_of_cell? w3 _ hyc; have HI3 : Kp (IB bi bl bh cx cy sd wd ht A c pb B d pl lx ly hx hy w3) := ⟨⟨i0, i1, i2, i3, i4, i5, i6, f0, f1, t0, t1⟩⟩; have HB3 := Kp.mk hb3; clear hb3)
            refine ⟨fun _ h => (by cases h), ?_⟩
            gi_wp2
            have hE : Below X.heap.size X (w3.alloc (.cells #[.int .i64 u, .int .i64 v, .int .i64 u2, .int .i64 v, .int .i64 u, .int .i64 v2, .int .i64 u2, .int .i64 v2] 109)) := bl_alloc HB3.out _
            refine ⟨KA.of_below hE (Nat.le_refl _), hE.mono (by have := HN.out; have := HSW.out; omega), ?_, HI3.out.up (bl_alloc (Below.refl _ _) _), bl_cell (bl_alloc (Below.refl _ _) _) hyc⟩
            rw [filter_no HNo.out]
            exact HJ.out _ _ _ HJp.out (hE.mono HSW.out)
        ·
          have hno : inBox cx cy sd wd lx ly hx hy x = false := by rw [hin.out]; simp [*]
          have HNo := Kp.mk hno
          clear hno
          gi_wp2_with (refine ⟨trivial, ?_⟩; gi_at_call 76; (with_reducible refine (HCo _ _).out.mono ?_); rintro e w3 ⟨rfl, hb3⟩; have HI3 := HIB.out.up hb3; clear i0 i1 i2 i3 i4 i5 i6 f0 f1 t0 t1; obtain ⟨i0, i1, i2, i3, i4, i5, i6, f0, f1, t0, t1⟩ := HI3; have hyc := bl_cell hb3 hyc; have hl1 := World.block_lt_of_cell? w3 _ i0; have hl2 := World.block_lt_of_cell? w3 _ f0; have hl3 := World.block_lt_of_cell? w3 _ t0; have hl4 := World.block_lt_of_cell? w3 _ hyc; have HI3 : Kp (IB bi bl bh cx cy sd wd ht A c pb B d pl lx ly hx hy w3) := ⟨⟨i0, i1, i2, i3, i4, i5, i6, f0, f1, t0, t1⟩⟩; have HB3 := Kp.mk hb3; clear hb3)
          refine ⟨fun _ h => (by cases h), ?_⟩
          gi_wp2
          have hE : Below X.heap.size X (w3.alloc (.cells #[.int .i64 u, .int .i64 v, .int .i64 u2, .int .i64 v, .int .i64 u, .int .i64 v2, .int .i64 u2, .int .i64 v2] 109)) := bl_alloc HB3.out _
          refine ⟨KA.of_below hE (Nat.le_refl _), hE.mono (by have := HN.out; have := HSW.out; omega), ?_, HI3.out.up (bl_alloc (Below.refl _ _) _), bl_cell (bl_alloc (Below.refl _ _) _) hyc⟩
          rw [filter_no HNo.out]
          exact HJ.out _ _ _ HJp.out (hE.mono HSW.out)
      ·
        have hno : inBox cx cy sd wd lx ly hx hy x = false := by rw [hin.out]; simp [*]
        have HNo := Kp.mk hno
        clear hno
        gi_wp2_with (refine ⟨trivial, ?_⟩; gi_at_call 76; (with_reducible refine (HCo _ _).out.mono ?_); rintro e w3 ⟨rfl, hb3⟩; have HI3 := HIB.out.up hb3; clear i0 i1 i2 i3 i4 i5 i6 f0 f1 t0 t1; obtain ⟨i0, i1, i2, i3, i4, i5, i6, f0, f1, t0, t1⟩ := HI3; have hyc := bl_cell hb3 hyc; have hl1 := World.block_lt_of_cell? w3 _ i0; have hl2 := World.block_lt_of_cell? w3 _ f0; have hl3 := World.block_lt_of_cell? w3 _ t0; have hl4 := World.block_lt_of_cell? w3 _ hyc; have HI3 : Kp (IB bi bl bh cx cy sd wd ht A c pb B d pl lx ly hx hy w3) := ⟨⟨i0, i1, i2, i3, i4, i5, i6, f0, f1, t0, t1⟩⟩; have HB3 := Kp.mk hb3; clear hb3)
        refine ⟨fun _ h => (by cases h), ?_⟩
        gi_wp2
        have hE : Below X.heap.size X (w3.alloc (.cells #[.int .i64 u, .int .i64 v, .int .i64 u2, .int .i64 v, .int .i64 u, .int .i64 v2, .int .i64 u2, .int .i64 v2] 109)) := bl_alloc HB3.out _
        refine ⟨KA.of_below hE (Nat.le_refl _), hE.mono (by have := HN.out; have := HSW.out; omega), ?_, HI3.out.up (bl_alloc (Below.refl _ _) _), bl_cell (bl_alloc (Below.refl _ _) _) hyc⟩
        rw [filter_no HNo.out]
        exact HJ.out _ _ _ HJp.out (hE.mono HSW.out)
    ·
      have hno : inBox cx cy sd wd lx ly hx hy x = false := by rw [hin.out]; simp [*]
      have HNo := Kp.mk hno
      clear hno
      gi_wp2_with (refine ⟨trivial, ?_⟩; gi_at_call 76; (with_reducible refine (HCo _ _).out.mono ?_); rintro e w3 ⟨rfl, hb3⟩; have HI3 := HIB.out.up hb3; clear i0 i1 i2 i3 i4 i5 i6 f0 f1 t0 t1; obtain ⟨i0, i1, i2, i3, i4, i5, i6, f0, f1, t0, t1⟩ := HI3; have hyc := bl_cell hb3 hyc; have hl1 := World.block_lt_of_cell? w3 _ i0; have hl2 := World.block_lt_of_cell? w3 _ f0; have hl3 := World.block_lt_of_cell? w3 _ t0; have hl4 := World.block_lt_of_cell? w3 _ hyc; have HI3 : Kp (IB bi bl bh cx cy sd wd ht A c pb B d pl lx ly hx hy w3) := ⟨⟨i0, i1, i2, i3, i4, i5, i6, f0, f1, t0, t1⟩⟩; have HB3 := Kp.mk hb3; clear hb3)
      refine ⟨fun _ h => (by cases h), ?_⟩
      gi_wp2
      have hE : Below X.heap.size X (w3.alloc (.cells #[.int .i64 u, .int .i64 v, .int .i64 u2, .int .i64 v, .int .i64 u, .int .i64 v2, .int .i64 u2, .int .i64 v2] 109)) := bl_alloc HB3.out _
      refine ⟨KA.of_below hE (Nat.le_refl _), hE.mono (by have := HN.out; have := HSW.out; omega), ?_, HI3.out.up (bl_alloc (Below.refl _ _) _), bl_cell (bl_alloc (Below.refl _ _) _) hyc⟩
      rw [filter_no HNo.out]
      exact HJ.out _ _ _ HJp.out (hE.mono HSW.out)
  case done =>
    rintro D X hD ⟨hj, _, _⟩ hK
    have HP : Kp (J (boxL cx cy sd wd ht lx ly hx hy) (X.putObj D (.deferred none))) := ⟨HJ.out _ _ _ hj (below_put X _ (by omega))⟩
    gi_wp2
    refine ⟨by simp, .inl ⟨_, _, rfl, run_takeDeferred hK, ?_⟩⟩
    exact ⟨_, results_none rfl _ _ _, ⟨_, rfl⟩, .inl HP.out⟩
  case stop =>
    rintro D c pre X hD hpre ⟨rfl, hj⟩ hK
    have HP : Kp (∃ q, q <+: boxL cx cy sd wd ht lx ly hx hy ∧ Jx q (X.putObj D (.deferred none))) := ⟨⟨_, hpre.filter _, HJx.out _ _ _ hj (below_put X _ (by omega))⟩⟩
    gi_wp2
    refine ⟨by simp, .inl ⟨_, _, rfl, run_takeDeferred hK, ?_⟩⟩
    exact ⟨_, results_none rfl _ _ _, ⟨_, rfl⟩, .inr HP.out⟩
end Go.Proofs.Ytibaapaglocpjaa.B

end
