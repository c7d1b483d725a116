import Derived.LoopIn
import Derived.LoopNIn
import Derived.Maps.AppendAt
import Derived.OwnWalkIn
import Derived.RangeFuncBound
import Derived.RangeFuncBox
import Derived.RangeFuncCalls
import Derived.RangeFuncLeaves
import Derived.RangeFuncNested
import Derived.Shelf.Abstract
import Derived.Shelf.RegionOpen
import Derived.TacticsInMore
import Derived.Test.YtibaapaglocpjaaBP
import Derived.Test.YtibaapaglocpjaaBJd
/- Proved here: lemmas for the laws' proofs (the texts Je). No condition. -/
section
set_option linter.unusedSimpArgs false
set_option linter.unusedVariables false
namespace Go.Proofs.Ytibaapaglocpjaa.B
open Go.RowKit Go.Shelf Go.Proofs.YtibaapaglocpjaaW.PrintWords
attribute [local go_sem] Oper.semAt_some
structure IB (bi bf bt : Nat) (cx cy sd wd ht : Int) (A : Option Addr) (c : Nat) (pb : List Int) (B : Option Addr) (d : Nat) (pl : List Int) (fx fy tx ty : Int) (W : World) : Prop where
  i0 : W.cell? ⟨bi, 0, none⟩ = some (.int .i64 cx)
  i1 : W.cell? ⟨bi, 1, none⟩ = some (.int .i64 cy)
  i2 : W.cell? ⟨bi, 2, none⟩ = some (.int .i64 sd)
  i3 : W.cell? ⟨bi, 3, none⟩ = some (.int .i64 wd)
  i4 : W.cell? ⟨bi, 4, none⟩ = some (.int .i64 ht)
  i5 : W.cell? ⟨bi, 5, none⟩ = some (.slice A pb.length c)
  i6 : W.cell? ⟨bi, 6, none⟩ = some (.slice B pl.length d)
  f0 : W.cell? ⟨bf, 0, none⟩ = some (.int .i64 fx)
  f1 : W.cell? ⟨bf, 1, none⟩ = some (.int .i64 fy)
  t0 : W.cell? ⟨bt, 0, none⟩ = some (.int .i64 tx)
  t1 : W.cell? ⟨bt, 1, none⟩ = some (.int .i64 ty)
theorem IB.below {n₀ bi bf bt : Nat} {cx cy sd wd ht : Int} {A : Option Addr} {c : Nat} {pb : List Int} {B : Option Addr} {d : Nat} {pl : List Int} {fx fy tx ty : Int} {W W' : World} (h : IB bi bf bt cx cy sd wd ht A c pb B d pl fx fy tx ty W) (hb : Below n₀ W W') (h1 : bi < n₀) (h2 : bf < n₀) (h3 : bt < n₀) : IB bi bf bt cx cy sd wd ht A c pb B d pl fx fy tx ty W' := by
  obtain ⟨i0, i1, i2, i3, i4, i5, i6, f0, f1, t0, t1⟩ := h
  exact ⟨(hb.cell h1).trans i0, (hb.cell h1).trans i1, (hb.cell h1).trans i2, (hb.cell h1).trans i3, (hb.cell h1).trans i4, (hb.cell h1).trans i5, (hb.cell h1).trans i6, (hb.cell h2).trans f0, (hb.cell h2).trans f1, (hb.cell h3).trans t0, (hb.cell h3).trans t1⟩
theorem IB.up {bi bf bt : Nat} {cx cy sd wd ht : Int} {A : Option Addr} {c : Nat} {pb : List Int} {B : Option Addr} {d : Nat} {pl : List Int} {fx fy tx ty : Int} {W W' : World} (h : IB bi bf bt cx cy sd wd ht A c pb B d pl fx fy tx ty W) (hb : Below W.heap.size W W') : IB bi bf bt cx cy sd wd ht A c pb B d pl fx fy tx ty W' := by
  obtain ⟨i0, i1, i2, i3, i4, i5, i6, f0, f1, t0, t1⟩ := h
  exact ⟨bl_cell hb i0, bl_cell hb i1, bl_cell hb i2, bl_cell hb i3, bl_cell hb i4, bl_cell hb i5, bl_cell hb i6, bl_cell hb f0, bl_cell hb f1, bl_cell hb t0, bl_cell hb t1⟩
theorem grown_none {W W' : World} (h : Below W.heap.size W W') : W.grownBy W' none := ⟨h.os, h.tape, h.output, h.size, fun i hi _ => h.block i hi⟩
theorem prefix_of {l pre rest : List Int} {x : Int} (h : l = pre ++ x :: rest) : pre ++ [x] <+: l := ⟨rest, by simp [h]⟩
theorem mem_of {l pre rest : List Int} {x : Int} (h : l = pre ++ x :: rest) : x ∈ l := by rw [h]; simp
theorem length_of {l pre rest : List Int} {x : Int} (h : l = pre ++ x :: rest) : pre.length < l.length := by rw [h]; simp
def SeqEnd (L : List Int) (J Jx : List Int → World → Prop) (e : Ending) (W' : World) : Prop := (∃ v, e = .returned v) ∧ ((∃ ys, ys = L ∧ J ys W') ∨ (∃ pre, pre <+: L ∧ Jx pre W'))
set_option maxRecDepth 100000 in
set_option maxHeartbeats 4000000 in
theorem touched1_in (n l n₀ bi bf bt : Nat) (cx cy sd wd ht : Int) (A : Option Addr) (c : Nat) (pb : List Int) (B : Option Addr) (d : Nat) (pl : List Int) (fx fy tx ty : Int) (hn : 1 ≤ n) (L : List Int) (J Jx : List Int → World → Prop) (W : World)
    (hcx : -6553600000 ≤ cx ∧ cx ≤ 6553600000) (hcy : -6553600000 ≤ cy ∧ cy ≤ 6553600000) (hs : 1 ≤ sd ∧ sd ≤ 6553600000) (hw : 1 ≤ wd ∧ wd ≤ 256) (hh : 1 ≤ ht ∧ ht ≤ 256)
    (hfx : -6553600000 ≤ fx ∧ fx ≤ 6553600000) (hfy : -6553600000 ≤ fy ∧ fy ≤ 6553600000) (htx : -6553600000 ≤ tx ∧ tx ≤ 6553600000) (hty : -6553600000 ≤ ty ∧ ty ≤ 6553600000)
    (hL : touchedL cx cy sd wd ht fx fy tx ty = L)
    (hY : ∀ pre x W, x ∈ L → J pre W → pre.length < L.length → YieldAt Fence.wide (n - 1) Try.prog l #[.int .i64 x] W fun e W' =>
      (e = .returned (.bool true) ∧ J (pre ++ [x]) W' ∧ Below n₀ W W') ∨ (e = .returned (.bool false) ∧ Jx (pre ++ [x]) W'))
    (hJ : AbidesFrom W.heap.size J) (hI : IB bi bf bt cx cy sd wd ht A c pb B d pl fx fy tx ty W) (h1 : bi < n₀) (h2 : bf < n₀) (h3 : bt < n₀) (hn0 : n₀ ≤ W.heap.size) (h0 : J [] W) :
    CallsIn Fence.wide n Try.prog 57 #[.func (.yield l) #[] #[], .pointer (some ⟨bi, 0, none⟩), .pointer (some ⟨bf, 0, none⟩), .pointer (some ⟨bt, 0, none⟩)] W (SeqEnd L J Jx) := by
  have HB1 := fun W => Kp.mk (callsIn_wide (n := n - 1).2 (band_any cx sd wd fx tx W hcx hs hw hfx htx))
  have HB2 := fun W => Kp.mk (callsIn_wide (n := n - 1).2 (band_any cy sd ht fy ty W hcy hs hh hfy hty))
  have HTo := fun (k : Int) (h : 0 ≤ k ∧ k < 256 * wd) W => Kp.mk (callsIn_wide (n := n - 1).2 (touches_any cx cy sd wd ht A c pb B d pl fx fy tx ty k W hcx hcy hs hw h hfx hfy htx hty))
  have HE := Kp.mk (touched_band fx fy tx ty (cx := cx) (cy := cy) ⟨hs.1, hw.1, hh.1⟩)
  rw [hL] at HE
  have g1 := band_in cx sd wd fx tx hw.1
  have g2 := band_in cy sd ht fy ty hh.1
  have HJ := Kp.mk hJ
  have HY := Kp.mk hY
  clear hL hJ hY
  generalize touchB cx cy sd wd fx fy tx ty = t at *
  generalize bandLo cx sd wd fx tx = Wt at *
  generalize bandHi cx sd wd fx tx = E at *
  generalize bandLo cy sd ht fy ty = S at *
  generalize bandHi cy sd ht fy ty = N at *
  obtain ⟨g1, g2'⟩ := g1
  obtain ⟨g3, g4⟩ := g2
  have hI0 := Kp.mk hI
  obtain ⟨i0, i1, i2, i3, i4, i5, i6, f0, f1, t0, t1⟩ := hI
  refine callsIn_of_wp Try.func57 rfl trivial ?_ rfl
  simp only [Try.ntmps57, List.size_toArray, List.length_cons, List.length_nil, Nat.reduceAdd, Nat.reduceSub, Array.replicate_succ, Array.replicate_zero, List.push_toArray, List.append_toArray, List.nil_append, List.cons_append]
  gi_wp2_with (refine ⟨trivial, ?_⟩; gi_at_call 58; first | ((with_reducible refine (HB1 _).out.mono ?_); rintro e w1 ⟨rfl, hb1⟩; have I1 := hI0.out.below (hb1.mono hn0) h1 h2 h3; clear i0 i1 i2 i3 i4 i5 i6 f0 f1 t0 t1; obtain ⟨i0, i1, i2, i3, i4, i5, i6, f0, f1, t0, t1⟩ := I1; have HB := Kp.mk hb1; clear hb1) | ((with_reducible refine (HB2 _).out.mono ?_); rintro e w2 ⟨rfl, hb2⟩; have HBB := Kp.mk (bl_then HB.out hb2); clear hb2))
  have HI2 : Kp (IB bi bf bt cx cy sd wd ht A c pb B d pl fx fy tx ty w2) := ⟨hI0.out.below (HBB.out.mono hn0) h1 h2 h3⟩
  have HJ2 : Kp (J [] w2) := ⟨HJ.out [] W w2 none h0 (grown_none HBB.out) (fun r e => by cases e)⟩
  have HJA : Kp (∀ pre A B, J pre A → Below A.heap.size A B → J pre B) := ⟨fun pre A B h hb => HJ.out pre A B none h (grown_none hb) (fun r e => by cases e)⟩
  have HL0 : Kp (L = [] ++ bandRest t wd Wt E N S) := ⟨HE.out.symm⟩
  have HG : Kp ((0 ≤ Wt ∧ E < wd) ∧ (0 ≤ S ∧ N < ht) ∧ (1 ≤ wd ∧ wd ≤ 256) ∧ (1 ≤ ht ∧ ht ≤ 256)) := ⟨⟨⟨g1, g2'⟩, ⟨g3, g4⟩, hw, hh⟩⟩
  have HN3 : Kp (bi < n₀ ∧ bf < n₀ ∧ bt < n₀) := ⟨⟨h1, h2, h3⟩⟩
  clear i0 i1 i2 i3 i4 i5 i6 f0 f1 t0 t1 HJ HE HB HBB hI0 HB1 HB2 h0 g1 g2' g3 g4 hcx hcy hs hw hh hfx hfy htx hty h1 h2 h3
  gi_loopw [9] (fun y wr => ∃ (Y : Int) (pre : List Int), y = .int .i64 Y ∧ Kp (S ≤ Y ∧ (Y ≤ N + 1 ∨ Y = S)) ∧ Kp (L = pre ++ bandRest t wd Wt E N Y) ∧ Kp (J pre wr) ∧ Kp (IB bi bf bt cx cy sd wd ht A c pb B d pl fx fy tx ty wr)) (fun y _ => (N + 1 - intOf y).toNat)
  case atStart => exact ⟨S, [], rfl, ⟨Int.le_refl _, .inr rfl⟩, HL0, HJ2, HI2⟩
  case round =>
    clear HL0 HJ2 HI2
    obtain ⟨Y, pre, rfl, HYb, HL, HJp, HI⟩ := hrel
    by_cases hY : Y ≤ N
    · have y0 : 0 ≤ Y := by have := HYb.out; have := HG.out; omega
      have y1 : Y ≤ 255 := by have := HG.out; omega
      have HY0 := Kp.mk hY
      have HL' : Kp (L = pre ++ cellRest t wd Wt E N Y Wt) := ⟨by rw [← bandRest_go hY]; exact HL.out⟩
      clear HL
      gi_wp2
      obtain ⟨wo, rfl⟩ : ∃ wo : World, wo = wr := ⟨_, rfl⟩
      gi_loopw [10] (fun x wr => ∃ (X : Int) (pre : List Int), x = .int .i64 X ∧ Kp (Wt ≤ X ∧ (X ≤ E + 1 ∨ X = Wt)) ∧ Kp (L = pre ++ cellRest t wd Wt E N Y X) ∧ Kp (J pre wr) ∧ Kp (IB bi bf bt cx cy sd wd ht A c pb B d pl fx fy tx ty wr)) (fun x _ => (E + 1 - intOf x).toNat)
      case atStart => exact ⟨Wt, pre, rfl, ⟨Int.le_refl _, .inr rfl⟩, HL', HJp, HI⟩
      case round =>
        clear HL' HJp HI
        obtain ⟨X, pre, rfl, HXb, HL, HJp, HI⟩ := hrel
        by_cases hX : X ≤ E
        · have x0 : 0 ≤ X := by have := HXb.out; have := HG.out; omega
          have x1 : X ≤ 255 := by have := HG.out; omega
          have m01 : 0 ≤ Y * wd ∧ Y * wd ≤ 255 * wd := by
            have := HG.out
            exact ⟨Int.mul_nonneg y0 (by omega), Int.mul_le_mul_of_nonneg_right y1 (by omega)⟩
          obtain ⟨m, hm⟩ : ∃ m, m = Y * wd := ⟨_, rfl⟩
          rw [← hm] at m01
          have hb : 0 ≤ m + X ∧ m + X < 256 * wd := by have := HG.out; omega
          have mw : m ≤ 65280 := by have := HG.out; omega
          have hw1 : wrap64 (Y * wd) = m := by rw [← hm]; unfold wrap64; omega
          have HT := fun W => Kp.mk (HTo (m + X) hb W).out
          have HX0 := Kp.mk hX
          have HMm := Kp.mk hm
          obtain ⟨m0, m1⟩ := m01
          clear hb m1 hm HTo
          obtain ⟨i0, i1, i2, i3, i4, i5, i6, f0, f1, t0, t1⟩ := HI.out
          have HL1 : Kp (t (m + X) = false → L = pre ++ cellRest t wd Wt E N Y (X + 1)) := ⟨fun h => by rw [HL.out, cellRest_no hX (by rw [← HMm.out]; exact h)]⟩
          have HL2 : Kp (t (m + X) = true → L = pre ++ (m + X) :: cellRest t wd Wt E N Y (X + 1)) := ⟨fun h => by rw [HL.out, cellRest_yes hX (by rw [← HMm.out]; exact h), ← HMm.out]⟩
          clear HL
          cases hB : t (m + X) with
          | false =>
            have HL := Kp.mk (HL1.out hB)
            rw [hB] at HT
            clear HL1 HL2 hB
            gi_wp2_with (refine ⟨trivial, ?_⟩; gi_at_call 59; (with_reducible refine (HT _).out.mono ?_); rintro e w3 ⟨rfl, hb3⟩; have HI3 := Kp.mk (HI.out.up hb3); have HJ3 := Kp.mk (HJA.out pre _ _ HJp.out hb3); clear hb3)
            refine ⟨fun _ h => (by cases h), ?_⟩
            gi_wp2
            go_roundw
            case measure => have := HX0.out; simp [intOf]; omega
            case rel => exact ⟨X + 1, pre, rfl, ⟨by have := HXb.out; omega, .inl (by have := HX0.out; omega)⟩, HL, HJ3, HI3⟩
          | true =>
            have HL := Kp.mk (HL2.out hB)
            rw [hB] at HT
            clear HL1 HL2 hB
            gi_wp2_with (refine ⟨trivial, ?_⟩; gi_at_call 59; (with_reducible refine (HT _).out.mono ?_); rintro e w3 ⟨rfl, hb3⟩; have HI3 := Kp.mk (HI.out.up hb3); have HJ3 := Kp.mk (HJA.out pre _ _ HJp.out hb3); obtain ⟨fn, tmps, assign, body, hy, hR⟩ := HY.out pre (m + X) _ (mem_of HL.out) HJ3.out (length_of HL.out); clear hb3)
            refine hR.mono ?_
            rintro e w4 (⟨rfl, hJ4, hk4⟩ | ⟨rfl, hJx4⟩)
            · have HI4 := Kp.mk (HI3.out.below hk4 HN3.out.1 HN3.out.2.1 HN3.out.2.2)
              have HJ4 := Kp.mk hJ4
              have HL' : Kp (L = (pre ++ [m + X]) ++ cellRest t wd Wt E N Y (X + 1)) := ⟨by rw [HL.out]; simp⟩
              clear hk4 hJ4
              gi_wp2
              go_roundw
              case measure => have := HX0.out; simp [intOf]; omega
              case rel => exact ⟨X + 1, pre ++ [m + X], rfl, ⟨by have := HXb.out; omega, .inl (by have := HX0.out; omega)⟩, HL', HJ4, HI4⟩
            · have HX' : Kp (SeqEnd L J Jx (.returned (.tuple #[])) w4) := ⟨⟨⟨_, rfl⟩, .inr ⟨pre ++ [m + X], prefix_of HL.out, hJx4⟩⟩⟩
              gi_wp2
              refine bodyPost_ret (results_none rfl _ _ _) rfl ?_
              exact HX'.out
        · have HL' : Kp (L = pre ++ bandRest t wd Wt E N (Y + 1)) := ⟨by rw [← cellRest_none (X := X) (by omega)]; exact HL.out⟩
          gi_wp2
          go_roundw
          case measure => have := HY0.out; simp [intOf]; omega
          case rel => exact ⟨Y + 1, pre, rfl, ⟨by have := HYb.out; omega, .inl (by have := HY0.out; omega)⟩, HL', HJp, HI⟩
    · have HLe : Kp (pre = L) := ⟨by have h := HL.out; rw [bandRest_none (by omega), List.append_nil] at h; exact h.symm⟩
      gi_wp2
      go_end0
      exact ⟨⟨_, rfl⟩, .inl ⟨pre, HLe.out, HJp.out⟩⟩
end Go.Proofs.Ytibaapaglocpjaa.B

end
