import Derived.Test.YtibaapaglocpjaaBLd
import Derived.Test.YtibaapaglocpjaaBKc
import Derived.Test.YtibaapaglocpjaaBKd
import Derived.Test.YtibaapaglocpjaaBPi
/- Proved here: lemmas for the laws' proofs (the texts Lg). No condition. -/
section
set_option linter.unusedSimpArgs false
set_option linter.unusedVariables false
namespace Go.Proofs.Ytibaapaglocpjaa.B
open Go.RowKit Go.Shelf Go.Proofs.YtibaapaglocpjaaW.PrintWords Go.Proofs.Ytibaapaglocpjaa.Q
def IceRdV (cx cy sd wd ht : Int) (p q : List Int) (er : Int) (w : World) (e : Ending) (w' : World) : Prop :=
  ∃ (R1 : Option Addr) (c1 : Nat) (R2 : Option Addr) (c2 : Nat), e = .returned (.tuple #[.agg #[.int .i64 cx, .int .i64 cy, .int .i64 sd, .int .i64 wd, .int .i64 ht, .slice R1 p.length c1, .slice R2 q.length c2], .int .i64 er]) ∧
    (ReadsInt w' .i64 R1 p.length p ∧ p.length ≤ c1) ∧ (ReadsInt w' .i64 R2 q.length q ∧ q.length ≤ c2) ∧ Below w.heap.size w w'
theorem IceOut.v {r : IceR} {cx cy sd wd ht : Int} {p q : List Int} {er : Int} {w : World} {e : Ending} {w' : World} (hr : r = ⟨cx, cy, sd, wd, ht, p, q, er⟩) (h : IceOut r w e w') : IceRdV cx cy sd wd ht p q er w e w' := by
  subst hr
  obtain ⟨R1, c1, R2, c2, he, h1, h2, hb⟩ := h
  exact ⟨R1, c1, R2, c2, he, row_reads h1 rfl, row_reads h2 rfl, hb⟩
theorem IceOut.vv {r : IceR} {w : World} {e : Ending} {w' : World} (h : IceOut r w e w') : IceRdV r.cx r.cy r.sd r.wd r.ht r.pb r.pl r.err w e w' := IceOut.v rfl h
theorem max_spell (a b : Int) : (if b < a then a - b else 0) = wornF b a := by
  unfold wornF maxI
  by_cases h : b < a
  · rw [if_pos h, if_pos (by omega)]
  · rw [if_neg h, if_neg (by omega)]
theorem min_spell (a b : Int) : (if a + b < 1000 then a + b else 1000) = sweptF b a := rfl
def IntsV (xs : List Int) (er : Int) (w : World) (e : Ending) (w' : World) : Prop :=
  ∃ (R : Option Addr) (c : Nat), e = .returned (.tuple #[.slice R xs.length c, .int .i64 er]) ∧ ReadsInt w' .i64 R xs.length xs ∧ xs.length ≤ c ∧ Below w.heap.size w w'
def hits (n : Nat) (L : List Int) (I : Int) : List Bool := (List.range n).map fun (k : Nat) => (L.take I.toNat).contains (k : Int)
theorem hits_len (n : Nat) (L : List Int) (I : Int) : (hits n L I).length = n := by unfold hits; simp
theorem hits_zero (n : Nat) (L : List Int) : hits n L 0 = List.replicate n false := by
  unfold hits
  refine List.ext_getElem (by simp) fun k h1 h2 => by simp
theorem hits_set {n : Nat} {L : List Int} {I : Int} (h0 : 0 ≤ I) (h1 : I < L.length) (hd : 0 ≤ rd L I) : hits n L (I + 1) = (hits n L I).set (rd L I).toNat true := by
  obtain ⟨i, rfl⟩ := Int.eq_ofNat_of_zero_le h0
  have hi : i < L.length := by omega
  unfold hits
  refine List.ext_getElem (by simp) fun k hk1 hk2 => ?_
  simp only [List.length_map, List.length_range] at hk1
  rw [List.getElem_set]
  simp only [List.getElem_map, List.getElem_range]
  rw [show ((i : Int) + 1).toNat = i + 1 by omega, show ((i : Int)).toNat = i by omega, List.take_succ_eq_append_getElem hi, List.contains_append]
  have e : rd L (i : Int) = L[i] := by simp [rd, List.getD_eq_getElem?_getD, List.getElem?_eq_getElem hi]
  rw [e] at hd ⊢
  by_cases hk : (L[i]).toNat = k
  · rw [if_pos hk]
    have : L[i] = (k : Int) := by omega
    simp [this]
  · rw [if_neg hk]
    have : ¬ (k : Int) = L[i] := by omega
    simp [this]
theorem hits_all {n : Nat} {L : List Int} {I : Int} (h : (L.length : Int) ≤ I) {k : Nat} (hk : k < n) : (hits n L I)[k]'(by rw [hits_len]; exact hk) = L.contains (k : Int) := by
  unfold hits
  simp only [List.getElem_map, List.getElem_range]
  rw [List.take_of_length_le (by omega)]
structure WornAt (pb pl pa pq pf L : List Int) (we s : Int) (k : Nat) : Prop where
  p0 : 0 ≤ rd pb (k : Int)
  p1 : rd pb (k : Int) ≤ 1000
  q0 : 0 ≤ rd pl (k : Int)
  q1 : rd pl (k : Int) ≤ 1000
  a : rd pa (k : Int) = if L.contains (k : Int) = true then wornF we (rd pb (k : Int)) else rd pb (k : Int)
  b : rd pq (k : Int) = if L.contains (k : Int) = true then sweptF s (rd pl (k : Int)) else rd pl (k : Int)
  f : rd pf (k : Int) = wornF s (rd pl (k : Int))
theorem worn_at {cx cy sd wd ht : Int} {pb pl : List Int} (HI : IceOk cx cy sd wd ht pb pl) (fx fy tx ty we s : Int) (k : Nat) (hk : k < pb.length) :
    WornAt pb pl (chg (wornF we) pb (touchedL cx cy sd wd ht fx fy tx ty)) (chg (sweptF s) pl (touchedL cx cy sd wd ht fx fy tx ty)) (chg (wornF s) pl (fromTo 0 (wd * ht - 1))) (touchedL cx cy sd wd ht fx fy tx ty) we s k := by
  have n1 := HI.n1
  have n2 := HI.n2
  have p := rd_good (G := fun n => 0 ≤ n ∧ n ≤ 1000) HI.g1 (c := (k : Int)) (by omega) (by omega)
  have q := rd_good (G := fun n => 0 ≤ n ∧ n ≤ 1000) HI.g2 (c := (k : Int)) (by omega) (by omega)
  have hn := rises_nodup (touchedL_rises cx cy sd wd ht fx fy tx ty)
  refine ⟨p.1, p.2, q.1, q.2, ?_, ?_, ?_⟩
  · rw [chg_rd _ _ hn (fun c hc => by have := touched_bd hc; omega) k hk]
    by_cases h : (k : Int) ∈ touchedL cx cy sd wd ht fx fy tx ty
    · rw [if_pos h, if_pos (by simpa using h)]
    · rw [if_neg h, if_neg (by simpa using h)]
  · rw [chg_rd _ _ hn (fun c hc => by have := touched_bd hc; omega) k (by omega)]
    by_cases h : (k : Int) ∈ touchedL cx cy sd wd ht fx fy tx ty
    · rw [if_pos h, if_pos (by simpa using h)]
    · rw [if_neg h, if_neg (by simpa using h)]
  · rw [chg_rd _ _ (rises_nodup (fromTo_rises _ _)) (fun c hc => by have := mem_fromTo.1 hc; omega) k (by omega), if_pos (mem_fromTo.2 ⟨by omega, by omega⟩)]
theorem made_bools (W : World) (n : Nat) (hn : n ≤ 1000000) : (W.alloc (.cells (madeCells #[.bool false] n) 4)).ownsRow W.heap.size 4 1 (.slice (some ⟨W.heap.size, 0, none⟩) n n) n ((List.replicate n false).map Value.bool) := by
  have h := World.ownsRow_lit (base := W.heap.size) (e := 4) (size := 1) W (madeCells #[.bool false] n) n (Nat.le_refl _) (by simp only [maxLen]; omega) (by rw [size_madeCells, Nat.mul_one])
  rw [toList_madeCells_one] at h
  rw [List.map_replicate]
  exact h
def HitB (W0 : World) (g n : Nat) (L : List Int) (I : Int) (W : World) : Prop := W.ownsRow W0.heap.size 4 1 (.slice (some ⟨g, 0, none⟩) n n) n ((hits n L I).map Value.bool) ∧ Below W0.heap.size W0 W
def KCells (cx cy sd wd ht : Int) (A : Option Addr) (c : Nat) (pb : List Int) (B : Option Addr) (d : Nat) (pl : List Int) (fl ke sw be we : Int) (b : Nat) (W : World) : Prop := IceS b cx cy sd wd ht A c pb B d pl W ∧ W.cell? ⟨b + 1, 4, none⟩ = some (.int .i64 we)
def ACells (p q : List Int) (b : Nat) (R1 : Option Addr) (c1 : Nat) (R2 : Option Addr) (c2 : Nat) (W : World) : Prop := W.cell? ⟨b, 5, none⟩ = some (.slice R1 p.length c1) ∧ W.cell? ⟨b, 6, none⟩ = some (.slice R2 q.length c2)
theorem KCells.below {cx cy sd wd ht : Int} {A : Option Addr} {c : Nat} {pb : List Int} {B : Option Addr} {d : Nat} {pl : List Int} {fl ke sw be we : Int} {b : Nat} {W W' : World} (h : KCells cx cy sd wd ht A c pb B d pl fl ke sw be we b W) (hb : Below W.heap.size W W') : KCells cx cy sd wd ht A c pb B d pl fl ke sw be we b W' := by
  obtain ⟨⟨h0, h1, h2, h3, h4, h5, h6⟩, h7⟩ := h
  exact ⟨⟨bl_cell hb h0, bl_cell hb h1, bl_cell hb h2, bl_cell hb h3, bl_cell hb h4, bl_cell hb h5, bl_cell hb h6⟩, bl_cell hb h7⟩
theorem ACells.below {p q : List Int} {b : Nat} {R1 : Option Addr} {c1 : Nat} {R2 : Option Addr} {c2 : Nat} {W W' : World} (h : ACells p q b R1 c1 R2 c2 W) (hb : Below W.heap.size W W') : ACells p q b R1 c1 R2 c2 W' := ⟨bl_cell hb h.1, bl_cell hb h.2⟩
end Go.Proofs.Ytibaapaglocpjaa.B

end
