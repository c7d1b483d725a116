import Derived.Test.YtibaapaglocpjaaBPh
/- Proved here: lemmas for the laws' proofs (the texts Pi). No condition. -/
section
set_option linter.unusedSimpArgs false
set_option linter.unusedVariables false
namespace Go.Proofs.Ytibaapaglocpjaa.B
open Go.RowKit Go.Proofs.YtibaapaglocpjaaW.PrintWords
theorem chg_twice {f : Int → Int} {L xs : List Int} (hf : ∀ n, f (f n) = f n) (hn : L.Nodup) (hL : ∀ c ∈ L, 0 ≤ c ∧ c < (xs.length : Int)) : chg f (chg f xs L) L = chg f xs L := by
  refine rd_ext (chg_len f L _) fun k hk => ?_
  rw [chg_len, chg_len] at hk
  rw [chg_rd L _ hn (fun c hc => by rw [chg_len]; exact hL c hc) k (by rw [chg_len]; exact hk), chg_rd L xs hn hL k hk]
  split
  · rw [hf]
  · rfl
theorem sum_le {l : List Int} {b : Int} : ∀ (L : List Int), (∀ c ∈ L, rd l c ≤ b) → sumAt l L ≤ (L.length : Int) * b
  | [], _ => by show (0 : Int) ≤ ((0 : Nat) : Int) * b; omega
  | c :: L, h => by
    have ih := sum_le L (fun d hd => h d (by simp [hd]))
    have h0 := h c (by simp)
    show rd l c + sumAt l L ≤ ((L.length + 1 : Nat) : Int) * b
    rw [Int.natCast_add, Int.add_mul]
    omega
theorem sum_raise {l m : List Int} {p : Int → Bool} {more : Int} (hm : 0 ≤ more) : ∀ (M : List Int), (∀ c ∈ M, rd l c ≤ rd m c ∧ rd m c ≤ rd l c + (if p c = true then more else 0)) → sumAt l M ≤ sumAt m M ∧ sumAt m M ≤ sumAt l M + ((M.filter p).length : Int) * more
  | [], _ => by refine ⟨Int.le_refl _, ?_⟩; show (0 : Int) ≤ 0 + ((0 : Nat) : Int) * more; omega
  | c :: M, h => by
    have ih := sum_raise hm M (fun d hd => h d (by simp [hd]))
    have h0 := h c (by simp)
    refine ⟨?_, ?_⟩
    · show rd l c + sumAt l M ≤ rd m c + sumAt m M; omega
    · show rd m c + sumAt m M ≤ rd l c + sumAt l M + (((c :: M).filter p).length : Int) * more
      rw [List.filter_cons]
      cases hp : p c with
      | true =>
        rw [hp] at h0
        simp only [if_true] at h0 ⊢
        rw [List.length_cons, Int.natCast_add, Int.add_mul]
        omega
      | false =>
        rw [hp] at h0
        simp only [Bool.false_eq_true, if_false] at h0 ⊢
        omega
theorem half_row (a t : Int) : ∀ (n : Nat), 2 * (((List.range n).map fun (i : Nat) => a + (i : Int)).filter (fun x => decide ((x + t) % 2 = 0))).length ≤ n + (if (a + n - 1 + t) % 2 = 0 then 1 else 0)
  | 0 => by simp
  | n + 1 => by
    have ih := half_row a t n
    rw [List.range_succ, List.map_append, List.filter_append, List.length_append]
    have e : (List.filter (fun x => decide ((x + t) % 2 = 0)) (List.map (fun (i : Nat) => a + (i : Int)) [n])).length = if (a + n + t) % 2 = 0 then 1 else 0 := by
      by_cases h : (a + n + t) % 2 = 0
      · simp [h]
      · simp [h]
    rw [e]
    rw [show a + ((n + 1 : Nat) : Int) - 1 + t = a + n + t by omega]
    by_cases h : (a + n + t) % 2 = 0
    · rw [if_pos h] at *
      rw [if_neg (by omega : ¬ (a + n - 1 + t) % 2 = 0)] at ih
      omega
    · rw [if_neg h] at *
      split at ih <;> omega
theorem half_rows {g : Int → List Int} {p : Int → Bool} : ∀ (R : List Int), (∀ y ∈ R, 2 * ((g y).filter p).length ≤ (g y).length + 1) → 2 * ((R.flatMap g).filter p).length ≤ (R.flatMap g).length + R.length
  | [], _ => by simp
  | y :: R, h => by
    have ih := half_rows R (fun z hz => h z (by simp [hz]))
    have h0 := h y (by simp)
    rw [List.flatMap_cons, List.filter_append, List.length_append, List.length_append, List.length_cons]
    omega
theorem box_band {cx cy sd wd ht lx ly hx hy : Int} (hs : 1 ≤ sd) (hw : 1 ≤ wd) (hh : 1 ≤ ht) :
    ∃ W E S N, 0 ≤ W ∧ E < wd ∧ 0 ≤ S ∧ N < ht ∧ boxL cx cy sd wd ht lx ly hx hy = bandCells wd W E S N := by
  refine ⟨maxI 0 (-((cx - lx) / sd)), minI (wd - 1) ((hx - sd - cx) / sd), maxI 0 (-((cy - ly) / sd)), minI (ht - 1) ((hy - sd - cy) / sd), by unfold maxI; split <;> omega, by unfold minI; split <;> omega, by unfold maxI; split <;> omega, by unfold minI; split <;> omega, ?_⟩
  have W0 : 0 ≤ maxI 0 (-((cx - lx) / sd)) := by unfold maxI; split <;> omega
  have E0 : minI (wd - 1) ((hx - sd - cx) / sd) < wd := by unfold minI; split <;> omega
  refine rising_ext _ _ (boxL_rises ..) (bandCells_rises W0 E0) fun c => ?_
  rw [mem_bandCells W0 E0 (by omega)]
  have lo : ∀ (b l a : Int), -((b - l) / sd) ≤ a ↔ l ≤ b + a * sd := by
    intro b l a
    have := Int.le_ediv_iff_mul_le (a := -a) (b := b - l) (c := sd) (by omega)
    rw [show -((b - l) / sd) ≤ a ↔ -a ≤ (b - l) / sd by omega, this, Int.neg_mul]
    omega
  have hi : ∀ (b h a : Int), a ≤ (h - sd - b) / sd ↔ b + a * sd + sd ≤ h := by
    intro b h a
    rw [Int.le_ediv_iff_mul_le (by omega)]
    omega
  have mx0 : ∀ (x a : Int), maxI 0 x ≤ a ↔ 0 ≤ a ∧ x ≤ a := by intro x a; unfold maxI; split <;> omega
  have mn0 : ∀ (x y a : Int), a ≤ minI x y ↔ a ≤ x ∧ a ≤ y := by intro x y a; unfold minI; split <;> omega
  rw [mx0, mx0, mn0, mn0, lo, lo, hi, hi]
  unfold boxL inBox
  simp only [List.mem_filter, mem_fromTo, Bool.and_eq_true, decide_eq_true_eq]
  have m0 := Int.emod_nonneg c (show wd ≠ 0 by omega)
  have m1 := Int.emod_lt_of_pos c (show 0 < wd by omega)
  have rows : (0 ≤ c ∧ c ≤ wd * ht - 1) ↔ (0 ≤ c / wd ∧ c / wd ≤ ht - 1) := by
    constructor
    · rintro ⟨h0, h1⟩
      have := Int.ediv_lt_of_lt_mul (a := c) (b := ht) (c := wd) (by omega) (by rw [Int.mul_comm]; omega)
      exact ⟨Int.ediv_nonneg h0 (by omega), by omega⟩
    · rintro ⟨h0, h1⟩
      have e := Int.mul_ediv_add_emod c wd
      have h2 : 0 ≤ wd * (c / wd) := Int.mul_nonneg (by omega) h0
      have h3 : wd * (c / wd) ≤ wd * (ht - 1) := Int.mul_le_mul_of_nonneg_left h1 (by omega)
      rw [Int.mul_sub, Int.mul_one] at h3
      omega
  rw [rows]
  constructor
  · rintro ⟨⟨a, b⟩, c1, d, e, f⟩
    exact ⟨⟨⟨a, d⟩, b, f⟩, ⟨m0, c1⟩, by omega, e⟩
  · rintro ⟨⟨⟨a, d⟩, b, f⟩, ⟨_, c1⟩, _, e⟩
    exact ⟨⟨a, b⟩, c1, d, e, f⟩
theorem half_box {cx cy sd wd ht lx ly hx hy turn : Int} (hs : 1 ≤ sd) (hw : 1 ≤ wd) (hh : 1 ≤ ht) :
    2 * (((boxL cx cy sd wd ht lx ly hx hy).filter (turnB wd turn)).length : Int) ≤ (boxL cx cy sd wd ht lx ly hx hy).length + ht := by
  obtain ⟨W, E, S, N, W0, E0, S0, N0, hb⟩ := box_band (cx := cx) (cy := cy) (lx := lx) (ly := ly) (hx := hx) (hy := hy) hs hw hh
  rw [hb]
  unfold bandCells
  have := half_rows (g := fun y => (fromTo W E).map fun x => y * wd + x) (p := turnB wd turn) (fromTo S N) (fun y hy => by
    have h := half_row W (y + turn) (E - W + 1).toNat
    have e : (List.filter (turnB wd turn) (List.map (fun x => y * wd + x) (fromTo W E))).length = (((List.range (E - W + 1).toNat).map fun (i : Nat) => W + (i : Int)).filter (fun x => decide ((x + (y + turn)) % 2 = 0))).length := by
      rw [List.filter_map, List.length_map]
      show (List.filter _ ((List.range (E - W + 1).toNat).map fun (i : Nat) => W + (i : Int))).length = _
      congr 1
      refine List.filter_congr fun x hx => ?_
      have hx' := mem_fromTo.1 (show x ∈ fromTo W E from hx)
      show turnB wd turn (y * wd + x) = _
      unfold turnB
      rw [Int.add_comm (y * wd) x, Int.add_mul_emod_self_right, Int.emod_eq_of_lt (a := x) (b := wd) (by omega) (by omega), Int.add_mul_ediv_right _ _ (by omega), Int.ediv_eq_zero_of_lt (a := x) (b := wd) (by omega) (by omega)]
      rw [show x + (0 + y) + turn = x + (y + turn) by omega]
    have l : (List.map (fun x => y * wd + x) (fromTo W E)).length = (E - W + 1).toNat := by unfold fromTo; simp
    rw [e, l]
    split at h <;> omega)
  have lr : (fromTo S N).length = (N - S + 1).toNat := by unfold fromTo; simp
  omega
end Go.Proofs.Ytibaapaglocpjaa.B

end
