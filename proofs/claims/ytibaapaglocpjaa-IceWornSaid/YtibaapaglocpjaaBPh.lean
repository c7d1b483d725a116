import Derived.Test.YtibaapaglocpjaaBP
import Derived.Test.YtibaapaglocpjaaBKa
/- Proved here: lemmas for the laws' proofs (the texts Ph). No condition. -/
section
set_option linter.unusedSimpArgs false
set_option linter.unusedVariables false
namespace Go.Proofs.Ytibaapaglocpjaa.B
open Go.RowKit Go.Proofs.YtibaapaglocpjaaW.PrintWords
structure IceR where
  cx : Int
  cy : Int
  sd : Int
  wd : Int
  ht : Int
  pb : List Int
  pl : List Int
  err : Int
def iceNo : IceR := ⟨0, 0, 0, 0, 0, [], [], 2⟩
def wornF (we n : Int) : Int := maxI 0 (n - we)
def sweptF (s n : Int) : Int := minI 1000 (n + s)
def inBox (cx cy sd wd lx ly hx hy c : Int) : Bool :=
  decide (lx ≤ cx + c % wd * sd) && (decide (ly ≤ cy + c / wd * sd) && (decide (cx + c % wd * sd + sd ≤ hx) && decide (cy + c / wd * sd + sd ≤ hy)))
def boxL (cx cy sd wd ht lx ly hx hy : Int) : List Int := (fromTo 0 (wd * ht - 1)).filter (inBox cx cy sd wd lx ly hx hy)
def turnB (wd turn c : Int) : Bool := decide ((c % wd + c / wd + turn) % 2 = 0)
def boxB (cx cy sd wd ht : Int) (pb pl : List Int) (lx ly hx hy : Int) : Bool := (iceB cx cy sd wd ht pb pl && (plB lx ly && plB hx hy)) && (decide (lx ≤ hx) && decide (ly ≤ hy))
def icePass (cx cy sd wd ht : Int) (pb pl : List Int) (fl ke sw be we fx fy tx ty : Int) : IceR :=
  if (iceB cx cy sd wd ht pb pl && (grainB fl ke sw be we && (plB fx fy && plB tx ty))) = true then ⟨cx, cy, sd, wd, ht, chg (wornF we) pb (touchedL cx cy sd wd ht fx fy tx ty), pl, 0⟩ else iceNo
def iceSweep (cx cy sd wd ht : Int) (pb pl : List Int) (fx fy tx ty s : Int) : IceR :=
  if ((iceB cx cy sd wd ht pb pl && (plB fx fy && plB tx ty)) && inB s 0 1000) = true then ⟨cx, cy, sd, wd, ht, pb, chg (sweptF s) pl (touchedL cx cy sd wd ht fx fy tx ty), 0⟩ else iceNo
def iceFade (cx cy sd wd ht : Int) (pb pl : List Int) (s : Int) : IceR :=
  if (iceB cx cy sd wd ht pb pl && inB s 0 1000) = true then ⟨cx, cy, sd, wd, ht, pb, chg (wornF s) pl (fromTo 0 (wd * ht - 1)), 0⟩ else iceNo
def iceScrape (cx cy sd wd ht : Int) (pb pl : List Int) (lx ly hx hy s : Int) : IceR :=
  if (boxB cx cy sd wd ht pb pl lx ly hx hy && inB s 0 1000) = true then ⟨cx, cy, sd, wd, ht, chg (minI s) pb (boxL cx cy sd wd ht lx ly hx hy), chg (fun _ => 0) pl (boxL cx cy sd wd ht lx ly hx hy), 0⟩ else iceNo
def iceSpray (cx cy sd wd ht : Int) (pb pl : List Int) (lx ly hx hy s turn : Int) : IceR :=
  if (boxB cx cy sd wd ht pb pl lx ly hx hy && (inB s 0 1000 && inB turn 0 1)) = true then ⟨cx, cy, sd, wd, ht, chg (sweptF s) pb ((boxL cx cy sd wd ht lx ly hx hy).filter (turnB wd turn)), pl, 0⟩ else iceNo
def sumAt (l : List Int) : List Int → Int
  | [] => 0
  | c :: L => rd l c + sumAt l L
theorem sumAt_append (l a b : List Int) : sumAt l (a ++ b) = sumAt l a + sumAt l b := by
  induction a with
  | nil => show _ = 0 + _; rw [List.nil_append]; omega
  | cons c a ih => show rd l c + sumAt l (a ++ b) = rd l c + sumAt l a + sumAt l b; rw [ih]; omega
theorem sumAt_snoc (l a : List Int) (c : Int) : sumAt l (a ++ [c]) = sumAt l a + rd l c := by rw [sumAt_append]; show _ + (rd l c + 0) = _; omega
def iceMean (cx cy sd wd ht : Int) (pb pl : List Int) (lx ly hx hy : Int) : Int × Int × Int :=
  if boxB cx cy sd wd ht pb pl lx ly hx hy = true then (sumAt pb (boxL cx cy sd wd ht lx ly hx hy), ((boxL cx cy sd wd ht lx ly hx hy).length : Nat), 0) else (0, 0, 2)
theorem rd_ext {a b : List Int} (hl : a.length = b.length) (h : ∀ k : Nat, k < a.length → rd a (k : Int) = rd b (k : Int)) : a = b := by
  refine List.ext_getElem hl fun k h1 h2 => ?_
  have := h k h1
  simpa [rd, List.getD_eq_getElem?_getD, List.getElem?_eq_getElem h1, List.getElem?_eq_getElem h2] using this
theorem rd_set_at (l : List Int) (i j : Nat) (v : Int) (hi : i < l.length) : rd (l.set i v) (j : Int) = if j = i then v else rd l (j : Int) := by
  unfold rd
  simp only [Int.toNat_natCast, List.getD_eq_getElem?_getD, List.getElem?_set]
  by_cases h : i = j
  · subst h; simp [hi]
  · rw [if_neg h, if_neg (fun e => h e.symm)]
theorem chg_rd {f : Int → Int} : ∀ (L xs : List Int), L.Nodup → (∀ c ∈ L, 0 ≤ c ∧ c < (xs.length : Int)) → ∀ k : Nat, k < xs.length → rd (chg f xs L) (k : Int) = if (k : Int) ∈ L then f (rd xs (k : Int)) else rd xs (k : Int)
  | [], xs, _, _, k, _ => by rw [if_neg (by simp)]; rfl
  | c :: L, xs, hn, hL, k, hk => by
    obtain ⟨c0, c1⟩ := hL c (by simp)
    obtain ⟨n, rfl⟩ := Int.eq_ofNat_of_zero_le c0
    obtain ⟨hc, hn'⟩ := List.nodup_cons.1 hn
    have ih := chg_rd (f := f) L (xs.set n (f (rd xs (n : Int)))) hn' (fun d hd => by rw [List.length_set]; exact hL d (by simp [hd])) k (by rw [List.length_set]; exact hk)
    show rd (chg f (xs.set ((n : Nat) : Int).toNat (f (rd xs (n : Int)))) L) (k : Int) = _
    rw [Int.toNat_natCast, ih, rd_set_at xs n k _ (by omega)]
    by_cases h : k = n
    · subst h
      rw [if_neg hc, if_pos rfl, if_pos (by simp)]
    · rw [if_neg h]
      have : ((k : Int) ∈ ((n : Nat) : Int) :: L) ↔ (k : Int) ∈ L := by
        constructor
        · intro hm; rcases List.mem_cons.1 hm with e | e
          · exact absurd (by exact_mod_cast e) h
          · exact e
        · intro hm; exact List.mem_cons_of_mem _ hm
      simp only [this]
theorem grain_set {l : List Int} (h : grainOk l) (n : Nat) {v : Int} (h0 : 0 ≤ v) (h1 : v ≤ 1000) : grainOk (l.set n v) := fun x hx => by
  rcases List.mem_or_eq_of_mem_set hx with k | k
  · exact h x k
  · rw [k]; exact ⟨h0, h1⟩
theorem rises_nodup {L : List Int} (h : L.Pairwise (· < ·)) : L.Nodup := h.imp fun h => by omega
theorem touchedL_rises (cx cy sd wd ht fx fy tx ty : Int) : (touchedL cx cy sd wd ht fx fy tx ty).Pairwise (· < ·) := (fromTo_rises _ _).filter _
theorem boxL_rises (cx cy sd wd ht lx ly hx hy : Int) : (boxL cx cy sd wd ht lx ly hx hy).Pairwise (· < ·) := (fromTo_rises _ _).filter _
theorem fromTo_snoc (i : Nat) : fromTo 0 ((i : Int)) = fromTo 0 ((i : Int) - 1) ++ [(i : Int)] := by
  unfold fromTo
  rw [show ((i : Int) - 0 + 1).toNat = i + 1 by omega, show ((i : Int) - 1 - 0 + 1).toNat = i by omega, List.range_succ, List.map_append]
  simp
theorem touched_bd {cx cy sd wd ht fx fy tx ty c : Int} (h : c ∈ touchedL cx cy sd wd ht fx fy tx ty) : 0 ≤ c ∧ c < wd * ht := by
  have := mem_fromTo.1 (List.mem_filter.1 h).1; omega
theorem box_bd {cx cy sd wd ht lx ly hx hy c : Int} (h : c ∈ boxL cx cy sd wd ht lx ly hx hy) : 0 ≤ c ∧ c < wd * ht := by
  have := mem_fromTo.1 (List.mem_filter.1 h).1; omega
theorem boxL_len {cx cy sd wd ht : Int} (lx ly hx hy : Int) (hw : 1 ≤ wd ∧ wd ≤ 256) (hh : 1 ≤ ht ∧ ht ≤ 256) : (boxL cx cy sd wd ht lx ly hx hy).length ≤ 65536 := by
  have h1 : (boxL cx cy sd wd ht lx ly hx hy).length ≤ (fromTo 0 (wd * ht - 1)).length := List.length_filter_le _ _
  have h2 : (fromTo 0 (wd * ht - 1)).length = (wd * ht - 1 - 0 + 1).toNat := by unfold fromTo; simp
  have h3 : wd * ht ≤ 256 * 256 := Int.mul_le_mul hw.2 hh.2 (by omega) (by omega)
  omega
theorem allL_len {wd ht : Int} (hw : 1 ≤ wd ∧ wd ≤ 256) (hh : 1 ≤ ht ∧ ht ≤ 256) : (fromTo 0 (wd * ht - 1)).length ≤ 65536 := by
  have h2 : (fromTo 0 (wd * ht - 1)).length = (wd * ht - 1 - 0 + 1).toNat := by unfold fromTo; simp
  have h3 : wd * ht ≤ 256 * 256 := Int.mul_le_mul hw.2 hh.2 (by omega) (by omega)
  omega
theorem wornF_bd {we n : Int} (h : 0 ≤ we) (hn : 0 ≤ n ∧ n ≤ 1000) : 0 ≤ wornF we n ∧ wornF we n ≤ 1000 := by unfold wornF maxI; split <;> omega
theorem sweptF_bd {s n : Int} (h : 0 ≤ s) (hn : 0 ≤ n ∧ n ≤ 1000) : 0 ≤ sweptF s n ∧ sweptF s n ≤ 1000 := by unfold sweptF minI; split <;> omega
theorem minF_bd {s n : Int} (h : 0 ≤ s) (hn : 0 ≤ n ∧ n ≤ 1000) : 0 ≤ minI s n ∧ minI s n ≤ 1000 := by unfold minI; split <;> omega
theorem chg_grain {f : Int → Int} {L xs : List Int} (hf : ∀ n, 0 ≤ n ∧ n ≤ 1000 → 0 ≤ f n ∧ f n ≤ 1000) (h : grainOk xs) (hL : ∀ c ∈ L, 0 ≤ c ∧ c < (xs.length : Int)) : grainOk (chg f xs L) := chg_good (G := fun n => 0 ≤ n ∧ n ≤ 1000) hf L xs h hL
end Go.Proofs.Ytibaapaglocpjaa.B

end
