import Derived.Test.YtibaapaglocpjaaBW0
/- Proved here: lemmas for the laws' proofs (the texts Pa Pb Pe). No condition. -/
section
set_option linter.unusedSimpArgs false
set_option linter.unusedVariables false
namespace Go.Proofs.Ytibaapaglocpjaa.B
open Go.RowKit Go.Proofs.YtibaapaglocpjaaW.PrintWords
def nabs (n : Int) : Int := if n < 0 then -n else n
def cmpI (a b : Int) : Int := if a < b then -1 else if a = b then 0 else 1
theorem nabs_nonneg (n : Int) : 0 ≤ nabs n := by unfold nabs; split <;> omega
structure Kp (p : Prop) : Prop where mk :: (out : p)
def okFix (a : Int) : Prop := -70368744177664 ≤ a ∧ a ≤ 70368744177664
def rnd (how : Nat) (half : Int) (neg : Bool) : Bool := if how = 0 then false else if how = 1 then neg else if how = 2 then !neg else decide (0 ≤ half)
def quoR (a d : Int) (neg : Bool) (how : Nat) : Int := a / d + if 0 < a % d ∧ rnd how (cmpI (a % d + a % d) d) neg = true then 1 else 0
def sgn (neg : Bool) (n : Int) : Int := if neg = true then -n else n
def negOf (a b : Int) : Bool := !(decide (a < 0) == decide (b < 0))
def mulF (a b : Int) (how : Nat) : Int := sgn (negOf a b) (quoR (nabs a * nabs b) 65536 (negOf a b) how)
def neg3 (a n d : Int) : Bool := !(decide (a < 0) == !(decide (n < 0) == decide (d < 0)))
def scaleF (a n d : Int) (how : Nat) : Int := sgn (neg3 a n d) (quoR (nabs a * nabs n) (nabs d) (neg3 a n d) how)
def okRate (a : Int) : Prop := -2147483648 ≤ a ∧ a ≤ 2147483648
def isqrt : Nat → Nat
  | 0 => 0
  | n + 1 => if (isqrt n + 1) * (isqrt n + 1) ≤ n + 1 then isqrt n + 1 else isqrt n
theorem isqrt_spec (n : Nat) : isqrt n * isqrt n ≤ n ∧ n < (isqrt n + 1) * (isqrt n + 1) := by
  induction n with
  | zero => exact ⟨Nat.le_refl _, by decide⟩
  | succ n ih =>
    unfold isqrt
    split
    · rename_i h
      refine ⟨h, ?_⟩
      have := ih.2
      have e : (isqrt n + 1 + 1) * (isqrt n + 1 + 1) = (isqrt n + 1) * (isqrt n + 1) + 2 * (isqrt n + 1) + 1 := by
        rw [Nat.add_mul, Nat.mul_add]; omega
      omega
    · rename_i h
      exact ⟨Nat.le_succ_of_le ih.1, by omega⟩
theorem isqrt_unique {n r : Nat} (h1 : r * r ≤ n) (h2 : n < (r + 1) * (r + 1)) : isqrt n = r := by
  obtain ⟨a, b⟩ := isqrt_spec n
  have x : isqrt n < r + 1 := by
    rcases Nat.lt_or_ge (isqrt n) (r + 1) with h | h
    · exact h
    · have := Nat.mul_le_mul h h; omega
  have y : r < isqrt n + 1 := by
    rcases Nat.lt_or_ge r (isqrt n + 1) with h | h
    · exact h
    · have := Nat.mul_le_mul h h; omega
  omega
def rootF (a how : Nat) : Nat := if how = 2 ∧ isqrt a * isqrt a ≠ a then isqrt a + 1 else isqrt a
def turnR (m n : Bool) (A B : Int) : Int :=
  if (m == n) && m then -cmpI A B else if m == n then cmpI A B else if A = 0 ∧ B = 0 then 0 else if (if A = 0 then !n else m) = true then -1 else 1
def turnF (ax ay bx by' : Int) : Int := if ax * by' < ay * bx then -1 else if ax * by' = ay * bx then 0 else 1
theorem cmpI_bd (a b : Int) : -1 ≤ cmpI a b ∧ cmpI a b ≤ 1 := by unfold cmpI; split <;> (try split) <;> omega
def inB (n lo hi : Int) : Bool := decide (lo ≤ n ∧ n ≤ hi)
def oddB (n : Int) : Bool := !inB n 0 1000
def plB (x y : Int) : Bool := inB x (-6553600000) 6553600000 && inB y (-6553600000) 6553600000
def plOf (p : Int × Int) : Bool := !plB p.1 p.2
def errI (b : Bool) : Int := if b = true then 0 else 2
def iceB (cx cy sd wd ht : Int) (pb pl : List Int) : Bool := plB cx cy && (inB sd 1 6553600000 && (inB wd 1 256 && (inB ht 1 256 && (decide ((pb.length : Int) = wd * ht) && (decide ((pl.length : Int) = wd * ht) && (!pb.any oddB && !pl.any oddB))))))
def grainB (fl ke sw be we : Int) : Bool := inB ke 1 fl && (decide (fl ≤ 65536) && (inB sw 0 1000 && (inB be 0 1000 && inB we 0 1000)))
def atOk (cx cy sd wd ht x y : Int) : Bool := decide (0 ≤ x - cx ∧ 0 ≤ y - cy ∧ x - cx < wd * sd ∧ y - cy < ht * sd)
def atC (cx cy sd wd x y : Int) : Int := (y - cy) / sd * wd + (x - cx) / sd
def atV (cx cy sd wd ht x y : Int) : Int := if atOk cx cy sd wd ht x y = true then atC cx cy sd wd x y else 0
structure AtHyp (cx cy sd wd ht x y : Int) : Prop where
  x0 : -13107200000 ≤ x - cx
  x1 : x - cx ≤ 13107200000
  y0 : -13107200000 ≤ y - cy
  y1 : y - cy ≤ 13107200000
  s0 : 1 ≤ sd
  s1 : sd ≤ 6553600000
  w0 : 1 ≤ wd
  w1 : wd ≤ 256
  h0 : 1 ≤ ht
  h1 : ht ≤ 256
theorem quoR_bd (a d : Int) (neg : Bool) (how : Nat) (ha : 0 ≤ a) (hd : 0 < d) : 0 ≤ quoR a d neg how ∧ quoR a d neg how ≤ a / d + 1 := by
  have h0 : 0 ≤ a / d := Int.ediv_nonneg ha (by omega)
  unfold quoR
  split <;> omega
theorem nabs_le {a m : Int} (h0 : -m ≤ a) (h1 : a ≤ m) : nabs a ≤ m := by unfold nabs; split <;> omega
theorem scaleF_bd (a n d m : Int) (how : Nat) (hd : d ≠ 0) (hm : nabs a * nabs n ≤ m) : -(m + 1) ≤ scaleF a n d how ∧ scaleF a n d how ≤ m + 1 := by
  have hd0 : 0 < nabs d := by unfold nabs; split <;> omega
  have hp : 0 ≤ nabs a * nabs n := Int.mul_nonneg (nabs_nonneg a) (nabs_nonneg n)
  obtain ⟨h0, h1⟩ := quoR_bd (nabs a * nabs n) (nabs d) (neg3 a n d) how hp hd0
  have h2 := Int.ediv_le_self (nabs d) hp
  unfold scaleF sgn
  split <;> omega
def grV (l : List Int) (cx cy sd wd ht x y : Int) : Int := if atOk cx cy sd wd ht x y = true then rd l (atV cx cy sd wd ht x y) else 0
theorem mul_bd {a b m n : Int} (ha0 : 0 ≤ a) (ha : a ≤ m) (hb0 : 0 ≤ b) (hb : b ≤ n) : 0 ≤ a * b ∧ a * b ≤ m * n :=
  ⟨Int.mul_nonneg ha0 hb0, Int.mul_le_mul ha hb hb0 (by omega)⟩
theorem atV_range {cx cy sd wd ht x y : Int} (H : AtHyp cx cy sd wd ht x y) (h : atOk cx cy sd wd ht x y = true) : 0 ≤ atV cx cy sd wd ht x y ∧ atV cx cy sd wd ht x y < wd * ht := by
  obtain ⟨x0, x1, y0, y1, s0, s1, w0, w1, h0, h1⟩ := H
  have hk := of_decide_eq_true h
  obtain ⟨a, b, c, d⟩ := hk
  have e1 : (y - cy) / sd < ht := Int.ediv_lt_of_lt_mul (by omega) d
  have e2 : (x - cx) / sd < wd := Int.ediv_lt_of_lt_mul (by omega) c
  have e3 : 0 ≤ (y - cy) / sd := Int.ediv_nonneg b (by omega)
  have e4 : 0 ≤ (x - cx) / sd := Int.ediv_nonneg a (by omega)
  have e6 : 0 ≤ (y - cy) / sd * wd := Int.mul_nonneg e3 (by omega)
  have e7 : ((y - cy) / sd + 1) * wd ≤ ht * wd := Int.mul_le_mul_of_nonneg_right (by omega) (by omega)
  rw [Int.add_mul, Int.one_mul, Int.mul_comm ht wd] at e7
  unfold atV atC
  rw [if_pos h]
  omega
def slowF (fl ke sw p q : Int) : Int := scaleF (fl - scaleF (fl - ke) p 1000 3) (1000000 - sw * q) 1000000 3
structure GrainOk (fl ke sw be we : Int) : Prop where
  k0 : 1 ≤ ke
  k1 : ke ≤ fl
  f1 : fl ≤ 65536
  s0 : 0 ≤ sw
  s1 : sw ≤ 1000
  b0 : 0 ≤ be
  b1 : be ≤ 1000
  w0 : 0 ≤ we
  w1 : we ≤ 1000
def grainOk (l : List Int) : Prop := ∀ x ∈ l, 0 ≤ x ∧ x ≤ 1000
theorem grV_bd {l : List Int} {cx cy sd wd ht x y : Int} (h : grainOk l) : 0 ≤ grV l cx cy sd wd ht x y ∧ grV l cx cy sd wd ht x y ≤ 1000 := by
  unfold grV
  split
  · unfold rd
    rw [List.getD_eq_getElem?_getD]
    rcases Nat.lt_or_ge (atV cx cy sd wd ht x y).toNat l.length with h' | h'
    · rw [List.getElem?_eq_getElem h']
      exact h _ (List.getElem_mem _)
    · rw [List.getElem?_eq_none h']
      exact ⟨by decide, by decide⟩
  · omega
theorem inB_iff {n lo hi : Int} : inB n lo hi = true ↔ lo ≤ n ∧ n ≤ hi := by unfold inB; simp
structure IceOk (cx cy sd wd ht : Int) (pb pl : List Int) : Prop where
  cx0 : -6553600000 ≤ cx
  cx1 : cx ≤ 6553600000
  cy0 : -6553600000 ≤ cy
  cy1 : cy ≤ 6553600000
  s0 : 1 ≤ sd
  s1 : sd ≤ 6553600000
  w0 : 1 ≤ wd
  w1 : wd ≤ 256
  h0 : 1 ≤ ht
  h1 : ht ≤ 256
  n1 : (pb.length : Int) = wd * ht
  n2 : (pl.length : Int) = wd * ht
  g1 : grainOk pb
  g2 : grainOk pl
theorem any_odd {l : List Int} : l.any oddB = false ↔ grainOk l := by
  unfold grainOk
  rw [List.any_eq_false]
  constructor
  · intro h x hx
    have := h x hx
    unfold oddB at this
    simp only [Bool.not_eq_true', Bool.not_eq_false] at this
    exact inB_iff.1 this
  · intro h x hx
    unfold oddB
    rw [inB_iff.2 (h x hx)]
    decide
theorem iceB_iff {cx cy sd wd ht : Int} {pb pl : List Int} : iceB cx cy sd wd ht pb pl = true ↔ IceOk cx cy sd wd ht pb pl := by
  unfold iceB plB
  simp only [Bool.and_eq_true, inB_iff, decide_eq_true_eq, Bool.not_eq_true', any_odd]
  constructor
  · rintro ⟨⟨⟨a, b⟩, c, d⟩, ⟨e, f⟩, ⟨g, h⟩, ⟨i, j⟩, k, l, m, n⟩
    exact ⟨a, b, c, d, e, f, g, h, i, j, k, l, m, n⟩
  · rintro ⟨a, b, c, d, e, f, g, h, i, j, k, l, m, n⟩
    exact ⟨⟨⟨a, b⟩, c, d⟩, ⟨e, f⟩, ⟨g, h⟩, ⟨i, j⟩, k, l, m, n⟩
theorem grainB_iff {fl ke sw be we : Int} : grainB fl ke sw be we = true ↔ GrainOk fl ke sw be we := by
  unfold grainB
  simp only [Bool.and_eq_true, inB_iff, decide_eq_true_eq]
  constructor
  · rintro ⟨⟨a, b⟩, c, ⟨d, e⟩, ⟨f, g⟩, h, i⟩
    exact ⟨a, b, c, d, e, f, g, h, i⟩
  · rintro ⟨a, b, c, d, e, f, g, h, i⟩
    exact ⟨⟨a, b⟩, c, ⟨d, e⟩, ⟨f, g⟩, h, i⟩
theorem plB_iff {x y : Int} : plB x y = true ↔ (-6553600000 ≤ x ∧ x ≤ 6553600000) ∧ -6553600000 ≤ y ∧ y ≤ 6553600000 := by
  unfold plB
  simp only [Bool.and_eq_true, inB_iff]
theorem IceOk.at {cx cy sd wd ht : Int} {pb pl : List Int} (h : IceOk cx cy sd wd ht pb pl) {x y : Int} (hp : plB x y = true) : AtHyp cx cy sd wd ht x y := by
  obtain ⟨⟨a, b⟩, c, d⟩ := plB_iff.1 hp
  obtain ⟨a', b', c', d', e, f, g, h, i, j, k, l, m, n⟩ := h
  exact ⟨by omega, by omega, by omega, by omega, e, f, g, h, i, j⟩
def iceAt (cx cy sd wd ht : Int) (pb pl : List Int) (x y : Int) : Int × Int :=
  if iceB cx cy sd wd ht pb pl = true ∧ plB x y = true then (if atOk cx cy sd wd ht x y = true then (atV cx cy sd wd ht x y, 0) else (0, 7)) else (0, 2)
def iceSlow (cx cy sd wd ht : Int) (pb pl : List Int) (fl ke sw be we x y : Int) : Int × Int :=
  if iceB cx cy sd wd ht pb pl = true ∧ grainB fl ke sw be we = true ∧ plB x y = true then (slowF fl ke sw (grV pb cx cy sd wd ht x y) (grV pl cx cy sd wd ht x y), 0) else (0, 2)
def bendF (be q : Int) : Int := scaleF 65536 (be * (2000 - q)) 2000000 3
def iceBend (cx cy sd wd ht : Int) (pb pl : List Int) (fl ke sw be we x y : Int) : Int × Int :=
  if iceB cx cy sd wd ht pb pl = true ∧ grainB fl ke sw be we = true ∧ plB x y = true then (bendF be (grV pl cx cy sd wd ht x y), 0) else (0, 2)
theorem quoR_le {x a d : Int} (neg : Bool) (how : Nat) (hx : 0 ≤ x) (hd : 0 < d) (h : x ≤ a * d) : quoR x d neg how ≤ a := by
  have e := Int.mul_ediv_add_emod x d
  have h1 : x / d ≤ a := by
    have := Int.ediv_le_ediv hd h
    rwa [Int.mul_ediv_cancel _ (by omega)] at this
  unfold quoR
  split
  · rename_i hc
    rcases Int.lt_or_eq_of_le h1 with h2 | h2
    · omega
    · rw [h2, Int.mul_comm] at e
      omega
  · omega
theorem nabs_of {a : Int} (h : 0 ≤ a) : nabs a = a := by unfold nabs; rw [if_neg (by omega)]
theorem scaleF_nn {a n d : Int} (how : Nat) (ha : 0 ≤ a) (hn : 0 ≤ n) (hd : 0 < d) : scaleF a n d how = quoR (a * n) d false how := by
  unfold scaleF
  have : neg3 a n d = false := by unfold neg3; rw [decide_eq_false (by omega : ¬ a < 0), decide_eq_false (by omega : ¬ n < 0), decide_eq_false (by omega : ¬ d < 0)]; rfl
  rw [this, nabs_of ha, nabs_of hn, nabs_of (by omega : 0 ≤ d)]
  rfl
theorem near_le {a n d : Int} (how : Nat) (ha : 0 ≤ a) (hn : 0 ≤ n) (hnd : n ≤ d) (hd : 0 < d) : 0 ≤ scaleF a n d how ∧ scaleF a n d how ≤ a := by
  rw [scaleF_nn how ha hn hd]
  exact ⟨(quoR_bd _ d _ _ (Int.mul_nonneg ha hn) hd).1, quoR_le _ _ (Int.mul_nonneg ha hn) hd (Int.mul_le_mul_of_nonneg_left hnd ha)⟩
theorem slowF_bd {fl ke sw be we p q : Int} (G : GrainOk fl ke sw be we) (p0 : 0 ≤ p) (p1 : p ≤ 1000) (q0 : 0 ≤ q) (q1 : q ≤ 1000) : 0 ≤ slowF fl ke sw p q ∧ slowF fl ke sw p q ≤ fl := by
  obtain ⟨k0, k1, f1, s0, s1, _, _, _, _⟩ := G
  have h1 := near_le (a := fl - ke) (n := p) (d := 1000) 3 (by omega) p0 p1 (by omega)
  have hs : 0 ≤ sw * q ∧ sw * q ≤ 1000 * 1000 := mul_bd s0 s1 q0 q1
  have h2 := near_le (a := fl - scaleF (fl - ke) p 1000 3) (n := 1000000 - sw * q) (d := 1000000) 3 (by omega) (by omega) (by omega) (by omega)
  unfold slowF
  omega
theorem mulF_up {a b : Int} (ha : 0 ≤ a) (ha1 : a ≤ 65536) (hb : 0 ≤ b) : 0 ≤ mulF a b 2 ∧ mulF a b 2 ≤ b := by
  have hn : negOf a b = false := by unfold negOf; rw [decide_eq_false (by omega : ¬ a < 0), decide_eq_false (by omega : ¬ b < 0)]; rfl
  have hm : 0 ≤ a * b := Int.mul_nonneg ha hb
  have hle : a * b ≤ b * 65536 := by rw [Int.mul_comm]; exact Int.mul_le_mul_of_nonneg_left ha1 hb
  unfold mulF
  rw [hn, nabs_of ha, nabs_of hb]
  exact ⟨(quoR_bd _ 65536 _ _ hm (by omega)).1, quoR_le _ _ hm (by omega) hle⟩
def skipR (cy sd ht sY : Int) : Nat → Int → Int
  | 0, r => r
  | n + 1, r => if r ≤ ht ∧ cy + r * sd ≤ sY then skipR cy sd ht sY n (r + 1) else r
def nextY (cy sd ht te r : Int) : Int := if r ≤ ht ∧ cy + r * sd < te then cy + r * sd else te
def wSum (slow : Int → Int) (cy sd ht te : Int) : Nat → Int → Int → Int → Int
  | 0, _, _, acc => acc
  | n + 1, r, sY, acc =>
    if nextY cy sd ht te (skipR cy sd ht sY 300 r) = te then acc + mulF (slow sY) (te - sY) 2
    else wSum slow cy sd ht te n (skipR cy sd ht sY 300 r) (nextY cy sd ht te (skipR cy sd ht sY 300 r)) (acc + mulF (slow sY) (nextY cy sd ht te (skipR cy sd ht sY 300 r) - sY) 2)
def slowAt (cx cy sd wd ht : Int) (pb pl : List Int) (fl ke sw x y : Int) : Int := slowF fl ke sw (grV pb cx cy sd wd ht x y) (grV pl cx cy sd wd ht x y)
def weightB (cx cy sd wd ht : Int) (pb pl : List Int) (fl ke sw be we x y te : Int) : Bool :=
  (iceB cx cy sd wd ht pb pl && (grainB fl ke sw be we && plB x y)) && (decide (y < te) && decide (te ≤ 6553600000))
def iceWeight (cx cy sd wd ht : Int) (pb pl : List Int) (fl ke sw be we x y te : Int) : Int × Int :=
  if weightB cx cy sd wd ht pb pl fl ke sw be we x y te = true then ((rootF ((2 * wSum (slowAt cx cy sd wd ht pb pl fl ke sw x) cy sd ht te 300 0 y 0).toNat * 65536) 2 : Nat), 0) else (0, 2)
theorem skipR_go {cy sd ht sY : Int} {n : Nat} {r : Int} (h : r ≤ ht ∧ cy + r * sd ≤ sY) : skipR cy sd ht sY (n + 1) r = skipR cy sd ht sY n (r + 1) := by
  show (if r ≤ ht ∧ cy + r * sd ≤ sY then skipR cy sd ht sY n (r + 1) else r) = _
  rw [if_pos h]
theorem skipR_stop {cy sd ht sY : Int} {n : Nat} {r : Int} (h : ¬ (r ≤ ht ∧ cy + r * sd ≤ sY)) : skipR cy sd ht sY n r = r := by
  cases n with
  | zero => rfl
  | succ n => show (if r ≤ ht ∧ cy + r * sd ≤ sY then skipR cy sd ht sY n (r + 1) else r) = _; rw [if_neg h]
theorem wSum_go {slow : Int → Int} {cy sd ht te : Int} {n : Nat} {r sY acc r2 nv : Int} (h : skipR cy sd ht sY 300 r = r2) (h2 : nextY cy sd ht te r2 = nv) (hn : nv ≠ te) : wSum slow cy sd ht te (n + 1) r sY acc = wSum slow cy sd ht te n r2 nv (acc + mulF (slow sY) (nv - sY) 2) := by
  subst h h2
  show (if nextY cy sd ht te (skipR cy sd ht sY 300 r) = te then _ else _) = _
  rw [if_neg hn]
theorem wSum_stop {slow : Int → Int} {cy sd ht te : Int} {n : Nat} {r sY acc r2 : Int} (h : skipR cy sd ht sY 300 r = r2) (h2 : nextY cy sd ht te r2 = te) : wSum slow cy sd ht te (n + 1) r sY acc = acc + mulF (slow sY) (te - sY) 2 := by
  subst h
  show (if nextY cy sd ht te (skipR cy sd ht sY 300 r) = te then _ else _) = _
  rw [if_pos h2]
def minI (a b : Int) : Int := if b < a then b else a
def maxI (a b : Int) : Int := if a < b then b else a
def bandNo (corner side many a b : Int) : Bool := decide (maxI a b - corner < 0) || decide (many * side < minI a b - corner)
def bandLo (corner side many a b : Int) : Int := if bandNo corner side many a b = true then 0 else maxI 0 ((minI a b - corner).tdiv side - 1)
def bandHi (corner side many a b : Int) : Int := if bandNo corner side many a b = true then -1 else minI (many - 1) ((maxI a b - corner).tdiv side)
theorem tdiv_bd {a s m : Int} (hs : 1 ≤ s) (h0 : -m ≤ a) (h1 : a ≤ m) : -m ≤ a.tdiv s ∧ a.tdiv s ≤ m := by
  have key : ∀ z : Int, 0 ≤ z → 0 ≤ z.tdiv s ∧ z.tdiv s ≤ z := fun z hz => by
    rw [Int.tdiv_eq_ediv_of_nonneg hz]
    exact ⟨Int.ediv_nonneg hz (by omega), Int.ediv_le_self s hz⟩
  by_cases h : 0 ≤ a
  · have := key a h; omega
  · have k := key (-a) (by omega)
    rw [Int.neg_tdiv] at k
    omega
def outB (fx fy tx ty lx ly hx hy : Int) : Bool := decide (maxI fx tx < lx) || decide (hx < minI fx tx) || decide (maxI fy ty < ly) || decide (hy < minI fy ty)
def turnAt (fx fy tx ty sx sy : Int) : Int := turnF (tx - fx) (ty - fy) (sx - fx) (sy - fy)
def cnt (v a b c d : Int) : Int := (if a = v then 1 else 0) + (if b = v then 1 else 0) + (if c = v then 1 else 0) + (if d = v then 1 else 0)
def touchC (fx fy tx ty lx ly hx hy : Int) : Bool :=
  if outB fx fy tx ty lx ly hx hy = true then false
  else decide (cnt (-1) (turnAt fx fy tx ty lx ly) (turnAt fx fy tx ty hx ly) (turnAt fx fy tx ty lx hy) (turnAt fx fy tx ty hx hy) < 4) &&
    decide (cnt 1 (turnAt fx fy tx ty lx ly) (turnAt fx fy tx ty hx ly) (turnAt fx fy tx ty lx hy) (turnAt fx fy tx ty hx hy) < 4)
def touchB (cx cy sd wd fx fy tx ty k : Int) : Bool := touchC fx fy tx ty (cx + k % wd * sd) (cy + k / wd * sd) (cx + k % wd * sd + sd) (cy + k / wd * sd + sd)
theorem turnF_three (a b c d : Int) : turnF a b c d = -1 ∨ turnF a b c d = 0 ∨ turnF a b c d = 1 := by
  unfold turnF
  split
  · exact .inl rfl
  · split
    · exact .inr (.inl rfl)
    · exact .inr (.inr rfl)
theorem nabs_mul_neg {a b : Int} (h : negOf a b = true) : a * b = -(nabs a * nabs b) := by
  unfold negOf at h
  unfold nabs
  by_cases ha : a < 0 <;> by_cases hb : b < 0 <;> simp [ha, hb, Int.neg_mul, Int.mul_neg] at h ⊢
theorem nabs_mul_pos {a b : Int} (h : negOf a b = false) : a * b = nabs a * nabs b := by
  unfold negOf at h
  unfold nabs
  by_cases ha : a < 0 <;> by_cases hb : b < 0 <;> simp [ha, hb, Int.neg_mul, Int.mul_neg] at h ⊢
theorem nabs_mul (a b : Int) : a * b = if negOf a b = true then -(nabs a * nabs b) else nabs a * nabs b := by
  cases h : negOf a b
  · rw [nabs_mul_pos h]; rfl
  · rw [nabs_mul_neg h]; rfl
theorem turn_eq (ax ay bx by' : Int) : turnR (negOf ax by') (negOf ay bx) (nabs ax * nabs by') (nabs ay * nabs bx) = turnF ax ay bx by' := by
  have h1 := nabs_mul ax by'
  have h2 := nabs_mul ay bx
  have n1 := Int.mul_nonneg (nabs_nonneg ax) (nabs_nonneg by')
  have n2 := Int.mul_nonneg (nabs_nonneg ay) (nabs_nonneg bx)
  unfold turnF turnR
  rw [h1, h2]
  generalize nabs ax * nabs by' = X at *
  generalize nabs ay * nabs bx = Y at *
  cases negOf ax by' <;> cases negOf ay bx <;> simp [cmpI] <;> (repeat' split) <;> first | rfl | omega
end Go.Proofs.Ytibaapaglocpjaa.B

end
section
set_option linter.unusedSimpArgs false
set_option linter.unusedVariables false
namespace Go.Proofs.Ytibaapaglocpjaa.B
open Go.RowKit Go.Proofs.YtibaapaglocpjaaW.PrintWords
def fromTo (a b : Int) : List Int := (List.range (b - a + 1).toNat).map fun (i : Nat) => a + i
theorem mem_fromTo {a b x : Int} : x ∈ fromTo a b ↔ a ≤ x ∧ x ≤ b := by
  unfold fromTo
  simp only [List.mem_map, List.mem_range]
  constructor
  · rintro ⟨i, hi, rfl⟩; omega
  · rintro ⟨h0, h1⟩; exact ⟨(x - a).toNat, by omega, by omega⟩
theorem fromTo_rises (a b : Int) : (fromTo a b).Pairwise (· < ·) := by
  unfold fromTo
  rw [List.pairwise_map]
  exact (List.pairwise_lt_range).imp (fun h => by omega)
def bandCells (wd W E S N : Int) : List Int := (fromTo S N).flatMap fun y => (fromTo W E).map fun x => y * wd + x
theorem bandCells_rises {wd W E S N : Int} (hW : 0 ≤ W) (hE : E < wd) : (bandCells wd W E S N).Pairwise (· < ·) := by
  unfold bandCells
  rw [List.pairwise_flatMap]
  refine ⟨fun y _ => ?_, ?_⟩
  · rw [List.pairwise_map]
    exact (fromTo_rises W E).imp (fun h => by omega)
  · refine (fromTo_rises S N).imp_of_mem ?_
    intro y z _ _ hlt a ha b hb
    simp only [List.mem_map, mem_fromTo] at ha hb
    obtain ⟨x, hx, rfl⟩ := ha
    obtain ⟨x', hx', rfl⟩ := hb
    have : (y + 1) * wd ≤ z * wd := Int.mul_le_mul_of_nonneg_right (by omega) (by omega)
    rw [Int.add_mul, Int.one_mul] at this
    omega
theorem mem_bandCells {wd W E S N c : Int} (hW : 0 ≤ W) (hE : E < wd) (hwd : 0 < wd) : c ∈ bandCells wd W E S N ↔ (S ≤ c / wd ∧ c / wd ≤ N) ∧ W ≤ c % wd ∧ c % wd ≤ E := by
  unfold bandCells
  simp only [List.mem_flatMap, List.mem_map, mem_fromTo]
  constructor
  · rintro ⟨y, hy, x, hx, rfl⟩
    have h1 : (y * wd + x) / wd = y := by
      rw [Int.add_comm, Int.add_mul_ediv_right _ _ (by omega), Int.ediv_eq_zero_of_lt (by omega) (by omega), Int.zero_add]
    have h2 : (y * wd + x) % wd = x := by
      rw [Int.add_comm, Int.add_mul_emod_self_right, Int.emod_eq_of_lt (by omega) (by omega)]
    rw [h1, h2]; exact ⟨hy, hx⟩
  · rintro ⟨hy, hx⟩
    refine ⟨c / wd, hy, c % wd, hx, ?_⟩
    have := Int.mul_ediv_add_emod c wd
    rw [Int.mul_comm] at this
    exact this
theorem rising_ext : ∀ (l r : List Int), l.Pairwise (· < ·) → r.Pairwise (· < ·) → (∀ x, x ∈ l ↔ x ∈ r) → l = r
  | [], [], _, _, _ => rfl
  | [], b :: r, _, _, h => by have := (h b).2 (by simp); simp at this
  | a :: l, [], _, _, h => by have := (h a).1 (by simp); simp at this
  | a :: l, b :: r, hl, hr, h => by
    rw [List.pairwise_cons] at hl hr
    have hab : a = b := by
      rcases List.mem_cons.1 ((h a).1 (by simp)) with e | e
      · exact e
      · rcases List.mem_cons.1 ((h b).2 (by simp)) with e' | e'
        · exact e'.symm
        · have := hr.1 a e; have := hl.1 b e'; omega
    subst hab
    congr 1
    refine rising_ext l r hl.2 hr.2 (fun x => ?_)
    constructor
    · intro hx
      rcases List.mem_cons.1 ((h x).1 (by simp [hx])) with e | e
      · subst e; have := hl.1 x hx; omega
      · exact e
    · intro hx
      rcases List.mem_cons.1 ((h x).2 (by simp [hx])) with e | e
      · subst e; have := hr.1 x hx; omega
      · exact e
theorem tdiv_le_of {a s b : Int} (hs : 1 ≤ s) (h : b * s ≤ a) (h0 : 0 ≤ a) : b ≤ a.tdiv s := by
  rw [Int.tdiv_eq_ediv_of_nonneg h0]
  exact (Int.le_ediv_iff_mul_le (by omega)).2 h
theorem le_of_tdiv {a s b : Int} (hs : 1 ≤ s) (h : a ≤ b * s) (hb : 0 ≤ b) : a.tdiv s ≤ b := by
  by_cases h0 : 0 ≤ a
  · rw [Int.tdiv_eq_ediv_of_nonneg h0]
    have := Int.ediv_le_ediv (show 0 < s by omega) h
    rwa [Int.mul_ediv_cancel _ (by omega)] at this
  · have e : a.tdiv s = -((-a).tdiv s) := by rw [Int.neg_tdiv]; omega
    have : 0 ≤ (-a).tdiv s := Int.tdiv_nonneg (by omega) (by omega)
    omega
structure WayOk (cx cy sd wd ht : Int) : Prop where
  s0 : 1 ≤ sd
  w0 : 1 ≤ wd
  h0 : 1 ≤ ht
theorem band_of {corner side many a b k : Int} (hs : 1 ≤ side) (hk0 : 0 ≤ k) (hk : k < many) (h1 : corner + k * side ≤ maxI a b) (h2 : minI a b ≤ corner + k * side + side) :
    bandLo corner side many a b ≤ k ∧ k ≤ bandHi corner side many a b := by
  have hks : 0 ≤ k * side := Int.mul_nonneg hk0 (by omega)
  have hms : (k + 1) * side ≤ many * side := Int.mul_le_mul_of_nonneg_right (by omega) (by omega)
  have h3 : (k + 1) * side = k * side + side := by rw [Int.add_mul, Int.one_mul]
  have hno : bandNo corner side many a b = false := by
    unfold bandNo
    rw [decide_eq_false (by omega), decide_eq_false (by omega)]; rfl
  unfold bandLo bandHi
  rw [hno]
  have e1 := le_of_tdiv (a := minI a b - corner) (b := k + 1) hs (by omega) (by omega)
  have e2 := tdiv_le_of (a := maxI a b - corner) (b := k) hs (by omega) (by omega)
  simp only [Bool.false_eq_true, if_false]
  constructor
  · show maxI 0 _ ≤ k
    unfold maxI; split <;> omega
  · show k ≤ minI _ _
    generalize (maxI a b - corner).tdiv side = q at *
    unfold minI; split <;> omega
theorem band_in (corner side many a b : Int) (h : 1 ≤ many) : 0 ≤ bandLo corner side many a b ∧ bandHi corner side many a b < many := by
  unfold bandLo bandHi
  split
  · omega
  · generalize (minI a b - corner).tdiv side = p
    generalize (maxI a b - corner).tdiv side = q
    unfold maxI minI
    constructor <;> split <;> omega
def touchedL (cx cy sd wd ht fx fy tx ty : Int) : List Int := (fromTo 0 (wd * ht - 1)).filter (touchB cx cy sd wd fx fy tx ty)
theorem touched_band {cx cy sd wd ht : Int} (fx fy tx ty : Int) (H : WayOk cx cy sd wd ht) :
    (bandCells wd (bandLo cx sd wd fx tx) (bandHi cx sd wd fx tx) (bandLo cy sd ht fy ty) (bandHi cy sd ht fy ty)).filter (touchB cx cy sd wd fx fy tx ty) = touchedL cx cy sd wd ht fx fy tx ty := by
  obtain ⟨s0, w0, h0⟩ := H
  obtain ⟨x0, x1⟩ := band_in cx sd wd fx tx w0
  obtain ⟨y0, y1⟩ := band_in cy sd ht fy ty h0
  refine rising_ext _ _ ((bandCells_rises x0 x1).filter _) ((fromTo_rises _ _).filter _) (fun c => ?_)
  simp only [touchedL, List.mem_filter, mem_fromTo]
  rw [mem_bandCells x0 x1 (by omega)]
  have hm := Int.emod_nonneg c (show wd ≠ 0 by omega)
  have hm2 := Int.emod_lt_of_pos c (show 0 < wd by omega)
  have hd := Int.mul_ediv_add_emod c wd
  constructor
  · rintro ⟨⟨⟨a, b⟩, d, e⟩, ht'⟩
    refine ⟨⟨?_, ?_⟩, ht'⟩
    · have : 0 ≤ wd * (c / wd) := Int.mul_nonneg (by omega) (by omega)
      omega
    · have : wd * (c / wd + 1) ≤ wd * ht := Int.mul_le_mul_of_nonneg_left (by omega) (by omega)
      rw [Int.mul_add, Int.mul_one] at this
      omega
  · rintro ⟨⟨a, b⟩, ht'⟩
    refine ⟨?_, ht'⟩
    have hy0 : 0 ≤ c / wd := Int.ediv_nonneg a (by omega)
    have hy1 : c / wd < ht := Int.ediv_lt_of_lt_mul (by omega) (by rw [Int.mul_comm]; omega)
    have ho : outB fx fy tx ty (cx + c % wd * sd) (cy + c / wd * sd) (cx + c % wd * sd + sd) (cy + c / wd * sd + sd) = false := by
      cases h : outB fx fy tx ty (cx + c % wd * sd) (cy + c / wd * sd) (cx + c % wd * sd + sd) (cy + c / wd * sd + sd) with
      | false => rfl
      | true => simp only [touchB, touchC] at ht'; rw [h] at ht'; simp at ht'
    unfold outB at ho
    simp only [Bool.or_eq_false_iff, decide_eq_false_iff_not] at ho
    exact ⟨band_of s0 hy0 hy1 (by omega) (by omega), band_of s0 hm hm2 (by omega) (by omega)⟩
theorem minI_comm (a b : Int) : minI a b = minI b a := by unfold minI; split <;> split <;> omega
theorem maxI_comm (a b : Int) : maxI a b = maxI b a := by unfold maxI; split <;> split <;> omega
theorem turn_back (fx fy tx ty sx sy : Int) : turnAt tx ty fx fy sx sy = -turnAt fx fy tx ty sx sy := by
  unfold turnAt turnF
  have e1 : (fx - tx) * (sy - ty) - (fy - ty) * (sx - tx) = -((tx - fx) * (sy - fy) - (ty - fy) * (sx - fx)) := by
    simp only [Int.sub_mul, Int.mul_sub]
    have a1 := Int.mul_comm fx ty; have a2 := Int.mul_comm fy tx; have a3 := Int.mul_comm fx fy; have a4 := Int.mul_comm tx ty
    omega
  generalize (fx - tx) * (sy - ty) = A at *
  generalize (fy - ty) * (sx - tx) = B at *
  generalize (tx - fx) * (sy - fy) = C at *
  generalize (ty - fy) * (sx - fx) = D at *
  repeat' split
  all_goals omega
theorem touchC_back (fx fy tx ty lx ly hx hy : Int) : touchC tx ty fx fy lx ly hx hy = touchC fx fy tx ty lx ly hx hy := by
  unfold touchC
  have ho : outB tx ty fx fy lx ly hx hy = outB fx fy tx ty lx ly hx hy := by
    unfold outB; rw [maxI_comm tx fx, minI_comm tx fx, maxI_comm ty fy, minI_comm ty fy]
  rw [ho, turn_back fx fy tx ty, turn_back fx fy tx ty, turn_back fx fy tx ty, turn_back fx fy tx ty]
  have c1 : ∀ a b c d : Int, cnt (-1) (-a) (-b) (-c) (-d) = cnt 1 a b c d := fun a b c d => by
    unfold cnt
    have : ∀ z : Int, (-z = -1) = (z = 1) := fun z => by apply propext; omega
    simp only [this]
  have c2 : ∀ a b c d : Int, cnt 1 (-a) (-b) (-c) (-d) = cnt (-1) a b c d := fun a b c d => by
    unfold cnt
    have : ∀ z : Int, (-z = 1) = (z = -1) := fun z => by apply propext; omega
    simp only [this]
  rw [c1, c2]
  split
  · rfl
  · rw [Bool.and_comm]
theorem touched_back (cx cy sd wd ht fx fy tx ty : Int) : touchedL cx cy sd wd ht tx ty fx fy = touchedL cx cy sd wd ht fx fy tx ty := by
  unfold touchedL
  congr 1
  funext k
  exact touchC_back ..
theorem lin_pos {a c l h s : Int} (h1 : l ≤ s) (h2 : s ≤ h) (p1 : 0 < a * l + c) (p2 : 0 < a * h + c) : 0 < a * s + c := by
  rcases Int.le_total 0 a with ha | ha
  · have := Int.mul_le_mul_of_nonneg_left h1 ha; omega
  · have : (-a) * s ≤ (-a) * h := Int.mul_le_mul_of_nonneg_left h2 (by omega)
    simp only [Int.neg_mul] at this; omega
theorem turn_pos {fx fy tx ty sx sy : Int} : turnAt fx fy tx ty sx sy = 1 ↔ 0 < (tx - fx) * (sy - fy) - (ty - fy) * (sx - fx) := by
  unfold turnAt turnF
  generalize (tx - fx) * (sy - fy) = C
  generalize (ty - fy) * (sx - fx) = D
  repeat' split
  all_goals omega
theorem turn_neg {fx fy tx ty sx sy : Int} : turnAt fx fy tx ty sx sy = -1 ↔ (tx - fx) * (sy - fy) - (ty - fy) * (sx - fx) < 0 := by
  unfold turnAt turnF
  generalize (tx - fx) * (sy - fy) = C
  generalize (ty - fy) * (sx - fx) = D
  repeat' split
  all_goals omega
theorem box_pos {a b c lx ly hx hy sx sy : Int} (x0 : lx ≤ sx) (x1 : sx ≤ hx) (y0 : ly ≤ sy) (y1 : sy ≤ hy)
    (h1 : 0 < a * lx + (b * ly + c)) (h2 : 0 < a * hx + (b * ly + c)) (h3 : 0 < a * lx + (b * hy + c)) (h4 : 0 < a * hx + (b * hy + c)) : 0 < a * sx + (b * sy + c) := by
  have k1 := lin_pos x0 x1 h1 h2
  have k2 := lin_pos x0 x1 h3 h4
  have := lin_pos (a := b) (c := a * sx + c) y0 y1 (by omega) (by omega)
  omega
theorem cnt_four {v a b c d : Int} (h : ¬ cnt v a b c d < 4) : a = v ∧ b = v ∧ c = v ∧ d = v := by
  unfold cnt at h
  refine ⟨?_, ?_, ?_, ?_⟩ <;> (apply Decidable.byContradiction; intro hn; rw [if_neg hn] at h; revert h; repeat' split; all_goals omega)
theorem cross_form (fx fy tx ty px py : Int) : (tx - fx) * (py - fy) - (ty - fy) * (px - fx) = (-(ty - fy)) * px + ((tx - fx) * py + ((ty - fy) * fx - (tx - fx) * fy)) := by
  simp only [Int.sub_mul, Int.mul_sub, Int.neg_mul, Int.neg_sub]
  omega
theorem touch_place {fx fy tx ty lx ly hx hy sx sy : Int} (x0 : lx ≤ sx) (x1 : sx ≤ hx) (y0 : ly ≤ sy) (y1 : sy ≤ hy)
    (bx0 : minI fx tx ≤ sx) (bx1 : sx ≤ maxI fx tx) (by0 : minI fy ty ≤ sy) (by1 : sy ≤ maxI fy ty) (hs : (tx - fx) * (sy - fy) - (ty - fy) * (sx - fx) = 0) : touchC fx fy tx ty lx ly hx hy = true := by
  unfold touchC
  have ho : outB fx fy tx ty lx ly hx hy = false := by
    unfold outB
    rw [decide_eq_false (by omega), decide_eq_false (by omega), decide_eq_false (by omega), decide_eq_false (by omega)]; rfl
  rw [ho]
  simp only [Bool.false_eq_true, if_false, Bool.and_eq_true, decide_eq_true_eq]
  rw [cross_form] at hs
  constructor
  · apply Decidable.byContradiction
    intro h
    obtain ⟨a, b, c, d⟩ := cnt_four h
    rw [turn_neg, cross_form] at a b c d
    have := box_pos (a := (ty - fy)) (b := -(tx - fx)) (c := -((ty - fy) * fx - (tx - fx) * fy)) x0 x1 y0 y1 (by simp only [Int.neg_mul] at *; omega) (by simp only [Int.neg_mul] at *; omega) (by simp only [Int.neg_mul] at *; omega) (by simp only [Int.neg_mul] at *; omega)
    simp only [Int.neg_mul] at *; omega
  · apply Decidable.byContradiction
    intro h
    obtain ⟨a, b, c, d⟩ := cnt_four h
    rw [turn_pos, cross_form] at a b c d
    have := box_pos x0 x1 y0 y1 a b c d
    omega
theorem touched_rises (cx cy sd wd ht fx fy tx ty : Int) : (touchedL cx cy sd wd ht fx fy tx ty).Pairwise (· < ·) := (fromTo_rises _ _).filter _
theorem touched_in {cx cy sd wd ht fx fy tx ty c : Int} (h : c ∈ touchedL cx cy sd wd ht fx fy tx ty) : 0 ≤ c ∧ c < wd * ht ∧ touchB cx cy sd wd fx fy tx ty c = true := by
  unfold touchedL at h
  simp only [List.mem_filter, mem_fromTo] at h
  exact ⟨h.1.1, by omega, h.2⟩
theorem fromTo_none {a b : Int} (h : b < a) : fromTo a b = [] := by
  unfold fromTo
  rw [show (b - a + 1).toNat = 0 by omega]; rfl
theorem fromTo_cons {a b : Int} (h : a ≤ b) : fromTo a b = a :: fromTo (a + 1) b := by
  refine rising_ext _ _ (fromTo_rises a b) ?_ (fun x => ?_)
  · rw [List.pairwise_cons]
    exact ⟨fun x hx => by rw [mem_fromTo] at hx; omega, fromTo_rises _ _⟩
  · rw [List.mem_cons, mem_fromTo, mem_fromTo]; omega
def bandRest (t : Int → Bool) (wd W E N Y : Int) : List Int := (bandCells wd W E Y N).filter t
def cellRest (t : Int → Bool) (wd W E N Y X : Int) : List Int := ((fromTo X E).map fun x => Y * wd + x).filter t ++ bandRest t wd W E N (Y + 1)
theorem bandRest_go {t : Int → Bool} {wd W E N Y : Int} (h : Y ≤ N) : bandRest t wd W E N Y = cellRest t wd W E N Y W := by
  unfold bandRest cellRest bandRest bandCells
  rw [fromTo_cons h, List.flatMap_cons, List.filter_append]
theorem bandRest_none {t : Int → Bool} {wd W E N Y : Int} (h : N < Y) : bandRest t wd W E N Y = [] := by
  unfold bandRest bandCells
  rw [fromTo_none h]; rfl
theorem cellRest_none {t : Int → Bool} {wd W E N Y X : Int} (h : E < X) : cellRest t wd W E N Y X = bandRest t wd W E N (Y + 1) := by
  unfold cellRest
  rw [fromTo_none h]; rfl
theorem cellRest_yes {t : Int → Bool} {wd W E N Y X : Int} (h : X ≤ E) (ht : t (Y * wd + X) = true) : cellRest t wd W E N Y X = (Y * wd + X) :: cellRest t wd W E N Y (X + 1) := by
  unfold cellRest
  rw [fromTo_cons h, List.map_cons, List.filter_cons_of_pos ht, List.cons_append]
theorem cellRest_no {t : Int → Bool} {wd W E N Y X : Int} (h : X ≤ E) (ht : t (Y * wd + X) = false) : cellRest t wd W E N Y X = cellRest t wd W E N Y (X + 1) := by
  unfold cellRest
  rw [fromTo_cons h, List.map_cons, List.filter_cons_of_neg (by rw [ht]; decide)]
end Go.Proofs.Ytibaapaglocpjaa.B

end
section
set_option linter.unusedSimpArgs false
set_option linter.unusedVariables false
namespace Go.Proofs.Ytibaapaglocpjaa.B
open Go.RowKit Go.Proofs.YtibaapaglocpjaaW.PrintWords
theorem cell_parts {cx cy sd wd ht x y : Int} (H : AtHyp cx cy sd wd ht x y) (h : atOk cx cy sd wd ht x y = true) :
    atV cx cy sd wd ht x y % wd = (x - cx) / sd ∧ atV cx cy sd wd ht x y / wd = (y - cy) / sd := by
  obtain ⟨x0, x1, y0, y1, s0, s1, w0, w1, h0, h1⟩ := H
  obtain ⟨a, b, c, d⟩ := of_decide_eq_true h
  have e2 : (x - cx) / sd < wd := Int.ediv_lt_of_lt_mul (by omega) c
  have e4 : 0 ≤ (x - cx) / sd := Int.ediv_nonneg a (by omega)
  unfold atV atC
  rw [if_pos h]
  constructor
  · rw [Int.add_comm, Int.add_mul_emod_self_right, Int.emod_eq_of_lt e4 e2]
  · rw [Int.add_comm, Int.add_mul_ediv_right _ _ (by omega), Int.ediv_eq_zero_of_lt e4 e2, Int.zero_add]
theorem side_in {c s x : Int} (hs : 1 ≤ s) : c + (x - c) / s * s ≤ x ∧ x ≤ c + (x - c) / s * s + s := by
  have e := Int.mul_ediv_add_emod (x - c) s
  have r0 := Int.emod_nonneg (x - c) (show s ≠ 0 by omega)
  have r1 := Int.emod_lt_of_pos (x - c) (show 0 < s by omega)
  rw [Int.mul_comm] at e
  omega
theorem place_touched {cx cy sd wd ht fx fy tx ty sx sy : Int} (H : AtHyp cx cy sd wd ht sx sy) (h : atOk cx cy sd wd ht sx sy = true)
    (bx0 : minI fx tx ≤ sx) (bx1 : sx ≤ maxI fx tx) (by0 : minI fy ty ≤ sy) (by1 : sy ≤ maxI fy ty) (hs : (tx - fx) * (sy - fy) - (ty - fy) * (sx - fx) = 0) :
    atV cx cy sd wd ht sx sy ∈ touchedL cx cy sd wd ht fx fy tx ty := by
  obtain ⟨r0, r1⟩ := atV_range H h
  obtain ⟨p1, p2⟩ := cell_parts H h
  have a := side_in (c := cx) (x := sx) H.s0
  have b := side_in (c := cy) (x := sy) H.s0
  unfold touchedL
  simp only [List.mem_filter, mem_fromTo]
  refine ⟨⟨r0, by omega⟩, ?_⟩
  unfold touchB
  rw [p1, p2]
  exact touch_place a.1 a.2 b.1 b.2 bx0 bx1 by0 by1 hs
theorem part_between {a u k n : Int} (k0 : 0 ≤ k) (k1 : k ≤ n) : minI a (a + u * n) ≤ a + u * k ∧ a + u * k ≤ maxI a (a + u * n) := by
  unfold minI maxI
  rcases Int.le_total 0 u with h | h
  · have h1 := Int.mul_le_mul_of_nonneg_left k1 h
    have h2 := Int.mul_nonneg h k0
    constructor <;> split <;> omega
  · have h1 : (-u) * k ≤ (-u) * n := Int.mul_le_mul_of_nonneg_left k1 (by omega)
    have h2 : 0 ≤ (-u) * k := Int.mul_nonneg (by omega) k0
    simp only [Int.neg_mul] at h1 h2
    constructor <;> split <;> omega
theorem part_cross {u v n k : Int} : u * n * (v * k) - v * n * (u * k) = 0 := by
  have : u * n * (v * k) = v * n * (u * k) := by
    simp only [Int.mul_assoc, Int.mul_comm, Int.mul_left_comm]
  omega
theorem part_touched {cx cy sd wd ht fx fy u v n k : Int} (H : AtHyp cx cy sd wd ht (fx + u * k) (fy + v * k)) (k0 : 0 ≤ k) (k1 : k ≤ n) (h : atOk cx cy sd wd ht (fx + u * k) (fy + v * k) = true) :
    atV cx cy sd wd ht (fx + u * k) (fy + v * k) ∈ touchedL cx cy sd wd ht fx fy (fx + u * n) (fy + v * n) := by
  obtain ⟨a, b⟩ := part_between (a := fx) (u := u) k0 k1
  obtain ⟨c, d⟩ := part_between (a := fy) (u := v) k0 k1
  refine place_touched H h a b c d ?_
  have e1 : fx + u * n - fx = u * n := by omega
  have e2 : fy + v * n - fy = v * n := by omega
  have e3 : fx + u * k - fx = u * k := by omega
  have e4 : fy + v * k - fy = v * k := by omega
  rw [e1, e2, e3, e4]
  exact part_cross
theorem gcd_step {a b : Int} (hb : 0 < b) (ha : 0 ≤ a) : 0 ≤ a.tmod b ∧ a.tmod b < b := by
  rw [Int.tmod_eq_emod_of_nonneg ha]
  exact ⟨Int.emod_nonneg _ (by omega), Int.emod_lt_of_pos _ hb⟩
theorem gcd_dvd {a b g : Int} (ha : 0 ≤ a) (h1 : g ∣ b) (h2 : g ∣ a.tmod b) : g ∣ a := by
  rw [Int.tmod_eq_emod_of_nonneg ha] at h2
  have := Int.mul_ediv_add_emod a b
  rw [← this]
  exact Int.dvd_add (Int.dvd_trans h1 (Int.dvd_mul_right b _)) h2
end Go.Proofs.Ytibaapaglocpjaa.B

end
