import Derived.Laws.Bits64b
import Derived.Test.YtibaapaglocpjaaBW0
import Derived.Test.YtibaapaglocpjaaBF1
/- Proved here: lemmas for the laws' proofs (the texts Ff Fg Fh). No condition. -/
section
set_option linter.unusedSimpArgs false
set_option linter.unusedVariables false
namespace Go.Proofs.Ytibaapaglocpjaa.B
open Go.RowKit Go.Shelf
def bitOf (j : Nat) : Int := ((2 ^ j / 2 : Nat) : Int)
def nOf (m j : Nat) : Int := ((m * 2 ^ j : Nat) : Int)
def Inv (a m j : Nat) : Prop := m * 2 ^ j * (m * 2 ^ j) ≤ a ∧ a < (m + 1) * 2 ^ j * ((m + 1) * 2 ^ j)
theorem bitOf_half (j : Nat) : bitOf (j + 1) / 2 = bitOf j := by
  unfold bitOf
  rw [Nat.pow_succ, Nat.mul_div_cancel _ (by decide : 0 < 2)]
  omega
theorem bitOf_pos (j : Nat) : 0 < bitOf (j + 1) := by
  unfold bitOf
  rw [Nat.pow_succ, Nat.mul_div_cancel _ (by decide : 0 < 2)]
  have := Nat.two_pow_pos j
  omega
theorem or_bit (m j : Nat) (hj : j < 63) (hm : m * 2 ^ (j + 1) < 9223372036854775808) : bits .or .u64 (nOf m (j + 1)) (bitOf (j + 1)) = nOf (2 * m + 1) j := by
  unfold nOf bitOf
  have hp : 2 ^ (j + 1) / 2 = 2 ^ j := by rw [Nat.pow_succ, Nat.mul_div_cancel _ (by decide : 0 < 2)]
  have hlt : 2 ^ j < 2 ^ 63 := Nat.pow_lt_pow_right (by decide) hj
  rw [hp]
  rw [bits_or_u64_nat _ _ (by omega) (by omega)]
  have h := Nat.two_pow_add_eq_or_of_lt (i := j + 1) (b := 2 ^ j) (Nat.pow_lt_pow_right (by decide) (Nat.lt_succ_self j)) m
  have e : (2 * m + 1) * 2 ^ j = 2 ^ j * 2 * m + 2 ^ j := by rw [Nat.add_mul, Nat.one_mul, Nat.mul_comm (2 * m), ← Nat.mul_assoc]
  rw [Nat.mul_comm m, ← h, Nat.pow_succ, e]
theorem nOf_double (m j : Nat) : nOf (2 * m) j = nOf m (j + 1) := by
  unfold nOf
  congr 1
  rw [Nat.pow_succ, Nat.mul_comm 2 m, Nat.mul_assoc, Nat.mul_comm 2]
theorem inv_start (a : Nat) (h : a < 18446744073709551616) : Inv a 0 63 := by
  unfold Inv
  constructor
  · simp
  · have : (0 + 1) * 2 ^ 63 * ((0 + 1) * 2 ^ 63) = 85070591730234615865843651857942052864 := by decide
    omega
theorem inv_up (a m j : Nat) (h : Inv a m (j + 1)) (hc : (2 * m + 1) * 2 ^ j * ((2 * m + 1) * 2 ^ j) ≤ a) : Inv a (2 * m + 1) j := by
  obtain ⟨_, h2⟩ := h
  refine ⟨hc, ?_⟩
  have e : (2 * m + 1 + 1) * 2 ^ j = (m + 1) * 2 ^ (j + 1) := by
    rw [Nat.pow_succ, show 2 * m + 1 + 1 = 2 * (m + 1) from by omega, Nat.mul_comm 2, Nat.mul_assoc, Nat.mul_comm 2]
  rw [e]; exact h2
theorem inv_down (a m j : Nat) (h : Inv a m (j + 1)) (hc : a < (2 * m + 1) * 2 ^ j * ((2 * m + 1) * 2 ^ j)) : Inv a (2 * m) j := by
  obtain ⟨h1, _⟩ := h
  have e : 2 * m * 2 ^ j = m * 2 ^ (j + 1) := by
    rw [Nat.pow_succ, Nat.mul_comm 2, Nat.mul_assoc, Nat.mul_comm 2]
  exact ⟨by rw [e]; exact h1, hc⟩
theorem inv_lt (a m j : Nat) (h : a < 18446744073709551616) (hi : Inv a m j) : m * 2 ^ j < 4294967296 := by
  obtain ⟨h1, _⟩ := hi
  rcases Nat.lt_or_ge (m * 2 ^ j) 4294967296 with h' | h'
  · exact h'
  · have := Nat.mul_le_mul h' h'; omega
theorem inv_end (a m : Nat) (hi : Inv a m 0) : nOf m 0 = (isqrt a : Nat) := by
  obtain ⟨h1, h2⟩ := hi
  simp only [Nat.pow_zero, Nat.mul_one] at h1 h2
  unfold nOf
  rw [isqrt_unique h1 h2]; simp
theorem cmp_le_iff (x y : Int) : decide (cmpI x y ≤ 0) = decide (x ≤ y) := by
  unfold cmpI
  split
  · simp; omega
  · split
    · simp; omega
    · simp; omega
theorem compare_wa (v a : Int) (ha0 : 0 ≤ a) (ha : a < 18446744073709551616) (w : World) :
    Calls Try.prog 88 #[.agg #[.int .u64 (whi v), .int .u64 (wlo v)], .agg #[.int .u64 0, .int .u64 a]] w fun e w' => e = .returned (.int .i64 (cmpI v a)) ∧ Below w.heap.size w w' := by
  have := compare_w v a w
  have e1 : whi a = 0 := by unfold whi; omega
  have e2 : wlo a = a := by unfold wlo; omega
  rw [e1, e2] at this
  exact this
set_option maxRecDepth 100000 in
theorem wroot_any (a : Nat) (ha : a < 18446744073709551616) (w : World) :
    Calls Try.prog 86 #[.agg #[.int .u64 0, .int .u64 a]] w fun e w' => e = .returned (.int .u64 (isqrt a : Nat)) ∧ Below w.heap.size w w' := by
  have b0 := inv_start a ha
  have HI := Kp.mk b0
  have HA := Kp.mk ha
  clear b0 ha
  have hb63 : (4611686018427387904 : Int) = bitOf 63 := rfl
  have hn63 : (0 : Int) = nOf 0 63 := by unfold nOf; simp
  have HB63 := Lib.hid hb63
  have HN63 := Lib.hid hn63
  clear hb63 hn63
  have HEND : Kp (∀ m, Inv a m 0 → nOf m 0 = (isqrt a : Nat)) := ⟨fun m h => inv_end a m h⟩
  generalize ((isqrt a : Nat) : Int) = R at *
  go_enter Try.func86, Try.ntmps86
  go_wp2
  go_loopw [3, 4] (fun n b wr => ∃ j m : Nat, j ≤ 63 ∧ b = .int .u64 (bitOf j) ∧ n = .int .u64 (nOf m j) ∧ Kp (Inv a m j) ∧ Kp (Below w.heap.size w wr) ∧ wr.cell? ⟨w.heap.size, 0, none⟩ = some (.int .u64 0) ∧ wr.cell? ⟨w.heap.size, 1, none⟩ = some (.int .u64 a)) (fun _ b _ => (intOf b).toNat)
  case atStart => exact ⟨63, 0, by omega, congrArg _ HB63.out, congrArg _ HN63.out, HI, ⟨(by repeat (first | exact Below.refl _ _ | (with_reducible assumption) | apply bl_drew | apply bl_drewN | apply bl_alloc | (refine bl_set ?_ (by go_simp))))⟩, by go_simp, by go_simp⟩
  case round =>
    obtain ⟨j, m, hj, rfl, rfl, hinv, hB, hc0, hc1⟩ := hrel
    cases j with
    | zero =>
      have hz : decide ((0 : Int) < bitOf 0) = false := by decide
      have HE := HEND.out m hinv.out
      have HE2 := Lib.hid HE
      clear HE HEND HI HA
      go_wp2
      rw [HE2.out]
      go_ret
      exact ⟨rfl, hB.out⟩
    | succ j =>
      have hlt := inv_lt a m (j + 1) HA.out hinv.out
      have hor := or_bit m j (by omega) (by omega)
      have HOR := Lib.hid hor
      have hbp : decide ((0 : Int) < bitOf (j + 1)) = true := decide_eq_true (bitOf_pos j)
      have HBH := Lib.hid (bitOf_half j)
      have hx0 : 0 ≤ nOf (2 * m + 1) j := by unfold nOf; omega
      have hx1 : nOf (2 * m + 1) j < 18446744073709551616 := by
        have e : (2 * m + 1) * 2 ^ j = m * 2 ^ (j + 1) + 2 ^ j := by
          rw [Nat.pow_succ, Nat.add_mul, Nat.one_mul, Nat.mul_comm 2 m, Nat.mul_assoc, Nat.mul_comm 2]
        have hlt2 : 2 ^ j < 2 ^ 63 := Nat.pow_lt_pow_right (by decide) (by omega)
        unfold nOf; omega
      have hmeas : bitOf j < bitOf (j + 1) ∧ 0 < bitOf (j + 1) := by
        have h1 := bitOf_half j
        have h2 := bitOf_pos j
        omega
      have HME := Kp.mk hmeas
      have hsq : nOf (2 * m + 1) j * nOf (2 * m + 1) j = (((2 * m + 1) * 2 ^ j * ((2 * m + 1) * 2 ^ j) : Nat) : Int) := (Int.natCast_mul _ _).symm
      have HP := fun W => Kp.mk (product_any (nOf (2 * m + 1) j) (nOf (2 * m + 1) j) hx0 hx1 hx0 hx1 W)
      have HC := fun W => Kp.mk (compare_wa (nOf (2 * m + 1) j * nOf (2 * m + 1) j) a (by omega) (by have := HA.out; omega) W)
      have HD := Lib.hid (nOf_double m j)
      clear hlt hor hmeas hx0 hx1
      by_cases hc : (2 * m + 1) * 2 ^ j * ((2 * m + 1) * 2 ^ j) ≤ a
      · have hle : decide (cmpI (nOf (2 * m + 1) j * nOf (2 * m + 1) j) a ≤ 0) = true := by rw [cmp_le_iff, hsq]; exact decide_eq_true (Int.ofNat_le.2 hc)
        have HU := Kp.mk (inv_up a m j hinv.out hc)
        clear hsq hc
        go_wp2
        rw [HOR.out]
        go_region_held3 (fun w' => w'.cell? ⟨w.heap.size, 0, none⟩ = some (.int .u64 0) ∧ w'.cell? ⟨w.heap.size, 1, none⟩ = some (.int .u64 a)) (go_simp)
          (first | (go_at_call 69; (with_reducible refine (HP _).out.mono ?_); rintro e w1 ⟨rfl, hb1'⟩; have k0 := bl_cell hb1' (p := ⟨w.heap.size, 0, none⟩) (v := .int .u64 0) (by go_simp); have k1 := bl_cell hb1' (p := ⟨w.heap.size, 1, none⟩) (v := .int .u64 a) (by go_simp); have hb1 := Kp.mk hb1'; clear hb1') | (go_at_call 88; (with_reducible refine (HC _).out.mono ?_); rintro e w2 ⟨rfl, hb2'⟩; have j0 := bl_cell hb2' (p := ⟨w.heap.size, 0, none⟩) (v := .int .u64 0) (by go_simp); have j1 := bl_cell hb2' (p := ⟨w.heap.size, 1, none⟩) (v := .int .u64 a) (by go_simp); have hb2 := Kp.mk hb2'; clear hb2'))
        go_wp2
        go_roundw
        case rel => exact ⟨j, 2 * m + 1, by omega, by rw [HBH.out], rfl, HU, ⟨bl_then (bl_then (bl_drew hB.out) hb1.out) hb2.out⟩, by assumption, by assumption⟩
        case measure => have := HME.out; simp [intOf]; rw [HBH.out]; omega
      · have hle : decide (cmpI (nOf (2 * m + 1) j * nOf (2 * m + 1) j) a ≤ 0) = false := by rw [cmp_le_iff, hsq]; exact decide_eq_false (fun h => hc (Int.ofNat_le.1 h))
        have HU := Kp.mk (inv_down a m j hinv.out (by omega))
        clear hsq hc
        go_wp2
        rw [HOR.out]
        go_region_held3 (fun w' => w'.cell? ⟨w.heap.size, 0, none⟩ = some (.int .u64 0) ∧ w'.cell? ⟨w.heap.size, 1, none⟩ = some (.int .u64 a)) (go_simp)
          (first | (go_at_call 69; (with_reducible refine (HP _).out.mono ?_); rintro e w1 ⟨rfl, hb1'⟩; have k0 := bl_cell hb1' (p := ⟨w.heap.size, 0, none⟩) (v := .int .u64 0) (by go_simp); have k1 := bl_cell hb1' (p := ⟨w.heap.size, 1, none⟩) (v := .int .u64 a) (by go_simp); have hb1 := Kp.mk hb1'; clear hb1') | (go_at_call 88; (with_reducible refine (HC _).out.mono ?_); rintro e w2 ⟨rfl, hb2'⟩; have j0 := bl_cell hb2' (p := ⟨w.heap.size, 0, none⟩) (v := .int .u64 0) (by go_simp); have j1 := bl_cell hb2' (p := ⟨w.heap.size, 1, none⟩) (v := .int .u64 a) (by go_simp); have hb2 := Kp.mk hb2'; clear hb2'))
        go_wp2
        go_roundw
        case rel => exact ⟨j, 2 * m, by omega, by rw [HBH.out], by rw [HD.out], HU, ⟨bl_then (bl_then (bl_drew hB.out) hb1.out) hb2.out⟩, by assumption, by assumption⟩
        case measure => have := HME.out; simp [intOf]; rw [HBH.out]; omega
end Go.Proofs.Ytibaapaglocpjaa.B

end
section
set_option linter.unusedSimpArgs false
set_option linter.unusedVariables false
namespace Go.Proofs.Ytibaapaglocpjaa.B
open Go.RowKit Go.Shelf Go.Proofs.YtibaapaglocpjaaW.PrintWords
theorem eqA_wide (d : Nat) (w : World) (x0 y0 x1 y1 : Int) :
    (Op.equalIn (d + 2) 104 (.agg #[.int .u64 x0, .int .u64 x1]) (.agg #[.int .u64 y0, .int .u64 y1])).run Try.prog w = .ok (x0 == y0 && (x1 == y1)) w := by
  refine eqA_of Try.underlying104 (by kernel_rfl) ?_
  refine eqf_cons (by rfl) (by go_simp; rfl) (by go_simp; rfl) (by go_simp) ?_
  exact eqf_last (by rfl) (by go_simp; rfl) (by go_simp; rfl) (by go_simp)
theorem neq_wide (w : World) (x0 y0 x1 y1 : Int) :
    (binOp .neq 104 (.agg #[.int .u64 x0, .int .u64 x1]) (.agg #[.int .u64 y0, .int .u64 y1])).run Try.prog w = .ok (.bool (!(x0 == y0 && (x1 == y1)))) w := by
  simp only [binOp]
  simp [Op.equal, Op.maxDepth, eqA_wide 9998]
set_option maxRecDepth 100000 in
theorem root_any (a how : Nat) (hh : how = 1 ∨ how = 2) (ha : a < 4611686018427387905) (w : World) :
    Calls Try.prog 68 #[.agg #[.int .u64 0, .int .u64 a], .func (.func (wayOf how)) #[] #[]] w fun e w' => e = .returned (.int .i64 (rootF a how : Nat)) ∧ Below w.heap.size w w' := by
  have eg := enters_way how (by omega)
  obtain ⟨h1, h2⟩ := isqrt_spec a
  have hb : isqrt a < 2147483649 := by
    rcases Nat.lt_or_ge (isqrt a) 2147483649 with h | h
    · exact h
    · have := Nat.mul_le_mul h h; omega
  have HR := fun W => Kp.mk (wroot_any a (by omega) W)
  have HP := fun W => Kp.mk (product_small (isqrt a : Nat) (isqrt a : Nat) (by omega) (by omega) (by omega) (by omega) (by rw [← Int.natCast_mul]; omega) W)
  have HP2 := fun W => Kp.mk (product_any (2 * (isqrt a : Nat) + 1) (2 * (isqrt a : Nat) + 1) (by omega) (by omega) (by omega) (by omega) W)
  have HF : Kp (rootF a how = if how = 2 ∧ isqrt a * isqrt a ≠ a then isqrt a + 1 else isqrt a) := ⟨rfl⟩
  have HUP := fun x y W => Kp.mk (up_2 x y W)
  generalize rootF a how = R at *
  by_cases hx : isqrt a * isqrt a = a
  · have hn : ∀ W, (binOp .neq 104 (.agg #[.int .u64 0, .int .u64 ((isqrt a : Nat) * (isqrt a : Nat))]) (.agg #[.int .u64 0, .int .u64 a])).run Try.prog W = .ok (.bool false) W := fun W => by
      rw [neq_wide, ← Int.natCast_mul, hx]; simp
    have HF' : Kp (R = isqrt a) := ⟨by rw [HF.out, if_neg (fun h => h.2 hx)]⟩
    clear HF HP2 hx h1 h2 HUP hh
    generalize isqrt a = n at *
    go_enter Try.func68, Try.ntmps68
    go_wp2_with (go_at_call 86; (with_reducible refine (HR _).out.mono ?_); rintro e w1 ⟨rfl, hb1'⟩; have c0 := bl_cell hb1' (p := ⟨w.heap.size, 0, none⟩) (v := .int .u64 0) (by go_simp); have c1 := bl_cell hb1' (p := ⟨w.heap.size, 1, none⟩) (v := .int .u64 a) (by go_simp); have hb1 := Kp.mk hb1'; clear hb1')
    refine wp_region_held_drew (S := fun w' => w'.cell? ⟨w.heap.size, 0, none⟩ = some (.int .u64 0) ∧ w'.cell? ⟨w.heap.size, 1, none⟩ = some (.int .u64 a)) (by kernel_rfl) (by go_simp) (fun hHeld => ?_)
    (refine wpAnyH_take (i := 0) (v := ?_) rfl (by kernel_rfl) (by kernel_rfl) (by kernel_rfl) (fun _ _ _ h => h) (Or.inl ⟨by rfl, ?_⟩) (by assumption) ?_; rotate_left; (intro w hSw; (try dsimp only at hSw); go_simp; try (with_reducible rfl)); (try simp only [Act.put, List.setIfInBounds_toArray, List.set_cons_zero, List.set_cons_succ, List.getElem_toArray, List.getElem_cons_zero, List.getElem_cons_succ, Fin.getElem_fin]))
    (refine wpAnyH_take (i := 1) (v := ?_) rfl (by kernel_rfl) (by kernel_rfl) (by kernel_rfl) (fun _ _ _ h => h) (Or.inl ⟨by rfl, ?_⟩) (by assumption) ?_; rotate_left; (intro w hSw; (try dsimp only at hSw); go_simp; try (with_reducible rfl)); (try simp only [Act.put, List.setIfInBounds_toArray, List.set_cons_zero, List.set_cons_succ, List.getElem_toArray, List.getElem_cons_zero, List.getElem_cons_succ, Fin.getElem_fin]))
    (refine wpAnyH_take (i := 3) (v := ?_) rfl (by kernel_rfl) (by kernel_rfl) (by kernel_rfl) (fun _ _ _ h => h) (Or.inl ⟨by rfl, ?_⟩) (by assumption) ?_; rotate_left; (intro w hSw; (try dsimp only at hSw); go_simp; try (with_reducible rfl)); (try simp only [Act.put, List.setIfInBounds_toArray, List.set_cons_zero, List.set_cons_succ, List.getElem_toArray, List.getElem_cons_zero, List.getElem_cons_succ, Fin.getElem_fin]))
    (refine wpAnyH_ready (rs := [2]) (by kernel_rfl) (by simp) ?_; refine AllReadyH.cons rfl (fun K hK => ?_) AllReadyH.nil; go_simp; (go_at_call 69; (with_reducible refine (HP _).out.mono ?_); rintro e w2 ⟨rfl, hb2'⟩; have k0 := bl_cell hb2' (p := ⟨w.heap.size, 0, none⟩) (v := .int .u64 0) (by go_simp); have k1 := bl_cell hb2' (p := ⟨w.heap.size, 1, none⟩) (v := .int .u64 a) (by go_simp); have hb2 := Kp.mk hb2'; clear hb2'); refine hK.out _ _ (by go_simp) (fun hHeld => ?_); clear hK K; (try simp only [Act.put, List.setIfInBounds_toArray, List.set_cons_zero, List.set_cons_succ, List.getElem_toArray, List.getElem_cons_zero, List.getElem_cons_succ, Fin.getElem_fin]))
    (refine wpAnyH_take (i := 4) (v := ?_) rfl (by kernel_rfl) (by kernel_rfl) (by kernel_rfl) (fun _ _ _ h => h) (Or.inl ⟨by rfl, ?_⟩) (by assumption) ?_; rotate_left; (intro w hSw; (try dsimp only at hSw); go_simp; try (with_reducible rfl)); (try simp only [Act.put, List.setIfInBounds_toArray, List.set_cons_zero, List.set_cons_succ, List.getElem_toArray, List.getElem_cons_zero, List.getElem_cons_succ, Fin.getElem_fin]))
    (refine wpAnyH_take (i := 5) (v := ?_) rfl (by kernel_rfl) (by kernel_rfl) (by kernel_rfl) (fun _ _ _ h => h) (Or.inl ⟨by rfl, ?_⟩) (by assumption) ?_; rotate_left; (intro w hSw; (try dsimp only at hSw); go_simp; try (with_reducible rfl)); (try simp only [Act.put, List.setIfInBounds_toArray, List.set_cons_zero, List.set_cons_succ, List.getElem_toArray, List.getElem_cons_zero, List.getElem_cons_succ, Fin.getElem_fin]))
    (refine wpAnyH_take (i := 6) (v := undef) rfl (by kernel_rfl) (by kernel_rfl) (by kernel_rfl) (fun _ _ _ h => h) (Or.inr ⟨by rfl, rfl⟩) (by assumption) ?_; (try simp only [Act.put, List.setIfInBounds_toArray, List.set_cons_zero, List.set_cons_succ, List.getElem_toArray, List.getElem_cons_zero, List.getElem_cons_succ, Fin.getElem_fin]))
    (refine wpAnyH_take (i := 7) (v := undef) rfl (by kernel_rfl) (by kernel_rfl) (by kernel_rfl) (fun _ _ _ h => h) (Or.inr ⟨by rfl, rfl⟩) (by assumption) ?_; (try simp only [Act.put, List.setIfInBounds_toArray, List.set_cons_zero, List.set_cons_succ, List.getElem_toArray, List.getElem_cons_zero, List.getElem_cons_succ, Fin.getElem_fin]))
    (refine wpAnyH_take (i := 8) (v := undef) rfl (by kernel_rfl) (by kernel_rfl) (by kernel_rfl) (fun _ _ _ h => h) (Or.inr ⟨by rfl, rfl⟩) (by assumption) ?_; (try simp only [Act.put, List.setIfInBounds_toArray, List.set_cons_zero, List.set_cons_succ, List.getElem_toArray, List.getElem_cons_zero, List.getElem_cons_succ, Fin.getElem_fin]))
    (refine wpAnyH_take (i := 9) (v := undef) rfl (by kernel_rfl) (by kernel_rfl) (by kernel_rfl) (fun _ _ _ h => h) (Or.inr ⟨by rfl, rfl⟩) (by assumption) ?_; (try simp only [Act.put, List.setIfInBounds_toArray, List.set_cons_zero, List.set_cons_succ, List.getElem_toArray, List.getElem_cons_zero, List.getElem_cons_succ, Fin.getElem_fin]))
    (refine wpAnyH_take (i := 10) (v := undef) rfl (by kernel_rfl) (by kernel_rfl) (by kernel_rfl) (fun _ _ _ h => h) (Or.inr ⟨by rfl, rfl⟩) (by assumption) ?_; (try simp only [Act.put, List.setIfInBounds_toArray, List.set_cons_zero, List.set_cons_succ, List.getElem_toArray, List.getElem_cons_zero, List.getElem_cons_succ, Fin.getElem_fin]))
    (refine wpAnyH_take (i := 11) (v := undef) rfl (by kernel_rfl) (by kernel_rfl) (by kernel_rfl) (fun _ _ _ h => h) (Or.inr ⟨by rfl, rfl⟩) (by assumption) ?_; (try simp only [Act.put, List.setIfInBounds_toArray, List.set_cons_zero, List.set_cons_succ, List.getElem_toArray, List.getElem_cons_zero, List.getElem_cons_succ, Fin.getElem_fin]))
    (refine wpAnyH_take (i := 12) (v := undef) rfl (by kernel_rfl) (by kernel_rfl) (by kernel_rfl) (fun _ _ _ h => h) (Or.inr ⟨by rfl, rfl⟩) (by assumption) ?_; (try simp only [Act.put, List.setIfInBounds_toArray, List.set_cons_zero, List.set_cons_succ, List.getElem_toArray, List.getElem_cons_zero, List.getElem_cons_succ, Fin.getElem_fin]))
    (refine wpAnyH_take (i := 13) (v := undef) rfl (by kernel_rfl) (by kernel_rfl) (by kernel_rfl) (fun _ _ _ h => h) (Or.inr ⟨by rfl, rfl⟩) (by assumption) ?_; (try simp only [Act.put, List.setIfInBounds_toArray, List.set_cons_zero, List.set_cons_succ, List.getElem_toArray, List.getElem_cons_zero, List.getElem_cons_succ, Fin.getElem_fin]))
    (refine wpAnyH_take (i := 14) (v := undef) rfl (by kernel_rfl) (by kernel_rfl) (by kernel_rfl) (fun _ _ _ h => h) (Or.inr ⟨by rfl, rfl⟩) (by assumption) ?_; (try simp only [Act.put, List.setIfInBounds_toArray, List.set_cons_zero, List.set_cons_succ, List.getElem_toArray, List.getElem_cons_zero, List.getElem_cons_succ, Fin.getElem_fin]))
    (refine wpAnyH_take (i := 15) (v := undef) rfl (by kernel_rfl) (by kernel_rfl) (by kernel_rfl) (fun _ _ _ h => h) (Or.inr ⟨by rfl, rfl⟩) (by assumption) ?_; (try simp only [Act.put, List.setIfInBounds_toArray, List.set_cons_zero, List.set_cons_succ, List.getElem_toArray, List.getElem_cons_zero, List.getElem_cons_succ, Fin.getElem_fin]))
    (refine wpAnyH_take (i := 16) (v := undef) rfl (by kernel_rfl) (by kernel_rfl) (by kernel_rfl) (fun _ _ _ h => h) (Or.inr ⟨by rfl, rfl⟩) (by assumption) ?_; (try simp only [Act.put, List.setIfInBounds_toArray, List.set_cons_zero, List.set_cons_succ, List.getElem_toArray, List.getElem_cons_zero, List.getElem_cons_succ, Fin.getElem_fin]))
    (refine wpAnyH_take (i := 17) (v := undef) rfl (by kernel_rfl) (by kernel_rfl) (by kernel_rfl) (fun _ _ _ h => h) (Or.inr ⟨by rfl, rfl⟩) (by assumption) ?_; (try simp only [Act.put, List.setIfInBounds_toArray, List.set_cons_zero, List.set_cons_succ, List.getElem_toArray, List.getElem_cons_zero, List.getElem_cons_succ, Fin.getElem_fin]))
    (refine wpAnyH_take (i := 18) (v := ?_) rfl (by kernel_rfl) (by kernel_rfl) (by kernel_rfl) (fun _ _ _ h => h) (Or.inl ⟨by rfl, ?_⟩) (by assumption) ?_; rotate_left; (intro w hSw; (try dsimp only at hSw); go_simp; try (with_reducible rfl)); (try simp only [Act.put, List.setIfInBounds_toArray, List.set_cons_zero, List.set_cons_succ, List.getElem_toArray, List.getElem_cons_zero, List.getElem_cons_succ, Fin.getElem_fin]))
    refine wpAnyH_done (by kernel_rfl) ?_ _
    clear hHeld
    go_wp2_with (go_at_call 89; (with_reducible refine (signed_any n false (by omega) (by omega) _).mono ?_); rintro e w' ⟨rfl, rfl⟩)
    go_ret
    exact ⟨by rw [HF'.out]; rfl, bl_then (bl_drew (bl_then (by repeat (first | exact Below.refl _ _ | (with_reducible assumption) | apply bl_drew | apply bl_drewN | apply bl_alloc | (refine bl_set ?_ (by go_simp)))) hb1.out)) hb2.out⟩
  · have hn : ∀ W, (binOp .neq 104 (.agg #[.int .u64 0, .int .u64 ((isqrt a : Nat) * (isqrt a : Nat))]) (.agg #[.int .u64 0, .int .u64 a])).run Try.prog W = .ok (.bool true) W := fun W => by
      rw [neq_wide, ← Int.natCast_mul]
      have : (((isqrt a * isqrt a : Nat) : Int) == (a : Int)) = false := beq_eq_false_iff_ne.2 (fun h => hx (Int.ofNat_inj.1 h))
      rw [this]; simp
    have HB : Kp (∃ b, (∀ half, rnd how half false = b) ∧ R = if b = true then isqrt a + 1 else isqrt a) := ⟨by
      rcases hh with rfl | rfl
      · exact ⟨false, fun _ => rfl, by rw [HF.out]; simp⟩
      · exact ⟨true, fun _ => rfl, by rw [HF.out, if_pos ⟨rfl, hx⟩]; simp⟩⟩
    obtain ⟨b, hb0, hF⟩ := HB.out
    have HB0 := Kp.mk hb0
    have HF' := Kp.mk hF
    have hh4 : how < 4 := by omega
    clear HF hx h1 h2 hh HB hb0 hF
    generalize isqrt a = n at *
    have S1 : Kp (IntKind.u64.wrap (2 * (n : Int)) = 2 * n ∧ IntKind.u64.wrap (2 * (n : Int) + 1) = 2 * n + 1) := ⟨by rw [IntKind.wrap_u64, IntKind.wrap_u64]; omega⟩
    cases b with
    | true =>
      have HR1 : Kp (R = n + 1) := ⟨by rw [HF'.out]; rfl⟩
      clear HF'
      go_enter Try.func68, Try.ntmps68
      go_wp2_with (go_at_call 86; (with_reducible refine (HR _).out.mono ?_); rintro e w1 ⟨rfl, hb1'⟩; have c0 := bl_cell hb1' (p := ⟨w.heap.size, 0, none⟩) (v := .int .u64 0) (by go_simp); have c1 := bl_cell hb1' (p := ⟨w.heap.size, 1, none⟩) (v := .int .u64 a) (by go_simp); have hb1 := Kp.mk hb1'; clear hb1')
      obtain ⟨s1, s2⟩ := S1.out
      go_region_held3 (fun w' => w'.cell? ⟨w.heap.size, 0, none⟩ = some (.int .u64 0) ∧ w'.cell? ⟨w.heap.size, 1, none⟩ = some (.int .u64 a)) (go_simp)
        (first | (go_at_call 69; (with_reducible refine (HP _).out.mono ?_); rintro e w2 ⟨rfl, hb2'⟩; have k0 := bl_cell hb2' (p := ⟨w.heap.size, 0, none⟩) (v := .int .u64 0) (by go_simp); have k1 := bl_cell hb2' (p := ⟨w.heap.size, 1, none⟩) (v := .int .u64 a) (by go_simp); have hb2 := Kp.mk hb2'; clear hb2') | (go_at_call 87; (with_reducible refine (HUP _ _ _).out.mono ?_); rintro e w3 ⟨ux, uy, rfl, hb3'⟩; have k2 := bl_cell hb3' (p := ⟨w.heap.size, 0, none⟩) (v := .int .u64 0) (by go_simp); have k3 := bl_cell hb3' (p := ⟨w.heap.size, 1, none⟩) (v := .int .u64 a) (by go_simp); have hb3 := Kp.mk hb3'; clear hb3') | (go_at_call 69; (with_reducible refine (HP2 _).out.mono ?_); rintro e w4 ⟨rfl, hb4'⟩; have k4 := bl_cell hb4' (p := ⟨w.heap.size, 0, none⟩) (v := .int .u64 0) (by go_simp); have k5 := bl_cell hb4' (p := ⟨w.heap.size, 1, none⟩) (v := .int .u64 a) (by go_simp); have hb4 := Kp.mk hb4'; clear hb4') | (go_at_call 88; (with_reducible refine (compare_g _ _ _ _ _).mono ?_); rintro e w5 ⟨rfl, hb5'⟩; have k6 := bl_cell hb5' (p := ⟨w.heap.size, 0, none⟩) (v := .int .u64 0) (by go_simp); have k7 := bl_cell hb5' (p := ⟨w.heap.size, 1, none⟩) (v := .int .u64 a) (by go_simp); have hb5 := Kp.mk hb5'; clear hb5') | ((with_reducible refine (way_any how hh4 _ false _).mono ?_); rintro e w' ⟨rfl, rfl⟩; rw [HB0.out]))
      clear s1 s2
      go_wp2_with (go_at_call 89; (with_reducible refine (signed_any (n + 1) false (by omega) (by omega) _).mono ?_); rintro e w' ⟨rfl, rfl⟩)
      go_ret
      exact ⟨by rw [HR1.out]; rfl, bl_then (bl_then (bl_then (bl_then (bl_drew (bl_then (by repeat (first | exact Below.refl _ _ | (with_reducible assumption) | apply bl_drew | apply bl_drewN | apply bl_alloc | (refine bl_set ?_ (by go_simp)))) hb1.out)) hb2.out) hb3.out) hb4.out) hb5.out⟩
    | false =>
      have HR1 : Kp (R = n) := ⟨by rw [HF'.out]; rfl⟩
      clear HF'
      go_enter Try.func68, Try.ntmps68
      go_wp2_with (go_at_call 86; (with_reducible refine (HR _).out.mono ?_); rintro e w1 ⟨rfl, hb1'⟩; have c0 := bl_cell hb1' (p := ⟨w.heap.size, 0, none⟩) (v := .int .u64 0) (by go_simp); have c1 := bl_cell hb1' (p := ⟨w.heap.size, 1, none⟩) (v := .int .u64 a) (by go_simp); have hb1 := Kp.mk hb1'; clear hb1')
      obtain ⟨s1, s2⟩ := S1.out
      go_region_held3 (fun w' => w'.cell? ⟨w.heap.size, 0, none⟩ = some (.int .u64 0) ∧ w'.cell? ⟨w.heap.size, 1, none⟩ = some (.int .u64 a)) (go_simp)
        (first | (go_at_call 69; (with_reducible refine (HP _).out.mono ?_); rintro e w2 ⟨rfl, hb2'⟩; have k0 := bl_cell hb2' (p := ⟨w.heap.size, 0, none⟩) (v := .int .u64 0) (by go_simp); have k1 := bl_cell hb2' (p := ⟨w.heap.size, 1, none⟩) (v := .int .u64 a) (by go_simp); have hb2 := Kp.mk hb2'; clear hb2') | (go_at_call 87; (with_reducible refine (HUP _ _ _).out.mono ?_); rintro e w3 ⟨ux, uy, rfl, hb3'⟩; have k2 := bl_cell hb3' (p := ⟨w.heap.size, 0, none⟩) (v := .int .u64 0) (by go_simp); have k3 := bl_cell hb3' (p := ⟨w.heap.size, 1, none⟩) (v := .int .u64 a) (by go_simp); have hb3 := Kp.mk hb3'; clear hb3') | (go_at_call 69; (with_reducible refine (HP2 _).out.mono ?_); rintro e w4 ⟨rfl, hb4'⟩; have k4 := bl_cell hb4' (p := ⟨w.heap.size, 0, none⟩) (v := .int .u64 0) (by go_simp); have k5 := bl_cell hb4' (p := ⟨w.heap.size, 1, none⟩) (v := .int .u64 a) (by go_simp); have hb4 := Kp.mk hb4'; clear hb4') | (go_at_call 88; (with_reducible refine (compare_g _ _ _ _ _).mono ?_); rintro e w5 ⟨rfl, hb5'⟩; have k6 := bl_cell hb5' (p := ⟨w.heap.size, 0, none⟩) (v := .int .u64 0) (by go_simp); have k7 := bl_cell hb5' (p := ⟨w.heap.size, 1, none⟩) (v := .int .u64 a) (by go_simp); have hb5 := Kp.mk hb5'; clear hb5') | ((with_reducible refine (way_any how hh4 _ false _).mono ?_); rintro e w' ⟨rfl, rfl⟩; rw [HB0.out]))
      clear s1 s2
      go_wp2_with (go_at_call 89; (with_reducible refine (signed_any n false (by omega) (by omega) _).mono ?_); rintro e w' ⟨rfl, rfl⟩)
      go_ret
      exact ⟨by rw [HR1.out]; rfl, bl_then (bl_then (bl_then (bl_then (bl_drew (bl_then (by repeat (first | exact Below.refl _ _ | (with_reducible assumption) | apply bl_drew | apply bl_drewN | apply bl_alloc | (refine bl_set ?_ (by go_simp)))) hb1.out)) hb2.out) hb3.out) hb4.out) hb5.out⟩
end Go.Proofs.Ytibaapaglocpjaa.B

end
section
set_option linter.unusedSimpArgs false
set_option linter.unusedVariables false
namespace Go.Proofs.Ytibaapaglocpjaa.B
open Go.RowKit Go.Shelf
set_option maxRecDepth 100000 in
theorem root_do (a : Nat) (how : Nat) (hh : how = 1 ∨ how = 2) (ha : a ≤ 70368744177664) (p q : Addr) (w : World)
    (h0 : w.cell? p = some (.int .i64 a)) (h1 : w.cell? q = some (.int .i64 how)) :
    Calls Try.prog 65 #[.pointer (some p), .pointer (some q)] w fun e w' => e = .returned (.int .i64 (rootF (a * 65536) how : Nat)) ∧ Below w.heap.size w w' := by
  have hh4 : how < 4 := by omega
  have HR := fun W => Kp.mk (root_any (a * 65536) how hh (by omega) W)
  have HP := fun W => Kp.mk (product_small (a : Int) 65536 (by omega) (by omega) (by omega) (by omega) (by omega) W)
  have HA : Kp (okFix a) := ⟨⟨by omega, by omega⟩⟩
  have e0 := fun o => bl_cell (bl_alloc (Below.refl _ w) o) h0
  have e1 := fun o => bl_cell (bl_alloc (Below.refl _ w) o) h1
  have hg : decide ((0 : Int) ≤ (a : Int)) = true := decide_eq_true (by omega)
  have hcast : Kp (((a * 65536 : Nat) : Int) = (a : Int) * 65536) := ⟨Int.natCast_mul _ _⟩
  simp only [hcast.out] at HR
  generalize rootF (a * 65536) how = R at *
  have ha1 : (a : Int) < 18446744073709551616 := by omega
  have ha0 : (0 : Int) ≤ a := by omega
  clear ha hh
  go_enter Try.func65, Try.ntmps65
  go_wp2_with (first | (go_at_call 66; (with_reducible refine (right_1 a _ _ _ HA.out ?h0).mono ?_); (case h0 => go_simp); rintro e w' ⟨rfl, rfl⟩) | (go_at_call 64; (with_reducible refine (ways_any how hh4 _).mono ?_); rintro e w' ⟨rfl, rfl⟩) | (go_at_call 67; (with_reducible refine (need_b _ _ ?hb _).mono ?_); (case hb => first | rfl | exact decide_eq_true (by omega)); rintro e w' ⟨rfl, rfl⟩) | (go_at_call 69; (with_reducible refine (HP _).out.mono ?_); rintro e w1 ⟨rfl, hb1'⟩; have hb1 := Kp.mk hb1'; clear hb1') | (go_at_call 68; (with_reducible refine (HR _).out.mono ?_); rintro e w2 ⟨rfl, hb2'⟩; have hb2 := Kp.mk hb2'; clear hb2'))
  go_ret
  exact ⟨rfl, bl_then (bl_then (by repeat (first | exact Below.refl _ _ | (with_reducible assumption) | apply bl_drew | apply bl_drewN | apply bl_alloc | (refine bl_set ?_ (by go_simp)))) hb1.out) hb2.out⟩
theorem Root_any (a : Nat) (how : Nat) (hh : how = 1 ∨ how = 2) (ha : a ≤ 70368744177664) (w : World) :
    Calls Try.prog 34 #[.int .i64 a, .int .i64 how] w fun e w' => e = .returned (.tuple #[.int .i64 (rootF (a * 65536) how : Nat), .int .i64 0]) ∧ Below w.heap.size w w' := by
  have HM := fun p q W h0 h1 => Kp.mk (root_do a how hh ha p q W h0 h1)
  have hmk := hmf
  have EG := Kp.mk (enters_of Try.func65 (by kernel_rfl) rfl)
  clear ha hh
  generalize rootF (a * 65536) how = R at *
  go_enter Try.func34, Try.ntmps34
  go_wp2_with (go_at_call 61; (with_reducible refine (tried_fix _ _ (R : Nat) _ EG.out ?hdo).mono ?_); (case hdo => exact fun W hW => (HM _ _ W (bl_cell hW (by go_simp)) (bl_cell hW (by go_simp))).out); rintro e w2 ⟨rfl, hb2'⟩; have hb2 := Kp.mk hb2'; clear hb2')
  go_ret2
  exact ⟨rfl, bl_then (by repeat (first | exact Below.refl _ _ | (with_reducible assumption) | apply bl_drew | apply bl_drewN | apply bl_alloc | (refine bl_set ?_ (by go_simp)))) hb2.out⟩
theorem Scale_0 (a n d : Int) (ha : okFix a) (hn : okRate n) (hd : okRate d) (hd0 : d ≠ 0) (hm : nabs a * nabs n < 70368744177663) (w : World) :
    Calls Try.prog 36 #[.int .i64 a, .int .i64 n, .int .i64 d, .int .i64 0] w fun e w' => e = .returned (.tuple #[.int .i64 (scaleF a n d 0), .int .i64 0]) ∧ Below w.heap.size w w' := Scale_any a n d 0 (by omega) ha hn hd hd0 hm w
theorem Scale_3 (a n d : Int) (ha : okFix a) (hn : okRate n) (hd : okRate d) (hd0 : d ≠ 0) (hm : nabs a * nabs n < 70368744177663) (w : World) :
    Calls Try.prog 36 #[.int .i64 a, .int .i64 n, .int .i64 d, .int .i64 3] w fun e w' => e = .returned (.tuple #[.int .i64 (scaleF a n d 3), .int .i64 0]) ∧ Below w.heap.size w w' := Scale_any a n d 3 (by omega) ha hn hd hd0 hm w
theorem Mul_0 (a b : Int) (ha : okFix a) (hb : okFix b) (hm : nabs a * nabs b < 4611686018427322368) (w : World) :
    Calls Try.prog 32 #[.int .i64 a, .int .i64 b, .int .i64 0] w fun e w' => e = .returned (.tuple #[.int .i64 (mulF a b 0), .int .i64 0]) ∧ Below w.heap.size w w' := Mul_any a b 0 (by omega) ha hb hm w
theorem Mul_2 (a b : Int) (ha : okFix a) (hb : okFix b) (hm : nabs a * nabs b < 4611686018427322368) (w : World) :
    Calls Try.prog 32 #[.int .i64 a, .int .i64 b, .int .i64 2] w fun e w' => e = .returned (.tuple #[.int .i64 (mulF a b 2), .int .i64 0]) ∧ Below w.heap.size w w' := Mul_any a b 2 (by omega) ha hb hm w
theorem Root_1 (a : Int) (h0 : 0 ≤ a) (ha : a ≤ 70368744177664) (w : World) :
    Calls Try.prog 34 #[.int .i64 a, .int .i64 1] w fun e w' => e = .returned (.tuple #[.int .i64 (rootF (a.toNat * 65536) 1 : Nat), .int .i64 0]) ∧ Below w.heap.size w w' := by
  obtain ⟨n, rfl⟩ := Int.eq_ofNat_of_zero_le h0
  exact Root_any n 1 (by omega) (by omega) w
theorem Root_2 (a : Int) (h0 : 0 ≤ a) (ha : a ≤ 70368744177664) (w : World) :
    Calls Try.prog 34 #[.int .i64 a, .int .i64 2] w fun e w' => e = .returned (.tuple #[.int .i64 (rootF (a.toNat * 65536) 2 : Nat), .int .i64 0]) ∧ Below w.heap.size w w' := by
  obtain ⟨n, rfl⟩ := Int.eq_ofNat_of_zero_le h0
  exact Root_any n 2 (by omega) (by omega) w
end Go.Proofs.Ytibaapaglocpjaa.B

end
