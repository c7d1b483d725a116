import Derived.Test.YtibaapaglocpjaaBW0
import Derived.Test.YtibaapaglocpjaaBF2
/- Proved here: lemmas for the laws' proofs (the texts Ia Ib Ic Id Ie If). No condition. -/
section
set_option linter.unusedSimpArgs false
set_option linter.unusedVariables false
namespace Go.Proofs.Ytibaapaglocpjaa.B
open Go.RowKit Go.Shelf Go.Proofs.YtibaapaglocpjaaW.PrintWords
theorem within_int (n lo hi : Int) (w : World) : Calls Try.prog 41 #[.int .i64 n, .int .i64 lo, .int .i64 hi] w fun e w' => e = .returned (.bool (inB n lo hi)) ∧ w = w' := by
  by_cases h1 : lo ≤ n
  · have hb1 : decide (lo ≤ n) = true := decide_eq_true h1
    have HF : Kp (inB n lo hi = decide (n ≤ hi)) := ⟨by unfold inB; simp [h1]⟩
    go_enter Try.func41, Try.ntmps41
    go_wp2
    go_ret
    exact ⟨by rw [HF.out]; rfl, rfl⟩
  · have hb1 : decide (lo ≤ n) = false := decide_eq_false h1
    have HF : Kp (inB n lo hi = false) := ⟨by unfold inB; simp [h1]⟩
    go_enter Try.func41, Try.ntmps41
    go_wp2
    go_ret
    exact ⟨by rw [HF.out]; rfl, rfl⟩
theorem within_fix (n lo hi : Int) (w : World) : Calls Try.prog 52 #[.int .i64 n, .int .i64 lo, .int .i64 hi] w fun e w' => e = .returned (.bool (inB n lo hi)) ∧ w = w' := by
  by_cases h1 : lo ≤ n
  · have hb1 : decide (lo ≤ n) = true := decide_eq_true h1
    have HF : Kp (inB n lo hi = decide (n ≤ hi)) := ⟨by unfold inB; simp [h1]⟩
    go_enter Try.func52, Try.ntmps52
    go_wp2
    go_ret
    exact ⟨by rw [HF.out]; rfl, rfl⟩
  · have hb1 : decide (lo ≤ n) = false := decide_eq_false h1
    have HF : Kp (inB n lo hi = false) := ⟨by unfold inB; simp [h1]⟩
    go_enter Try.func52, Try.ntmps52
    go_wp2
    go_ret
    exact ⟨by rw [HF.out]; rfl, rfl⟩
theorem odd_any (n : Int) (w : World) : Calls Try.prog 51 #[.int .i64 n] w fun e w' => e = .returned (.bool (oddB n)) ∧ w = w' := by
  have HF : Kp (oddB n = !inB n 0 1000) := ⟨rfl⟩
  go_enter Try.func51, Try.ntmps51
  go_wp2_with (go_at_call 41; (with_reducible refine (within_int n 0 1000 _).mono ?_); rintro e w' ⟨rfl, rfl⟩)
  go_ret
  exact ⟨rfl, rfl⟩
def IdxPost (b : Bool) (w : World) (e : Ending) (w' : World) : Prop := ∃ k : Int, e = .returned (.int .i64 k) ∧ decide (0 ≤ k) = b ∧ w = w'
theorem any_snoc (p : Int → Bool) (l : List Int) (k : Nat) (h : k < l.length) : (l.take (k + 1)).any p = ((l.take k).any p || p (rd l k)) := by
  rw [List.take_succ_eq_append_getElem h, List.any_append]
  simp [rd, List.getD_eq_getElem?_getD, List.getElem?_eq_getElem h]
theorem any_of_take (p : Int → Bool) (l : List Int) (k : Nat) (h : (l.take k).any p = true) : l.any p = true := by
  rw [List.any_eq_true] at h ⊢
  obtain ⟨x, hx, hp⟩ := h
  exact ⟨x, List.mem_of_mem_take hx, hp⟩
theorem index_odd (l : List Int) (A : Option Addr) (c : Nat) (w : World) (hr : ReadsInt w .i64 A l.length l) (hc : l.length ≤ c) :
    Calls Try.prog 77 #[.slice A l.length c, .func (.func 51) #[] #[]] w (IdxPost (l.any oddB) w) := by
  have HR := Kp.mk hr
  have hm := hr.2.1
  clear hr
  have eg := enters_of Try.func51 (by kernel_rfl) rfl
  have eg' : ∀ args w, (callFunc 51 args).run Try.prog w = .ok (.enter 51 args) w := eg
  go_enter Try.func77, Try.ntmps77
  go_wp2
  go_loop [8] (fun i => ∃ k : Nat, k ≤ l.length ∧ i = .int .i64 k ∧ Kp ((l.take k).any oddB = false)) (fun i => l.length - (intOf i).toNat)
  case atStart => exact ⟨0, Nat.zero_le _, rfl, ⟨rfl⟩⟩
  case round =>
    obtain ⟨k, hk, rfl, hany⟩ := hrel
    by_cases hlt : k < l.length
    · obtain ⟨ad, rfl, hcell⟩ := HR.out.at_ (k : Int) (by omega) (by omega)
      rw [Int.toNat_natCast] at hcell
      have HS := Kp.mk (any_snoc oddB l k hlt)
      generalize rd l k = x at hcell HS
      have i0 : (0 : Int) ≤ k := by omega
      have i1 : (k : Int) < l.length := by omega
      cases ho : oddB x with
      | true =>
        have HO := Kp.mk ho
        have HF : Kp (l.any oddB = true) := ⟨any_of_take oddB l (k + 1) (by rw [HS.out, ho]; simp)⟩
        clear ho
        go_wp2_with ((with_reducible refine (odd_any x _).mono ?_); rintro e w' ⟨rfl, rfl⟩; rw [HO.out])
        go_ret
        exact ⟨k, rfl, by rw [HF.out]; exact decide_eq_true (by omega), rfl⟩
      | false =>
        have HO := Kp.mk ho
        have HF : Kp ((l.take (k + 1)).any oddB = false) := ⟨by rw [HS.out, hany.out, ho]; rfl⟩
        clear ho
        go_wp2_with ((with_reducible refine (odd_any x _).mono ?_); rintro e w' ⟨rfl, rfl⟩; rw [HO.out])
        go_round
        case rel => exact ⟨k + 1, by omega, by go_num, HF⟩
        case measure => simp [intOf]; omega
    · have HF : Kp (l.any oddB = false) := ⟨by have := hany.out; rwa [List.take_of_length_le (by omega)] at this⟩
      go_wp2
      go_ret
      exact ⟨-1, rfl, by rw [HF.out]; rfl, rfl⟩
theorem contains_odd (l : List Int) (A : Option Addr) (c : Nat) (w : World) (hr : ReadsInt w .i64 A l.length l) (hc : l.length ≤ c) :
    Calls Try.prog 53 #[.slice A l.length c, .func (.func 51) #[] #[]] w fun e w' => e = .returned (.bool (l.any oddB)) ∧ w = w' := by
  have HI := Kp.mk (index_odd l A c w hr hc)
  clear hr hc
  generalize l.any oddB = b at *
  go_enter Try.func53, Try.ntmps53
  go_wp2_with ((with_reducible refine HI.out.mono ?_); rintro e w' ⟨k, rfl, hk', rfl⟩; have hk := Kp.mk hk'; clear hk')
  go_ret
  exact ⟨by rw [← hk.out]; rfl, rfl⟩
end Go.Proofs.Ytibaapaglocpjaa.B

end
section
set_option linter.unusedSimpArgs false
set_option linter.unusedVariables false
namespace Go.Proofs.Ytibaapaglocpjaa.B
open Go.RowKit Go.Shelf Go.Proofs.YtibaapaglocpjaaW.PrintWords
theorem placed_one (x y : Int) (w : World) : Calls Try.prog 55 #[.agg #[.int .i64 x, .int .i64 y]] w fun e w' => e = .returned (.bool (!plB x y)) ∧ Below w.heap.size w w' := by
  have HF : Kp (plB x y = (inB x (-6553600000) 6553600000 && inB y (-6553600000) 6553600000)) := ⟨rfl⟩
  have HX := fun W => Kp.mk (within_fix x (-6553600000) 6553600000 W)
  have HY := fun W => Kp.mk (within_fix y (-6553600000) 6553600000 W)
  generalize inB x (-6553600000) 6553600000 = bx at *
  generalize inB y (-6553600000) 6553600000 = by_ at *
  cases bx with
  | true =>
    go_enter Try.func55, Try.ntmps55
    go_wp2_with (go_at_call 52; (with_reducible first | refine (HX _).out.mono ?_ | refine (HY _).out.mono ?_); rintro e w' ⟨rfl, rfl⟩)
    go_ret
    exact ⟨by rw [HF.out]; rfl, (by repeat (first | exact Below.refl _ _ | (with_reducible assumption) | apply bl_drew | apply bl_drewN | apply bl_alloc | (refine bl_set ?_ (by go_simp))))⟩
  | false =>
    go_enter Try.func55, Try.ntmps55
    go_wp2_with (go_at_call 52; (with_reducible first | refine (HX _).out.mono ?_ | refine (HY _).out.mono ?_); rintro e w' ⟨rfl, rfl⟩)
    go_ret
    exact ⟨by rw [HF.out]; rfl, (by repeat (first | exact Below.refl _ _ | (with_reducible assumption) | apply bl_drew | apply bl_drewN | apply bl_alloc | (refine bl_set ?_ (by go_simp))))⟩
def SpotsAt (w : World) (bk : Nat) (l : List (Int × Int)) : Prop := ∀ k, k < l.length → w.cell? ⟨bk, k * 2, none⟩ = some (.int .i64 (l.getD k (0, 0)).1) ∧ w.cell? ⟨bk, k * 2 + 1, none⟩ = some (.int .i64 (l.getD k (0, 0)).2)
theorem SpotsAt.below {w w' : World} {bk : Nat} {l : List (Int × Int)} (h : SpotsAt w bk l) (hb : Below w.heap.size w w') : SpotsAt w' bk l := fun k hk => ⟨bl_cell hb (h k hk).1, bl_cell hb (h k hk).2⟩
theorem any_snocS (p : Int × Int → Bool) (l : List (Int × Int)) (k : Nat) (h : k < l.length) : (l.take (k + 1)).any p = ((l.take k).any p || p (l.getD k (0, 0))) := by
  rw [List.take_succ_eq_append_getElem h, List.any_append]
  simp [List.getD_eq_getElem?_getD, List.getElem?_eq_getElem h]
theorem any_of_takeS (p : Int × Int → Bool) (l : List (Int × Int)) (k : Nat) (h : (l.take k).any p = true) : l.any p = true := by
  rw [List.any_eq_true] at h ⊢
  obtain ⟨x, hx, hp⟩ := h
  exact ⟨x, List.mem_of_mem_take hx, hp⟩
def IdxPostB (b : Bool) (w : World) (e : Ending) (w' : World) : Prop := ∃ k : Int, e = .returned (.int .i64 k) ∧ decide (0 ≤ k) = b ∧ Below w.heap.size w w'
set_option maxHeartbeats 1000000 in
theorem index_placed (l : List (Int × Int)) (bk : Nat) (c : Nat) (w : World) (hr : SpotsAt w bk l) (hn : l.length ≤ 100) :
    Calls Try.prog 78 #[.slice (some ⟨bk, 0, none⟩) l.length c, .func (.func 55) #[] #[]] w (IdxPostB (l.any plOf) w) := by
  have HR := Kp.mk hr
  clear hr
  have eg := enters_of Try.func55 (by kernel_rfl) rfl
  have eg' : ∀ args w, (callFunc 55 args).run Try.prog w = .ok (.enter 55 args) w := eg
  go_enter Try.func78, Try.ntmps78
  go_wp2
  go_loopw [8] (fun i wr => ∃ k : Nat, k ≤ l.length ∧ i = .int .i64 k ∧ Kp ((l.take k).any plOf = false) ∧ Kp (Below w.heap.size w wr)) (fun i _ => l.length - (intOf i).toNat)
  case atStart => exact ⟨0, Nat.zero_le _, rfl, ⟨rfl⟩, ⟨(by repeat (first | exact Below.refl _ _ | (with_reducible assumption) | apply bl_drew | apply bl_drewN | apply bl_alloc | (refine bl_set ?_ (by go_simp))))⟩⟩
  case round =>
    obtain ⟨k, hk, rfl, hany, hB⟩ := hrel
    by_cases hlt : k < l.length
    · obtain ⟨c0, c1⟩ := (HR.out.below hB.out) k hlt
      have HS := Kp.mk (any_snocS plOf l k hlt)
      generalize l.getD k (0, 0) = p at c0 c1 HS
      obtain ⟨x, y⟩ := p
      have i0 : (0 : Int) ≤ k := by omega
      have i1 : (k : Int) < l.length := by omega
      have HO : Kp (plOf (x, y) = !plB x y) := ⟨rfl⟩
      have HC := fun W => Kp.mk (placed_one x y W)
      generalize plB x y = b at *
      cases b with
      | false =>
        have HF : Kp (l.any plOf = true) := ⟨any_of_takeS plOf l (k + 1) (by rw [HS.out, HO.out]; simp)⟩
        go_wp2_with ((with_reducible refine (HC _).out.mono ?_); rintro e w1 ⟨rfl, hb1'⟩; have hb1 := Kp.mk hb1'; clear hb1')
        go_ret
        exact ⟨k, rfl, by rw [HF.out]; exact decide_eq_true (by omega), bl_then hB.out hb1.out⟩
      | true =>
        have HF : Kp ((l.take (k + 1)).any plOf = false) := ⟨by rw [HS.out, hany.out, HO.out]; rfl⟩
        go_wp2_with ((with_reducible refine (HC _).out.mono ?_); rintro e w1 ⟨rfl, hb1'⟩; have hb1 := Kp.mk hb1'; clear hb1')
        go_roundw
        case rel => exact ⟨k + 1, by omega, by go_num, HF, ⟨bl_then hB.out hb1.out⟩⟩
        case measure => simp [intOf]; omega
    · have HF : Kp (l.any plOf = false) := ⟨by have := hany.out; rwa [List.take_of_length_le (by omega)] at this⟩
      go_wp2
      go_ret
      exact ⟨-1, rfl, by rw [HF.out]; rfl, hB.out⟩
theorem contains_placed (l : List (Int × Int)) (bk : Nat) (c : Nat) (w : World) (hr : SpotsAt w bk l) (hn : l.length ≤ 100) :
    Calls Try.prog 54 #[.slice (some ⟨bk, 0, none⟩) l.length c, .func (.func 55) #[] #[]] w fun e w' => e = .returned (.bool (l.any plOf)) ∧ Below w.heap.size w w' := by
  have HI := Kp.mk (index_placed l bk c w hr hn)
  clear hr hn
  generalize l.any plOf = b at *
  go_enter Try.func54, Try.ntmps54
  go_wp2_with ((with_reducible refine HI.out.mono ?_); rintro e w' ⟨k, rfl, hk', hb'⟩; have hk := Kp.mk hk'; have hb := Kp.mk hb'; clear hk' hb')
  go_ret
  exact ⟨by rw [← hk.out]; rfl, hb.out⟩
theorem placed_list (l : List (Int × Int)) (bk : Nat) (c : Nat) (w : World) (hr : SpotsAt w bk l) (hn : l.length ≤ 100) :
    Calls Try.prog 27 #[.slice (some ⟨bk, 0, none⟩) l.length c] w fun e w' => e = .returned (.bool (!(l.any plOf))) ∧ Below w.heap.size w w' := by
  have HI := Kp.mk (contains_placed l bk c w hr hn)
  clear hr hn
  generalize l.any plOf = b at *
  go_enter Try.func27, Try.ntmps27
  go_wp2_with ((with_reducible refine HI.out.mono ?_); rintro e w' ⟨rfl, hb'⟩; have hb := Kp.mk hb'; clear hb')
  go_ret
  exact ⟨rfl, hb.out⟩
theorem placed_1 (x y : Int) (bk c : Nat) (w : World) (h0 : w.cell? ⟨bk, 0, none⟩ = some (.int .i64 x)) (h1 : w.cell? ⟨bk, 1, none⟩ = some (.int .i64 y)) :
    Calls Try.prog 27 #[.slice (some ⟨bk, 0, none⟩) 1 c] w fun e w' => e = .returned (.bool (plB x y)) ∧ Below w.heap.size w w' := by
  have := placed_list [(x, y)] bk c w (fun k hk => by
    match k, hk with
    | 0, _ => exact ⟨h0, h1⟩) (by simp)
  simpa [plOf] using this
theorem placed_2 (x y u v : Int) (bk c : Nat) (w : World) (h0 : w.cell? ⟨bk, 0, none⟩ = some (.int .i64 x)) (h1 : w.cell? ⟨bk, 1, none⟩ = some (.int .i64 y)) (h2 : w.cell? ⟨bk, 2, none⟩ = some (.int .i64 u)) (h3 : w.cell? ⟨bk, 3, none⟩ = some (.int .i64 v)) :
    Calls Try.prog 27 #[.slice (some ⟨bk, 0, none⟩) 2 c] w fun e w' => e = .returned (.bool (plB x y && plB u v)) ∧ Below w.heap.size w w' := by
  have := placed_list [(x, y), (u, v)] bk c w (fun k hk => by
    match k, hk with
    | 0, _ => exact ⟨h0, h1⟩
    | 1, _ => exact ⟨h2, h3⟩) (by simp)
  simpa [plOf] using this
end Go.Proofs.Ytibaapaglocpjaa.B

end
section
set_option linter.unusedSimpArgs false
set_option linter.unusedVariables false
namespace Go.Proofs.Ytibaapaglocpjaa.B
open Go.RowKit Go.Shelf Go.Proofs.YtibaapaglocpjaaW.PrintWords
theorem and_cases (a b : Bool) : (a = false ∧ (a && b) = false) ∨ (a = true ∧ (a && b) = b) := by cases a <;> simp
theorem wrap_side {a b : Int} (ha : inB a 1 256 = true) (hb : inB b 1 256 = true) : wrap64 (a * b) = a * b := by
  unfold inB at ha hb
  have ha := of_decide_eq_true ha
  have hb := of_decide_eq_true hb
  have h1 : a * b ≤ 256 * 256 := Int.mul_le_mul ha.2 hb.2 (by omega) (by omega)
  have h0 : 0 ≤ a * b := Int.mul_nonneg (by omega) (by omega)
  unfold wrap64
  omega
set_option maxHeartbeats 4000000 in
set_option maxRecDepth 100000 in
theorem icecheck_any (cx cy sd wd ht : Int) (A : Option Addr) (c : Nat) (pb : List Int) (B : Option Addr) (d : Nat) (pl : List Int) (w : World) (hr1 : ReadsInt w .i64 A pb.length pb) (hc1 : pb.length ≤ c) (hr2 : ReadsInt w .i64 B pl.length pl) (hc2 : pl.length ≤ d) :
    Calls Try.prog 26 #[.agg #[.int .i64 cx, .int .i64 cy, .int .i64 sd, .int .i64 wd, .int .i64 ht, .slice A pb.length c, .slice B pl.length d]] w fun e w' => e = .returned (.int .i64 (errI (iceB cx cy sd wd ht pb pl))) ∧ Below w.heap.size w w' := by
  have H1 := fun W (h : Below w.heap.size w W) => Kp.mk (contains_odd pb A c W (hr1.below h) hc1)
  have H2 := fun W (h : Below w.heap.size w W) => Kp.mk (contains_odd pl B d W (hr2.below h) hc2)
  have m1 := hr1.2.1
  have m2 := hr2.2.1
  have HF : Kp (iceB cx cy sd wd ht pb pl = (plB cx cy && (inB sd 1 6553600000 && (inB wd 1 256 && (inB ht 1 256 && (decide ((pb.length : Int) = wd * ht) && (decide ((pl.length : Int) = wd * ht) && (!pb.any oddB && !pl.any oddB)))))))) := ⟨rfl⟩
  have HP := fun bk c W h0 h1 => Kp.mk (placed_1 cx cy bk c W h0 h1)
  have HS := fun W => Kp.mk (within_fix sd 1 6553600000 W)
  have HWd := fun W => Kp.mk (within_int wd 1 256 W)
  have HHt := fun W => Kp.mk (within_int ht 1 256 W)
  have HWR : Kp (inB wd 1 256 = true → inB ht 1 256 = true → wrap64 (wd * ht) = wd * ht) := ⟨wrap_side⟩
  clear hr1 hr2 hc1 hc2
  generalize iceB cx cy sd wd ht pb pl = R at *
  generalize plB cx cy = b1 at *
  generalize inB sd 1 6553600000 = b2 at *
  generalize inB wd 1 256 = b3 at *
  generalize inB ht 1 256 = b4 at *
  generalize pb.any oddB = b7 at *
  generalize pl.any oddB = b8 at *
  have HB := Kp.mk (Below.refl w.heap.size w)
  have HL : Kp ((b1 = false ∧ R = false) ∨ (b1 = true ∧ b2 = false ∧ R = false) ∨ (b1 = true ∧ b2 = true ∧ b3 = false ∧ R = false) ∨ (b1 = true ∧ b2 = true ∧ b3 = true ∧ b4 = false ∧ R = false) ∨ (b1 = true ∧ b2 = true ∧ b3 = true ∧ b4 = true)) := ⟨by
    rw [HF.out]
    cases b1 <;> cases b2 <;> cases b3 <;> cases b4 <;> simp⟩
  rcases HL.out with ⟨rfl, rfl⟩ | ⟨rfl, rfl, rfl⟩ | ⟨rfl, rfl, rfl, rfl⟩ | ⟨rfl, rfl, rfl, rfl, rfl⟩ | ⟨rfl, rfl, rfl, rfl⟩
  · clear HF HL HWR
    go_enter Try.func26, Try.ntmps26
    go_wp2_with (first | (go_at_call 27; (with_reducible refine (HP _ _ _ ?h0 ?h1).out.mono ?_); (case h0 => go_simp); (case h1 => go_simp); rintro e w1 ⟨rfl, hb'⟩; have k2 := bl_cell hb' (p := ⟨w.heap.size, 2, none⟩) (v := .int .i64 sd) (by go_simp); have k3 := bl_cell hb' (p := ⟨w.heap.size, 3, none⟩) (v := .int .i64 wd) (by go_simp); have k4 := bl_cell hb' (p := ⟨w.heap.size, 4, none⟩) (v := .int .i64 ht) (by go_simp); have k5 := bl_cell hb' (p := ⟨w.heap.size, 5, none⟩) (v := .slice A pb.length c) (by go_simp); have k6 := bl_cell hb' (p := ⟨w.heap.size, 6, none⟩) (v := .slice B pl.length d) (by go_simp); have hb1 := Kp.mk hb'; clear hb'; have HW := Kp.mk (by repeat (with_reducible first | exact Below.refl _ _ | (refine bl_then ?_ hb1.out) | apply bl_alloc) : Below w.heap.size w w1)) | (go_at_call 52; (with_reducible refine (HS _).out.mono ?_); rintro e w' ⟨rfl, rfl⟩) | (go_at_call 41; (with_reducible first | refine (HWd _).out.mono ?_ | refine (HHt _).out.mono ?_); rintro e w' ⟨rfl, rfl⟩) | (go_at_call 53; (with_reducible first | refine (H1 _ HW.out).out.mono ?_ | refine (H2 _ HW.out).out.mono ?_); rintro e w' ⟨rfl, rfl⟩))
    go_ret
    exact ⟨rfl, HW.out⟩
  · clear HF HL HWR
    go_enter Try.func26, Try.ntmps26
    go_wp2_with (first | (go_at_call 27; (with_reducible refine (HP _ _ _ ?h0 ?h1).out.mono ?_); (case h0 => go_simp); (case h1 => go_simp); rintro e w1 ⟨rfl, hb'⟩; have k2 := bl_cell hb' (p := ⟨w.heap.size, 2, none⟩) (v := .int .i64 sd) (by go_simp); have k3 := bl_cell hb' (p := ⟨w.heap.size, 3, none⟩) (v := .int .i64 wd) (by go_simp); have k4 := bl_cell hb' (p := ⟨w.heap.size, 4, none⟩) (v := .int .i64 ht) (by go_simp); have k5 := bl_cell hb' (p := ⟨w.heap.size, 5, none⟩) (v := .slice A pb.length c) (by go_simp); have k6 := bl_cell hb' (p := ⟨w.heap.size, 6, none⟩) (v := .slice B pl.length d) (by go_simp); have hb1 := Kp.mk hb'; clear hb'; have HW := Kp.mk (by repeat (with_reducible first | exact Below.refl _ _ | (refine bl_then ?_ hb1.out) | apply bl_alloc) : Below w.heap.size w w1)) | (go_at_call 52; (with_reducible refine (HS _).out.mono ?_); rintro e w' ⟨rfl, rfl⟩) | (go_at_call 41; (with_reducible first | refine (HWd _).out.mono ?_ | refine (HHt _).out.mono ?_); rintro e w' ⟨rfl, rfl⟩) | (go_at_call 53; (with_reducible first | refine (H1 _ HW.out).out.mono ?_ | refine (H2 _ HW.out).out.mono ?_); rintro e w' ⟨rfl, rfl⟩))
    go_ret
    exact ⟨rfl, HW.out⟩
  · clear HF HL HWR
    go_enter Try.func26, Try.ntmps26
    go_wp2_with (first | (go_at_call 27; (with_reducible refine (HP _ _ _ ?h0 ?h1).out.mono ?_); (case h0 => go_simp); (case h1 => go_simp); rintro e w1 ⟨rfl, hb'⟩; have k2 := bl_cell hb' (p := ⟨w.heap.size, 2, none⟩) (v := .int .i64 sd) (by go_simp); have k3 := bl_cell hb' (p := ⟨w.heap.size, 3, none⟩) (v := .int .i64 wd) (by go_simp); have k4 := bl_cell hb' (p := ⟨w.heap.size, 4, none⟩) (v := .int .i64 ht) (by go_simp); have k5 := bl_cell hb' (p := ⟨w.heap.size, 5, none⟩) (v := .slice A pb.length c) (by go_simp); have k6 := bl_cell hb' (p := ⟨w.heap.size, 6, none⟩) (v := .slice B pl.length d) (by go_simp); have hb1 := Kp.mk hb'; clear hb'; have HW := Kp.mk (by repeat (with_reducible first | exact Below.refl _ _ | (refine bl_then ?_ hb1.out) | apply bl_alloc) : Below w.heap.size w w1)) | (go_at_call 52; (with_reducible refine (HS _).out.mono ?_); rintro e w' ⟨rfl, rfl⟩) | (go_at_call 41; (with_reducible first | refine (HWd _).out.mono ?_ | refine (HHt _).out.mono ?_); rintro e w' ⟨rfl, rfl⟩) | (go_at_call 53; (with_reducible first | refine (H1 _ HW.out).out.mono ?_ | refine (H2 _ HW.out).out.mono ?_); rintro e w' ⟨rfl, rfl⟩))
    go_ret
    exact ⟨rfl, HW.out⟩
  · clear HF HL HWR
    go_enter Try.func26, Try.ntmps26
    go_wp2_with (first | (go_at_call 27; (with_reducible refine (HP _ _ _ ?h0 ?h1).out.mono ?_); (case h0 => go_simp); (case h1 => go_simp); rintro e w1 ⟨rfl, hb'⟩; have k2 := bl_cell hb' (p := ⟨w.heap.size, 2, none⟩) (v := .int .i64 sd) (by go_simp); have k3 := bl_cell hb' (p := ⟨w.heap.size, 3, none⟩) (v := .int .i64 wd) (by go_simp); have k4 := bl_cell hb' (p := ⟨w.heap.size, 4, none⟩) (v := .int .i64 ht) (by go_simp); have k5 := bl_cell hb' (p := ⟨w.heap.size, 5, none⟩) (v := .slice A pb.length c) (by go_simp); have k6 := bl_cell hb' (p := ⟨w.heap.size, 6, none⟩) (v := .slice B pl.length d) (by go_simp); have hb1 := Kp.mk hb'; clear hb'; have HW := Kp.mk (by repeat (with_reducible first | exact Below.refl _ _ | (refine bl_then ?_ hb1.out) | apply bl_alloc) : Below w.heap.size w w1)) | (go_at_call 52; (with_reducible refine (HS _).out.mono ?_); rintro e w' ⟨rfl, rfl⟩) | (go_at_call 41; (with_reducible first | refine (HWd _).out.mono ?_ | refine (HHt _).out.mono ?_); rintro e w' ⟨rfl, rfl⟩) | (go_at_call 53; (with_reducible first | refine (H1 _ HW.out).out.mono ?_ | refine (H2 _ HW.out).out.mono ?_); rintro e w' ⟨rfl, rfl⟩))
    go_ret
    exact ⟨rfl, HW.out⟩
  · obtain ⟨m, hm⟩ : ∃ m, m = wd * ht := ⟨_, rfl⟩
    have HF0 := HF.out
    rw [← hm] at HF0
    have HF2 := Kp.mk HF0
    clear HF HF0
    have hw : wrap64 (wd * ht) = m := by rw [hm]; exact HWR.out rfl rfl
    clear HWR HL hm
    by_cases e1 : (pb.length : Int) = m
    · have e1b : ((pb.length : Int) != m) = false := by rw [e1]; simp
      by_cases e2 : (pl.length : Int) = m
      · have e2b : ((pl.length : Int) != m) = false := by rw [e2]; simp
        have HR : Kp (R = (!b7 && !b8)) := ⟨by rw [HF2.out, decide_eq_true e1, decide_eq_true e2]; simp⟩
        clear HF2 e1 e2
        cases b7 with
        | true =>
          obtain rfl : R = false := by rw [HR.out]; rfl
          clear HR
          go_enter Try.func26, Try.ntmps26
          go_wp2_with (first | (go_at_call 27; (with_reducible refine (HP _ _ _ ?h0 ?h1).out.mono ?_); (case h0 => go_simp); (case h1 => go_simp); rintro e w1 ⟨rfl, hb'⟩; have k2 := bl_cell hb' (p := ⟨w.heap.size, 2, none⟩) (v := .int .i64 sd) (by go_simp); have k3 := bl_cell hb' (p := ⟨w.heap.size, 3, none⟩) (v := .int .i64 wd) (by go_simp); have k4 := bl_cell hb' (p := ⟨w.heap.size, 4, none⟩) (v := .int .i64 ht) (by go_simp); have k5 := bl_cell hb' (p := ⟨w.heap.size, 5, none⟩) (v := .slice A pb.length c) (by go_simp); have k6 := bl_cell hb' (p := ⟨w.heap.size, 6, none⟩) (v := .slice B pl.length d) (by go_simp); have hb1 := Kp.mk hb'; clear hb'; have HW := Kp.mk (by repeat (with_reducible first | exact Below.refl _ _ | (refine bl_then ?_ hb1.out) | apply bl_alloc) : Below w.heap.size w w1)) | (go_at_call 52; (with_reducible refine (HS _).out.mono ?_); rintro e w' ⟨rfl, rfl⟩) | (go_at_call 41; (with_reducible first | refine (HWd _).out.mono ?_ | refine (HHt _).out.mono ?_); rintro e w' ⟨rfl, rfl⟩) | (go_at_call 53; (with_reducible first | refine (H1 _ HW.out).out.mono ?_ | refine (H2 _ HW.out).out.mono ?_); rintro e w' ⟨rfl, rfl⟩))
          go_ret
          exact ⟨rfl, HW.out⟩
        | false =>
          cases b8 with
          | true =>
            obtain rfl : R = false := by rw [HR.out]; rfl
            clear HR
            go_enter Try.func26, Try.ntmps26
            go_wp2_with (first | (go_at_call 27; (with_reducible refine (HP _ _ _ ?h0 ?h1).out.mono ?_); (case h0 => go_simp); (case h1 => go_simp); rintro e w1 ⟨rfl, hb'⟩; have k2 := bl_cell hb' (p := ⟨w.heap.size, 2, none⟩) (v := .int .i64 sd) (by go_simp); have k3 := bl_cell hb' (p := ⟨w.heap.size, 3, none⟩) (v := .int .i64 wd) (by go_simp); have k4 := bl_cell hb' (p := ⟨w.heap.size, 4, none⟩) (v := .int .i64 ht) (by go_simp); have k5 := bl_cell hb' (p := ⟨w.heap.size, 5, none⟩) (v := .slice A pb.length c) (by go_simp); have k6 := bl_cell hb' (p := ⟨w.heap.size, 6, none⟩) (v := .slice B pl.length d) (by go_simp); have hb1 := Kp.mk hb'; clear hb'; have HW := Kp.mk (by repeat (with_reducible first | exact Below.refl _ _ | (refine bl_then ?_ hb1.out) | apply bl_alloc) : Below w.heap.size w w1)) | (go_at_call 52; (with_reducible refine (HS _).out.mono ?_); rintro e w' ⟨rfl, rfl⟩) | (go_at_call 41; (with_reducible first | refine (HWd _).out.mono ?_ | refine (HHt _).out.mono ?_); rintro e w' ⟨rfl, rfl⟩) | (go_at_call 53; (with_reducible first | refine (H1 _ HW.out).out.mono ?_ | refine (H2 _ HW.out).out.mono ?_); rintro e w' ⟨rfl, rfl⟩))
            go_ret
            exact ⟨rfl, HW.out⟩
          | false =>
            obtain rfl : R = true := by rw [HR.out]; rfl
            clear HR
            go_enter Try.func26, Try.ntmps26
            go_wp2_with (first | (go_at_call 27; (with_reducible refine (HP _ _ _ ?h0 ?h1).out.mono ?_); (case h0 => go_simp); (case h1 => go_simp); rintro e w1 ⟨rfl, hb'⟩; have k2 := bl_cell hb' (p := ⟨w.heap.size, 2, none⟩) (v := .int .i64 sd) (by go_simp); have k3 := bl_cell hb' (p := ⟨w.heap.size, 3, none⟩) (v := .int .i64 wd) (by go_simp); have k4 := bl_cell hb' (p := ⟨w.heap.size, 4, none⟩) (v := .int .i64 ht) (by go_simp); have k5 := bl_cell hb' (p := ⟨w.heap.size, 5, none⟩) (v := .slice A pb.length c) (by go_simp); have k6 := bl_cell hb' (p := ⟨w.heap.size, 6, none⟩) (v := .slice B pl.length d) (by go_simp); have hb1 := Kp.mk hb'; clear hb'; have HW := Kp.mk (by repeat (with_reducible first | exact Below.refl _ _ | (refine bl_then ?_ hb1.out) | apply bl_alloc) : Below w.heap.size w w1)) | (go_at_call 52; (with_reducible refine (HS _).out.mono ?_); rintro e w' ⟨rfl, rfl⟩) | (go_at_call 41; (with_reducible first | refine (HWd _).out.mono ?_ | refine (HHt _).out.mono ?_); rintro e w' ⟨rfl, rfl⟩) | (go_at_call 53; (with_reducible first | refine (H1 _ HW.out).out.mono ?_ | refine (H2 _ HW.out).out.mono ?_); rintro e w' ⟨rfl, rfl⟩))
            go_ret
            exact ⟨rfl, HW.out⟩
      · have e2b : ((pl.length : Int) != m) = true := by simpa using e2
        obtain rfl : R = false := by rw [HF2.out, decide_eq_false e2]; simp
        clear HF2 e1 e2
        go_enter Try.func26, Try.ntmps26
        go_wp2_with (first | (go_at_call 27; (with_reducible refine (HP _ _ _ ?h0 ?h1).out.mono ?_); (case h0 => go_simp); (case h1 => go_simp); rintro e w1 ⟨rfl, hb'⟩; have k2 := bl_cell hb' (p := ⟨w.heap.size, 2, none⟩) (v := .int .i64 sd) (by go_simp); have k3 := bl_cell hb' (p := ⟨w.heap.size, 3, none⟩) (v := .int .i64 wd) (by go_simp); have k4 := bl_cell hb' (p := ⟨w.heap.size, 4, none⟩) (v := .int .i64 ht) (by go_simp); have k5 := bl_cell hb' (p := ⟨w.heap.size, 5, none⟩) (v := .slice A pb.length c) (by go_simp); have k6 := bl_cell hb' (p := ⟨w.heap.size, 6, none⟩) (v := .slice B pl.length d) (by go_simp); have hb1 := Kp.mk hb'; clear hb'; have HW := Kp.mk (by repeat (with_reducible first | exact Below.refl _ _ | (refine bl_then ?_ hb1.out) | apply bl_alloc) : Below w.heap.size w w1)) | (go_at_call 52; (with_reducible refine (HS _).out.mono ?_); rintro e w' ⟨rfl, rfl⟩) | (go_at_call 41; (with_reducible first | refine (HWd _).out.mono ?_ | refine (HHt _).out.mono ?_); rintro e w' ⟨rfl, rfl⟩) | (go_at_call 53; (with_reducible first | refine (H1 _ HW.out).out.mono ?_ | refine (H2 _ HW.out).out.mono ?_); rintro e w' ⟨rfl, rfl⟩))
        go_ret
        exact ⟨rfl, HW.out⟩
    · have e1b : ((pb.length : Int) != m) = true := by simpa using e1
      obtain rfl : R = false := by rw [HF2.out, decide_eq_false e1]; simp
      clear HF2 e1
      go_enter Try.func26, Try.ntmps26
      go_wp2_with (first | (go_at_call 27; (with_reducible refine (HP _ _ _ ?h0 ?h1).out.mono ?_); (case h0 => go_simp); (case h1 => go_simp); rintro e w1 ⟨rfl, hb'⟩; have k2 := bl_cell hb' (p := ⟨w.heap.size, 2, none⟩) (v := .int .i64 sd) (by go_simp); have k3 := bl_cell hb' (p := ⟨w.heap.size, 3, none⟩) (v := .int .i64 wd) (by go_simp); have k4 := bl_cell hb' (p := ⟨w.heap.size, 4, none⟩) (v := .int .i64 ht) (by go_simp); have k5 := bl_cell hb' (p := ⟨w.heap.size, 5, none⟩) (v := .slice A pb.length c) (by go_simp); have k6 := bl_cell hb' (p := ⟨w.heap.size, 6, none⟩) (v := .slice B pl.length d) (by go_simp); have hb1 := Kp.mk hb'; clear hb'; have HW := Kp.mk (by repeat (with_reducible first | exact Below.refl _ _ | (refine bl_then ?_ hb1.out) | apply bl_alloc) : Below w.heap.size w w1)) | (go_at_call 52; (with_reducible refine (HS _).out.mono ?_); rintro e w' ⟨rfl, rfl⟩) | (go_at_call 41; (with_reducible first | refine (HWd _).out.mono ?_ | refine (HHt _).out.mono ?_); rintro e w' ⟨rfl, rfl⟩) | (go_at_call 53; (with_reducible first | refine (H1 _ HW.out).out.mono ?_ | refine (H2 _ HW.out).out.mono ?_); rintro e w' ⟨rfl, rfl⟩))
      go_ret
      exact ⟨rfl, HW.out⟩
end Go.Proofs.Ytibaapaglocpjaa.B

end
section
set_option linter.unusedSimpArgs false
set_option linter.unusedVariables false
namespace Go.Proofs.Ytibaapaglocpjaa.B
open Go.RowKit Go.Shelf Go.Proofs.YtibaapaglocpjaaW.PrintWords
set_option maxHeartbeats 1000000 in
theorem graincheck_any (fl ke sw be we : Int) (w : World) :
    Calls Try.prog 60 #[.agg #[.int .i64 fl, .int .i64 ke, .int .i64 sw, .int .i64 be, .int .i64 we]] w fun e w' => e = .returned (.int .i64 (errI (grainB fl ke sw be we))) ∧ Below w.heap.size w w' := by
  have HF : Kp (grainB fl ke sw be we = (inB ke 1 fl && (decide (fl ≤ 65536) && (inB sw 0 1000 && (inB be 0 1000 && inB we 0 1000))))) := ⟨rfl⟩
  have H1 := fun W => Kp.mk (within_fix ke 1 fl W)
  have H2 := fun W => Kp.mk (within_int sw 0 1000 W)
  have H3 := fun W => Kp.mk (within_int be 0 1000 W)
  have H4 := fun W => Kp.mk (within_int we 0 1000 W)
  have h2 : decide (65536 < fl) = !decide (fl ≤ 65536) := by by_cases h : fl ≤ 65536 <;> simp [h] <;> omega
  generalize grainB fl ke sw be we = R at *
  generalize inB ke 1 fl = b1 at *
  generalize decide (fl ≤ 65536) = b2 at *
  generalize inB sw 0 1000 = b3 at *
  generalize inB be 0 1000 = b4 at *
  generalize inB we 0 1000 = b5 at *
  have HL : Kp ((b1 = false ∧ R = false) ∨ (b1 = true ∧ b2 = false ∧ R = false) ∨ (b1 = true ∧ b2 = true ∧ b3 = false ∧ R = false) ∨ (b1 = true ∧ b2 = true ∧ b3 = true ∧ b4 = false ∧ R = false) ∨ (b1 = true ∧ b2 = true ∧ b3 = true ∧ b4 = true ∧ b5 = false ∧ R = false) ∨ (b1 = true ∧ b2 = true ∧ b3 = true ∧ b4 = true ∧ b5 = true ∧ R = true)) := ⟨by
    rw [HF.out]
    cases b1 <;> cases b2 <;> cases b3 <;> cases b4 <;> cases b5 <;> simp⟩
  clear HF
  rcases HL.out with ⟨rfl, rfl⟩ | ⟨rfl, rfl, rfl⟩ | ⟨rfl, rfl, rfl, rfl⟩ | ⟨rfl, rfl, rfl, rfl, rfl⟩ | ⟨rfl, rfl, rfl, rfl, rfl, rfl⟩ | ⟨rfl, rfl, rfl, rfl, rfl, rfl⟩
  all_goals
    clear HL
    (try simp only [Bool.not_false, Bool.not_true] at h2)
    go_enter Try.func60, Try.ntmps60
    go_wp2_with (first | (go_at_call 52; (with_reducible refine (H1 _).out.mono ?_); rintro e w' ⟨rfl, rfl⟩) | (go_at_call 41; (with_reducible first | refine (H2 _).out.mono ?_ | refine (H3 _).out.mono ?_ | refine (H4 _).out.mono ?_); rintro e w' ⟨rfl, rfl⟩))
    go_ret
    exact ⟨rfl, (by repeat (first | exact Below.refl _ _ | (with_reducible assumption) | apply bl_drew | apply bl_drewN | apply bl_alloc | (refine bl_set ?_ (by go_simp))))⟩
def GV (fl ke sw be we : Int) : Value := .agg #[.int .i64 fl, .int .i64 ke, .int .i64 sw, .int .i64 be, .int .i64 we]
set_option maxHeartbeats 1000000 in
theorem right_any (cx cy sd wd ht : Int) (A : Option Addr) (c : Nat) (pb : List Int) (B : Option Addr) (d : Nat) (pl : List Int) (fl ke sw be we : Int) (sp : Value) (b3 : Bool) (w : World) (hr1 : ReadsInt w .i64 A pb.length pb) (hc1 : pb.length ≤ c) (hr2 : ReadsInt w .i64 B pl.length pl) (hc2 : pl.length ≤ d) (hp : ∀ W, Below w.heap.size w W → Calls Try.prog 27 #[sp] W fun e w' => e = .returned (.bool b3) ∧ Below W.heap.size W w') :
    Calls Try.prog 31 #[.agg #[.int .i64 cx, .int .i64 cy, .int .i64 sd, .int .i64 wd, .int .i64 ht, .slice A pb.length c, .slice B pl.length d], .agg #[.int .i64 fl, .int .i64 ke, .int .i64 sw, .int .i64 be, .int .i64 we], sp] w fun e w' => e = .returned (.bool (iceB cx cy sd wd ht pb pl && (grainB fl ke sw be we && b3))) ∧ Below w.heap.size w w' := by
  have H1 := fun W (h : Below w.heap.size w W) => Kp.mk (icecheck_any cx cy sd wd ht A c pb B d pl W (hr1.below h) hc1 (hr2.below h) hc2)
  have H2 := fun W => Kp.mk (graincheck_any fl ke sw be we W)
  have H3 := fun W h => Kp.mk (hp W h)
  have HF : Kp (∀ b1 b2 : Bool, (b1 = false ∧ (b1 && (b2 && b3)) = false) ∨ (b1 = true ∧ b2 = false ∧ (b1 && (b2 && b3)) = false) ∨ (b1 = true ∧ b2 = true ∧ (b1 && (b2 && b3)) = b3)) := ⟨fun b1 b2 => by cases b1 <;> cases b2 <;> simp⟩
  clear hr1 hr2 hc1 hc2 hp
  generalize iceB cx cy sd wd ht pb pl = b1 at *
  generalize grainB fl ke sw be we = b2 at *
  have HL := Kp.mk (HF.out b1 b2)
  clear HF
  generalize (b1 && (b2 && b3)) = R at *
  rcases HL.out with ⟨rfl, rfl⟩ | ⟨rfl, rfl, rfl⟩ | ⟨rfl, rfl, rfl⟩
  all_goals
    clear HL
    go_enter Try.func31, Try.ntmps31
    go_wp2_with (first | (go_at_call 26; (with_reducible refine (H1 _ ?hb).out.mono ?_); (case hb => exact (by repeat (first | exact Below.refl _ _ | (with_reducible assumption) | apply bl_drew | apply bl_drewN | apply bl_alloc | (refine bl_set ?_ (by go_simp))))); rintro e w1 ⟨rfl, hb'⟩; have c0 := bl_cell hb' (p := ⟨w.heap.size + 1, 0, none⟩) (v := .int .i64 fl) (by go_simp); have c1 := bl_cell hb' (p := ⟨w.heap.size + 1, 1, none⟩) (v := .int .i64 ke) (by go_simp); have c2 := bl_cell hb' (p := ⟨w.heap.size + 1, 2, none⟩) (v := .int .i64 sw) (by go_simp); have c3 := bl_cell hb' (p := ⟨w.heap.size + 1, 3, none⟩) (v := .int .i64 be) (by go_simp); have c4 := bl_cell hb' (p := ⟨w.heap.size + 1, 4, none⟩) (v := .int .i64 we) (by go_simp); have hb1 := Kp.mk hb'; clear hb'; simp only [errI, Bool.false_eq_true, if_true, if_false]) | (go_at_call 60; (with_reducible refine (H2 _).out.mono ?_); rintro e w2 ⟨rfl, hb'⟩; have hb2 := Kp.mk hb'; clear hb'; simp only [errI, Bool.false_eq_true, if_true, if_false]) | (go_at_call 27; (with_reducible refine (H3 _ ?hb).out.mono ?_); (case hb => exact (by repeat (with_reducible first | exact Below.refl _ _ | apply bl_drew | apply bl_drewN | (refine bl_then ?_ hb1.out) | (refine bl_then ?_ hb2.out) | (refine bl_then ?_ hb3.out) | (refine bl_then ?_ hb4.out) | (refine bl_then ?_ hb5.out) | (refine bl_then ?_ hb6.out) | (refine bl_then ?_ hb7.out) | (refine bl_then ?_ hb8.out) | (refine bl_then ?_ hb9.out) | apply bl_alloc | (refine bl_set ?_ (by go_simp))))); rintro e w3 ⟨rfl, hb'⟩; have hb3 := Kp.mk hb'; clear hb'))
    go_ret
    exact ⟨rfl, (by repeat (with_reducible first | exact Below.refl _ _ | apply bl_drew | apply bl_drewN | (refine bl_then ?_ hb1.out) | (refine bl_then ?_ hb2.out) | (refine bl_then ?_ hb3.out) | (refine bl_then ?_ hb4.out) | (refine bl_then ?_ hb5.out) | (refine bl_then ?_ hb6.out) | (refine bl_then ?_ hb7.out) | (refine bl_then ?_ hb8.out) | (refine bl_then ?_ hb9.out) | apply bl_alloc | (refine bl_set ?_ (by go_simp))))⟩
set_option maxHeartbeats 2000000 in
set_option maxRecDepth 100000 in
theorem at_any (cx cy sd wd ht : Int) (A : Option Addr) (c : Nat) (pb : List Int) (B : Option Addr) (d : Nat) (pl : List Int) (x y : Int) (w : World) (H : AtHyp cx cy sd wd ht x y) :
    Calls Try.prog 30 #[.agg #[.int .i64 cx, .int .i64 cy, .int .i64 sd, .int .i64 wd, .int .i64 ht, .slice A pb.length c, .slice B pl.length d], .agg #[.int .i64 x, .int .i64 y]] w fun e w' => e = .returned (.tuple #[.int .i64 (atV cx cy sd wd ht x y), .bool (atOk cx cy sd wd ht x y)]) ∧ Below w.heap.size w w' := by
  obtain ⟨x0, x1, y0, y1, s0, s1, w0, w1, h0, h1⟩ := H
  have p1' : wrap64 (wd * sd) = wd * sd := by
    have a := Int.mul_le_mul w1 s1 (by omega) (by omega)
    have b := Int.mul_nonneg (a := wd) (b := sd) (by omega) (by omega)
    unfold wrap64; omega
  have p2' : wrap64 (ht * sd) = ht * sd := by
    have a := Int.mul_le_mul h1 s1 (by omega) (by omega)
    have b := Int.mul_nonneg (a := ht) (b := sd) (by omega) (by omega)
    unfold wrap64; omega
  obtain ⟨ws, hws⟩ : ∃ m, m = wd * sd := ⟨_, rfl⟩
  obtain ⟨hs, hhs⟩ : ∃ m, m = ht * sd := ⟨_, rfl⟩
  have p1 : wrap64 (wd * sd) = ws := p1'.trans hws.symm
  have p2 : wrap64 (ht * sd) = hs := p2'.trans hhs.symm
  clear p1' p2'
  have HF : Kp (atOk cx cy sd wd ht x y = decide (0 ≤ x - cx ∧ 0 ≤ y - cy ∧ x - cx < ws ∧ y - cy < hs)) := ⟨by rw [hws, hhs]; rfl⟩
  have HQ : Kp (0 ≤ x - cx → 0 ≤ y - cy → x - cx < ws → y - cy < hs → wrap64 ((y - cy) / sd * wd) = (y - cy) / sd * wd ∧ wrap64 ((y - cy) / sd * wd + (x - cx) / sd) = (y - cy) / sd * wd + (x - cx) / sd) := ⟨fun a b c d => by
    have e1 : (y - cy) / sd < ht := Int.ediv_lt_of_lt_mul (by omega) (by rw [← hhs]; exact d)
    have e2 : (x - cx) / sd < wd := Int.ediv_lt_of_lt_mul (by omega) (by rw [← hws]; exact c)
    have e3 : 0 ≤ (y - cy) / sd := Int.ediv_nonneg b (by omega)
    have e4 : 0 ≤ (x - cx) / sd := Int.ediv_nonneg a (by omega)
    have e5 : (y - cy) / sd * wd ≤ 256 * 256 := Int.mul_le_mul (by omega) w1 (by omega) (by omega)
    have e6 : 0 ≤ (y - cy) / sd * wd := Int.mul_nonneg e3 (by omega)
    unfold wrap64; omega⟩
  clear hws hhs
  have HL : Kp (x - cx < 0 ∨ (0 ≤ x - cx ∧ y - cy < 0) ∨ (0 ≤ x - cx ∧ 0 ≤ y - cy ∧ ws ≤ x - cx) ∨ (0 ≤ x - cx ∧ 0 ≤ y - cy ∧ x - cx < ws ∧ hs ≤ y - cy) ∨ (0 ≤ x - cx ∧ 0 ≤ y - cy ∧ x - cx < ws ∧ y - cy < hs)) := ⟨by omega⟩
  rcases HL.out with a | ⟨a, b⟩ | ⟨a, b, e⟩ | ⟨a, b, e, f⟩ | ⟨a, b, e, f⟩
  rotate_left 4
  · have HR : Kp (atOk cx cy sd wd ht x y = true) := ⟨by rw [HF.out]; exact decide_eq_true (by omega)⟩
    obtain ⟨q1, q2⟩ := HQ.out a b e f
    have HV : Kp (atV cx cy sd wd ht x y = wrap64 ((y - cy) / sd * wd + (x - cx) / sd)) := ⟨by unfold atV; rw [HR.out, q2]; rfl⟩
    clear q2
    have hsd : ¬ sd = 0 := by omega
    clear HF HQ HL
    generalize atOk cx cy sd wd ht x y = R at *
    generalize atV cx cy sd wd ht x y = V at *
    go_enter Try.func30, Try.ntmps30
    go_wp2
    go_quiet (fail)
    go_wp2
    go_quiet (fail)
    go_wp2
    go_ret2
    exact ⟨by rw [HR.out, HV.out]; rfl, (by repeat (first | exact Below.refl _ _ | (with_reducible assumption) | apply bl_drew | apply bl_drewN | apply bl_alloc | (refine bl_set ?_ (by go_simp))))⟩
  all_goals
    have HR : Kp (atOk cx cy sd wd ht x y = false) := ⟨by rw [HF.out]; exact decide_eq_false (by omega)⟩
    have HV : Kp (atV cx cy sd wd ht x y = 0) := ⟨by unfold atV; rw [HR.out]; rfl⟩
    clear HF HQ HL
    generalize atOk cx cy sd wd ht x y = R at *
    generalize atV cx cy sd wd ht x y = V at *
    go_enter Try.func30, Try.ntmps30
    go_wp2
    go_quiet (fail)
    go_wp2
    go_ret2
    exact ⟨by rw [HR.out, HV.out]; rfl, (by repeat (first | exact Below.refl _ _ | (with_reducible assumption) | apply bl_drew | apply bl_drewN | apply bl_alloc | (refine bl_set ?_ (by go_simp))))⟩
end Go.Proofs.Ytibaapaglocpjaa.B

end
section
set_option linter.unusedSimpArgs false
set_option linter.unusedVariables false
namespace Go.Proofs.Ytibaapaglocpjaa.B
open Go.RowKit Go.Shelf Go.Proofs.YtibaapaglocpjaaW.PrintWords
set_option maxHeartbeats 2000000 in
set_option maxRecDepth 100000 in
theorem grains_any (cx cy sd wd ht : Int) (A : Option Addr) (c : Nat) (pb : List Int) (B : Option Addr) (d : Nat) (pl : List Int) (x y : Int) (w : World) (hr1 : ReadsInt w .i64 A pb.length pb) (hc1 : pb.length ≤ c) (hr2 : ReadsInt w .i64 B pl.length pl) (hc2 : pl.length ≤ d) (H : AtHyp cx cy sd wd ht x y) (n1 : (pb.length : Int) = wd * ht) (n2 : (pl.length : Int) = wd * ht) :
    Calls Try.prog 35 #[.agg #[.int .i64 cx, .int .i64 cy, .int .i64 sd, .int .i64 wd, .int .i64 ht, .slice A pb.length c, .slice B pl.length d], .agg #[.int .i64 x, .int .i64 y]] w fun e w' => e = .returned (.tuple #[.int .i64 (grV pb cx cy sd wd ht x y), .int .i64 (grV pl cx cy sd wd ht x y)]) ∧ Below w.heap.size w w' := by
  have HA := fun W => Kp.mk (at_any cx cy sd wd ht A c pb B d pl x y W H)
  have HR := fun h => Kp.mk (atV_range H h)
  have HG1 : Kp (grV pb cx cy sd wd ht x y = if atOk cx cy sd wd ht x y = true then rd pb (atV cx cy sd wd ht x y) else 0) := ⟨rfl⟩
  have HG2 : Kp (grV pl cx cy sd wd ht x y = if atOk cx cy sd wd ht x y = true then rd pl (atV cx cy sd wd ht x y) else 0) := ⟨rfl⟩
  have H1 := Kp.mk hr1
  have H2 := Kp.mk hr2
  have N1 := Kp.mk n1
  have N2 := Kp.mk n2
  clear hr1 hr2 H n1 n2
  generalize atV cx cy sd wd ht x y = v at *
  generalize atOk cx cy sd wd ht x y = ok at *
  generalize grV pb cx cy sd wd ht x y = g1 at *
  generalize grV pl cx cy sd wd ht x y = g2 at *
  cases ok with
  | false =>
    have G1 : Kp (g1 = 0) := ⟨HG1.out⟩
    have G2 : Kp (g2 = 0) := ⟨HG2.out⟩
    clear HG1 HG2 HR
    go_enter Try.func35, Try.ntmps35
    go_wp2_with (go_at_call 30; (with_reducible refine (HA _).out.mono ?_); rintro e w1 ⟨rfl, hb'⟩; have hb1 := Kp.mk hb'; clear hb')
    go_ret2
    exact ⟨by rw [G1.out, G2.out]; rfl, (by repeat (with_reducible first | exact Below.refl _ _ | apply bl_drew | apply bl_drewN | (refine bl_then ?_ hb1.out) | (refine bl_then ?_ hb2.out) | (refine bl_then ?_ hb3.out) | (refine bl_then ?_ hb4.out) | (refine bl_then ?_ hb5.out) | (refine bl_then ?_ hb6.out) | (refine bl_then ?_ hb7.out) | (refine bl_then ?_ hb8.out) | (refine bl_then ?_ hb9.out) | apply bl_alloc | (refine bl_set ?_ (by go_simp))))⟩
  | true =>
    obtain ⟨v0, v1⟩ := (HR rfl).out
    have i1 : v < (pb.length : Int) := by rw [N1.out]; exact v1
    have i2 : v < (pl.length : Int) := by rw [N2.out]; exact v1
    obtain ⟨ad1, rfl, hcell1⟩ := H1.out.at_ v v0 i1
    obtain ⟨ad2, rfl, hcell2⟩ := H2.out.at_ v v0 i2
    have G1 : Kp (g1 = rd pb v) := ⟨HG1.out⟩
    have G2 : Kp (g2 = rd pl v) := ⟨HG2.out⟩
    clear HG1 HG2 HR v1
    generalize rd pb v = r1 at *
    generalize rd pl v = r2 at *
    have e1 := fun o => bl_cell (bl_alloc (Below.refl _ w) o) hcell1
    have e2 := fun o => bl_cell (bl_alloc (Below.refl _ w) o) hcell2
    have HB12 : Kp (∀ W, Below w.heap.size w W → W.cell? (ad1.add v.toNat) = some (.int .i64 r1) ∧ W.cell? (ad2.add v.toNat) = some (.int .i64 r2)) := ⟨fun W h => ⟨bl_cell h hcell1, bl_cell h hcell2⟩⟩
    clear hcell1 hcell2 e1 e2
    go_enter Try.func35, Try.ntmps35
    go_wp2_with (go_at_call 30; (with_reducible refine (HA _).out.mono ?_); rintro e w1 ⟨rfl, hb'⟩; have k5 := bl_cell hb' (p := ⟨w.heap.size, 5, none⟩) (v := .slice (some ad1) pb.length c) (by go_simp); have k6 := bl_cell hb' (p := ⟨w.heap.size, 6, none⟩) (v := .slice (some ad2) pl.length d) (by go_simp); have hb1 := Kp.mk hb'; clear hb'; obtain ⟨k7, k8⟩ := HB12.out w1 (by repeat (with_reducible first | exact Below.refl _ _ | apply bl_drew | apply bl_drewN | (refine bl_then ?_ hb1.out) | (refine bl_then ?_ hb2.out) | (refine bl_then ?_ hb3.out) | (refine bl_then ?_ hb4.out) | (refine bl_then ?_ hb5.out) | (refine bl_then ?_ hb6.out) | (refine bl_then ?_ hb7.out) | (refine bl_then ?_ hb8.out) | (refine bl_then ?_ hb9.out) | apply bl_alloc | (refine bl_set ?_ (by go_simp)))))
    go_quiet (fail)
    go_wp2
    go_ret2
    exact ⟨by rw [G1.out, G2.out]; rfl, (by repeat (with_reducible first | exact Below.refl _ _ | apply bl_drew | apply bl_drewN | (refine bl_then ?_ hb1.out) | (refine bl_then ?_ hb2.out) | (refine bl_then ?_ hb3.out) | (refine bl_then ?_ hb4.out) | (refine bl_then ?_ hb5.out) | (refine bl_then ?_ hb6.out) | (refine bl_then ?_ hb7.out) | (refine bl_then ?_ hb8.out) | (refine bl_then ?_ hb9.out) | apply bl_alloc | (refine bl_set ?_ (by go_simp))))⟩
set_option maxHeartbeats 2000000 in
set_option maxRecDepth 100000 in
theorem slow_any (cx cy sd wd ht : Int) (A : Option Addr) (c : Nat) (pb : List Int) (B : Option Addr) (d : Nat) (pl : List Int) (fl ke sw be we x y : Int) (w : World) (hr1 : ReadsInt w .i64 A pb.length pb) (hc1 : pb.length ≤ c) (hr2 : ReadsInt w .i64 B pl.length pl) (hc2 : pl.length ≤ d) (H : AtHyp cx cy sd wd ht x y) (n1 : (pb.length : Int) = wd * ht) (n2 : (pl.length : Int) = wd * ht) (g1 : grainOk pb) (g2 : grainOk pl) (HG : GrainOk fl ke sw be we) :
    Calls Try.prog 33 #[.agg #[.int .i64 cx, .int .i64 cy, .int .i64 sd, .int .i64 wd, .int .i64 ht, .slice A pb.length c, .slice B pl.length d], .agg #[.int .i64 fl, .int .i64 ke, .int .i64 sw, .int .i64 be, .int .i64 we], .agg #[.int .i64 x, .int .i64 y]] w fun e w' => e = .returned (.int .i64 (slowF fl ke sw (grV pb cx cy sd wd ht x y) (grV pl cx cy sd wd ht x y))) ∧ Below w.heap.size w w' := by
  have HGr := fun W h => Kp.mk (grains_any cx cy sd wd ht A c pb B d pl x y W (hr1.below h) hc1 (hr2.below h) hc2 H n1 n2)
  obtain ⟨p0, p1⟩ := grV_bd (cx := cx) (cy := cy) (sd := sd) (wd := wd) (ht := ht) (x := x) (y := y) g1
  obtain ⟨q0, q1⟩ := grV_bd (cx := cx) (cy := cy) (sd := sd) (wd := wd) (ht := ht) (x := x) (y := y) g2
  obtain ⟨k0, k1, f1, s0, s1, b0, b1, w0, w1⟩ := HG
  clear hr1 hr2 H n1 n2 g1 g2 b0 b1 w0 w1
  generalize grV pb cx cy sd wd ht x y = p at *
  generalize grV pl cx cy sd wd ht x y = q at *
  have a1 : nabs (fl - ke) ≤ 65536 := nabs_le (by omega) (by omega)
  have a2 : nabs p ≤ 1000 := nabs_le (by omega) (by omega)
  have m1 := mul_bd (nabs_nonneg (fl - ke)) a1 (nabs_nonneg p) a2
  have hs : 0 ≤ sw * q ∧ sw * q ≤ 1000 * 1000 := mul_bd s0 s1 q0 q1
  have hles := scaleF_bd (fl - ke) p 1000 (65536 * 1000) 3 (by omega) m1.2
  have a3 : nabs (fl - scaleF (fl - ke) p 1000 3) ≤ 70000000 := nabs_le (by omega) (by omega)
  have a4 : nabs (1000000 - sw * q) ≤ 1000000 := nabs_le (by omega) (by omega)
  have m2 := mul_bd (nabs_nonneg (fl - scaleF (fl - ke) p 1000 3)) a3 (nabs_nonneg (1000000 - sw * q)) a4
  have HS1 := fun W => Kp.mk (Scale_3 (fl - ke) p 1000 ⟨by omega, by omega⟩ ⟨by omega, by omega⟩ ⟨by omega, by omega⟩ (by omega) (by omega) W)
  have HS2 := fun W => Kp.mk (Scale_3 (fl - scaleF (fl - ke) p 1000 3) (1000000 - sw * q) 1000000 ⟨by omega, by omega⟩ ⟨by omega, by omega⟩ ⟨by omega, by omega⟩ (by omega) (by omega) W)
  have HF : Kp (slowF fl ke sw p q = scaleF (fl - scaleF (fl - ke) p 1000 3) (1000000 - sw * q) 1000000 3) := ⟨rfl⟩
  have hw1 : wrap64 (sw * q) = sw * q := by unfold wrap64; omega
  obtain ⟨sq, hsq⟩ : ∃ sq, sq = sw * q := ⟨_, rfl⟩
  have hw : wrap64 (sw * q) = sq := hw1.trans hsq.symm
  rw [← hsq] at HS2 HF hs
  clear hw1 hsq a1 a2 m1 a3 a4 m2
  generalize scaleF (fl - ke) p 1000 3 = le at *
  generalize slowF fl ke sw p q = R at *
  generalize scaleF (fl - le) (1000000 - sq) 1000000 3 = R2 at *
  obtain ⟨l0, l1⟩ := hles
  obtain ⟨u0, u1⟩ := hs
  go_enter Try.func33, Try.ntmps33
  go_wp2_with (first | (go_at_call 35; (with_reducible refine (HGr _ ?hb).out.mono ?_); (case hb => exact (by repeat (first | exact Below.refl _ _ | (with_reducible assumption) | apply bl_drew | apply bl_drewN | apply bl_alloc | (refine bl_set ?_ (by go_simp))))); rintro e w1 ⟨rfl, hb'⟩; have c0 := bl_cell hb' (p := ⟨w.heap.size + 1, 0, none⟩) (v := .int .i64 fl) (by go_simp); have c1 := bl_cell hb' (p := ⟨w.heap.size + 1, 1, none⟩) (v := .int .i64 ke) (by go_simp); have c2 := bl_cell hb' (p := ⟨w.heap.size + 1, 2, none⟩) (v := .int .i64 sw) (by go_simp); have hb1 := Kp.mk hb'; clear hb') | (go_at_call 36; (with_reducible refine (HS1 _).out.mono ?_); rintro e w2 ⟨rfl, hb'⟩; have d0 := bl_cell hb' (p := ⟨w.heap.size + 1, 0, none⟩) (v := .int .i64 fl) (by go_simp); have d1 := bl_cell hb' (p := ⟨w.heap.size + 1, 1, none⟩) (v := .int .i64 ke) (by go_simp); have d2 := bl_cell hb' (p := ⟨w.heap.size + 1, 2, none⟩) (v := .int .i64 sw) (by go_simp); have hb2 := Kp.mk hb'; clear hb') | (go_at_call 36; (with_reducible refine (HS2 _).out.mono ?_); rintro e w3 ⟨rfl, hb'⟩; have hb3 := Kp.mk hb'; clear hb'))
  go_ret
  exact ⟨by rw [HF.out]; rfl, (by repeat (with_reducible first | exact Below.refl _ _ | apply bl_drew | apply bl_drewN | (refine bl_then ?_ hb1.out) | (refine bl_then ?_ hb2.out) | (refine bl_then ?_ hb3.out) | (refine bl_then ?_ hb4.out) | (refine bl_then ?_ hb5.out) | (refine bl_then ?_ hb6.out) | (refine bl_then ?_ hb7.out) | (refine bl_then ?_ hb8.out) | (refine bl_then ?_ hb9.out) | apply bl_alloc | (refine bl_set ?_ (by go_simp))))⟩
end Go.Proofs.Ytibaapaglocpjaa.B

end
section
set_option linter.unusedSimpArgs false
set_option linter.unusedVariables false
namespace Go.Proofs.Ytibaapaglocpjaa.B
open Go.RowKit Go.Shelf Go.Proofs.YtibaapaglocpjaaW.PrintWords
set_option maxHeartbeats 2000000 in
set_option maxRecDepth 100000 in
theorem At_any (cx cy sd wd ht : Int) (A : Option Addr) (c : Nat) (pb : List Int) (B : Option Addr) (d : Nat) (pl : List Int) (x y : Int) (w : World) (hr1 : ReadsInt w .i64 A pb.length pb) (hc1 : pb.length ≤ c) (hr2 : ReadsInt w .i64 B pl.length pl) (hc2 : pl.length ≤ d) :
    Calls Try.prog 13 #[.agg #[.int .i64 cx, .int .i64 cy, .int .i64 sd, .int .i64 wd, .int .i64 ht, .slice A pb.length c, .slice B pl.length d], .agg #[.int .i64 x, .int .i64 y]] w fun e w' => e = .returned (.tuple #[.int .i64 (iceAt cx cy sd wd ht pb pl x y).1, .int .i64 (iceAt cx cy sd wd ht pb pl x y).2]) ∧ Below w.heap.size w w' := by
  have HC := fun W h => Kp.mk (icecheck_any cx cy sd wd ht A c pb B d pl W (hr1.below h) hc1 (hr2.below h) hc2)
  have HP := fun bk c W h0 h1 => Kp.mk (placed_1 x y bk c W h0 h1)
  have HA : Kp (iceB cx cy sd wd ht pb pl = true → plB x y = true → ∀ W, Calls Try.prog 30 #[.agg #[.int .i64 cx, .int .i64 cy, .int .i64 sd, .int .i64 wd, .int .i64 ht, .slice A pb.length c, .slice B pl.length d], .agg #[.int .i64 x, .int .i64 y]] W fun e w' => e = .returned (.tuple #[.int .i64 (atV cx cy sd wd ht x y), .bool (atOk cx cy sd wd ht x y)]) ∧ Below W.heap.size W w') := ⟨fun h1 h2 W => at_any cx cy sd wd ht A c pb B d pl x y W ((iceB_iff.1 h1).at h2)⟩
  have HF : Kp (iceAt cx cy sd wd ht pb pl x y = if iceB cx cy sd wd ht pb pl = true ∧ plB x y = true then (if atOk cx cy sd wd ht x y = true then (atV cx cy sd wd ht x y, 0) else (0, 7)) else (0, 2)) := ⟨rfl⟩
  have HV : Kp (atOk cx cy sd wd ht x y = false → atV cx cy sd wd ht x y = 0) := ⟨fun h => by unfold atV; rw [h]; rfl⟩
  clear hr1 hr2 hc1 hc2
  generalize iceAt cx cy sd wd ht pb pl x y = R at *
  generalize iceB cx cy sd wd ht pb pl = b1 at *
  generalize plB x y = b2 at *
  generalize atOk cx cy sd wd ht x y = ok at *
  generalize atV cx cy sd wd ht x y = v at *
  have HL : Kp ((b1 = false ∧ R = (0, 2)) ∨ (b1 = true ∧ b2 = false ∧ R = (0, 2)) ∨ (b1 = true ∧ b2 = true ∧ ok = false ∧ R = (0, 7)) ∨ (b1 = true ∧ b2 = true ∧ ok = true ∧ R = (v, 0))) := ⟨by
    rw [HF.out]; cases b1 <;> cases b2 <;> cases ok <;> simp⟩
  clear HF
  rcases HL.out with ⟨rfl, rfl⟩ | ⟨rfl, rfl, rfl⟩ | ⟨rfl, rfl, rfl, rfl⟩ | ⟨rfl, rfl, rfl, rfl⟩
  all_goals
    clear HL
    go_enter Try.func13, Try.ntmps13
    go_wp2_with (first | (go_at_call 26; (with_reducible refine (HC _ ?hb).out.mono ?_); (case hb => exact (by repeat (first | exact Below.refl _ _ | (with_reducible assumption) | apply bl_drew | apply bl_drewN | apply bl_alloc | (refine bl_set ?_ (by go_simp))))); rintro e w1 ⟨rfl, hb'⟩; have c0 := bl_cell hb' (p := ⟨w.heap.size + 1, 0, none⟩) (v := .int .i64 x) (by first | (go_simp; done) | exact bl_cell (by repeat (with_reducible first | apply bl_alloc | apply bl_drew | exact Below.refl _ _)) (by assumption)); have c1 := bl_cell hb' (p := ⟨w.heap.size + 1, 1, none⟩) (v := .int .i64 y) (by first | (go_simp; done) | exact bl_cell (by repeat (with_reducible first | apply bl_alloc | apply bl_drew | exact Below.refl _ _)) (by assumption)); have iq0 := bl_cell hb' (p := ⟨w.heap.size, 0, none⟩) (v := .int .i64 cx) (by first | (go_simp; done) | exact bl_cell (by repeat (with_reducible first | apply bl_alloc | apply bl_drew | exact Below.refl _ _)) (by assumption)); have iq1 := bl_cell hb' (p := ⟨w.heap.size, 1, none⟩) (v := .int .i64 cy) (by first | (go_simp; done) | exact bl_cell (by repeat (with_reducible first | apply bl_alloc | apply bl_drew | exact Below.refl _ _)) (by assumption)); have iq2 := bl_cell hb' (p := ⟨w.heap.size, 2, none⟩) (v := .int .i64 sd) (by first | (go_simp; done) | exact bl_cell (by repeat (with_reducible first | apply bl_alloc | apply bl_drew | exact Below.refl _ _)) (by assumption)); have iq3 := bl_cell hb' (p := ⟨w.heap.size, 3, none⟩) (v := .int .i64 wd) (by first | (go_simp; done) | exact bl_cell (by repeat (with_reducible first | apply bl_alloc | apply bl_drew | exact Below.refl _ _)) (by assumption)); have iq4 := bl_cell hb' (p := ⟨w.heap.size, 4, none⟩) (v := .int .i64 ht) (by first | (go_simp; done) | exact bl_cell (by repeat (with_reducible first | apply bl_alloc | apply bl_drew | exact Below.refl _ _)) (by assumption)); have iq5 := bl_cell hb' (p := ⟨w.heap.size, 5, none⟩) (v := .slice A pb.length c) (by first | (go_simp; done) | exact bl_cell (by repeat (with_reducible first | apply bl_alloc | apply bl_drew | exact Below.refl _ _)) (by assumption)); have iq6 := bl_cell hb' (p := ⟨w.heap.size, 6, none⟩) (v := .slice B pl.length d) (by first | (go_simp; done) | exact bl_cell (by repeat (with_reducible first | apply bl_alloc | apply bl_drew | exact Below.refl _ _)) (by assumption)); have hsz : w.heap.size + 1 < w1.heap.size := World.block_lt_of_cell? w1 _ c0; have hb1 := Kp.mk hb'; clear hb'; simp only [errI, Bool.false_eq_true, if_true, if_false]) | (go_at_call 27; (with_reducible refine (HP _ _ _ ?h0 ?h1).out.mono ?_); (case h0 => go_simp); (case h1 => go_simp); rintro e w2 ⟨rfl, hb'⟩; have d0 := bl_cell hb' (p := ⟨w.heap.size + 1, 0, none⟩) (v := .int .i64 x) (by first | (go_simp; done) | exact bl_cell (by repeat (with_reducible first | apply bl_alloc | apply bl_drew | exact Below.refl _ _)) (by assumption)); have d1 := bl_cell hb' (p := ⟨w.heap.size + 1, 1, none⟩) (v := .int .i64 y) (by first | (go_simp; done) | exact bl_cell (by repeat (with_reducible first | apply bl_alloc | apply bl_drew | exact Below.refl _ _)) (by assumption)); have iq0 := bl_cell hb' (p := ⟨w.heap.size, 0, none⟩) (v := .int .i64 cx) (by first | (go_simp; done) | exact bl_cell (by repeat (with_reducible first | apply bl_alloc | apply bl_drew | exact Below.refl _ _)) (by assumption)); have iq1 := bl_cell hb' (p := ⟨w.heap.size, 1, none⟩) (v := .int .i64 cy) (by first | (go_simp; done) | exact bl_cell (by repeat (with_reducible first | apply bl_alloc | apply bl_drew | exact Below.refl _ _)) (by assumption)); have iq2 := bl_cell hb' (p := ⟨w.heap.size, 2, none⟩) (v := .int .i64 sd) (by first | (go_simp; done) | exact bl_cell (by repeat (with_reducible first | apply bl_alloc | apply bl_drew | exact Below.refl _ _)) (by assumption)); have iq3 := bl_cell hb' (p := ⟨w.heap.size, 3, none⟩) (v := .int .i64 wd) (by first | (go_simp; done) | exact bl_cell (by repeat (with_reducible first | apply bl_alloc | apply bl_drew | exact Below.refl _ _)) (by assumption)); have iq4 := bl_cell hb' (p := ⟨w.heap.size, 4, none⟩) (v := .int .i64 ht) (by first | (go_simp; done) | exact bl_cell (by repeat (with_reducible first | apply bl_alloc | apply bl_drew | exact Below.refl _ _)) (by assumption)); have iq5 := bl_cell hb' (p := ⟨w.heap.size, 5, none⟩) (v := .slice A pb.length c) (by first | (go_simp; done) | exact bl_cell (by repeat (with_reducible first | apply bl_alloc | apply bl_drew | exact Below.refl _ _)) (by assumption)); have iq6 := bl_cell hb' (p := ⟨w.heap.size, 6, none⟩) (v := .slice B pl.length d) (by first | (go_simp; done) | exact bl_cell (by repeat (with_reducible first | apply bl_alloc | apply bl_drew | exact Below.refl _ _)) (by assumption)); have hb2 := Kp.mk hb'; clear hb') | (go_at_call 30; (with_reducible refine (HA.out (by trivial) (by trivial) _).mono ?_); rintro e w3 ⟨rfl, hb'⟩; have hb3 := Kp.mk hb'; clear hb'))
    go_ret2
    exact ⟨rfl, (by repeat (with_reducible first | exact Below.refl _ _ | apply bl_drew | apply bl_drewN | (refine bl_then ?_ hb1.out) | (refine bl_then ?_ hb2.out) | (refine bl_then ?_ hb3.out) | (refine bl_then ?_ hb4.out) | (refine bl_then ?_ hb5.out) | (refine bl_then ?_ hb6.out) | (refine bl_then ?_ hb7.out) | (refine bl_then ?_ hb8.out) | (refine bl_then ?_ hb9.out) | apply bl_alloc | (refine bl_set ?_ (by go_simp))))⟩
set_option maxHeartbeats 2000000 in
set_option maxRecDepth 100000 in
theorem Slow_any (cx cy sd wd ht : Int) (A : Option Addr) (c : Nat) (pb : List Int) (B : Option Addr) (d : Nat) (pl : List Int) (fl ke sw be we x y : Int) (w : World) (hr1 : ReadsInt w .i64 A pb.length pb) (hc1 : pb.length ≤ c) (hr2 : ReadsInt w .i64 B pl.length pl) (hc2 : pl.length ≤ d) :
    Calls Try.prog 16 #[.agg #[.int .i64 cx, .int .i64 cy, .int .i64 sd, .int .i64 wd, .int .i64 ht, .slice A pb.length c, .slice B pl.length d], .agg #[.int .i64 fl, .int .i64 ke, .int .i64 sw, .int .i64 be, .int .i64 we], .agg #[.int .i64 x, .int .i64 y]] w fun e w' => e = .returned (.tuple #[.int .i64 (iceSlow cx cy sd wd ht pb pl fl ke sw be we x y).1, .int .i64 (iceSlow cx cy sd wd ht pb pl fl ke sw be we x y).2]) ∧ Below w.heap.size w w' := by
  have HRt := fun bk cc W h h0 h1 => Kp.mk (right_any cx cy sd wd ht A c pb B d pl fl ke sw be we (.slice (some ⟨bk, 0, none⟩) 1 cc) (plB x y) W (hr1.below h) hc1 (hr2.below h) hc2 (fun W' hW => placed_1 x y bk cc W' (bl_cell hW h0) (bl_cell hW h1)))
  have HA : Kp (iceB cx cy sd wd ht pb pl = true → grainB fl ke sw be we = true → plB x y = true → ∀ W, Below w.heap.size w W → Calls Try.prog 33 #[.agg #[.int .i64 cx, .int .i64 cy, .int .i64 sd, .int .i64 wd, .int .i64 ht, .slice A pb.length c, .slice B pl.length d], .agg #[.int .i64 fl, .int .i64 ke, .int .i64 sw, .int .i64 be, .int .i64 we], .agg #[.int .i64 x, .int .i64 y]] W fun e w' => e = .returned (.int .i64 (slowF fl ke sw (grV pb cx cy sd wd ht x y) (grV pl cx cy sd wd ht x y))) ∧ Below W.heap.size W w') := ⟨fun h1 h2 h3 W hW => slow_any cx cy sd wd ht A c pb B d pl fl ke sw be we x y W (hr1.below hW) hc1 (hr2.below hW) hc2 ((iceB_iff.1 h1).at h3) (iceB_iff.1 h1).n1 (iceB_iff.1 h1).n2 (iceB_iff.1 h1).g1 (iceB_iff.1 h1).g2 (grainB_iff.1 h2)⟩
  have HF : Kp (iceSlow cx cy sd wd ht pb pl fl ke sw be we x y = if iceB cx cy sd wd ht pb pl = true ∧ grainB fl ke sw be we = true ∧ plB x y = true then (slowF fl ke sw (grV pb cx cy sd wd ht x y) (grV pl cx cy sd wd ht x y), 0) else (0, 2)) := ⟨rfl⟩
  clear hr1 hr2 hc1 hc2
  generalize iceSlow cx cy sd wd ht pb pl fl ke sw be we x y = R at *
  generalize iceB cx cy sd wd ht pb pl = b1 at *
  generalize grainB fl ke sw be we = b2 at *
  generalize plB x y = b3 at *
  generalize slowF fl ke sw (grV pb cx cy sd wd ht x y) (grV pl cx cy sd wd ht x y) = v at *
  have HL : Kp (((b1 && (b2 && b3)) = false ∧ R = (0, 2)) ∨ ((b1 && (b2 && b3)) = true ∧ b1 = true ∧ b2 = true ∧ b3 = true ∧ R = (v, 0))) := ⟨by
    rw [HF.out]; cases b1 <;> cases b2 <;> cases b3 <;> simp⟩
  clear HF
  generalize (b1 && (b2 && b3)) = b at *
  rcases HL.out with ⟨rfl, rfl⟩ | ⟨rfl, rfl, rfl, rfl, rfl⟩
  all_goals
    clear HL
    go_enter Try.func16, Try.ntmps16
    go_wp2_with (first | (go_at_call 31; (with_reducible refine (HRt _ _ _ ?hb ?h0 ?h1).out.mono ?_); (case hb => exact (by repeat (first | exact Below.refl _ _ | (with_reducible assumption) | apply bl_drew | apply bl_drewN | apply bl_alloc | (refine bl_set ?_ (by go_simp))))); (case h0 => go_simp); (case h1 => go_simp); rintro e w1 ⟨rfl, hb'⟩; have c0 := bl_cell hb' (p := ⟨w.heap.size + 1 + 1, 0, none⟩) (v := .int .i64 x) (by first | (go_simp; done) | exact bl_cell (by repeat (with_reducible first | apply bl_alloc | apply bl_drew | exact Below.refl _ _)) (by assumption)); have c1 := bl_cell hb' (p := ⟨w.heap.size + 1 + 1, 1, none⟩) (v := .int .i64 y) (by first | (go_simp; done) | exact bl_cell (by repeat (with_reducible first | apply bl_alloc | apply bl_drew | exact Below.refl _ _)) (by assumption)); have iq0 := bl_cell hb' (p := ⟨w.heap.size, 0, none⟩) (v := .int .i64 cx) (by first | (go_simp; done) | exact bl_cell (by repeat (with_reducible first | apply bl_alloc | apply bl_drew | exact Below.refl _ _)) (by assumption)); have iq1 := bl_cell hb' (p := ⟨w.heap.size, 1, none⟩) (v := .int .i64 cy) (by first | (go_simp; done) | exact bl_cell (by repeat (with_reducible first | apply bl_alloc | apply bl_drew | exact Below.refl _ _)) (by assumption)); have iq2 := bl_cell hb' (p := ⟨w.heap.size, 2, none⟩) (v := .int .i64 sd) (by first | (go_simp; done) | exact bl_cell (by repeat (with_reducible first | apply bl_alloc | apply bl_drew | exact Below.refl _ _)) (by assumption)); have iq3 := bl_cell hb' (p := ⟨w.heap.size, 3, none⟩) (v := .int .i64 wd) (by first | (go_simp; done) | exact bl_cell (by repeat (with_reducible first | apply bl_alloc | apply bl_drew | exact Below.refl _ _)) (by assumption)); have iq4 := bl_cell hb' (p := ⟨w.heap.size, 4, none⟩) (v := .int .i64 ht) (by first | (go_simp; done) | exact bl_cell (by repeat (with_reducible first | apply bl_alloc | apply bl_drew | exact Below.refl _ _)) (by assumption)); have iq5 := bl_cell hb' (p := ⟨w.heap.size, 5, none⟩) (v := .slice A pb.length c) (by first | (go_simp; done) | exact bl_cell (by repeat (with_reducible first | apply bl_alloc | apply bl_drew | exact Below.refl _ _)) (by assumption)); have iq6 := bl_cell hb' (p := ⟨w.heap.size, 6, none⟩) (v := .slice B pl.length d) (by first | (go_simp; done) | exact bl_cell (by repeat (with_reducible first | apply bl_alloc | apply bl_drew | exact Below.refl _ _)) (by assumption)); have gq0 := bl_cell hb' (p := ⟨w.heap.size + 1, 0, none⟩) (v := .int .i64 fl) (by first | (go_simp; done) | exact bl_cell (by repeat (with_reducible first | apply bl_alloc | apply bl_drew | exact Below.refl _ _)) (by assumption)); have gq1 := bl_cell hb' (p := ⟨w.heap.size + 1, 1, none⟩) (v := .int .i64 ke) (by first | (go_simp; done) | exact bl_cell (by repeat (with_reducible first | apply bl_alloc | apply bl_drew | exact Below.refl _ _)) (by assumption)); have gq2 := bl_cell hb' (p := ⟨w.heap.size + 1, 2, none⟩) (v := .int .i64 sw) (by first | (go_simp; done) | exact bl_cell (by repeat (with_reducible first | apply bl_alloc | apply bl_drew | exact Below.refl _ _)) (by assumption)); have gq3 := bl_cell hb' (p := ⟨w.heap.size + 1, 3, none⟩) (v := .int .i64 be) (by first | (go_simp; done) | exact bl_cell (by repeat (with_reducible first | apply bl_alloc | apply bl_drew | exact Below.refl _ _)) (by assumption)); have gq4 := bl_cell hb' (p := ⟨w.heap.size + 1, 4, none⟩) (v := .int .i64 we) (by first | (go_simp; done) | exact bl_cell (by repeat (with_reducible first | apply bl_alloc | apply bl_drew | exact Below.refl _ _)) (by assumption)); have HW := Kp.mk (bl_then (by repeat (first | exact Below.refl _ _ | (with_reducible assumption) | apply bl_drew | apply bl_drewN | apply bl_alloc | (refine bl_set ?_ (by go_simp)))) hb' : Below w.heap.size w w1); have hb1 := Kp.mk hb'; clear hb') | (go_at_call 33; (with_reducible refine (HA.out (by trivial) (by trivial) (by trivial) _ HW.out).mono ?_); rintro e w3 ⟨rfl, hb'⟩; have hb3 := Kp.mk hb'; clear hb'))
    go_ret2
    exact ⟨rfl, (by repeat (with_reducible first | exact Below.refl _ _ | apply bl_drew | apply bl_drewN | (refine bl_then ?_ hb1.out) | (refine bl_then ?_ hb2.out) | (refine bl_then ?_ hb3.out) | (refine bl_then ?_ hb4.out) | (refine bl_then ?_ hb5.out) | (refine bl_then ?_ hb6.out) | (refine bl_then ?_ hb7.out) | (refine bl_then ?_ hb8.out) | (refine bl_then ?_ hb9.out) | apply bl_alloc | (refine bl_set ?_ (by go_simp))))⟩
set_option maxHeartbeats 2000000 in
set_option maxRecDepth 100000 in
theorem Bend_any (cx cy sd wd ht : Int) (A : Option Addr) (c : Nat) (pb : List Int) (B : Option Addr) (d : Nat) (pl : List Int) (fl ke sw be we x y : Int) (w : World) (hr1 : ReadsInt w .i64 A pb.length pb) (hc1 : pb.length ≤ c) (hr2 : ReadsInt w .i64 B pl.length pl) (hc2 : pl.length ≤ d) :
    Calls Try.prog 17 #[.agg #[.int .i64 cx, .int .i64 cy, .int .i64 sd, .int .i64 wd, .int .i64 ht, .slice A pb.length c, .slice B pl.length d], .agg #[.int .i64 fl, .int .i64 ke, .int .i64 sw, .int .i64 be, .int .i64 we], .agg #[.int .i64 x, .int .i64 y]] w fun e w' => e = .returned (.tuple #[.int .i64 (iceBend cx cy sd wd ht pb pl fl ke sw be we x y).1, .int .i64 (iceBend cx cy sd wd ht pb pl fl ke sw be we x y).2]) ∧ Below w.heap.size w w' := by
  have HRt := fun bk cc W h h0 h1 => Kp.mk (right_any cx cy sd wd ht A c pb B d pl fl ke sw be we (.slice (some ⟨bk, 0, none⟩) 1 cc) (plB x y) W (hr1.below h) hc1 (hr2.below h) hc2 (fun W' hW => placed_1 x y bk cc W' (bl_cell hW h0) (bl_cell hW h1)))
  have HA : Kp (iceB cx cy sd wd ht pb pl = true → grainB fl ke sw be we = true → plB x y = true → (∀ W, Below w.heap.size w W → Calls Try.prog 35 #[.agg #[.int .i64 cx, .int .i64 cy, .int .i64 sd, .int .i64 wd, .int .i64 ht, .slice A pb.length c, .slice B pl.length d], .agg #[.int .i64 x, .int .i64 y]] W fun e w' => e = .returned (.tuple #[.int .i64 (grV pb cx cy sd wd ht x y), .int .i64 (grV pl cx cy sd wd ht x y)]) ∧ Below W.heap.size W w') ∧ (0 ≤ grV pl cx cy sd wd ht x y ∧ grV pl cx cy sd wd ht x y ≤ 1000) ∧ wrap64 (be * (2000 - grV pl cx cy sd wd ht x y)) = be * (2000 - grV pl cx cy sd wd ht x y) ∧ (∀ W, Calls Try.prog 36 #[.int .i64 65536, .int .i64 (be * (2000 - grV pl cx cy sd wd ht x y)), .int .i64 2000000, .int .i64 3] W fun e w' => e = .returned (.tuple #[.int .i64 (bendF be (grV pl cx cy sd wd ht x y)), .int .i64 0]) ∧ Below W.heap.size W w')) := ⟨fun h1 h2 h3 => by
    have hq := grV_bd (cx := cx) (cy := cy) (sd := sd) (wd := wd) (ht := ht) (x := x) (y := y) (iceB_iff.1 h1).g2
    have hg := grainB_iff.1 h2
    obtain ⟨p0, p1⟩ := mul_bd hg.b0 hg.b1 (b := 2000 - grV pl cx cy sd wd ht x y) (n := 2000) (by omega) (by omega)
    have a3 : nabs 65536 = 65536 := rfl
    have a4 : nabs (be * (2000 - grV pl cx cy sd wd ht x y)) ≤ 2000000 := nabs_le (by omega) (by omega)
    have a5 := nabs_nonneg (be * (2000 - grV pl cx cy sd wd ht x y))
    exact ⟨fun W hW => grains_any cx cy sd wd ht A c pb B d pl x y W (hr1.below hW) hc1 (hr2.below hW) hc2 ((iceB_iff.1 h1).at h3) (iceB_iff.1 h1).n1 (iceB_iff.1 h1).n2, hq, by unfold wrap64; omega, fun W => Scale_3 65536 (be * (2000 - grV pl cx cy sd wd ht x y)) 2000000 ⟨by omega, by omega⟩ ⟨by omega, by omega⟩ ⟨by omega, by omega⟩ (by omega) (by rw [a3]; omega) W⟩⟩
  have HF : Kp (iceBend cx cy sd wd ht pb pl fl ke sw be we x y = if iceB cx cy sd wd ht pb pl = true ∧ grainB fl ke sw be we = true ∧ plB x y = true then (bendF be (grV pl cx cy sd wd ht x y), 0) else (0, 2)) := ⟨rfl⟩
  clear hr1 hr2 hc1 hc2
  generalize iceBend cx cy sd wd ht pb pl fl ke sw be we x y = R at *
  generalize iceB cx cy sd wd ht pb pl = b1 at *
  generalize grainB fl ke sw be we = b2 at *
  generalize plB x y = b3 at *
  generalize grV pb cx cy sd wd ht x y = gp at *
  generalize grV pl cx cy sd wd ht x y = gq at *
  generalize bendF be gq = v at *
  have HL : Kp (((b1 && (b2 && b3)) = false ∧ R = (0, 2)) ∨ ((b1 && (b2 && b3)) = true ∧ b1 = true ∧ b2 = true ∧ b3 = true ∧ R = (v, 0))) := ⟨by
    rw [HF.out]; cases b1 <;> cases b2 <;> cases b3 <;> simp⟩
  clear HF
  generalize (b1 && (b2 && b3)) = b at *
  rcases HL.out with ⟨rfl, rfl⟩ | ⟨rfl, rfl, rfl, rfl, rfl⟩
  · clear HL HA
    go_enter Try.func17, Try.ntmps17
    go_wp2_with (first | (go_at_call 31; (with_reducible refine (HRt _ _ _ ?hb ?h0 ?h1).out.mono ?_); (case hb => exact (by repeat (first | exact Below.refl _ _ | (with_reducible assumption) | apply bl_drew | apply bl_drewN | apply bl_alloc | (refine bl_set ?_ (by go_simp))))); (case h0 => go_simp); (case h1 => go_simp); rintro e w1 ⟨rfl, hb'⟩; have c0 := bl_cell hb' (p := ⟨w.heap.size + 1 + 1, 0, none⟩) (v := .int .i64 x) (by first | (go_simp; done) | exact bl_cell (by repeat (with_reducible first | apply bl_alloc | apply bl_drew | exact Below.refl _ _)) (by assumption)); have c1 := bl_cell hb' (p := ⟨w.heap.size + 1 + 1, 1, none⟩) (v := .int .i64 y) (by first | (go_simp; done) | exact bl_cell (by repeat (with_reducible first | apply bl_alloc | apply bl_drew | exact Below.refl _ _)) (by assumption)); have iq0 := bl_cell hb' (p := ⟨w.heap.size, 0, none⟩) (v := .int .i64 cx) (by first | (go_simp; done) | exact bl_cell (by repeat (with_reducible first | apply bl_alloc | apply bl_drew | exact Below.refl _ _)) (by assumption)); have iq1 := bl_cell hb' (p := ⟨w.heap.size, 1, none⟩) (v := .int .i64 cy) (by first | (go_simp; done) | exact bl_cell (by repeat (with_reducible first | apply bl_alloc | apply bl_drew | exact Below.refl _ _)) (by assumption)); have iq2 := bl_cell hb' (p := ⟨w.heap.size, 2, none⟩) (v := .int .i64 sd) (by first | (go_simp; done) | exact bl_cell (by repeat (with_reducible first | apply bl_alloc | apply bl_drew | exact Below.refl _ _)) (by assumption)); have iq3 := bl_cell hb' (p := ⟨w.heap.size, 3, none⟩) (v := .int .i64 wd) (by first | (go_simp; done) | exact bl_cell (by repeat (with_reducible first | apply bl_alloc | apply bl_drew | exact Below.refl _ _)) (by assumption)); have iq4 := bl_cell hb' (p := ⟨w.heap.size, 4, none⟩) (v := .int .i64 ht) (by first | (go_simp; done) | exact bl_cell (by repeat (with_reducible first | apply bl_alloc | apply bl_drew | exact Below.refl _ _)) (by assumption)); have iq5 := bl_cell hb' (p := ⟨w.heap.size, 5, none⟩) (v := .slice A pb.length c) (by first | (go_simp; done) | exact bl_cell (by repeat (with_reducible first | apply bl_alloc | apply bl_drew | exact Below.refl _ _)) (by assumption)); have iq6 := bl_cell hb' (p := ⟨w.heap.size, 6, none⟩) (v := .slice B pl.length d) (by first | (go_simp; done) | exact bl_cell (by repeat (with_reducible first | apply bl_alloc | apply bl_drew | exact Below.refl _ _)) (by assumption)); have gq0 := bl_cell hb' (p := ⟨w.heap.size + 1, 0, none⟩) (v := .int .i64 fl) (by first | (go_simp; done) | exact bl_cell (by repeat (with_reducible first | apply bl_alloc | apply bl_drew | exact Below.refl _ _)) (by assumption)); have gq1 := bl_cell hb' (p := ⟨w.heap.size + 1, 1, none⟩) (v := .int .i64 ke) (by first | (go_simp; done) | exact bl_cell (by repeat (with_reducible first | apply bl_alloc | apply bl_drew | exact Below.refl _ _)) (by assumption)); have gq2 := bl_cell hb' (p := ⟨w.heap.size + 1, 2, none⟩) (v := .int .i64 sw) (by first | (go_simp; done) | exact bl_cell (by repeat (with_reducible first | apply bl_alloc | apply bl_drew | exact Below.refl _ _)) (by assumption)); have gq3 := bl_cell hb' (p := ⟨w.heap.size + 1, 3, none⟩) (v := .int .i64 be) (by first | (go_simp; done) | exact bl_cell (by repeat (with_reducible first | apply bl_alloc | apply bl_drew | exact Below.refl _ _)) (by assumption)); have gq4 := bl_cell hb' (p := ⟨w.heap.size + 1, 4, none⟩) (v := .int .i64 we) (by first | (go_simp; done) | exact bl_cell (by repeat (with_reducible first | apply bl_alloc | apply bl_drew | exact Below.refl _ _)) (by assumption)); have HW := Kp.mk (bl_then (by repeat (first | exact Below.refl _ _ | (with_reducible assumption) | apply bl_drew | apply bl_drewN | apply bl_alloc | (refine bl_set ?_ (by go_simp)))) hb' : Below w.heap.size w w1); have hb1 := Kp.mk hb'; clear hb') | (go_at_call 35; (with_reducible refine (HG.out _ HW.out).mono ?_); rintro e w3 ⟨rfl, hb'⟩; have gq0 := bl_cell hb' (p := ⟨w.heap.size + 1, 0, none⟩) (v := .int .i64 fl) (by first | (go_simp; done) | exact bl_cell (by repeat (with_reducible first | apply bl_alloc | apply bl_drew | exact Below.refl _ _)) (by assumption)); have gq1 := bl_cell hb' (p := ⟨w.heap.size + 1, 1, none⟩) (v := .int .i64 ke) (by first | (go_simp; done) | exact bl_cell (by repeat (with_reducible first | apply bl_alloc | apply bl_drew | exact Below.refl _ _)) (by assumption)); have gq2 := bl_cell hb' (p := ⟨w.heap.size + 1, 2, none⟩) (v := .int .i64 sw) (by first | (go_simp; done) | exact bl_cell (by repeat (with_reducible first | apply bl_alloc | apply bl_drew | exact Below.refl _ _)) (by assumption)); have gq3 := bl_cell hb' (p := ⟨w.heap.size + 1, 3, none⟩) (v := .int .i64 be) (by first | (go_simp; done) | exact bl_cell (by repeat (with_reducible first | apply bl_alloc | apply bl_drew | exact Below.refl _ _)) (by assumption)); have gq4 := bl_cell hb' (p := ⟨w.heap.size + 1, 4, none⟩) (v := .int .i64 we) (by first | (go_simp; done) | exact bl_cell (by repeat (with_reducible first | apply bl_alloc | apply bl_drew | exact Below.refl _ _)) (by assumption)); have hb3 := Kp.mk hb'; clear hb') | (go_at_call 36; (with_reducible refine (HSc.out _).mono ?_); rintro e w4 ⟨rfl, hb'⟩; have hb4 := Kp.mk hb'; clear hb'))
    go_ret2
    exact ⟨rfl, (by repeat (with_reducible first | exact Below.refl _ _ | apply bl_drew | apply bl_drewN | (refine bl_then ?_ hb1.out) | (refine bl_then ?_ hb2.out) | (refine bl_then ?_ hb3.out) | (refine bl_then ?_ hb4.out) | (refine bl_then ?_ hb5.out) | (refine bl_then ?_ hb6.out) | (refine bl_then ?_ hb7.out) | (refine bl_then ?_ hb8.out) | (refine bl_then ?_ hb9.out) | apply bl_alloc | (refine bl_set ?_ (by go_simp))))⟩
  · obtain ⟨HG0, ⟨q0, q1⟩, hwr0, HSc0⟩ := HA.out rfl rfl rfl
    have HG := Kp.mk HG0
    have HSc := Kp.mk HSc0
    obtain ⟨m, hm⟩ : ∃ m, m = be * (2000 - gq) := ⟨_, rfl⟩
    have hwr : wrap64 (be * (2000 - gq)) = m := hwr0.trans hm.symm
    rw [← hm] at HSc
    clear HL HA HG0 HSc0 hwr0 hm
    go_enter Try.func17, Try.ntmps17
    go_wp2_with (first | (go_at_call 31; (with_reducible refine (HRt _ _ _ ?hb ?h0 ?h1).out.mono ?_); (case hb => exact (by repeat (first | exact Below.refl _ _ | (with_reducible assumption) | apply bl_drew | apply bl_drewN | apply bl_alloc | (refine bl_set ?_ (by go_simp))))); (case h0 => go_simp); (case h1 => go_simp); rintro e w1 ⟨rfl, hb'⟩; have c0 := bl_cell hb' (p := ⟨w.heap.size + 1 + 1, 0, none⟩) (v := .int .i64 x) (by first | (go_simp; done) | exact bl_cell (by repeat (with_reducible first | apply bl_alloc | apply bl_drew | exact Below.refl _ _)) (by assumption)); have c1 := bl_cell hb' (p := ⟨w.heap.size + 1 + 1, 1, none⟩) (v := .int .i64 y) (by first | (go_simp; done) | exact bl_cell (by repeat (with_reducible first | apply bl_alloc | apply bl_drew | exact Below.refl _ _)) (by assumption)); have iq0 := bl_cell hb' (p := ⟨w.heap.size, 0, none⟩) (v := .int .i64 cx) (by first | (go_simp; done) | exact bl_cell (by repeat (with_reducible first | apply bl_alloc | apply bl_drew | exact Below.refl _ _)) (by assumption)); have iq1 := bl_cell hb' (p := ⟨w.heap.size, 1, none⟩) (v := .int .i64 cy) (by first | (go_simp; done) | exact bl_cell (by repeat (with_reducible first | apply bl_alloc | apply bl_drew | exact Below.refl _ _)) (by assumption)); have iq2 := bl_cell hb' (p := ⟨w.heap.size, 2, none⟩) (v := .int .i64 sd) (by first | (go_simp; done) | exact bl_cell (by repeat (with_reducible first | apply bl_alloc | apply bl_drew | exact Below.refl _ _)) (by assumption)); have iq3 := bl_cell hb' (p := ⟨w.heap.size, 3, none⟩) (v := .int .i64 wd) (by first | (go_simp; done) | exact bl_cell (by repeat (with_reducible first | apply bl_alloc | apply bl_drew | exact Below.refl _ _)) (by assumption)); have iq4 := bl_cell hb' (p := ⟨w.heap.size, 4, none⟩) (v := .int .i64 ht) (by first | (go_simp; done) | exact bl_cell (by repeat (with_reducible first | apply bl_alloc | apply bl_drew | exact Below.refl _ _)) (by assumption)); have iq5 := bl_cell hb' (p := ⟨w.heap.size, 5, none⟩) (v := .slice A pb.length c) (by first | (go_simp; done) | exact bl_cell (by repeat (with_reducible first | apply bl_alloc | apply bl_drew | exact Below.refl _ _)) (by assumption)); have iq6 := bl_cell hb' (p := ⟨w.heap.size, 6, none⟩) (v := .slice B pl.length d) (by first | (go_simp; done) | exact bl_cell (by repeat (with_reducible first | apply bl_alloc | apply bl_drew | exact Below.refl _ _)) (by assumption)); have gq0 := bl_cell hb' (p := ⟨w.heap.size + 1, 0, none⟩) (v := .int .i64 fl) (by first | (go_simp; done) | exact bl_cell (by repeat (with_reducible first | apply bl_alloc | apply bl_drew | exact Below.refl _ _)) (by assumption)); have gq1 := bl_cell hb' (p := ⟨w.heap.size + 1, 1, none⟩) (v := .int .i64 ke) (by first | (go_simp; done) | exact bl_cell (by repeat (with_reducible first | apply bl_alloc | apply bl_drew | exact Below.refl _ _)) (by assumption)); have gq2 := bl_cell hb' (p := ⟨w.heap.size + 1, 2, none⟩) (v := .int .i64 sw) (by first | (go_simp; done) | exact bl_cell (by repeat (with_reducible first | apply bl_alloc | apply bl_drew | exact Below.refl _ _)) (by assumption)); have gq3 := bl_cell hb' (p := ⟨w.heap.size + 1, 3, none⟩) (v := .int .i64 be) (by first | (go_simp; done) | exact bl_cell (by repeat (with_reducible first | apply bl_alloc | apply bl_drew | exact Below.refl _ _)) (by assumption)); have gq4 := bl_cell hb' (p := ⟨w.heap.size + 1, 4, none⟩) (v := .int .i64 we) (by first | (go_simp; done) | exact bl_cell (by repeat (with_reducible first | apply bl_alloc | apply bl_drew | exact Below.refl _ _)) (by assumption)); have HW := Kp.mk (bl_then (by repeat (first | exact Below.refl _ _ | (with_reducible assumption) | apply bl_drew | apply bl_drewN | apply bl_alloc | (refine bl_set ?_ (by go_simp)))) hb' : Below w.heap.size w w1); have hb1 := Kp.mk hb'; clear hb') | (go_at_call 35; (with_reducible refine (HG.out _ HW.out).mono ?_); rintro e w3 ⟨rfl, hb'⟩; have gq0 := bl_cell hb' (p := ⟨w.heap.size + 1, 0, none⟩) (v := .int .i64 fl) (by first | (go_simp; done) | exact bl_cell (by repeat (with_reducible first | apply bl_alloc | apply bl_drew | exact Below.refl _ _)) (by assumption)); have gq1 := bl_cell hb' (p := ⟨w.heap.size + 1, 1, none⟩) (v := .int .i64 ke) (by first | (go_simp; done) | exact bl_cell (by repeat (with_reducible first | apply bl_alloc | apply bl_drew | exact Below.refl _ _)) (by assumption)); have gq2 := bl_cell hb' (p := ⟨w.heap.size + 1, 2, none⟩) (v := .int .i64 sw) (by first | (go_simp; done) | exact bl_cell (by repeat (with_reducible first | apply bl_alloc | apply bl_drew | exact Below.refl _ _)) (by assumption)); have gq3 := bl_cell hb' (p := ⟨w.heap.size + 1, 3, none⟩) (v := .int .i64 be) (by first | (go_simp; done) | exact bl_cell (by repeat (with_reducible first | apply bl_alloc | apply bl_drew | exact Below.refl _ _)) (by assumption)); have gq4 := bl_cell hb' (p := ⟨w.heap.size + 1, 4, none⟩) (v := .int .i64 we) (by first | (go_simp; done) | exact bl_cell (by repeat (with_reducible first | apply bl_alloc | apply bl_drew | exact Below.refl _ _)) (by assumption)); have hb3 := Kp.mk hb'; clear hb') | (go_at_call 36; (with_reducible refine (HSc.out _).mono ?_); rintro e w4 ⟨rfl, hb'⟩; have hb4 := Kp.mk hb'; clear hb'))
    go_ret2
    exact ⟨rfl, (by repeat (with_reducible first | exact Below.refl _ _ | apply bl_drew | apply bl_drewN | (refine bl_then ?_ hb1.out) | (refine bl_then ?_ hb2.out) | (refine bl_then ?_ hb3.out) | (refine bl_then ?_ hb4.out) | (refine bl_then ?_ hb5.out) | (refine bl_then ?_ hb6.out) | (refine bl_then ?_ hb7.out) | (refine bl_then ?_ hb8.out) | (refine bl_then ?_ hb9.out) | apply bl_alloc | (refine bl_set ?_ (by go_simp))))⟩
end Go.Proofs.Ytibaapaglocpjaa.B

end
