import Derived.Test.YtibaapaglocpjaaBP
import Derived.Test.YtibaapaglocpjaaBL
/- Proved here: lemmas for the laws' proofs (the texts Ld). No condition. -/
section
set_option linter.unusedSimpArgs false
set_option linter.unusedVariables false
namespace Go.Proofs.Ytibaapaglocpjaa.B
open Go.RowKit Go.Shelf Go.Proofs.YtibaapaglocpjaaW.PrintWords Go.Proofs.Ytibaapaglocpjaa.Q
theorem row_shape {w : World} {base : Nat} {e : TypeId} {v : Value} {n : Nat} {xs : List Value} (h : w.ownsRow base e 1 v n xs) : ∃ (R : Option Addr) (cr : Nat), v = .slice R n cr := by
  rcases h.2 with ⟨rfl, rfl⟩ | ⟨g, cap, cur, rfl, hb, hg, _⟩
  · exact ⟨none, 0, rfl⟩
  · exact ⟨_, cap, rfl⟩
theorem wayB_back (cx cy sd wd ht : Int) (pb pl : List Int) (fx fy tx ty : Int) : wayB cx cy sd wd ht pb pl tx ty fx fy = wayB cx cy sd wd ht pb pl fx fy tx ty := by
  unfold wayB; rw [Bool.and_comm (plB tx ty)]
def GcdPost (a b : Int) (w : World) (e : Ending) (w' : World) : Prop := ∃ g : Int, e = .returned (.int .i64 g) ∧ Kp (0 ≤ g ∧ g ≤ 13107200000 ∧ g ∣ a ∧ g ∣ b) ∧ Below w.heap.size w w'
def GcdInv (a b x y : Int) : Prop := 0 ≤ x ∧ x ≤ 13107200000 ∧ 0 ≤ y ∧ y ≤ 13107200000 ∧ ∀ g : Int, g ∣ x → g ∣ y → g ∣ a ∧ g ∣ b
theorem gcd_inv {a b x y : Int} (h : GcdInv a b x y) (hy : 0 < y) : GcdInv a b y (x.tmod y) ∧ x.tmod y < y := by
  obtain ⟨x0, x1, y0, y1, hd⟩ := h
  obtain ⟨r0, r1⟩ := gcd_step hy x0
  exact ⟨⟨y0, y1, r0, by omega, fun g h1 h2 => hd g (gcd_dvd x0 h1 h2) h1⟩, r1⟩
theorem gcd_start {a b : Int} (ha : -13107200000 ≤ a ∧ a ≤ 13107200000) (hb : -13107200000 ≤ b ∧ b ≤ 13107200000) : GcdInv a b (nabs a) (nabs b) := by
  have e1 : nabs a = a ∨ nabs a = -a := by unfold nabs; split <;> omega
  have e2 : nabs b = b ∨ nabs b = -b := by unfold nabs; split <;> omega
  refine ⟨nabs_nonneg a, nabs_le (by omega) (by omega), nabs_nonneg b, nabs_le (by omega) (by omega), fun g h1 h2 => ⟨?_, ?_⟩⟩
  · rcases e1 with e | e
    · rwa [e] at h1
    · rw [e] at h1; exact (Int.dvd_neg).1 h1
  · rcases e2 with e | e
    · rwa [e] at h2
    · rw [e] at h2; exact (Int.dvd_neg).1 h2
set_option maxHeartbeats 4000000 in
set_option maxRecDepth 100000 in
theorem gcd_any (a b : Int) (w : World) (ha : -13107200000 ≤ a ∧ a ≤ 13107200000) (hb : -13107200000 ≤ b ∧ b ≤ 13107200000) :
    Calls Try.prog 12 #[.int .i64 a, .int .i64 b] w (GcdPost a b w) := by
  have HI := Kp.mk (gcd_start ha hb)
  rcases Int.lt_or_le a (-a) with sa | sa
  all_goals rcases Int.lt_or_le b (-b) with sb | sb
  · have HS : Kp (GcdInv a b (-a) (-b)) := ⟨by
      have h := HI.out
      rwa [show nabs a = -a by unfold nabs; split <;> omega, show nabs b = -b by unfold nabs; split <;> omega] at h⟩
    clear HI
    go_enter Try.func12, Try.ntmps12
    go_wp2_with (fail)
    go_loopw [0, 1] (fun x y wr => ∃ X Y : Int, x = .int .i64 X ∧ y = .int .i64 Y ∧ Kp (GcdInv a b X Y) ∧ Kp (Below w.heap.size w wr)) (fun _ y _ => (intOf y).toNat)
    case atStart => exact ⟨_, _, rfl, rfl, HS, ⟨Below.refl _ _⟩⟩
    case round =>
      clear HS ha hb sa sb
      obtain ⟨X, Y, rfl, rfl, HI, HB⟩ := hrel
      by_cases hY : 0 < Y
      · have HN := Kp.mk (gcd_inv HI.out hY)
        have hY0 : Y ≠ 0 := by omega
        go_wp2_with (fail)
        go_region
        go_round
        case rel => exact ⟨_, _, _, _, _, _, _, _, ⟨_, _, rfl, rfl, ⟨HN.out.1⟩, ⟨bl_drew HB.out⟩⟩, rfl⟩
        case measure => have := HN.out.1.2.2.1; have := HN.out.2; simp [intOf]; omega
      · have HF : Kp (0 ≤ X ∧ X ≤ 13107200000 ∧ X ∣ a ∧ X ∣ b) := ⟨by
          obtain ⟨x0, x1, y0, y1, hd⟩ := HI.out
          obtain rfl : Y = 0 := by omega
          exact ⟨x0, x1, hd X (Int.dvd_refl X) (Int.dvd_zero X)⟩⟩
        go_wp2_with (fail)
        go_ret
        exact ⟨X, rfl, HF, HB.out⟩
  · have HS : Kp (GcdInv a b (-a) (b)) := ⟨by
      have h := HI.out
      rwa [show nabs a = -a by unfold nabs; split <;> omega, show nabs b = b by unfold nabs; split <;> omega] at h⟩
    clear HI
    go_enter Try.func12, Try.ntmps12
    go_wp2_with (fail)
    go_loopw [0, 1] (fun x y wr => ∃ X Y : Int, x = .int .i64 X ∧ y = .int .i64 Y ∧ Kp (GcdInv a b X Y) ∧ Kp (Below w.heap.size w wr)) (fun _ y _ => (intOf y).toNat)
    case atStart => exact ⟨_, _, rfl, rfl, HS, ⟨Below.refl _ _⟩⟩
    case round =>
      clear HS ha hb sa sb
      obtain ⟨X, Y, rfl, rfl, HI, HB⟩ := hrel
      by_cases hY : 0 < Y
      · have HN := Kp.mk (gcd_inv HI.out hY)
        have hY0 : Y ≠ 0 := by omega
        go_wp2_with (fail)
        go_region
        go_round
        case rel => exact ⟨_, _, _, _, _, _, _, _, ⟨_, _, rfl, rfl, ⟨HN.out.1⟩, ⟨bl_drew HB.out⟩⟩, rfl⟩
        case measure => have := HN.out.1.2.2.1; have := HN.out.2; simp [intOf]; omega
      · have HF : Kp (0 ≤ X ∧ X ≤ 13107200000 ∧ X ∣ a ∧ X ∣ b) := ⟨by
          obtain ⟨x0, x1, y0, y1, hd⟩ := HI.out
          obtain rfl : Y = 0 := by omega
          exact ⟨x0, x1, hd X (Int.dvd_refl X) (Int.dvd_zero X)⟩⟩
        go_wp2_with (fail)
        go_ret
        exact ⟨X, rfl, HF, HB.out⟩
  · have HS : Kp (GcdInv a b (a) (-b)) := ⟨by
      have h := HI.out
      rwa [show nabs a = a by unfold nabs; split <;> omega, show nabs b = -b by unfold nabs; split <;> omega] at h⟩
    clear HI
    go_enter Try.func12, Try.ntmps12
    go_wp2_with (fail)
    go_loopw [0, 1] (fun x y wr => ∃ X Y : Int, x = .int .i64 X ∧ y = .int .i64 Y ∧ Kp (GcdInv a b X Y) ∧ Kp (Below w.heap.size w wr)) (fun _ y _ => (intOf y).toNat)
    case atStart => exact ⟨_, _, rfl, rfl, HS, ⟨Below.refl _ _⟩⟩
    case round =>
      clear HS ha hb sa sb
      obtain ⟨X, Y, rfl, rfl, HI, HB⟩ := hrel
      by_cases hY : 0 < Y
      · have HN := Kp.mk (gcd_inv HI.out hY)
        have hY0 : Y ≠ 0 := by omega
        go_wp2_with (fail)
        go_region
        go_round
        case rel => exact ⟨_, _, _, _, _, _, _, _, ⟨_, _, rfl, rfl, ⟨HN.out.1⟩, ⟨bl_drew HB.out⟩⟩, rfl⟩
        case measure => have := HN.out.1.2.2.1; have := HN.out.2; simp [intOf]; omega
      · have HF : Kp (0 ≤ X ∧ X ≤ 13107200000 ∧ X ∣ a ∧ X ∣ b) := ⟨by
          obtain ⟨x0, x1, y0, y1, hd⟩ := HI.out
          obtain rfl : Y = 0 := by omega
          exact ⟨x0, x1, hd X (Int.dvd_refl X) (Int.dvd_zero X)⟩⟩
        go_wp2_with (fail)
        go_ret
        exact ⟨X, rfl, HF, HB.out⟩
  · have HS : Kp (GcdInv a b (a) (b)) := ⟨by
      have h := HI.out
      rwa [show nabs a = a by unfold nabs; split <;> omega, show nabs b = b by unfold nabs; split <;> omega] at h⟩
    clear HI
    go_enter Try.func12, Try.ntmps12
    go_wp2_with (fail)
    go_loopw [0, 1] (fun x y wr => ∃ X Y : Int, x = .int .i64 X ∧ y = .int .i64 Y ∧ Kp (GcdInv a b X Y) ∧ Kp (Below w.heap.size w wr)) (fun _ y _ => (intOf y).toNat)
    case atStart => exact ⟨_, _, rfl, rfl, HS, ⟨Below.refl _ _⟩⟩
    case round =>
      clear HS ha hb sa sb
      obtain ⟨X, Y, rfl, rfl, HI, HB⟩ := hrel
      by_cases hY : 0 < Y
      · have HN := Kp.mk (gcd_inv HI.out hY)
        have hY0 : Y ≠ 0 := by omega
        go_wp2_with (fail)
        go_region
        go_round
        case rel => exact ⟨_, _, _, _, _, _, _, _, ⟨_, _, rfl, rfl, ⟨HN.out.1⟩, ⟨bl_drew HB.out⟩⟩, rfl⟩
        case measure => have := HN.out.1.2.2.1; have := HN.out.2; simp [intOf]; omega
      · have HF : Kp (0 ≤ X ∧ X ≤ 13107200000 ∧ X ∣ a ∧ X ∣ b) := ⟨by
          obtain ⟨x0, x1, y0, y1, hd⟩ := HI.out
          obtain rfl : Y = 0 := by omega
          exact ⟨x0, x1, hd X (Int.dvd_refl X) (Int.dvd_zero X)⟩⟩
        go_wp2_with (fail)
        go_ret
        exact ⟨X, rfl, HF, HB.out⟩
theorem rd_mem {L : List Int} {i : Int} (h0 : 0 ≤ i) (h1 : i < L.length) : rd L i ∈ L := by
  obtain ⟨n, rfl⟩ := Int.eq_ofNat_of_zero_le h0
  have hn : n < L.length := by omega
  have : rd L ((n : Nat) : Int) = L[n] := by simp [rd, List.getD_eq_getElem?_getD, List.getElem?_eq_getElem hn]
  rw [this]; exact List.getElem_mem hn
theorem rises_rd {L : List Int} (h : L.Pairwise (· < ·)) {i : Int} (h0 : 0 < i) (h1 : i < L.length) : rd L (i - 1) < rd L i := by
  obtain ⟨n, rfl⟩ := Int.eq_ofNat_of_zero_le (show 0 ≤ i by omega)
  obtain ⟨m, rfl⟩ : ∃ m, n = m + 1 := ⟨n - 1, by omega⟩
  have hn : m + 1 < L.length := by omega
  have e1 : rd L (((m + 1 : Nat) : Int) - 1) = L[m] := by
    rw [show (((m + 1 : Nat) : Int) - 1) = ((m : Nat) : Int) by omega]
    simp [rd, List.getD_eq_getElem?_getD, List.getElem?_eq_getElem (show m < L.length by omega)]
  have e2 : rd L ((m + 1 : Nat) : Int) = L[m + 1] := by simp [rd, List.getD_eq_getElem?_getD, List.getElem?_eq_getElem hn]
  rw [e1, e2]
  exact List.pairwise_iff_getElem.1 h m (m + 1) (by omega) hn (by omega)
def SeenB (L : List Int) (c : Int) (i : Int) (b : Bool) : Prop := b = (L.take i.toNat).contains c
theorem seen_next {L : List Int} {c i : Int} {b : Bool} (h : SeenB L c i b) (h0 : 0 ≤ i) (h1 : i < L.length) : SeenB L c (i + 1) (b || (rd L i == c)) := by
  obtain ⟨n, rfl⟩ := Int.eq_ofNat_of_zero_le h0
  have hn : n < L.length := by omega
  have : rd L ((n : Nat) : Int) = L[n] := by simp [rd, List.getD_eq_getElem?_getD, List.getElem?_eq_getElem hn]
  unfold SeenB at *
  rw [h, this, show (((n : Nat) : Int) + 1).toNat = n + 1 by omega, show ((n : Nat) : Int).toNat = n by omega, List.take_succ_eq_append_getElem hn, List.contains_eq_mem, List.contains_eq_mem, Bool.eq_iff_iff]
  simp only [Bool.or_eq_true, decide_eq_true_eq, beq_iff_eq, List.mem_append, List.mem_singleton]
  exact ⟨fun k => k.imp id Eq.symm, fun k => k.imp id Eq.symm⟩
theorem seen_all {L : List Int} {c i : Int} {b : Bool} (h : SeenB L c i b) (h1 : (L.length : Int) ≤ i) (hc : c ∈ L) : b = true := by
  unfold SeenB at h
  rw [h, List.take_of_length_le (by omega)]
  simpa using hc
def PartAt (cx cy sd wd ht : Int) (pb pl : List Int) (fx fy tx ty : Int) (L : List Int) : Prop :=
  ∀ g k : Int, 0 ≤ k → k ≤ g → g ∣ tx - fx → g ∣ ty - fy → ∃ sx sy, sx = fx + (tx - fx).tdiv g * k ∧ sy = fy + (ty - fy).tdiv g * k ∧ (-6553600000 ≤ sx ∧ sx ≤ 6553600000) ∧ (-6553600000 ≤ sy ∧ sy ≤ 6553600000) ∧
    (-13107200000 ≤ (tx - fx).tdiv g * k ∧ (tx - fx).tdiv g * k ≤ 13107200000) ∧ (-13107200000 ≤ (ty - fy).tdiv g * k ∧ (ty - fy).tdiv g * k ≤ 13107200000) ∧
    (iceAt cx cy sd wd ht pb pl sx sy = (0, 7) ∨ ∃ c, iceAt cx cy sd wd ht pb pl sx sy = (c, 0) ∧ c ∈ L)
theorem places_part {cx cy sd wd ht : Int} {pb pl : List Int} {fx fy tx ty : Int} (h : wayB cx cy sd wd ht pb pl fx fy tx ty = true) : PartAt cx cy sd wd ht pb pl fx fy tx ty (touchedL cx cy sd wd ht fx fy tx ty) := by
  intro g k k0 k1 ⟨u, hu⟩ ⟨v, hv⟩
  have HW := wayB_hyp h
  obtain ⟨f0, f1⟩ := HW.hfx
  obtain ⟨f2, f3⟩ := HW.hfy
  obtain ⟨t0, t1⟩ := HW.htx
  obtain ⟨t2, t3⟩ := HW.hty
  have hi : iceB cx cy sd wd ht pb pl = true := by
    unfold wayB at h
    rw [Bool.and_eq_true] at h
    exact h.1
  have hx : tx = fx + u * g := by rw [Int.mul_comm]; omega
  have hy : ty = fy + v * g := by rw [Int.mul_comm]; omega
  have key : ∀ u v : Int, tx = fx + u * g → ty = fy + v * g → (tx - fx).tdiv g = u → (ty - fy).tdiv g = v → ∃ sx sy, sx = fx + (tx - fx).tdiv g * k ∧ sy = fy + (ty - fy).tdiv g * k ∧ (-6553600000 ≤ sx ∧ sx ≤ 6553600000) ∧ (-6553600000 ≤ sy ∧ sy ≤ 6553600000) ∧
    (-13107200000 ≤ (tx - fx).tdiv g * k ∧ (tx - fx).tdiv g * k ≤ 13107200000) ∧ (-13107200000 ≤ (ty - fy).tdiv g * k ∧ (ty - fy).tdiv g * k ≤ 13107200000) ∧
    (iceAt cx cy sd wd ht pb pl sx sy = (0, 7) ∨ ∃ c, iceAt cx cy sd wd ht pb pl sx sy = (c, 0) ∧ c ∈ touchedL cx cy sd wd ht fx fy tx ty) := by
    intro u v hx hy du dv
    rw [du, dv]
    have b1 := part_between (a := fx) (u := u) k0 k1
    have b2 := part_between (a := fy) (u := v) k0 k1
    rw [← hx] at b1
    rw [← hy] at b2
    have sx : -6553600000 ≤ fx + u * k ∧ fx + u * k ≤ 6553600000 := by
      have m1 : -6553600000 ≤ minI fx tx := by unfold minI; split <;> omega
      have m2 : maxI fx tx ≤ 6553600000 := by unfold maxI; split <;> omega
      omega
    have sy : -6553600000 ≤ fy + v * k ∧ fy + v * k ≤ 6553600000 := by
      have m1 : -6553600000 ≤ minI fy ty := by unfold minI; split <;> omega
      have m2 : maxI fy ty ≤ 6553600000 := by unfold maxI; split <;> omega
      omega
    refine ⟨_, _, rfl, rfl, sx, sy, by omega, by omega, ?_⟩
    have hp : plB (fx + u * k) (fy + v * k) = true := plB_iff.2 ⟨sx, sy⟩
    unfold iceAt
    rw [if_pos ⟨hi, hp⟩]
    have H := (iceB_iff.1 hi).at hp
    by_cases a : atOk cx cy sd wd ht (fx + u * k) (fy + v * k) = true
    · rw [if_pos a]
      have := part_touched (n := g) H k0 k1 a
      rw [← hx, ← hy] at this
      exact .inr ⟨_, rfl, this⟩
    · rw [if_neg a]; exact .inl rfl
  rcases Int.lt_or_le 0 g with hg | hg
  · exact key u v hx hy (by rw [hu]; exact Int.mul_tdiv_cancel_left _ (by omega)) (by rw [hv]; exact Int.mul_tdiv_cancel_left _ (by omega))
  · obtain rfl : g = 0 := by omega
    exact key 0 0 (by omega) (by omega) (by rw [Int.tdiv_zero]) (by rw [Int.tdiv_zero])
end Go.Proofs.Ytibaapaglocpjaa.B

end
