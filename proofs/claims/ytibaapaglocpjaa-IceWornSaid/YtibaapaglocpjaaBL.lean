import Derived.Test.YtibaapaglocpjaaBRz
import Derived.Test.YtibaapaglocpjaaBI2
import Derived.Test.YtibaapaglocpjaaBJf
/- Proved here: lemmas for the laws' proofs (the texts La Lb). No condition. -/
section
set_option linter.unusedSimpArgs false
set_option linter.unusedVariables false
namespace Go.Proofs.Ytibaapaglocpjaa.B
open Go.RowKit Go.Shelf Go.Proofs.YtibaapaglocpjaaW.PrintWords Go.Proofs.Ytibaapaglocpjaa.Q
def greatB (pb pl : List Int) : Bool := decide ((pb.length : Int) > 1000) || decide ((pl.length : Int) > 1000)
theorem greatB_no {pb pl : List Int} (h : greatB pb pl = false) : pb.length ≤ 1000000 ∧ pl.length ≤ 1000000 := by
  unfold greatB at h
  rw [Bool.or_eq_false_iff, decide_eq_false_iff_not, decide_eq_false_iff_not] at h
  omega
theorem kdC {w : World} {A : Option Addr} {n : Nat} {xs : List Int} (h : ReadsInt w .i64 A n xs) : Kd.C (Kd.int .i64) w A n xs := Kd.C_of_reads h
theorem drawn_below {w w' : World} (h : Drawn0 w w') : Below w.heap.size w w' := h.below
theorem own_reads2 {w : World} {base : Nat} {e : TypeId} {v : Value} {xs : List Int} (h : w.ownsRow base e 1 v xs.length (xs.map (Value.int .i64))) : ∃ A c, v = .slice A xs.length c ∧ ReadsInt w .i64 A xs.length xs ∧ xs.length ≤ c := by
  obtain ⟨A, c, rfl, hr⟩ := own_reads (k := .i64) (xs := xs) h
  refine ⟨A, c, rfl, hr, ?_⟩
  rcases h.2 with ⟨hv, hn⟩ | ⟨g, cap, cur, hv, _, _, hc, _⟩
  · omega
  · cases hv; exact hc
theorem ints_ev {a b : List Int} (hl : a.length = b.length) (hn : a.length ≤ 1000000) : ∀ (m i : Nat), i + m = a.length → Ev (fun k => besomref03_Ints.l0 k a b (i : Int)) (decide (a.drop i = b.drop i))
  | 0, i, hi => by
    refine ev_one (fun k => ?_)
    simp only [besomref03_Ints.l0]
    rw [if_neg (by omega), List.drop_of_length_le (by omega), List.drop_of_length_le (by omega)]; rfl
  | m + 1, i, hi => by
    have ih := ints_ev hl hn m (i + 1) (by omega)
    have e1 := List.drop_eq_getElem_cons (show i < a.length by omega)
    have e2 := List.drop_eq_getElem_cons (show i < b.length by omega)
    rw [e1, e2]
    by_cases h : rd a (i : Int) = rd b (i : Int)
    · have hx : a[i]'(by omega) = b[i]'(by omega) := by rw [rd_at (by omega), rd_at (by omega)] at h; exact h
      rw [hx]
      have : decide ((b[i]'(by omega)) :: a.drop (i + 1) = (b[i]'(by omega)) :: b.drop (i + 1)) = decide (a.drop (i + 1) = b.drop (i + 1)) := by
        by_cases g : a.drop (i + 1) = b.drop (i + 1)
        · rw [decide_eq_true g, decide_eq_true (by rw [g])]
        · rw [decide_eq_false g, decide_eq_false (fun e => g (List.cons.inj e).2)]
      rw [this]
      refine Ev.step (fun k => ?_) ih
      simp only [besomref03_Ints.l0]
      rw [if_pos (by omega), if_pos (by omega), if_pos (by omega), if_pos h, w_id (x := (i : Int) + 1) (by omega) (by omega)]
      rfl
    · have hx : a[i]'(by omega) ≠ b[i]'(by omega) := by rw [rd_at (by omega), rd_at (by omega)] at h; exact h
      rw [decide_eq_false (fun e => hx (List.cons.inj e).1)]
      refine ev_one (fun k => ?_)
      simp only [besomref03_Ints.l0]
      rw [if_pos (by omega), if_pos (by omega), if_pos (by omega), if_neg h]
theorem ints_f {a b : List Int} (hn : a.length ≤ 1000000) : Ev (fun k => besomref03_Ints.f k a b) (decide (a = b)) := by
  unfold besomref03_Ints.f
  by_cases h : a.length = b.length
  · have := ints_ev h hn a.length 0 (by omega)
    simp only [List.drop_zero] at this
    exact Ev.congr (fun k => if_pos (by omega)) this
  · rw [decide_eq_false (fun e => h (by rw [e]))]
    exact Ev.congr (fun k => if_neg (by omega)) (Ev.now _)
theorem Ints_any (a b : List Int) (A : Option Addr) (c : Nat) (B : Option Addr) (d : Nat) (w : World) (hr1 : ReadsInt w .i64 A a.length a) (hc1 : a.length ≤ c) (hr2 : ReadsInt w .i64 B b.length b) (hc2 : b.length ≤ d) (hn : a.length ≤ 1000000) :
    Calls Try.prog 14 #[.slice A a.length c, .slice B b.length d] w fun e w' => e = .returned (.bool (decide (a = b))) ∧ Below w.heap.size w w' := by
  obtain ⟨k, hk⟩ := (ints_f (a := a) (b := b) hn).rounds
  exact (besomref03_Ints.calls k A c a B d b _ w (kdC hr1) hc1 (kdC hr2) hc2 hk).mono fun e w' h => ⟨h.1, drawn_below h.2⟩
theorem Great_any (cx cy sd wd ht : Int) (A : Option Addr) (c : Nat) (pb : List Int) (B : Option Addr) (d : Nat) (pl : List Int) (n : Int) (w : World) (hr1 : ReadsInt w .i64 A pb.length pb) (hc1 : pb.length ≤ c) (hr2 : ReadsInt w .i64 B pl.length pl) (hc2 : pl.length ≤ d) :
    Calls Try.prog 10 #[.agg #[.int .i64 cx, .int .i64 cy, .int .i64 sd, .int .i64 wd, .int .i64 ht, .slice A pb.length c, .slice B pl.length d], .int .i64 n] w fun e w' => e = .returned (.bool (decide ((pb.length : Int) > n) || decide ((pl.length : Int) > n))) ∧ Below w.heap.size w w' :=
  besomref03_Great.calls cx cy sd wd ht A c pb B d pl n _ w (kdC hr1) hc1 (kdC hr2) hc2 (great_f ..)
def pondP : List Int := [100, 200, 300, 400, 500, 600]
def pondQ : List Int := [0, 0, 0, 0, 0, 500]
def PondPost (w : World) (e : Ending) (w' : World) : Prop :=
  ∃ A B : Option Addr, e = .returned (.tuple #[.agg #[.int .i64 0, .int .i64 0, .int .i64 10, .int .i64 2, .int .i64 3, .slice A pondP.length 6, .slice B pondQ.length 6], .agg #[.int .i64 1000, .int .i64 500, .int .i64 200, .int .i64 100, .int .i64 150]]) ∧ ReadsInt w' .i64 A pondP.length pondP ∧ ReadsInt w' .i64 B pondQ.length pondQ ∧ Below w.heap.size w w'
theorem reads6 {w : World} {b : Nat} {a0 a1 a2 a3 a4 a5 : Int} (h0 : w.cell? ⟨b, 0, none⟩ = some (.int .i64 a0)) (h1 : w.cell? ⟨b, 1, none⟩ = some (.int .i64 a1)) (h2 : w.cell? ⟨b, 2, none⟩ = some (.int .i64 a2)) (h3 : w.cell? ⟨b, 3, none⟩ = some (.int .i64 a3)) (h4 : w.cell? ⟨b, 4, none⟩ = some (.int .i64 a4)) (h5 : w.cell? ⟨b, 5, none⟩ = some (.int .i64 a5)) :
    ReadsInt w .i64 (some ⟨b, 0, none⟩) 6 [a0, a1, a2, a3, a4, a5] := by
  refine ⟨rfl, by omega, fun _ => ⟨_, rfl, fun j hj => ?_⟩⟩
  rw [add_plain]
  match j, hj with
  | 0, _ => exact h0
  | 1, _ => exact h1
  | 2, _ => exact h2
  | 3, _ => exact h3
  | 4, _ => exact h4
  | 5, _ => exact h5
set_option maxRecDepth 100000 in
theorem pond_any (w : World) : Calls Try.prog 25 #[] w (PondPost w) := by
  go_enter Try.func25, Try.ntmps25
  go_wp2
  exact bodyPost_ret (v := .tuple #[.agg #[.int .i64 0, .int .i64 0, .int .i64 10, .int .i64 2, .int .i64 3, .slice (some ⟨w.heap.size + 1 + 1, 0, none⟩) 6 6, .slice (some ⟨w.heap.size + 1 + 1 + 1, 0, none⟩) 6 6], .agg #[.int .i64 1000, .int .i64 500, .int .i64 200, .int .i64 100, .int .i64 150]]) (by simp [results, Try.results25, go_sem]) rfl
    ⟨_, _, rfl, reads6 (by go_simp) (by go_simp) (by go_simp) (by go_simp) (by go_simp) (by go_simp), reads6 (by go_simp) (by go_simp) (by go_simp) (by go_simp) (by go_simp) (by go_simp), (by repeat (first | exact Below.refl _ _ | (with_reducible assumption) | apply bl_drew | apply bl_drewN | apply bl_alloc | (refine bl_set ?_ (by go_simp))))⟩
theorem aliveAt : iceAt 0 0 10 2 3 pondP pondQ 19 29 = (5, 0) := by decide
theorem aliveSlow : iceSlow 0 0 10 2 3 pondP pondQ 1000 500 200 100 150 10 25 = (630, 0) := by decide
theorem aliveTouched : wayB 0 0 10 2 3 pondP pondQ 5 5 15 15 = true ∧ touchedL 0 0 10 2 3 5 5 15 15 = [0, 1, 2, 3] := by decide
theorem aliveWeight : iceWeight 0 0 10 2 3 pondP pondQ 1000 500 200 100 150 5 5 25 = (628, 0) := by
  have h1 : weightB 0 0 10 2 3 pondP pondQ 1000 500 200 100 150 5 5 25 = true := by decide
  have h2 : (2 * wSum (slowAt 0 0 10 2 3 pondP pondQ 1000 500 200 5) 0 10 3 25 300 0 5 0).toNat * 65536 = 393216 := by decide
  have h3 : isqrt 393216 = 627 := isqrt_unique (by decide) (by decide)
  unfold iceWeight
  rw [h1, if_pos rfl, h2]
  unfold rootF
  rw [h3]
  rfl
end Go.Proofs.Ytibaapaglocpjaa.B

end
section
set_option linter.unusedSimpArgs false
set_option linter.unusedVariables false
namespace Go.Proofs.Ytibaapaglocpjaa.B
open Go.RowKit Go.Shelf Go.Proofs.YtibaapaglocpjaaW.PrintWords Go.Proofs.Ytibaapaglocpjaa.Q
theorem reads4 {w : World} {b : Nat} {a0 a1 a2 a3 : Int} (h0 : w.cell? ⟨b, 0, none⟩ = some (.int .i64 a0)) (h1 : w.cell? ⟨b, 1, none⟩ = some (.int .i64 a1)) (h2 : w.cell? ⟨b, 2, none⟩ = some (.int .i64 a2)) (h3 : w.cell? ⟨b, 3, none⟩ = some (.int .i64 a3)) :
    ReadsInt w .i64 (some ⟨b, 0, none⟩) 4 [a0, a1, a2, a3] := by
  refine ⟨rfl, by omega, fun _ => ⟨_, rfl, fun j hj => ?_⟩⟩
  rw [add_plain]
  match j, hj with
  | 0, _ => exact h0
  | 1, _ => exact h1
  | 2, _ => exact h2
  | 3, _ => exact h3
theorem ints4 (A : Option Addr) (c : Nat) (B : Option Addr) (d : Nat) (w : World) (h1 : ReadsInt w .i64 A 4 [0, 1, 2, 3]) (hc : 4 ≤ c) (h2 : ReadsInt w .i64 B 4 [0, 1, 2, 3]) (hd : 4 ≤ d) :
    Calls Try.prog 14 #[.slice A 4 c, .slice B 4 d] w fun e w' => e = .returned (.bool true) ∧ Below w.heap.size w w' := Ints_any [0, 1, 2, 3] [0, 1, 2, 3] A c B d w h1 hc h2 hd (by decide)
set_option maxHeartbeats 4000000 in
set_option maxRecDepth 100000 in
theorem alive_any (w : World) : Calls Try.prog 9 #[] w fun e w' => e = .returned (.bool true) ∧ Below w.heap.size w w' := by
  have HPo := fun W => Kp.mk (pond_any W)
  have HA := fun A B W (h1 : ReadsInt W .i64 A pondP.length pondP) (h2 : ReadsInt W .i64 B pondQ.length pondQ) => Kp.mk (At_any 0 0 10 2 3 A 6 pondP B 6 pondQ 19 29 W h1 (by decide) h2 (by decide))
  have HS := fun A B W (h1 : ReadsInt W .i64 A pondP.length pondP) (h2 : ReadsInt W .i64 B pondQ.length pondQ) => Kp.mk (Slow_any 0 0 10 2 3 A 6 pondP B 6 pondQ 1000 500 200 100 150 10 25 W h1 (by decide) h2 (by decide))
  have HW := fun A B W (h1 : ReadsInt W .i64 A pondP.length pondP) (h2 : ReadsInt W .i64 B pondQ.length pondQ) => Kp.mk (Weight_any 0 0 10 2 3 A 6 pondP B 6 pondQ 1000 500 200 100 150 5 5 25 W h1 (by decide) h2 (by decide))
  have HT := fun A B W (h1 : ReadsInt W .i64 A pondP.length pondP) (h2 : ReadsInt W .i64 B pondQ.length pondQ) => Kp.mk (Touched_any 0 0 10 2 3 A 6 pondP B 6 pondQ 5 5 15 15 W h1 (by decide) h2 (by decide))
  simp only [aliveAt] at HA
  simp only [aliveSlow] at HS
  simp only [aliveWeight] at HW
  simp only [aliveTouched.1, aliveTouched.2] at HT
  have HI := fun A c B d W h1 hc h2 hd => Kp.mk (ints4 A c B d W h1 hc h2 hd)
  go_enter Try.func9, Try.ntmps9
  go_wp2_with (first | (go_at_call 25; (with_reducible refine (HPo _).out.mono ?_); rintro e w1 ⟨A, B, rfl, hA', hB', hb'⟩; have RA := Kp.mk hA'; have RB := Kp.mk hB'; have hb1 := Kp.mk hb'; have u1 := hA'.2.1; clear hA' hB' hb') | (go_at_call 13; (with_reducible refine (HA A B _ ?h1 ?h2).out.mono ?_); (case h1 => exact RA.out.below (by repeat (first | exact Below.refl _ _ | (with_reducible assumption) | apply bl_drew | apply bl_drewN | apply bl_alloc | (refine bl_set ?_ (by go_simp))))); (case h2 => exact RB.out.below (by repeat (first | exact Below.refl _ _ | (with_reducible assumption) | apply bl_drew | apply bl_drewN | apply bl_alloc | (refine bl_set ?_ (by go_simp))))); rintro e w2 ⟨rfl, hb'⟩; have iq0 := bl_cell hb' (p := ⟨w1.heap.size, 0, none⟩) (v := .int .i64 0) (by first | (go_simp; done) | exact bl_cell (by repeat (with_reducible first | apply bl_alloc | apply bl_drew | exact Below.refl _ _)) (by assumption)); have iq1 := bl_cell hb' (p := ⟨w1.heap.size, 1, none⟩) (v := .int .i64 0) (by first | (go_simp; done) | exact bl_cell (by repeat (with_reducible first | apply bl_alloc | apply bl_drew | exact Below.refl _ _)) (by assumption)); have iq2 := bl_cell hb' (p := ⟨w1.heap.size, 2, none⟩) (v := .int .i64 10) (by first | (go_simp; done) | exact bl_cell (by repeat (with_reducible first | apply bl_alloc | apply bl_drew | exact Below.refl _ _)) (by assumption)); have iq3 := bl_cell hb' (p := ⟨w1.heap.size, 3, none⟩) (v := .int .i64 2) (by first | (go_simp; done) | exact bl_cell (by repeat (with_reducible first | apply bl_alloc | apply bl_drew | exact Below.refl _ _)) (by assumption)); have iq4 := bl_cell hb' (p := ⟨w1.heap.size, 4, none⟩) (v := .int .i64 3) (by first | (go_simp; done) | exact bl_cell (by repeat (with_reducible first | apply bl_alloc | apply bl_drew | exact Below.refl _ _)) (by assumption)); have iq5 := bl_cell hb' (p := ⟨w1.heap.size, 5, none⟩) (v := .slice A pondP.length 6) (by first | (go_simp; done) | exact bl_cell (by repeat (with_reducible first | apply bl_alloc | apply bl_drew | exact Below.refl _ _)) (by assumption)); have iq6 := bl_cell hb' (p := ⟨w1.heap.size, 6, none⟩) (v := .slice B pondQ.length 6) (by first | (go_simp; done) | exact bl_cell (by repeat (with_reducible first | apply bl_alloc | apply bl_drew | exact Below.refl _ _)) (by assumption)); have gq0 := bl_cell hb' (p := ⟨w1.heap.size + 1, 0, none⟩) (v := .int .i64 1000) (by first | (go_simp; done) | exact bl_cell (by repeat (with_reducible first | apply bl_alloc | apply bl_drew | exact Below.refl _ _)) (by assumption)); have gq1 := bl_cell hb' (p := ⟨w1.heap.size + 1, 1, none⟩) (v := .int .i64 500) (by first | (go_simp; done) | exact bl_cell (by repeat (with_reducible first | apply bl_alloc | apply bl_drew | exact Below.refl _ _)) (by assumption)); have gq2 := bl_cell hb' (p := ⟨w1.heap.size + 1, 2, none⟩) (v := .int .i64 200) (by first | (go_simp; done) | exact bl_cell (by repeat (with_reducible first | apply bl_alloc | apply bl_drew | exact Below.refl _ _)) (by assumption)); have gq3 := bl_cell hb' (p := ⟨w1.heap.size + 1, 3, none⟩) (v := .int .i64 100) (by first | (go_simp; done) | exact bl_cell (by repeat (with_reducible first | apply bl_alloc | apply bl_drew | exact Below.refl _ _)) (by assumption)); have gq4 := bl_cell hb' (p := ⟨w1.heap.size + 1, 4, none⟩) (v := .int .i64 150) (by first | (go_simp; done) | exact bl_cell (by repeat (with_reducible first | apply bl_alloc | apply bl_drew | exact Below.refl _ _)) (by assumption)); have hb2 := Kp.mk hb'; have hw2 := Kp.mk (bl_then (by repeat (first | exact Below.refl _ _ | (with_reducible assumption) | apply bl_drew | apply bl_drewN | apply bl_alloc | (refine bl_set ?_ (by go_simp)))) hb' : Below w1.heap.size w1 w2); clear hb') | (go_at_call 16; (with_reducible refine (HS A B _ ?h1 ?h2).out.mono ?_); (case h1 => exact RA.out.below hw2.out); (case h2 => exact RB.out.below hw2.out); rintro e w3 ⟨rfl, hb'⟩; have iq0 := bl_cell hb' (p := ⟨w1.heap.size, 0, none⟩) (v := .int .i64 0) (by first | (go_simp; done) | exact bl_cell (by repeat (with_reducible first | apply bl_alloc | apply bl_drew | exact Below.refl _ _)) (by assumption)); have iq1 := bl_cell hb' (p := ⟨w1.heap.size, 1, none⟩) (v := .int .i64 0) (by first | (go_simp; done) | exact bl_cell (by repeat (with_reducible first | apply bl_alloc | apply bl_drew | exact Below.refl _ _)) (by assumption)); have iq2 := bl_cell hb' (p := ⟨w1.heap.size, 2, none⟩) (v := .int .i64 10) (by first | (go_simp; done) | exact bl_cell (by repeat (with_reducible first | apply bl_alloc | apply bl_drew | exact Below.refl _ _)) (by assumption)); have iq3 := bl_cell hb' (p := ⟨w1.heap.size, 3, none⟩) (v := .int .i64 2) (by first | (go_simp; done) | exact bl_cell (by repeat (with_reducible first | apply bl_alloc | apply bl_drew | exact Below.refl _ _)) (by assumption)); have iq4 := bl_cell hb' (p := ⟨w1.heap.size, 4, none⟩) (v := .int .i64 3) (by first | (go_simp; done) | exact bl_cell (by repeat (with_reducible first | apply bl_alloc | apply bl_drew | exact Below.refl _ _)) (by assumption)); have iq5 := bl_cell hb' (p := ⟨w1.heap.size, 5, none⟩) (v := .slice A pondP.length 6) (by first | (go_simp; done) | exact bl_cell (by repeat (with_reducible first | apply bl_alloc | apply bl_drew | exact Below.refl _ _)) (by assumption)); have iq6 := bl_cell hb' (p := ⟨w1.heap.size, 6, none⟩) (v := .slice B pondQ.length 6) (by first | (go_simp; done) | exact bl_cell (by repeat (with_reducible first | apply bl_alloc | apply bl_drew | exact Below.refl _ _)) (by assumption)); have gq0 := bl_cell hb' (p := ⟨w1.heap.size + 1, 0, none⟩) (v := .int .i64 1000) (by first | (go_simp; done) | exact bl_cell (by repeat (with_reducible first | apply bl_alloc | apply bl_drew | exact Below.refl _ _)) (by assumption)); have gq1 := bl_cell hb' (p := ⟨w1.heap.size + 1, 1, none⟩) (v := .int .i64 500) (by first | (go_simp; done) | exact bl_cell (by repeat (with_reducible first | apply bl_alloc | apply bl_drew | exact Below.refl _ _)) (by assumption)); have gq2 := bl_cell hb' (p := ⟨w1.heap.size + 1, 2, none⟩) (v := .int .i64 200) (by first | (go_simp; done) | exact bl_cell (by repeat (with_reducible first | apply bl_alloc | apply bl_drew | exact Below.refl _ _)) (by assumption)); have gq3 := bl_cell hb' (p := ⟨w1.heap.size + 1, 3, none⟩) (v := .int .i64 100) (by first | (go_simp; done) | exact bl_cell (by repeat (with_reducible first | apply bl_alloc | apply bl_drew | exact Below.refl _ _)) (by assumption)); have gq4 := bl_cell hb' (p := ⟨w1.heap.size + 1, 4, none⟩) (v := .int .i64 150) (by first | (go_simp; done) | exact bl_cell (by repeat (with_reducible first | apply bl_alloc | apply bl_drew | exact Below.refl _ _)) (by assumption)); have hb3 := Kp.mk hb'; have hw3 := Kp.mk (bl_then hw2.out hb'); clear hb') | (go_at_call 11; (with_reducible refine (HT A B _ ?h1 ?h2).out.mono ?_); (case h1 => exact RA.out.below hw3.out); (case h2 => exact RB.out.below hw3.out); rintro e w4 ⟨v, rfl, hown, hb'⟩; obtain ⟨C, cc, rfl, hC, hcc⟩ := own_reads2 (xs := [0, 1, 2, 3]) hown; have iq0 := bl_cell hb' (p := ⟨w1.heap.size, 0, none⟩) (v := .int .i64 0) (by first | (go_simp; done) | exact bl_cell (by repeat (with_reducible first | apply bl_alloc | apply bl_drew | exact Below.refl _ _)) (by assumption)); have iq1 := bl_cell hb' (p := ⟨w1.heap.size, 1, none⟩) (v := .int .i64 0) (by first | (go_simp; done) | exact bl_cell (by repeat (with_reducible first | apply bl_alloc | apply bl_drew | exact Below.refl _ _)) (by assumption)); have iq2 := bl_cell hb' (p := ⟨w1.heap.size, 2, none⟩) (v := .int .i64 10) (by first | (go_simp; done) | exact bl_cell (by repeat (with_reducible first | apply bl_alloc | apply bl_drew | exact Below.refl _ _)) (by assumption)); have iq3 := bl_cell hb' (p := ⟨w1.heap.size, 3, none⟩) (v := .int .i64 2) (by first | (go_simp; done) | exact bl_cell (by repeat (with_reducible first | apply bl_alloc | apply bl_drew | exact Below.refl _ _)) (by assumption)); have iq4 := bl_cell hb' (p := ⟨w1.heap.size, 4, none⟩) (v := .int .i64 3) (by first | (go_simp; done) | exact bl_cell (by repeat (with_reducible first | apply bl_alloc | apply bl_drew | exact Below.refl _ _)) (by assumption)); have iq5 := bl_cell hb' (p := ⟨w1.heap.size, 5, none⟩) (v := .slice A pondP.length 6) (by first | (go_simp; done) | exact bl_cell (by repeat (with_reducible first | apply bl_alloc | apply bl_drew | exact Below.refl _ _)) (by assumption)); have iq6 := bl_cell hb' (p := ⟨w1.heap.size, 6, none⟩) (v := .slice B pondQ.length 6) (by first | (go_simp; done) | exact bl_cell (by repeat (with_reducible first | apply bl_alloc | apply bl_drew | exact Below.refl _ _)) (by assumption)); have gq0 := bl_cell hb' (p := ⟨w1.heap.size + 1, 0, none⟩) (v := .int .i64 1000) (by first | (go_simp; done) | exact bl_cell (by repeat (with_reducible first | apply bl_alloc | apply bl_drew | exact Below.refl _ _)) (by assumption)); have gq1 := bl_cell hb' (p := ⟨w1.heap.size + 1, 1, none⟩) (v := .int .i64 500) (by first | (go_simp; done) | exact bl_cell (by repeat (with_reducible first | apply bl_alloc | apply bl_drew | exact Below.refl _ _)) (by assumption)); have gq2 := bl_cell hb' (p := ⟨w1.heap.size + 1, 2, none⟩) (v := .int .i64 200) (by first | (go_simp; done) | exact bl_cell (by repeat (with_reducible first | apply bl_alloc | apply bl_drew | exact Below.refl _ _)) (by assumption)); have gq3 := bl_cell hb' (p := ⟨w1.heap.size + 1, 3, none⟩) (v := .int .i64 100) (by first | (go_simp; done) | exact bl_cell (by repeat (with_reducible first | apply bl_alloc | apply bl_drew | exact Below.refl _ _)) (by assumption)); have gq4 := bl_cell hb' (p := ⟨w1.heap.size + 1, 4, none⟩) (v := .int .i64 150) (by first | (go_simp; done) | exact bl_cell (by repeat (with_reducible first | apply bl_alloc | apply bl_drew | exact Below.refl _ _)) (by assumption)); have RC := Kp.mk (show ReadsInt w4 .i64 C 4 [0, 1, 2, 3] from hC); have CC := Kp.mk (show 4 ≤ cc from hcc); have hb4 := Kp.mk hb'; have hw4 := Kp.mk (bl_then hw3.out hb'); clear hb' hown hC hcc; simp only [errI, if_true]) | (go_at_call 15; (with_reducible refine (HW A B _ ?h1 ?h2).out.mono ?_); (case h1 => exact RA.out.below hw4.out); (case h2 => exact RB.out.below hw4.out); rintro e w5 ⟨rfl, hb'⟩; have hb5 := Kp.mk hb'; have hw5 := Kp.mk (bl_then hw4.out hb'); have RC5 := Kp.mk (RC.out.below hb'); clear hb') | (go_at_call 14; (with_reducible refine (HI C cc _ 4 _ ?h1 CC.out ?h2 (Nat.le_refl _)).out.mono ?_); (case h1 => exact RC5.out.below (by repeat (first | exact Below.refl _ _ | (with_reducible assumption) | apply bl_drew | apply bl_drewN | apply bl_alloc | (refine bl_set ?_ (by go_simp))))); (case h2 => exact reads4 (by go_simp) (by go_simp) (by go_simp) (by go_simp)); rintro e w6 ⟨rfl, hb'⟩; have hb6 := Kp.mk hb'; clear hb'))
  go_ret
  exact ⟨rfl, bl_then (bl_then hb1.out (bl_then hw5.out (bl_alloc (Below.refl _ _) _))) hb6.out⟩
end Go.Proofs.Ytibaapaglocpjaa.B

end
