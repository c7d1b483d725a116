import Derived.Test.YtibaapaglocpjaaGreatBP
import Derived.Test.YtibaapaglocpjaaGreatBQA
import Derived.Test.YtibaapaglocpjaaGreatBRz
import Derived.Test.YtibaapaglocpjaaGreatBQB
/- Proved here: lemmas for the laws' proofs (the texts Ra Rb Rc). No condition. -/
section
set_option linter.unusedSimpArgs false
set_option linter.unusedVariables false
namespace Go.Proofs.YtibaapaglocpjaaGreat.B
open Go.RowKit Go.Proofs.YtibaapaglocpjaaGreatW.PrintWords Go.Proofs.YtibaapaglocpjaaGreat.Q Go.Proofs.YtibaapaglocpjaaGreatW.PrintMore
theorem Nrm.last {l : List Int} {n : Nat} (hl : Dig l) (hn : l.length = n + 1) (h : rd l (n : Int) ≠ 0) : Nrm l := by
  refine ⟨hl, fun hne => ?_⟩
  rw [rd_at (by omega)] at h
  rw [List.getLast_eq_getElem]
  have : l.length - 1 = n := by omega
  simp only [this]
  exact h
theorem trim_ev : ∀ (n : Nat) (l : List Int), l.length = n → n ≤ 1000 → Dig l → ∃ r, Ev (fun k => besomref01_trim.l0 k l) r ∧ Nrm r ∧ dval r = dval l ∧ r.length ≤ n
  | 0, l, hn, _, hd => by
    obtain rfl : l = [] := List.length_eq_zero_iff.1 hn
    exact ⟨[], ev_one (fun k => by simp only [besomref01_trim.l0]; rw [if_neg (by simp)]), Nrm.nil, rfl, Nat.le_refl _⟩
  | n + 1, l, hn, hb, hd => by
    have hw : wrap64 ((l.length : Int) - 1) = (n : Int) := by rw [w_id (by omega) (by omega)]; omega
    by_cases h : rd l (n : Int) = 0
    · obtain ⟨r, h1, h2, h3, h4⟩ := trim_ev n (l.take n) (by rw [List.length_take]; omega) (by omega) (hd.take n)
      refine ⟨r, Ev.step (fun k => ?_) h1, h2, ?_, by omega⟩
      · simp only [besomref01_trim.l0]
        rw [if_pos (by omega), hw, if_pos (by omega), if_pos (by omega), if_pos h, if_pos (by omega), Int.toNat_natCast]
      · have e := dval_take l n (by omega)
        rw [List.take_of_length_le (by omega), h, Int.mul_zero] at e
        omega
    · refine ⟨l, ev_one (fun k => ?_), Nrm.last hd hn h, rfl, by omega⟩
      simp only [besomref01_trim.l0]
      rw [if_pos (by omega), hw, if_pos (by omega), if_pos (by omega), if_neg h]
theorem trim_f {l : List Int} (hb : l.length ≤ 1000) (hd : Dig l) : ∃ r, Ev (fun k => besomref01_trim.f k l) r ∧ Nrm r ∧ dval r = dval l ∧ r.length ≤ l.length := trim_ev _ l rfl hb hd
theorem Nrm.cons {d : Int} {l : List Int} (h : Nrm l) (h0 : 0 ≤ d) (h1 : d < 32768) (hz : l = [] → d ≠ 0) : Nrm (d :: l) := by
  refine ⟨fun x hx => ?_, fun hne => ?_⟩
  · rcases List.mem_cons.1 hx with rfl | hx
    · exact ⟨h0, h1⟩
    · exact h.1 x hx
  · by_cases hl : l = []
    · subst hl; simpa using hz rfl
    · rw [List.getLast_cons hl]; exact h.2 hl
theorem of_ev : ∀ (m : Nat) (x : Int) (acc : List Int), 0 ≤ x → x < pw m → x < 9223372036854775808 → acc.length + m ≤ 1000 → ∃ r, Ev (fun k => besomref01_of.l0 k x acc) (acc ++ r) ∧ Nrm r ∧ dval r = x
  | 0, x, acc, h0, h1, _, hb => by
    obtain rfl : x = 0 := by rw [pw_zero] at h1; omega
    exact ⟨[], ev_one (fun k => by simp only [besomref01_of.l0]; rw [if_neg (by omega), List.append_nil]), Nrm.nil, rfl⟩
  | m + 1, x, acc, h0, h1, h2, hb => by
    by_cases hx : 0 < x
    · rw [pw_succ] at h1
      have e := Int.mul_ediv_add_emod x 32768
      have r0 := Int.emod_nonneg x (show (32768 : Int) ≠ 0 by omega)
      have r1 := Int.emod_lt_of_pos x (show (0 : Int) < 32768 by omega)
      have q0 : 0 ≤ x / 32768 := Int.ediv_nonneg h0 (by omega)
      obtain ⟨r, k1, k2, k3⟩ := of_ev m (x / 32768) (acc ++ [x % 32768]) q0 (by omega) (by omega) (by rw [List.length_append, List.length_singleton]; omega)
      refine ⟨x % 32768 :: r, Ev.step (fun k => ?_) (by simpa using k1), k2.cons r0 r1 (fun hr => ?_), by simp only [dval]; omega⟩
      · simp only [besomref01_of.l0]
        rw [if_pos hx, if_pos (by omega), Int.tdiv_eq_ediv_of_nonneg h0, Int.tmod_eq_emod_of_nonneg h0, w_id (by omega) (by omega)]
      · rw [hr] at k3
        simp only [dval] at k3
        omega
    · obtain rfl : x = 0 := by omega
      exact ⟨[], ev_one (fun k => by simp only [besomref01_of.l0]; rw [if_neg (by omega), List.append_nil]), Nrm.nil, rfl⟩
theorem of_f {x : Int} (h0 : 0 ≤ x) (h2 : x < 9223372036854775808) : ∃ r, Ev (fun k => besomref01_of.f k x) r ∧ Nrm r ∧ dval r = x := by
  have := of_ev 5 x [] h0 (by have : pw 5 = 37778931862957161709568 := by decide
                              omega) h2 (by simp)
  unfold besomref01_of.f
  simpa using this
theorem order_ev {a b : List Int} (ha : Dig a) (hb : Dig b) (hl : a.length = b.length) (hn : a.length ≤ 1000) : ∀ (i : Nat), i ≤ a.length → a.drop i = b.drop i → Ev (fun k => besomref01_order.l0 k a b ((i : Int) - 1)) (cmpI (dval a) (dval b))
  | 0, _, he => by
    have : a = b := by simpa using he
    subst this
    refine ev_one (fun k => ?_)
    simp only [besomref01_order.l0]
    rw [if_neg (by omega)]
    unfold cmpI
    rw [if_neg (by omega), if_pos rfl]
  | i + 1, hi, he => by
    have hc : ((i + 1 : Nat) : Int) - 1 = (i : Int) := by omega
    rw [hc]
    by_cases h1 : rd a (i : Int) < rd b (i : Int)
    · have hlt := dval_lt_high ha hb i (by omega) hl he h1
      refine ev_one (fun k => ?_)
      simp only [besomref01_order.l0]
      rw [if_pos (by omega), if_pos (by omega), if_pos (by omega), if_pos (by omega), if_pos h1]
      unfold cmpI; rw [if_pos hlt]
    · by_cases h2 : rd b (i : Int) < rd a (i : Int)
      · have hlt := dval_lt_high hb ha i (by omega) hl.symm he.symm h2
        refine ev_one (fun k => ?_)
        simp only [besomref01_order.l0]
        rw [if_pos (by omega), if_pos (by omega), if_pos (by omega), if_pos (by omega), if_neg h1, if_pos h2]
        unfold cmpI; rw [if_neg (by omega), if_neg (by omega)]
      · refine Ev.step (fun k => ?_) (order_ev ha hb hl hn i (by omega) ?_)
        · simp only [besomref01_order.l0]
          rw [if_pos (by omega), if_pos (by omega), if_pos (by omega), if_pos (by omega), if_neg h1, if_neg (by omega), w_id (x := (i : Int) - 1) (by omega) (by omega)]
        · rw [List.drop_eq_getElem_cons (show i < a.length by omega), List.drop_eq_getElem_cons (show i < b.length by omega), he]
          congr 1
          rw [rd_at (show i < a.length by omega), rd_at (show i < b.length by omega)] at h1 h2
          omega
theorem order_f {a b : List Int} (ha : Nrm a) (hb : Nrm b) (h1 : a.length ≤ 1000) (h2 : b.length ≤ 1000) : Ev (fun k => besomref01_order.f k a b) (cmpI (dval a) (dval b)) := by
  unfold besomref01_order.f
  rcases Nat.lt_trichotomy a.length b.length with l | l | l
  · have := ha.lt_of_len hb l
    refine Ev.congr (fun k => if_pos (by omega)) ?_
    have e : cmpI (dval a) (dval b) = -1 := by unfold cmpI; rw [if_pos this]
    rw [e]; exact Ev.now _
  · refine Ev.congr (fun k => by rw [if_neg (by omega), if_neg (by omega)]) ?_
    have hw : wrap64 ((a.length : Int) - 1) = (a.length : Int) - 1 := w_id (by omega) (by omega)
    rw [hw]
    exact order_ev ha.1 hb.1 l h1 a.length (Nat.le_refl _) (by rw [List.drop_length, l, List.drop_length])
  · have := hb.lt_of_len ha l
    refine Ev.congr (fun k => by rw [if_neg (by omega), if_pos (by omega)]) ?_
    have e : cmpI (dval a) (dval b) = 1 := by unfold cmpI; rw [if_neg (by omega), if_neg (by omega)]
    rw [e]; exact Ev.now _
theorem number_ev {a : List Int} (ha : Dig a) (hn : a.length ≤ 4) : ∀ (i : Nat) (n : Int), i ≤ a.length → n = dval (a.drop i) → Ev (fun k => besomref01_number.l0 k a n ((i : Int) - 1)) (dval a, true)
  | 0, n, _, he => by
    refine ev_one (fun k => ?_)
    simp only [besomref01_number.l0]
    rw [if_neg (by omega), he]; rfl
  | i + 1, n, hi, he => by
    have hc : ((i + 1 : Nat) : Int) - 1 = (i : Int) := by omega
    rw [hc]
    have hd := dval_drop a i (by omega)
    have hb := dval_bd (ha.drop (i + 1))
    have hr := ha.rd (i : Int)
    have hp := pw_mono (show (a.drop (i + 1)).length ≤ 3 by rw [List.length_drop]; omega)
    have h3 : pw 3 = 35184372088832 := by decide
    rw [← he] at hd hb
    refine Ev.step (fun k => ?_) (number_ev ha hn i (dval (a.drop i)) (by omega) rfl)
    simp only [besomref01_number.l0]
    rw [if_pos (by omega), if_pos (by omega), if_pos (by omega), w_id (x := 32768 * n) (by omega) (by omega), w_id (x := 32768 * n + rd a (i : Int)) (by omega) (by omega), w_id (x := (i : Int) - 1) (by omega) (by omega), hd]
    congr 1; omega
theorem number_f {a : List Int} (ha : Nrm a) (hn : a.length ≤ 1000) : Ev (fun k => besomref01_number.f k a) (if dval a < 1152921504606846976 then (dval a, true) else (0, false)) := by
  have h4 : pw 4 = 1152921504606846976 := by decide
  unfold besomref01_number.f
  by_cases h : a.length ≤ 4
  · have hb := dval_bd ha.1
    have := pw_mono h
    rw [if_pos (by omega)]
    refine Ev.congr (fun k => by rw [if_neg (by omega), w_id (by omega) (by omega)]) ?_
    exact number_ev ha.1 h a.length 0 (Nat.le_refl _) (by rw [List.drop_length]; rfl)
  · have hl : a ≠ [] := by rintro rfl; simp at h
    have hb := ha.ge hl
    have := pw_mono (show 4 ≤ a.length - 1 by omega)
    rw [if_neg (by omega)]
    exact Ev.congr (fun k => if_pos (by omega)) (Ev.now _)
theorem Nrm.of_rd {l : List Int} (hl : Dig l) (h : ∀ n, l.length = n + 1 → rd l (n : Int) ≠ 0) : Nrm l := by
  cases hn : l.length with
  | zero => rw [List.length_eq_zero_iff.1 hn]; exact Nrm.nil
  | succ n => exact Nrm.last hl hn (h n hn)
theorem Nrm.rd_ne {l : List Int} (h : Nrm l) {n : Nat} (hn : l.length = n + 1) : rd l (n : Int) ≠ 0 := by
  have hne : l ≠ [] := by rintro rfl; simp at hn
  have := h.2 hne
  rw [List.getLast_eq_getElem] at this
  rw [rd_at (by omega)]
  have e : l.length - 1 = n := by omega
  simp only [e] at this
  exact this
theorem rd_snoc (l : List Int) (d : Int) : rd (l ++ [d]) (l.length : Int) = d := by simp [rd]
theorem rd_ge {l : List Int} {i : Nat} (h : l.length ≤ i) : rd l (i : Int) = 0 := by simp [rd, List.getD_eq_getElem?_getD, List.getElem?_eq_none h]
theorem dval_drop' {l : List Int} (i : Nat) : dval (l.drop i) = rd l (i : Int) + 32768 * dval (l.drop (i + 1)) := by
  rcases Nat.lt_or_ge i l.length with h | h
  · exact dval_drop l i h
  · rw [dval_drop_ge l i h, dval_drop_ge l (i + 1) (by omega), rd_ge h]; rfl
structure PlusI (a b out : List Int) (carry : Int) (i : Nat) : Prop where
  len : out.length = i
  dig : Dig out
  c0 : 0 ≤ carry
  c1 : carry ≤ 1
  sum : dval out + pw i * (carry + dval (a.drop i) + dval (b.drop i)) = dval a + dval b
  top : ∀ n, i = n + 1 → rd out (n : Int) ≠ 0 ∨ carry ≠ 0 ∨ i < a.length ∨ i < b.length
theorem PlusI.step {a b out : List Int} {carry : Int} {i : Nat} (ha : Nrm a) (hb : Nrm b) (h : PlusI a b out carry i) (hgo : i < a.length ∨ i < b.length ∨ carry ≠ 0) :
    PlusI a b (out ++ [(carry + rd a (i : Int) + rd b (i : Int)) % 32768]) ((carry + rd a (i : Int) + rd b (i : Int)) / 32768) (i + 1) := by
  have ra := ha.1.rd (i : Int)
  have rb := hb.1.rd (i : Int)
  have c0 := h.c0
  have c1 := h.c1
  refine ⟨by rw [List.length_append, List.length_singleton, h.len], h.dig.append (Dig.one (by omega) (by omega)), by omega, by omega, ?_, fun n hn => ?_⟩
  · rw [dval_snoc, h.len, ← h.sum, dval_drop' (l := a) i, dval_drop' (l := b) i, pw_succ]
    generalize dval (a.drop (i + 1)) = A
    generalize dval (b.drop (i + 1)) = B
    have e : carry + (rd a (i : Int) + 32768 * A) + (rd b (i : Int) + 32768 * B) = (carry + rd a (i : Int) + rd b (i : Int)) % 32768 + 32768 * ((carry + rd a (i : Int) + rd b (i : Int)) / 32768 + A + B) := by omega
    rw [e]
    generalize (carry + rd a (i : Int) + rd b (i : Int)) / 32768 + A + B = T
    rw [Int.mul_add, Int.mul_comm 32768 (pw i), Int.mul_assoc]
    omega
  · obtain rfl : n = i := by omega
    have hr := rd_snoc out ((carry + rd a (n : Int) + rd b (n : Int)) % 32768)
    rw [h.len] at hr
    rw [hr]
    by_cases z : (carry + rd a (n : Int) + rd b (n : Int)) % 32768 = 0 ∧ (carry + rd a (n : Int) + rd b (n : Int)) / 32768 = 0
    · have hs : carry = 0 ∧ rd a (n : Int) = 0 ∧ rd b (n : Int) = 0 := by omega
      rcases hgo with g | g | g
      · right; right; left
        rcases Nat.lt_or_ge (n + 1) a.length with l | l
        · exact l
        · exact absurd hs.2.1 (ha.rd_ne (by omega))
      · right; right; right
        rcases Nat.lt_or_ge (n + 1) b.length with l | l
        · exact l
        · exact absurd hs.2.2 (hb.rd_ne (by omega))
      · exact absurd hs.1 g
    · by_cases z1 : (carry + rd a (n : Int) + rd b (n : Int)) % 32768 = 0
      · exact .inr (.inl (fun z2 => z ⟨z1, z2⟩))
      · exact .inl z1
theorem plus_ev {a b : List Int} (ha : Nrm a) (hb : Nrm b) (la : a.length ≤ 500) (lb : b.length ≤ 500) : ∀ (m i : Nat) (out : List Int) (carry : Int), PlusI a b out carry i → i + m = max a.length b.length + 1 →
    ∃ r, Ev (fun k => besomref01_plus.l0 k a b out carry (i : Int)) r ∧ Nrm r ∧ dval r = dval a + dval b ∧ r.length ≤ max a.length b.length + 1
  | m, i, out, carry, h, hm => by
    have c0 := h.c0
    have c1 := h.c1
    have ra := ha.1.rd (i : Int)
    have rb := hb.1.rd (i : Int)
    by_cases hgo : i < a.length ∨ i < b.length ∨ carry ≠ 0
    · have hs := h.step ha hb hgo
      cases m with
      | zero =>
        exfalso
        have h1 : ¬ i < a.length := by omega
        have h2 : ¬ i < b.length := by omega
        have hsum := h.sum
        rw [dval_drop_ge a i (by omega), dval_drop_ge b i (by omega)] at hsum
        have hp := pw_pos i
        have ba := (dval_bd ha.1).2
        have bb := (dval_bd hb.1).2
        have pa := pw_mono (show a.length ≤ i - 1 by omega)
        have pb := pw_mono (show b.length ≤ i - 1 by omega)
        have pi : pw i = 32768 * pw (i - 1) := by
          have := pw_succ (i - 1)
          rwa [show i - 1 + 1 = i by omega] at this
        have := (dval_bd h.dig).1
        obtain rfl : carry = 1 := by omega
        omega
      | succ m =>
        obtain ⟨r, k1, k2, k3, k4⟩ := plus_ev ha hb la lb m (i + 1) _ _ hs (by omega)
        refine ⟨r, Ev.step (fun k => ?_) (Ev.step (fun k => ?_) k1 : Ev (fun k => besomref01_plus.j1 k a b out carry (i : Int) true) r), k2, k3, k4⟩
        · simp only [besomref01_plus.l0]
          by_cases g1 : i < a.length
          · rw [if_pos (by omega)]
          · rw [if_neg (by omega)]
            by_cases g2 : i < b.length
            · rw [if_pos (by omega)]
            · rw [if_neg (by omega), decide_eq_true (by omega : carry > 0)]
        · have hl := h.len
          clear k1 hs
          simp only [besomref01_plus.j1, if_true]
          rw [show wrap64 ((i : Int) + 1) = ((i + 1 : Nat) : Int) from by rw [w_id (by omega) (by omega)]; omega]
          by_cases g1 : i < a.length
          · rw [if_pos (by omega), if_pos (by omega)]
            by_cases g2 : i < b.length
            · rw [if_pos (by omega), if_pos (by omega), w_id (x := carry + rd a (i : Int)) (by omega) (by omega), w_id (x := carry + rd a (i : Int) + rd b (i : Int)) (by omega) (by omega), Int.tmod_eq_emod_of_nonneg (by omega), Int.tdiv_eq_ediv_of_nonneg (by omega), w_id (x := (carry + rd a (i : Int) + rd b (i : Int)) / 32768) (by omega) (by omega)]
            · have z : rd b (i : Int) = 0 := rd_ge (by omega)
              rw [if_neg (by omega), if_pos (by omega), w_id (x := carry + rd a (i : Int)) (by omega) (by omega), Int.tmod_eq_emod_of_nonneg (by omega), Int.tdiv_eq_ediv_of_nonneg (by omega), w_id (x := (carry + rd a (i : Int)) / 32768) (by omega) (by omega), z, Int.add_zero]
          · have z : rd a (i : Int) = 0 := rd_ge (by omega)
            rw [if_neg (by omega)]
            by_cases g2 : i < b.length
            · rw [if_pos (by omega), if_pos (by omega), if_pos (by omega), w_id (x := carry + rd b (i : Int)) (by omega) (by omega), Int.tmod_eq_emod_of_nonneg (by omega), Int.tdiv_eq_ediv_of_nonneg (by omega), w_id (x := (carry + rd b (i : Int)) / 32768) (by omega) (by omega), z, Int.add_zero]
            · have z2 : rd b (i : Int) = 0 := rd_ge (by omega)
              rw [if_neg (by omega), if_pos (by omega), Int.tmod_eq_emod_of_nonneg (by omega), Int.tdiv_eq_ediv_of_nonneg (by omega), w_id (x := carry / 32768) (by omega) (by omega), z, z2, Int.add_zero, Int.add_zero]
    · have z : carry = 0 := by omega
      have hl := h.len
      refine ⟨out, Ev.step (fun k => ?_) (ev_one (fun k => ?_) : Ev (fun k => besomref01_plus.j1 k a b out carry (i : Int) false) out), Nrm.of_rd h.dig (fun n hn => ?_), ?_, ?_⟩
      · simp only [besomref01_plus.l0]
        rw [if_neg (by omega), if_neg (by omega), decide_eq_false (by omega : ¬ carry > 0)]
      · simp only [besomref01_plus.j1]
        rw [if_neg (by decide)]
      · rcases h.top n (by omega) with t | t | t | t
        · exact t
        · exact absurd z t
        · omega
        · omega
      · have hsum := h.sum
        rw [dval_drop_ge a i (by omega), dval_drop_ge b i (by omega), z] at hsum
        omega
      · omega
  termination_by m => m
theorem plus_f {a b : List Int} (ha : Nrm a) (hb : Nrm b) (la : a.length ≤ 500) (lb : b.length ≤ 500) : ∃ r, Ev (fun k => besomref01_plus.f k a b) r ∧ Nrm r ∧ dval r = dval a + dval b ∧ r.length ≤ max a.length b.length + 1 :=
  plus_ev ha hb la lb (max a.length b.length + 1) 0 [] 0 ⟨rfl, Dig.nil, by omega, by omega, by simp [dval, pw_zero], fun n hn => by omega⟩ (by omega)
end Go.Proofs.YtibaapaglocpjaaGreat.B

end
section
set_option linter.unusedSimpArgs false
set_option linter.unusedVariables false
namespace Go.Proofs.YtibaapaglocpjaaGreat.B
open Go.RowKit Go.Proofs.YtibaapaglocpjaaGreatW.PrintWords Go.Proofs.YtibaapaglocpjaaGreat.Q Go.Proofs.YtibaapaglocpjaaGreatW.PrintMore
structure MinusI (a b out : List Int) (borrow : Int) (i : Nat) : Prop where
  len : out.length = i
  dig : Dig out
  c0 : 0 ≤ borrow
  c1 : borrow ≤ 1
  sum : dval out + pw i * (dval (a.drop i) - dval (b.drop i) - borrow) = dval a - dval b
theorem MinusI.step {a b out : List Int} {borrow : Int} {i : Nat} (ha : Dig a) (hb : Dig b) (h : MinusI a b out borrow i) {d c : Int} (hd0 : 0 ≤ d) (hd1 : d < 32768) (hc0 : 0 ≤ c) (hc1 : c ≤ 1) (he : rd a (i : Int) - borrow - rd b (i : Int) = d - 32768 * c) :
    MinusI a b (out ++ [d]) c (i + 1) := by
  refine ⟨by rw [List.length_append, List.length_singleton, h.len], h.dig.append (Dig.one hd0 hd1), hc0, hc1, ?_⟩
  rw [dval_snoc, h.len, ← h.sum, dval_drop' (l := a) i, dval_drop' (l := b) i, pw_succ]
  generalize dval (a.drop (i + 1)) = A
  generalize dval (b.drop (i + 1)) = B
  have e : rd a (i : Int) + 32768 * A - (rd b (i : Int) + 32768 * B) - borrow = d + 32768 * (A - B - c) := by omega
  rw [e]
  generalize A - B - c = T
  rw [Int.mul_add, Int.mul_comm 32768 (pw i), Int.mul_assoc]
  omega
theorem minus_ev {a b : List Int} (ha : Nrm a) (hb : Nrm b) (la : a.length ≤ 500) (lb : b.length ≤ a.length) (hle : dval b ≤ dval a) : ∀ (m i : Nat) (out : List Int) (borrow : Int), MinusI a b out borrow i → i + m = a.length →
    ∃ r, Ev (fun k => besomref01_minus.l0 k a b out borrow (i : Int)) r ∧ Nrm r ∧ dval r = dval a - dval b ∧ r.length ≤ a.length
  | 0, i, out, borrow, h, hm => by
    obtain ⟨r, k1, k2, k3, k4⟩ := trim_f (l := out) (by have := h.len; omega) h.dig
    have hs := h.sum
    rw [dval_drop_ge a i (by omega), dval_drop_ge b i (by omega)] at hs
    have hb1 := dval_bd h.dig
    rw [h.len] at hb1
    have hp := pw_pos i
    have c0 := h.c0
    have c1 := h.c1
    have hz : borrow = 0 := by
      apply Decidable.byContradiction
      intro hn
      obtain rfl : borrow = 1 := by omega
      omega
    subst hz
    refine ⟨r, Ev.step (fun k => ?_) (Ev.bind k1 (Ev.now r)), k2, by omega, by have := h.len; omega⟩
    simp only [besomref01_minus.l0]
    rw [if_neg (by omega)]
  | m + 1, i, out, borrow, h, hm => by
    have c0 := h.c0
    have c1 := h.c1
    have ra := ha.1.rd (i : Int)
    have rb := hb.1.rd (i : Int)
    have hl := h.len
    by_cases hd : rd a (i : Int) - borrow - rd b (i : Int) < 0
    · obtain ⟨r, k1, k2⟩ := minus_ev ha hb la lb hle m (i + 1) _ _ (h.step ha.1 hb.1 (d := rd a (i : Int) - borrow - rd b (i : Int) + 32768) (c := 1) (by omega) (by omega) (by omega) (by omega) (by omega)) (by omega)
      refine ⟨r, Ev.step (fun k => ?_) k1, k2⟩
      clear k1 k2
      simp only [besomref01_minus.l0]
      rw [if_pos (by omega), if_pos (by omega), w_id (x := rd a (i : Int) - borrow) (by omega) (by omega), show wrap64 ((i : Int) + 1) = ((i + 1 : Nat) : Int) from by rw [w_id (by omega) (by omega)]; omega]
      by_cases g : i < b.length
      · rw [if_pos (by omega), w_id (x := rd a (i : Int) - borrow - rd b (i : Int)) (by omega) (by omega), if_pos (by omega), if_pos (by omega), w_id (x := rd a (i : Int) - borrow - rd b (i : Int) + 32768) (by omega) (by omega)]
      · have z : rd b (i : Int) = 0 := rd_ge (by omega)
        rw [if_neg (by omega), if_pos (by omega), if_pos (by omega), w_id (x := rd a (i : Int) - borrow + 32768) (by omega) (by omega), z, Int.sub_zero]
    · obtain ⟨r, k1, k2⟩ := minus_ev ha hb la lb hle m (i + 1) _ _ (h.step ha.1 hb.1 (d := rd a (i : Int) - borrow - rd b (i : Int)) (c := 0) (by omega) (by omega) (by omega) (by omega) (by omega)) (by omega)
      refine ⟨r, Ev.step (fun k => ?_) k1, k2⟩
      clear k1 k2
      simp only [besomref01_minus.l0]
      rw [if_pos (by omega), if_pos (by omega), w_id (x := rd a (i : Int) - borrow) (by omega) (by omega), show wrap64 ((i : Int) + 1) = ((i + 1 : Nat) : Int) from by rw [w_id (by omega) (by omega)]; omega]
      by_cases g : i < b.length
      · rw [if_pos (by omega), w_id (x := rd a (i : Int) - borrow - rd b (i : Int)) (by omega) (by omega), if_neg (by omega), if_pos (by omega)]
      · have z : rd b (i : Int) = 0 := rd_ge (by omega)
        rw [if_neg (by omega), if_neg (by omega), if_pos (by omega), z, Int.sub_zero]
theorem Nrm.len_of_le {a b : List Int} (ha : Nrm a) (hb : Nrm b) (h : dval b ≤ dval a) : b.length ≤ a.length := by
  rcases Nat.lt_or_ge a.length b.length with l | l
  · have := ha.lt_of_len hb l; omega
  · exact l
theorem minus_f {a b : List Int} (ha : Nrm a) (hb : Nrm b) (la : a.length ≤ 500) (hle : dval b ≤ dval a) : ∃ r, Ev (fun k => besomref01_minus.f k a b) r ∧ Nrm r ∧ dval r = dval a - dval b ∧ r.length ≤ a.length :=
  minus_ev ha hb la (ha.len_of_le hb hle) hle a.length 0 [] 0 ⟨rfl, Dig.nil, by omega, by omega, by simp [dval, pw_zero]⟩ (by omega)
structure TimesO (a b out : List Int) (i : Nat) : Prop where
  len : out.length = a.length + b.length
  dig : Dig out
  sum : dval out = dval (a.take i) * dval b
  zero : ∀ j, i + b.length ≤ j → rd out (j : Int) = 0
structure TimesI (a b out : List Int) (carry : Int) (i j : Nat) : Prop where
  len : out.length = a.length + b.length
  dig : Dig out
  c0 : 0 ≤ carry
  c1 : carry < 32768
  sum : dval out + pw (i + j) * carry = dval (a.take i) * dval b + pw i * (rd a (i : Int) * dval (b.take j))
  zero : ∀ j, i + b.length ≤ j → rd out (j : Int) = 0
theorem rd_set (l : List Int) (i j : Nat) (v : Int) (h : i ≠ j) : rd (l.set i v) (j : Int) = rd l (j : Int) := by
  simp [rd, List.getD_eq_getElem?_getD, List.getElem?_set_ne h]
theorem TimesI.step {a b out : List Int} {carry : Int} {i j : Nat} (ha : Dig a) (hb : Dig b) (hi : i < a.length) (hj : j < b.length) (h : TimesI a b out carry i j) :
    0 ≤ carry + rd out ((i + j : Nat) : Int) + rd a (i : Int) * rd b (j : Int) ∧ carry + rd out ((i + j : Nat) : Int) + rd a (i : Int) * rd b (j : Int) < 1073741824 ∧
    TimesI a b (out.set (i + j) ((carry + rd out ((i + j : Nat) : Int) + rd a (i : Int) * rd b (j : Int)) % 32768)) ((carry + rd out ((i + j : Nat) : Int) + rd a (i : Int) * rd b (j : Int)) / 32768) i (j + 1) := by
  have ra := ha.rd (i : Int)
  have rb := hb.rd (j : Int)
  have ro := h.dig.rd ((i + j : Nat) : Int)
  have c0 := h.c0
  have c1 := h.c1
  have m0 : 0 ≤ rd a (i : Int) * rd b (j : Int) := Int.mul_nonneg ra.1 rb.1
  have m1 : rd a (i : Int) * rd b (j : Int) ≤ 32767 * 32767 := Int.mul_le_mul (by omega) (by omega) rb.1 (by omega)
  obtain ⟨t, ht⟩ : ∃ t, t = carry + rd out ((i + j : Nat) : Int) + rd a (i : Int) * rd b (j : Int) := ⟨_, rfl⟩
  rw [← ht]
  refine ⟨by omega, by omega, by rw [List.length_set]; exact h.len, h.dig.set (by omega) (by omega) _, by omega, by omega, ?_, fun k hk => ?_⟩
  · have hl := h.len
    rw [dval_set out (i + j) _ (by omega), show i + (j + 1) = (i + j) + 1 by omega, pw_succ, dval_take b j hj]
    have hs := h.sum
    have e1 : pw i * (rd a (i : Int) * (dval (b.take j) + pw j * rd b (j : Int))) = pw i * (rd a (i : Int) * dval (b.take j)) + pw (i + j) * (rd a (i : Int) * rd b (j : Int)) := by
      rw [pw_add, Int.mul_add, Int.mul_add]
      congr 1
      simp only [Int.mul_assoc, Int.mul_comm, Int.mul_left_comm]
    rw [e1]
    have e2 : rd a (i : Int) * rd b (j : Int) = t % 32768 + 32768 * (t / 32768) - carry - rd out ((i + j : Nat) : Int) := by omega
    rw [e2]
    generalize pw i * (rd a (i : Int) * dval (b.take j)) = X at *
    generalize dval (a.take i) * dval b = Y at *
    generalize rd out ((i + j : Nat) : Int) = o at *
    have e3 : 32768 * pw (i + j) * (t / 32768) = pw (i + j) * (32768 * (t / 32768)) := by rw [Int.mul_comm 32768 (pw (i + j)), Int.mul_assoc]
    rw [e3]
    simp only [Int.mul_sub, Int.mul_add]
    omega
  · rw [rd_set _ _ _ _ (by omega)]
    exact h.zero k hk
theorem times_ev {a b : List Int} (ha : Dig a) (hb : Dig b) (la : a.length ≤ 200) (lb : b.length ≤ 200) : ∀ (m i : Nat) (out : List Int), TimesO a b out i → i + m = a.length →
    ∃ r, Ev (fun k => besomref01_times.l0 k a b out (i : Int)) r ∧ Nrm r ∧ dval r = dval a * dval b ∧ r.length ≤ a.length + b.length
  | 0, i, out, h, hm => by
    obtain ⟨r, k1, k2, k3, k4⟩ := trim_f (l := out) (by have := h.len; omega) h.dig
    have hs := h.sum
    rw [List.take_of_length_le (by omega)] at hs
    refine ⟨r, Ev.step (fun k => ?_) (Ev.bind k1 (Ev.now r)), k2, by omega, by have := h.len; omega⟩
    simp only [besomref01_times.l0]
    rw [if_neg (by omega)]
  | m + 1, i, out, h, hm => by
    have inner : ∀ (q j : Nat) (out : List Int) (carry : Int), TimesI a b out carry i j → j + q = b.length →
        ∃ r, Ev (fun k => besomref01_times.l1 k a b out (i : Int) carry (j : Int)) r ∧ Nrm r ∧ dval r = dval a * dval b ∧ r.length ≤ a.length + b.length := by
      intro q
      induction q with
      | zero =>
        intro j out carry h hj
        have hl := h.len
        have hO : TimesO a b (out.set (i + b.length) carry) (i + 1) := by
          refine ⟨by rw [List.length_set]; exact hl, h.dig.set h.c0 h.c1 _, ?_, fun k hk => ?_⟩
          · have hs := h.sum
            obtain rfl : j = b.length := by omega
            rw [List.take_length] at hs
            rw [dval_set _ _ _ (by omega), h.zero _ (Nat.le_refl _), Int.sub_zero, dval_take a i (by omega), Int.add_mul, Int.mul_assoc]
            exact hs
          · rw [rd_set _ _ _ _ (by omega)]
            exact h.zero k (by omega)
        obtain ⟨r, k1, k2⟩ := times_ev ha hb la lb m (i + 1) _ hO (by omega)
        refine ⟨r, Ev.step (fun k => ?_) k1, k2⟩
        clear k1 k2
        simp only [besomref01_times.l1]
        rw [if_neg (by omega), show wrap64 ((i : Int) + (b.length : Int)) = ((i + b.length : Nat) : Int) from by rw [w_id (by omega) (by omega)]; omega, show wrap64 ((i : Int) + 1) = ((i + 1 : Nat) : Int) from by rw [w_id (by omega) (by omega)]; omega, if_pos (by omega), if_pos (by omega), Int.toNat_natCast]
      | succ q ih =>
        intro j out carry h hj
        obtain ⟨t0, t1, hI⟩ := h.step ha hb (by omega) (by omega)
        obtain ⟨r, k1, k2⟩ := ih (j + 1) _ _ hI (by omega)
        have hl := h.len
        have c0 := h.c0
        have c1 := h.c1
        have ra := ha.rd (i : Int)
        have rb := hb.rd (j : Int)
        have ro := h.dig.rd ((i + j : Nat) : Int)
        have m0 : 0 ≤ rd a (i : Int) * rd b (j : Int) := Int.mul_nonneg ra.1 rb.1
        refine ⟨r, Ev.step (fun k => ?_) k1, k2⟩
        clear k1 k2 hI ih
        simp only [besomref01_times.l1]
        rw [if_pos (by omega), show wrap64 ((i : Int) + (j : Int)) = ((i + j : Nat) : Int) from by rw [w_id (by omega) (by omega)]; omega, show wrap64 ((j : Int) + 1) = ((j + 1 : Nat) : Int) from by rw [w_id (by omega) (by omega)]; omega, if_pos (by omega), if_pos (by omega), if_pos (by omega), if_pos (by omega), if_pos (by omega), Int.toNat_natCast]
        generalize rd out ((i + j : Nat) : Int) = o at *
        generalize rd a (i : Int) * rd b (j : Int) = p at *
        rw [w_id (x := carry + o) (by omega) (by omega), w_id (x := p) (by omega) (by omega), w_id (x := carry + o + p) (by omega) (by omega), Int.tmod_eq_emod_of_nonneg (by omega), Int.tdiv_eq_ediv_of_nonneg (by omega), w_id (x := (carry + o + p) / 32768) (by omega) (by omega)]
    obtain ⟨r, k1, k2⟩ := inner b.length 0 out 0 ⟨h.len, h.dig, by omega, by omega, by rw [h.sum]; simp [dval], h.zero⟩ (by omega)
    refine ⟨r, Ev.step (fun k => ?_) k1, k2⟩
    clear k1 k2 inner
    simp only [besomref01_times.l0]
    rw [if_pos (by omega)]
    rfl
theorem times_f {a b : List Int} (ha : Dig a) (hb : Dig b) (la : a.length ≤ 200) (lb : b.length ≤ 200) : ∃ r, Ev (fun k => besomref01_times.f k a b) r ∧ Nrm r ∧ dval r = dval a * dval b ∧ r.length ≤ a.length + b.length := by
  obtain ⟨r, k1, k2⟩ := times_ev ha hb la lb a.length 0 (List.replicate (a.length + b.length) 0) ⟨by simp, Dig.zeros _, by rw [dval_zeros]; simp [dval], fun j hj => by
    simp [rd, List.getD_eq_getElem?_getD, List.getElem?_replicate]; split <;> rfl⟩ (by omega)
  refine ⟨r, Ev.congr (fun k => ?_) k1, k2⟩
  clear k1 k2
  unfold besomref01_times.f
  rw [w_id (x := (a.length : Int) + (b.length : Int)) (by omega) (by omega), if_pos (by omega), show ((a.length : Int) + (b.length : Int)).toNat = a.length + b.length by omega, if_pos (by omega)]
  rfl
theorem dval_small {l : List Int} (h : Nrm l) {x : Int} (hx : dval l = x) {n : Nat} (hb : x < pw n) : l.length ≤ n := h.len_le (by omega)
theorem div_unique {R D p : Int} (hD : 0 < D) (h0 : p * D ≤ R) (h1 : R < (p + 1) * D) : R / D = p := by
  have e := Int.mul_ediv_add_emod R D
  have r0 := Int.emod_nonneg R (show D ≠ 0 by omega)
  have r1 := Int.emod_lt_of_pos R hD
  have a1 : R / D < p + 1 := Int.ediv_lt_of_lt_mul hD h1
  have a2 : p ≤ R / D := (Int.le_ediv_iff_mul_le hD).2 h0
  omega
def stepOf (j : Nat) : Int := ((2 ^ j / 2 : Nat) : Int)
theorem stepOf_zero : stepOf 0 = 0 := rfl
theorem stepOf_succ (j : Nat) : stepOf (j + 1) = 2 ^ j := by
  unfold stepOf
  rw [Nat.pow_succ, Nat.mul_div_cancel _ (by omega)]
  exact Int.natCast_pow 2 j
theorem stepOf_half (j : Nat) : (stepOf (j + 1)).tdiv 2 = stepOf j := by
  have h : stepOf (j + 1) = ((2 ^ j : Nat) : Int) := by rw [stepOf_succ]; exact (Int.natCast_pow 2 j).symm
  rw [h]
  unfold stepOf
  rw [Int.tdiv_eq_ediv_of_nonneg (Int.natCast_nonneg _)]
  generalize 2 ^ j = n
  omega
theorem two_pow_pos (j : Nat) : (0 : Int) < 2 ^ j := by
  have h : (0 : Int) < ((2 ^ j : Nat) : Int) := by have := Nat.pow_pos (n := j) (show 0 < 2 by omega); omega
  rwa [Int.natCast_pow] at h
theorem stepOf_bd {j : Nat} (h : j ≤ 60) : 0 ≤ stepOf j ∧ stepOf j ≤ 1152921504606846976 := by
  unfold stepOf
  have h1 : 2 ^ j ≤ 2 ^ 60 := Nat.pow_le_pow_right (by omega) h
  generalize 2 ^ j = n at *
  omega
section
variable {a b : List Int} (hb : Nrm b) (la : a.length ≤ 20) (lb : b.length ≤ 20) (hD : 0 < dval b)
include hb la lb hD
theorem over_inner {q rest : List Int} {i : Nat} (hi : i < a.length) (hq : q.length = a.length) (hr : Nrm rest) (lr : rest.length ≤ 40) {Post : List Int × List Int → Prop}
    (hcont : ∀ rest', Nrm rest' → dval rest' = dval rest - dval b * (dval rest / dval b) → rest'.length ≤ rest.length → ∃ z, Ev (fun k => besomref01_over.l0 k a b (q.set i (dval rest / dval b)) rest' ((i : Int) - 1)) z ∧ Post z) :
    ∀ (j : Nat) (p : Int), j ≤ 15 → 0 ≤ p → p + 2 ^ j ≤ 32768 → p * dval b ≤ dval rest → dval rest < (p + 2 ^ j) * dval b → ∃ z, Ev (fun k => besomref01_over.l1 k a b q rest (i : Int) p (stepOf j)) z ∧ Post z := by
  have stop : ∀ (p : Int) (j : Nat), 0 ≤ p → p < 32768 → dval rest / dval b = p → (stepOf j > 0 → dval rest < dval b) → ∃ z, Ev (fun k => besomref01_over.l1 k a b q rest (i : Int) p (stepOf j)) z ∧ Post z := by
    intro p j p0 p1 hp hs
    obtain ⟨o, o1, o2, o3⟩ := of_f p0 (by omega : p < 9223372036854775808)
    have lo : o.length ≤ 1 := dval_small o2 o3 (by show p < 32768 ^ 1; omega)
    obtain ⟨t, t1, t2, t3, t4⟩ := times_f hb.1 o2.1 (by omega) (by omega)
    have hle : dval t ≤ dval rest := by
      rw [t3, o3, ← hp]
      exact Int.mul_ediv_self_le (by omega)
    obtain ⟨m, m1, m2, m3, m4⟩ := minus_f hr t2 (by omega) hle
    obtain ⟨z, z1, z2⟩ := hcont m m2 (by rw [m3, t3, o3, hp]) m4
    have hj : Ev (fun k => besomref01_over.j2 k a b q rest (i : Int) p (stepOf j) false) z := by
      rw [hp] at z1
      refine Ev.step (f := fun k => (besomref01_of.f k p).bind fun t185 => (besomref01_times.f k b t185).bind fun t188 => (besomref01_minus.f k rest t188).bind fun t191 => besomref01_over.l0 k a b (q.set i p) t191 ((i : Int) - 1)) (fun k => ?_) (Ev.bind o1 (Ev.bind t1 (Ev.bind m1 z1)))
      simp only [besomref01_over.j2]
      rw [if_neg (by decide), if_pos (by omega), if_pos (by omega), w_id (x := (i : Int) - 1) (by omega) (by omega), Int.toNat_natCast]
    refine ⟨z, ?_, z2⟩
    by_cases g : stepOf j > 0
    · have ho := order_f hr hb (by omega) (by omega)
      have hc : cmpI (dval rest) (dval b) = -1 := by unfold cmpI; rw [if_pos (hs g)]
      rw [hc] at ho
      refine Ev.step (f := fun k => (besomref01_order.f k rest b).bind fun t183 => besomref01_over.j2 k a b q rest (i : Int) p (stepOf j) (decide (t183 ≥ 0))) (fun k => ?_) (Ev.bind ho hj)
      simp only [besomref01_over.l1]
      rw [if_pos g]
    · refine Ev.step (fun k => ?_) hj
      simp only [besomref01_over.l1]
      rw [if_neg g]
  intro j
  induction j with
  | zero =>
    intro p _ p0 p1 h0 h1
    have h1' : dval rest < (p + 1) * dval b := by simpa using h1
    exact stop p 0 p0 (by omega) (div_unique hD h0 h1') (fun g => by rw [stepOf_zero] at g; omega)
  | succ j ih =>
    intro p hj p0 p1 h0 h1
    have h2 := two_pow_pos j
    have h3 : (2 : Int) ^ (j + 1) = 2 * 2 ^ j := by rw [Int.pow_succ, Int.mul_comm]
    by_cases hlt : dval rest < dval b
    · have hp : p = 0 := by
        apply Decidable.byContradiction
        intro hn
        have : 1 * dval b ≤ p * dval b := Int.mul_le_mul_of_nonneg_right (by omega) (by omega)
        omega
      subst hp
      exact stop 0 (j + 1) (by omega) (by omega) (Int.ediv_eq_zero_of_lt (dval_bd hr.1).1 hlt) (fun _ => hlt)
    · have ho := order_f hr hb (by omega) (by omega)
      obtain ⟨c, hc, hc0⟩ : ∃ c, cmpI (dval rest) (dval b) = c ∧ c ≥ 0 := ⟨_, rfl, by unfold cmpI; rw [if_neg hlt]; split <;> omega⟩
      rw [hc] at ho
      have hsp : stepOf (j + 1) > 0 := by rw [stepOf_succ]; omega
      obtain ⟨o, o1, o2, o3⟩ := of_f (x := p + stepOf (j + 1)) (by omega) (by rw [stepOf_succ]; omega)
      have lo : o.length ≤ 1 := dval_small o2 o3 (by rw [stepOf_succ]; show _ < (32768 : Int) ^ 1; omega)
      obtain ⟨t, t1, t2, t3, t4⟩ := times_f hb.1 o2.1 (by omega) (by omega)
      have hto := order_f t2 hr (by omega) (by omega)
      have hd : dval t = (p + 2 ^ j) * dval b := by rw [t3, o3, stepOf_succ, Int.mul_comm]
      have hwrap : wrap64 (p + stepOf (j + 1)) = p + stepOf (j + 1) := w_id (by omega) (by rw [stepOf_succ]; omega)
      by_cases hle : dval t ≤ dval rest
      · obtain ⟨z, z1, z2⟩ := ih (p + stepOf (j + 1)) (by omega) (by rw [stepOf_succ]; omega) (by rw [stepOf_succ]; omega) (by rw [stepOf_succ]; omega) (by rw [stepOf_succ, show p + 2 ^ j + 2 ^ j = p + 2 ^ (j + 1) by omega]; exact h1)
        have hcc : cmpI (dval t) (dval rest) ≤ 0 := by unfold cmpI; split <;> (try split) <;> omega
        refine ⟨z, Ev.step (f := fun k => (besomref01_order.f k rest b).bind fun t183 => besomref01_over.j2 k a b q rest (i : Int) p (stepOf (j + 1)) (decide (t183 ≥ 0))) (fun k => ?_) (Ev.bind ho (Ev.step (f := fun k => (besomref01_of.f k (p + stepOf (j + 1))).bind fun t194 => (besomref01_times.f k b t194).bind fun t197 => (besomref01_order.f k t197 rest).bind fun t200 => if t200 ≤ 0 then besomref01_over.l1 k a b q rest (i : Int) (p + stepOf (j + 1)) (stepOf j) else besomref01_over.l1 k a b q rest (i : Int) p (stepOf j)) (fun k => ?_) (Ev.bind o1 (Ev.bind t1 (Ev.bind hto (Ev.congr (fun k => if_pos hcc) z1)))))), z2⟩
        · simp only [besomref01_over.l1]
          rw [if_pos hsp]
        · simp only [besomref01_over.j2]
          rw [decide_eq_true hc0, if_pos rfl, hwrap, stepOf_half, w_id (x := stepOf j) (by have := stepOf_bd (show j ≤ 60 by omega); omega) (by have := stepOf_bd (show j ≤ 60 by omega); omega)]
      · obtain ⟨z, z1, z2⟩ := ih p (by omega) p0 (by omega) h0 (by omega)
        have hcc : ¬ cmpI (dval t) (dval rest) ≤ 0 := by unfold cmpI; rw [if_neg (by omega), if_neg (by omega)]; omega
        refine ⟨z, Ev.step (f := fun k => (besomref01_order.f k rest b).bind fun t183 => besomref01_over.j2 k a b q rest (i : Int) p (stepOf (j + 1)) (decide (t183 ≥ 0))) (fun k => ?_) (Ev.bind ho (Ev.step (f := fun k => (besomref01_of.f k (p + stepOf (j + 1))).bind fun t194 => (besomref01_times.f k b t194).bind fun t197 => (besomref01_order.f k t197 rest).bind fun t200 => if t200 ≤ 0 then besomref01_over.l1 k a b q rest (i : Int) (p + stepOf (j + 1)) (stepOf j) else besomref01_over.l1 k a b q rest (i : Int) p (stepOf j)) (fun k => ?_) (Ev.bind o1 (Ev.bind t1 (Ev.bind hto (Ev.congr (fun k => if_neg hcc) z1)))))), z2⟩
        · simp only [besomref01_over.l1]
          rw [if_pos hsp]
        · simp only [besomref01_over.j2]
          rw [decide_eq_true hc0, if_pos rfl, hwrap, stepOf_half, w_id (x := stepOf j) (by have := stepOf_bd (show j ≤ 60 by omega); omega) (by have := stepOf_bd (show j ≤ 60 by omega); omega)]
end
section
variable {a b : List Int} (ha : Dig a) (hb : Nrm b) (la : a.length ≤ 20) (lb : b.length ≤ 20) (hD : 0 < dval b)
include ha hb la lb hD
theorem over_ev : ∀ (m : Nat) (q rest : List Int), m ≤ a.length → q.length = a.length → Dig q → Nrm rest → dval rest < dval b → dval (a.drop m) = dval (q.drop m) * dval b + dval rest →
    ∃ z, Ev (fun k => besomref01_over.l0 k a b q rest ((m : Int) - 1)) z ∧ Nrm z.1 ∧ Nrm z.2 ∧ dval z.1 = dval a / dval b ∧ dval z.2 = dval a % dval b ∧ z.1.length ≤ a.length ∧ z.2.length ≤ 20
  | 0, q, rest, _, hq, dq, hr, hlt, he => by
    obtain ⟨t, t1, t2, t3, t4⟩ := trim_f (l := q) (by omega) dq
    simp only [List.drop_zero] at he
    have hdq := (dval_bd dq).1
    have hd := div_unique (R := dval a) (D := dval b) (p := dval q) hD (by have := (dval_bd hr.1).1; omega) (by rw [Int.add_mul, Int.one_mul]; omega)
    have hm := Int.mul_ediv_add_emod (dval a) (dval b)
    rw [hd, Int.mul_comm] at hm
    have lr : rest.length ≤ b.length := by
      rcases Nat.lt_or_ge b.length rest.length with l | l
      · have := hb.lt_of_len hr l; omega
      · exact l
    refine ⟨(t, rest), Ev.step (f := fun k => (besomref01_trim.f k q).bind fun t170 => some (t170, rest)) (fun k => ?_) (Ev.bind t1 (Ev.now _)), t2, hr, by show dval t = _; omega, by show dval rest = _; omega, by show t.length ≤ _; omega, by show rest.length ≤ _; omega⟩
    simp only [besomref01_over.l0]
    rw [if_neg (by omega)]
  | m + 1, q, rest, hm, hq, dq, hr, hlt, he => by
    have ra := ha.rd (m : Int)
    have lr : rest.length ≤ b.length := by
      rcases Nat.lt_or_ge b.length rest.length with l | l
      · have := hb.lt_of_len hr l; omega
      · exact l
    obtain ⟨t, t1, t2, t3, t4⟩ := trim_f (l := rd a (m : Int) :: rest) (by simp; omega) (fun x hx => by
      rcases List.mem_cons.1 hx with rfl | hx
      · exact ra
      · exact hr.1 x hx)
    simp only [dval] at t3
    simp only [List.length_cons] at t4
    have hR : dval t < 32768 * dval b := by omega
    have hR0 : 0 ≤ dval t := (dval_bd t2.1).1
    have hQ0 : 0 ≤ dval t / dval b := Int.ediv_nonneg hR0 (by omega)
    have hQ1 : dval t / dval b < 32768 := Int.ediv_lt_of_lt_mul hD hR
    have hmod := Int.mul_ediv_add_emod (dval t) (dval b)
    have m0 := Int.emod_nonneg (dval t) (show dval b ≠ 0 by omega)
    have m1 := Int.emod_lt_of_pos (dval t) hD
    have hc : ((m + 1 : Nat) : Int) - 1 = (m : Int) := by omega
    obtain ⟨z, z1, z2⟩ := over_inner hb la lb hD (i := m) (q := q) (rest := t) (Post := fun z => Nrm z.1 ∧ Nrm z.2 ∧ dval z.1 = dval a / dval b ∧ dval z.2 = dval a % dval b ∧ z.1.length ≤ a.length ∧ z.2.length ≤ 20) (by omega) hq t2 (by omega) (fun rest' hr' hv hl' => by
      refine over_ev m (q.set m (dval t / dval b)) rest' (by omega) (by rw [List.length_set]; exact hq) (dq.set hQ0 hQ1 _) hr' (by omega) ?_
      rw [dval_drop a m (by omega), dval_drop _ m (by rw [List.length_set]; omega), he, hv]
      have e1 : rd (q.set m (dval t / dval b)) (m : Int) = dval t / dval b := by simp [rd, List.getD_eq_getElem?_getD, List.getElem?_set_self (show m < q.length by omega)]
      have e2 : (q.set m (dval t / dval b)).drop (m + 1) = q.drop (m + 1) := by rw [List.drop_set_of_lt (by omega)]
      rw [e1, e2, Int.add_mul, t3, Int.mul_assoc, Int.mul_comm (dval b)]
      omega) 15 0 (by omega) (by omega) (by decide) (by omega) (by rw [Int.zero_add]; exact hR)
    refine ⟨z, ?_, z2⟩
    rw [hc]
    refine Ev.step (f := fun k => (besomref01_trim.f k (rd a (m : Int) :: rest)).bind fun t180 => besomref01_over.l1 k a b q t180 (m : Int) 0 16384) (fun k => ?_) (Ev.bind t1 z1)
    simp only [besomref01_over.l0]
    rw [if_pos (by omega), if_pos (by omega), if_pos (by omega)]
    simp only [Option.bind_some, List.length_singleton, List.singleton_append]
    rw [if_pos (by omega)]
theorem over_f : ∃ z, Ev (fun k => besomref01_over.f k a b) z ∧ Nrm z.1 ∧ Nrm z.2 ∧ dval z.1 = dval a / dval b ∧ dval z.2 = dval a % dval b ∧ z.1.length ≤ a.length ∧ z.2.length ≤ 20 := by
  obtain ⟨z, z1, z2⟩ := over_ev ha hb la lb hD a.length (List.replicate a.length 0) [] (Nat.le_refl _) (by simp) (Dig.zeros _) Nrm.nil hD (by simp [dval])
  refine ⟨z, Ev.congr (fun k => ?_) z1, z2⟩
  unfold besomref01_over.f
  rw [if_pos (by omega), Int.toNat_natCast, if_pos (by omega), w_id (x := (a.length : Int) - 1) (by omega) (by omega)]
end
end Go.Proofs.YtibaapaglocpjaaGreat.B

end
section
set_option linter.unusedSimpArgs false
set_option linter.unusedVariables false
namespace Go.Proofs.YtibaapaglocpjaaGreat.B
open Go.RowKit Go.Proofs.YtibaapaglocpjaaGreatW.PrintWords Go.Proofs.YtibaapaglocpjaaGreat.Q Go.Proofs.YtibaapaglocpjaaGreatW.PrintMore
theorem quoR_of (a d : Int) (neg : Bool) (how : Nat) {q r : Int} (hq : a / d = q) (hr : a % d = r) : quoR a d neg how = q + if 0 < r ∧ rnd how (cmpI (r + r) d) neg = true then 1 else 0 := by
  unfold quoR; rw [hq, hr]
theorem rounded_f {num den : List Int} (hn : Nrm num) (hd : Nrm den) (ln : num.length ≤ 20) (ld : den.length ≤ 20) (hD : 0 < dval den) (hq : dval num / dval den < 576460752303423488) (neg : Bool) (how : Nat) (hh : how < 4) :
    Ev (fun k => besomref01_rounded.f k num den neg (how : Int)) (sgn neg (quoR (dval num) (dval den) neg how), true) := by
  obtain ⟨⟨q, r⟩, z1, z2, z3, z4, z5, z6, z7⟩ := over_f hn.1 hd ln ld hD
  simp only at z2 z3 z4 z5 z6 z7
  have hN0 := (dval_bd hn.1).1
  have q0 : 0 ≤ dval q := by rw [z4]; exact Int.ediv_nonneg hN0 (by omega)
  have hnum := number_f z2 (by omega)
  rw [if_pos (by omega)] at hnum
  have r0 : 0 ≤ dval r := (dval_bd z3.1).1
  have e := quoR_of (dval num) (dval den) neg how z4.symm z5.symm
  rw [e]
  have hlen : decide ((r.length : Int) > 0) = decide (0 < dval r) := by
    by_cases h : r = []
    · subst h; rfl
    · have h1 : dval r ≠ 0 := fun k => h (z3.zero.1 k)
      have h2 : r.length ≠ 0 := fun k => h (List.length_eq_zero_iff.1 k)
      rw [decide_eq_true (by omega), decide_eq_true (by omega)]
  have j2 : ∀ up : Bool, Ev (fun k => besomref01_rounded.j2 k neg (dval q) true up) (sgn neg (dval q + if up = true then 1 else 0), true) := by
    intro up
    cases up <;> cases neg <;> refine ev_one (fun k => ?_) <;> simp only [besomref01_rounded.j2, sgn, if_true, Bool.false_eq_true, if_false, Int.add_zero]
    · rw [w_id (x := -dval q) (by omega) (by omega)]
    · rw [w_id (x := dval q + 1) (by omega) (by omega)]
    · rw [w_id (x := dval q + 1) (by omega) (by omega), w_id (x := -(dval q + 1)) (by omega) (by omega)]
  have j1 : ∀ more : Bool, Ev (fun k => besomref01_rounded.j1 k neg r (dval q) true more) (sgn neg (dval q + if 0 < dval r ∧ more = true then 1 else 0), true) := by
    intro more
    cases more with
    | true =>
      have := j2 (decide (0 < dval r))
      simp only [decide_eq_true_eq] at this
      refine Ev.step (f := fun k => besomref01_rounded.j2 k neg (dval q) true (decide ((r.length : Int) > 0))) (fun k => ?_) ?_
      · simp only [besomref01_rounded.j1, if_true]
      · rw [hlen]; simpa using this
    | false =>
      refine Ev.step (f := fun k => besomref01_rounded.j2 k neg (dval q) true false) (fun k => ?_) ?_
      · simp only [besomref01_rounded.j1, Bool.false_eq_true, if_false]
      · simpa using j2 false
  have j0 : ∀ more : Bool, (how ≠ 3 → more = rnd how (cmpI (dval r + dval r) (dval den)) neg) → Ev (fun k => besomref01_rounded.j0 k den neg (how : Int) r (dval q) true more) (sgn neg (dval q + if 0 < dval r ∧ rnd how (cmpI (dval r + dval r) (dval den)) neg = true then 1 else 0), true) := by
    intro more hm
    by_cases h3 : how = 3
    · subst h3
      obtain ⟨p, p1, p2, p3, p4⟩ := plus_f z3 z3 (by omega) (by omega)
      have ho := order_f p2 hd (by omega) (by omega)
      refine Ev.step (f := fun k => (besomref01_plus.f k r r).bind fun t225 => (besomref01_order.f k t225 den).bind fun t228 => besomref01_rounded.j1 k neg r (dval q) true (decide (t228 ≥ 0))) (fun k => ?_) (Ev.bind p1 (Ev.bind ho ?_))
      · simp only [besomref01_rounded.j0]
        rfl
      · rw [p3]
        exact j1 _
    · rw [← hm h3]
      refine Ev.step (f := fun k => besomref01_rounded.j1 k neg r (dval q) true more) (fun k => ?_) (j1 more)
      simp only [besomref01_rounded.j0]
      rw [if_neg (by omega)]
  have hcase : how = 0 ∨ how = 1 ∨ how = 2 ∨ how = 3 := by omega
  have fin : ∀ more : Bool, (how ≠ 3 → more = rnd how (cmpI (dval r + dval r) (dval den)) neg) → (∀ k, besomref01_rounded.f k num den neg (how : Int) = (besomref01_over.f k num den).bind fun z => (besomref01_number.f k z.1).bind fun n => besomref01_rounded.j0 k den neg (how : Int) z.2 n.1 n.2 more) → Ev (fun k => besomref01_rounded.f k num den neg (how : Int)) (sgn neg (dval q + if 0 < dval r ∧ rnd how (cmpI (dval r + dval r) (dval den)) neg = true then 1 else 0), true) := by
    intro more hm hf
    exact Ev.congr hf (Ev.bind z1 (Ev.bind hnum (j0 more hm)))
  rcases hcase with rfl | rfl | rfl | rfl
  · exact fin false (fun _ => rfl) (fun k => by unfold besomref01_rounded.f; simp)
  · exact fin neg (fun _ => rfl) (fun k => by unfold besomref01_rounded.f; simp)
  · exact fin (!neg) (fun _ => rfl) (fun k => by unfold besomref01_rounded.f; cases neg <;> simp)
  · exact fin false (fun h => absurd rfl h) (fun k => by unfold besomref01_rounded.f; simp)
theorem size_f {a : Int} (h0 : -9223372036854775808 < a) (h1 : a < 9223372036854775808) : besomref01_size.f a = some (nabs a) := by
  unfold besomref01_size.f nabs
  by_cases h : a < 0
  · rw [if_pos h, if_pos h, w_id (by omega) (by omega)]
  · rw [if_neg h, if_neg h]
theorem valid_f (a : Int) : besomref01_Valid.f a = some (decide (-70368744177664 ≤ a ∧ a ≤ 70368744177664)) := by
  unfold besomref01_Valid.f
  by_cases h : a ≥ -70368744177664
  · rw [if_pos h]; congr 1; simp [h]
  · rw [if_neg h, decide_eq_false (by omega)]
theorem in_f (n lo hi : Int) : besomref01_In.f n lo hi = some (inB n lo hi) := by
  unfold besomref01_In.f inB
  by_cases h : lo ≤ n
  · rw [if_pos h]; congr 1; simp [h]
  · rw [if_neg h, decide_eq_false (by omega)]
theorem how_f (n : Int) : besomref01_how1.f n = some (inB n 0 3) := by
  unfold besomref01_how1.f; rw [in_f]; rfl
theorem fit_f {n : Int} (h0 : -70368744177664 ≤ n) (h1 : n ≤ 70368744177664) : besomref01_fit.f n true = some (n, 0) := by
  unfold besomref01_fit.f
  rw [if_pos rfl, if_neg (by omega), if_neg (by omega)]
theorem sgn_bd {neg : Bool} {n m : Int} (h0 : 0 ≤ n) (h1 : n ≤ m) : -m ≤ sgn neg n ∧ sgn neg n ≤ m := by
  unfold sgn; split <;> omega
theorem pw_vals : pw 1 = 32768 ∧ pw 2 = 1073741824 ∧ pw 3 = 35184372088832 ∧ pw 4 = 1152921504606846976 ∧ pw 5 = 37778931862957161709568 := by
  refine ⟨by decide, by decide, by decide, by decide, by decide⟩
theorem ev_some {α β : Type} {g : Option α} {f : Nat → α → Option β} {a : α} {r : β} (h : g = some a) (k : Ev (fun n => f n a) r) : Ev (fun n => g.bind (f n)) r := by
  subst h; exact k
theorem of_len {x : Int} {l : List Int} (h : Nrm l) (e : dval l = x) (hx : x < 9223372036854775808) : l.length ≤ 5 := h.len_le (by rw [pw_vals.2.2.2.2]; omega)
theorem refMul {a b : Int} (how : Nat) (hh : how < 4) (ha : okFix a) (hb : okFix b) (hm : nabs a * nabs b < 4611686018427322368) :
    Ev (fun k => besomref01_Mul.f k a b (how : Int)) (mulF a b how, 0) := by
  obtain ⟨a0, a1⟩ := ha
  obtain ⟨b0, b1⟩ := hb
  have na := nabs_le a0 a1
  have nb := nabs_le b0 b1
  have na0 := nabs_nonneg a
  have nb0 := nabs_nonneg b
  have hp0 : 0 ≤ nabs a * nabs b := Int.mul_nonneg na0 nb0
  obtain ⟨l, l1, l2, l3⟩ := of_f na0 (by omega)
  obtain ⟨m, m1, m2, m3⟩ := of_f nb0 (by omega)
  obtain ⟨d, d1, d2, d3⟩ := of_f (x := 65536) (by omega) (by omega)
  have ll := of_len l2 l3 (by omega)
  have lm := of_len m2 m3 (by omega)
  have ld := of_len d2 d3 (by omega)
  obtain ⟨t, t1, t2, t3, t4⟩ := times_f l2.1 m2.1 (by omega) (by omega)
  rw [l3, m3] at t3
  have hr := rounded_f t2 d2 (by omega) (by omega) (by omega) (by rw [t3, d3]; omega) (negOf a b) how hh
  rw [t3, d3] at hr
  have hq := quoR_bd (nabs a * nabs b) 65536 (negOf a b) how hp0 (by omega)
  have hf := sgn_bd (neg := negOf a b) hq.1 (show quoR (nabs a * nabs b) 65536 (negOf a b) how ≤ 70368744177664 by omega)
  have hneg : ((decide (a < 0)) != (decide (b < 0))) = negOf a b := by
    unfold negOf; cases decide (a < 0) <;> cases decide (b < 0) <;> rfl
  have j1 : Ev (fun k => besomref01_Mul.j1 k a b (how : Int) false) (mulF a b how, 0) := by
    refine Ev.step (f := fun k => (besomref01_size.f a).bind fun t232 => (besomref01_of.f k t232).bind fun t233 => (besomref01_size.f b).bind fun t236 => (besomref01_of.f k t236).bind fun t237 => (besomref01_times.f k t233 t237).bind fun t240 => (besomref01_of.f k 65536).bind fun t243 => (besomref01_rounded.f k t240 t243 ((decide (a < 0)) != (decide (b < 0))) (how : Int)).bind fun bt246 => (besomref01_fit.f bt246.1 bt246.2).bind fun bt248 => some (bt248.1, bt248.2)) (fun k => ?_) ?_
    · simp only [besomref01_Mul.j1, Bool.false_eq_true, if_false]
    · rw [hneg]
      refine ev_some (size_f (by omega) (by omega)) (Ev.bind l1 (ev_some (size_f (by omega) (by omega)) (Ev.bind m1 (Ev.bind t1 (Ev.bind d1 (Ev.bind hr ?_))))))
      exact ev_some (fit_f hf.1 hf.2) (Ev.now _)
  have j0 : Ev (fun k => besomref01_Mul.j0 k a b (how : Int) true) (mulF a b how, 0) := by
    refine Ev.step (f := fun k => besomref01_Mul.j1 k a b (how : Int) false) (fun k => ?_) j1
    simp only [besomref01_Mul.j0]
    rw [how_f, show inB (how : Int) 0 3 = true from decide_eq_true (by omega)]
    rfl
  refine Ev.congr (fun k => ?_) j0
  unfold besomref01_Mul.f
  rw [valid_f, decide_eq_true (by omega), valid_f, decide_eq_true (by omega)]
  rfl
theorem mx_neg (x : Int) : mx x (-x) = nabs x := by unfold mx nabs; split <;> split <;> omega
theorem refScale {a n d : Int} (how : Nat) (hh : how < 4) (ha : okFix a) (hn : okRate n) (hd : okRate d) (hd0 : d ≠ 0) (hm : nabs a * nabs n < 70368744177663) :
    Ev (fun k => besomref01_Scale.f k a n d (how : Int)) (scaleF a n d how, 0) := by
  obtain ⟨a0, a1⟩ := ha
  obtain ⟨n0, n1⟩ := hn
  obtain ⟨e0, e1⟩ := hd
  have na := nabs_le a0 a1
  have nn := nabs_le n0 n1
  have nd := nabs_le e0 e1
  have na0 := nabs_nonneg a
  have nn0 := nabs_nonneg n
  have nd0 : 0 < nabs d := by unfold nabs; split <;> omega
  have hp0 : 0 ≤ nabs a * nabs n := Int.mul_nonneg na0 nn0
  obtain ⟨l, l1, l2, l3⟩ := of_f na0 (by omega)
  obtain ⟨m, m1, m2, m3⟩ := of_f nn0 (by omega)
  obtain ⟨v, v1, v2, v3⟩ := of_f (x := nabs d) (by omega) (by omega)
  have ll := of_len l2 l3 (by omega)
  have lm := of_len m2 m3 (by omega)
  have lv := of_len v2 v3 (by omega)
  obtain ⟨t, t1, t2, t3, t4⟩ := times_f l2.1 m2.1 (by omega) (by omega)
  rw [l3, m3] at t3
  have hdiv := Int.ediv_le_self (nabs d) hp0
  have hr := rounded_f t2 v2 (by omega) (by omega) (by omega) (by rw [t3, v3]; omega) (neg3 a n d) how hh
  rw [t3, v3] at hr
  have hq := quoR_bd (nabs a * nabs n) (nabs d) (neg3 a n d) how hp0 nd0
  have hf := sgn_bd (neg := neg3 a n d) hq.1 (show quoR (nabs a * nabs n) (nabs d) (neg3 a n d) how ≤ 70368744177664 by omega)
  have hneg : (((decide (a < 0)) != (decide (n < 0))) != (decide (d < 0))) = neg3 a n d := by
    unfold neg3; cases decide (a < 0) <;> cases decide (n < 0) <;> cases decide (d < 0) <;> rfl
  have j0 : Ev (fun k => besomref01_Scale.j0 k a n d (how : Int) false) (scaleF a n d how, 0) := by
    refine Ev.step (f := fun k => (besomref01_size.f a).bind fun t254 => (besomref01_of.f k t254).bind fun t255 => (besomref01_of.f k (mx n (wrap64 (-n)))).bind fun t258 => (besomref01_times.f k t255 t258).bind fun t261 => (besomref01_of.f k (mx d (wrap64 (-d)))).bind fun t264 => (besomref01_rounded.f k t261 t264 (((decide (a < 0)) != (decide (n < 0))) != (decide (d < 0))) (how : Int)).bind fun bt267 => (besomref01_fit.f bt267.1 bt267.2).bind fun bt269 => some (bt269.1, bt269.2)) (fun k => ?_) ?_
    · simp only [besomref01_Scale.j0, Bool.false_eq_true, if_false]
      rw [if_neg hd0]
    · rw [hneg, w_id (x := -n) (by omega) (by omega), w_id (x := -d) (by omega) (by omega), mx_neg, mx_neg]
      refine ev_some (size_f (by omega) (by omega)) (Ev.bind l1 (Ev.bind m1 (Ev.bind t1 (Ev.bind v1 (Ev.bind hr ?_)))))
      exact ev_some (fit_f hf.1 hf.2) (Ev.now _)
  refine Ev.congr (fun k => ?_) j0
  unfold besomref01_Scale.f
  rw [valid_f, decide_eq_true (by omega), how_f, show inB (how : Int) 0 3 = true from decide_eq_true (by omega), in_f, show inB n (-2147483648) 2147483648 = true from decide_eq_true ⟨n0, n1⟩, in_f, show inB d (-2147483648) 2147483648 = true from decide_eq_true ⟨e0, e1⟩]
  rfl
theorem isqrt_small {A n : Nat} (h : A < n * n) : isqrt A < n := by
  obtain ⟨h1, _⟩ := isqrt_spec A
  rcases Nat.lt_or_ge (isqrt A) n with l | l
  · exact l
  · have := Nat.mul_le_mul l l; omega
theorem root_ev {a : List Int} (ha : Nrm a) (la : a.length ≤ 40) {A : Nat} (hA : dval a = A) : ∀ (j n : Nat), j ≤ 59 → n + 2 ^ j ≤ 1152921504606846976 → n * n ≤ A → A < (n + 2 ^ j) * (n + 2 ^ j) →
    Ev (fun k => besomref01_root.l0 k a (n : Int) (stepOf j)) ((isqrt A : Nat), decide (isqrt A * isqrt A = A))
  | 0, n, _, hb, h0, h1 => by
    have hn : isqrt A = n := isqrt_unique h0 h1
    obtain ⟨o, o1, o2, o3⟩ := of_f (x := (n : Int)) (by omega) (by omega)
    have lo := of_len o2 o3 (by omega)
    obtain ⟨t, t1, t2, t3, t4⟩ := times_f o2.1 o2.1 (by omega) (by omega)
    have ho := order_f t2 ha (by omega) (by omega)
    refine Ev.step (f := fun k => (besomref01_of.f k (n : Int)).bind fun t282 => (besomref01_times.f k t282 t282).bind fun t285 => (besomref01_order.f k t285 a).bind fun t288 => some ((n : Int), (t288 == 0))) (fun k => ?_) (Ev.bind o1 (Ev.bind t1 (Ev.bind ho ?_)))
    · simp only [besomref01_root.l0]
      rw [if_neg (by rw [stepOf_zero]; omega)]
    · have e : ((cmpI (dval t) (dval a)) == 0) = decide (n * n = A) := by
        rw [t3, o3, hA, ← Int.natCast_mul]
        unfold cmpI
        by_cases h : n * n = A
        · rw [decide_eq_true h, if_neg (by omega), if_pos (by omega)]; rfl
        · rw [decide_eq_false h, if_pos (by omega)]; rfl
      rw [e, hn]
      exact Ev.now _
  | j + 1, n, hj, hb, h0, h1 => by
    have hp : 2 ^ (j + 1) = 2 * 2 ^ j := by rw [Nat.pow_succ, Nat.mul_comm]
    have hp1 : 0 < 2 ^ j := Nat.pow_pos (by omega)
    have hs : stepOf (j + 1) = ((2 ^ j : Nat) : Int) := by rw [stepOf_succ]; exact (Int.natCast_pow 2 j).symm
    have hx : (n : Int) + stepOf (j + 1) = ((n + 2 ^ j : Nat) : Int) := by rw [hs]; omega
    obtain ⟨o, o1, o2, o3⟩ := of_f (x := ((n + 2 ^ j : Nat) : Int)) (by omega) (by omega)
    have lo := of_len o2 o3 (by omega)
    obtain ⟨t, t1, t2, t3, t4⟩ := times_f o2.1 o2.1 (by omega) (by omega)
    have ho := order_f t2 ha (by omega) (by omega)
    have hsb := stepOf_bd (show j ≤ 60 by omega)
    have hd : dval t = (((n + 2 ^ j) * (n + 2 ^ j) : Nat) : Int) := by rw [t3, o3, Int.natCast_mul]
    refine Ev.step (f := fun k => (besomref01_of.f k ((n + 2 ^ j : Nat) : Int)).bind fun t289 => (besomref01_times.f k t289 t289).bind fun t292 => (besomref01_order.f k t292 a).bind fun t295 => if t295 ≤ 0 then besomref01_root.l0 k a ((n + 2 ^ j : Nat) : Int) (stepOf j) else besomref01_root.l0 k a (n : Int) (stepOf j)) (fun k => ?_) (Ev.bind o1 (Ev.bind t1 (Ev.bind ho ?_)))
    · simp only [besomref01_root.l0]
      rw [if_pos (by rw [hs]; omega), hx, w_id (x := ((n + 2 ^ j : Nat) : Int)) (by omega) (by omega), stepOf_half, w_id (x := stepOf j) (by omega) (by omega)]
    · by_cases hle : (n + 2 ^ j) * (n + 2 ^ j) ≤ A
      · have hc : cmpI (dval t) (dval a) ≤ 0 := by rw [hd, hA]; unfold cmpI; split <;> (try split) <;> omega
        exact Ev.congr (fun k => if_pos hc) (root_ev ha la hA j (n + 2 ^ j) (by omega) (by omega) hle (by rw [show n + 2 ^ j + 2 ^ j = n + 2 ^ (j + 1) by omega]; exact h1))
      · have hc : ¬ cmpI (dval t) (dval a) ≤ 0 := by rw [hd, hA]; unfold cmpI; rw [if_neg (by omega), if_neg (by omega)]; omega
        exact Ev.congr (fun k => if_neg hc) (root_ev ha la hA j n (by omega) (by omega) h0 (by omega))
theorem pw_two (n : Nat) : pw n = ((2 ^ (15 * n) : Nat) : Int) := by
  unfold pw
  rw [Nat.pow_mul, Int.natCast_pow]
  rfl
theorem root_f {a : List Int} (ha : Nrm a) {A : Nat} (hA : dval a = A) (hlt : A < 2 ^ 118) : Ev (fun k => besomref01_root.f k a) ((isqrt A : Nat), decide (isqrt A * isqrt A = A)) := by
  have la : a.length ≤ 8 := ha.len_le (by rw [hA, pw_two]; have : (2 : Nat) ^ 118 < 2 ^ (15 * 8) := by decide
                                          omega)
  obtain ⟨e, he⟩ : ∃ e : Nat, e = min 58 (15 * a.length / 2 + 1) := ⟨_, rfl⟩
  have h1 : wrap64 (wrap64 ((wrap64 (15 * (a.length : Int))).tdiv 2) + 1) = ((15 * a.length / 2 + 1 : Nat) : Int) := by
    rw [w_id (x := 15 * (a.length : Int)) (by omega) (by omega), Int.tdiv_eq_ediv_of_nonneg (by omega), w_id (x := 15 * (a.length : Int) / 2) (by omega) (by omega), w_id (by omega) (by omega)]
    omega
  have h2 : mn 58 ((15 * a.length / 2 + 1 : Nat) : Int) = (e : Int) := by unfold mn; split <;> omega
  have he58 : e ≤ 58 := by omega
  have hpe : 2 ^ e ≤ 2 ^ 58 := Nat.pow_le_pow_right (by omega) he58
  have h3 : wrap64 (2 ^ e) = stepOf (e + 1) := by
    rw [stepOf_succ]
    have : ((2 : Int) ^ e) = ((2 ^ e : Nat) : Int) := (Int.natCast_pow 2 e).symm
    rw [this]
    generalize 2 ^ e = P at hpe ⊢
    exact w_id (by omega) (by omega)
  have hsq : A < 2 ^ (e + 1) * 2 ^ (e + 1) := by
    rw [← Nat.pow_add]
    by_cases h : 58 ≤ 15 * a.length / 2 + 1
    · have : e = 58 := by omega
      subst this
      exact hlt
    · have hb := (dval_bd ha.1).2
      rw [hA, pw_two] at hb
      have : 2 ^ (15 * a.length) ≤ 2 ^ (e + 1 + (e + 1)) := Nat.pow_le_pow_right (by omega) (by omega)
      omega
  have h5 : 2 ^ (e + 1) = 2 * 2 ^ e := by rw [Nat.pow_succ, Nat.mul_comm]
  have := root_ev ha (by omega) hA (e + 1) 0 (by omega) (by omega) (by omega) (by rw [Nat.zero_add]; exact hsq)
  refine Ev.congr (fun k => ?_) this
  unfold besomref01_root.f
  rw [h1, h2, if_pos (by omega), Int.toNat_natCast, h3]
  rfl
theorem up_f {a : List Int} (ha : Nrm a) (la : a.length ≤ 100) {n : Nat} (hn : n ≤ 32) : ∃ r, Ev (fun k => besomref01_up.f k a (n : Int)) r ∧ Nrm r ∧ dval r = dval a * 2 ^ n := by
  have hp : (2 : Nat) ^ n ≤ 2 ^ 32 := Nat.pow_le_pow_right (by omega) hn
  have hs : shl .i64 1 (n : Int) = ((2 ^ n : Nat) : Int) := by
    unfold shl
    have e1 : (IntKind.i64.bits : Nat) = 64 := rfl
    have e3 : (2 : Int) ^ n = ((2 ^ n : Nat) : Int) := (Int.natCast_pow 2 n).symm
    rw [e1, Int.toNat_natCast, Nat.min_eq_left (by omega), Int.one_mul, IntKind.wrap_i64, e3]
    generalize 2 ^ n = P at hp ⊢
    omega
  have e4 : (2 : Int) ^ n = ((2 ^ n : Nat) : Int) := (Int.natCast_pow 2 n).symm
  rw [e4]
  generalize 2 ^ n = P at hp hs ⊢
  obtain ⟨o, o1, o2, o3⟩ := of_f (x := (P : Int)) (by omega) (by omega)
  have lo := of_len o2 o3 (by omega)
  obtain ⟨t, t1, t2, t3, t4⟩ := times_f ha.1 o2.1 (by omega) (by omega)
  refine ⟨t, Ev.congr (g := fun k => besomref01_up.f k a (n : Int)) (f := fun k => (besomref01_of.f k (P : Int)).bind fun t276 => (besomref01_times.f k a t276).bind fun t279 => some t279) (fun k => ?_) (Ev.bind o1 (Ev.bind t1 (Ev.now _))), t2, by rw [t3, o3]⟩
  unfold besomref01_up.f
  rw [if_pos (show (0 : Int) ≤ (n : Int) by omega), hs]
theorem rooted_f {a : List Int} (ha : Nrm a) {A : Nat} (hA : dval a = A) (hlt : A < 2 ^ 118) (how : Nat) (hh : how = 1 ∨ how = 2) : Ev (fun k => besomref01_rooted.f k a (how : Int)) ((rootF A how : Nat), true) := by
  have hr := root_f ha hA hlt
  have hb : isqrt A < 2 ^ 59 := isqrt_small hlt
  have j0 : ∀ more : Bool, Ev (fun k => besomref01_rooted.j0 k a (how : Int) (isqrt A : Nat) more) (((if more = true then isqrt A + 1 else isqrt A : Nat) : Int), true) := by
    intro more
    refine ev_one (fun k => ?_)
    simp only [besomref01_rooted.j0]
    rw [if_neg (by omega)]
    cases more
    · rfl
    · rw [if_pos rfl, if_pos rfl, w_id (by omega) (by omega)]; rfl
  rcases hh with rfl | rfl
  · have h := j0 false
    refine Ev.congr (f := fun k => (besomref01_root.f k a).bind fun bt => besomref01_rooted.j0 k a ((1 : Nat) : Int) bt.1 false) (fun k => ?_) (Ev.bind hr ?_)
    · unfold besomref01_rooted.f; simp
    · have e : rootF A 1 = isqrt A := by unfold rootF; rw [if_neg (fun h => absurd h.1 (by omega))]
      rw [e]; simpa using h
  · refine Ev.congr (f := fun k => (besomref01_root.f k a).bind fun bt => besomref01_rooted.j0 k a ((2 : Nat) : Int) bt.1 (!bt.2)) (fun k => ?_) (Ev.bind hr ?_)
    · unfold besomref01_rooted.f; simp
    · have h := j0 (!decide (isqrt A * isqrt A = A))
      have e : (if (!decide (isqrt A * isqrt A = A)) = true then isqrt A + 1 else isqrt A) = rootF A 2 := by
        unfold rootF
        by_cases g : isqrt A * isqrt A = A
        · rw [decide_eq_true g, if_neg (by decide), if_neg (fun h => h.2 g)]
        · rw [decide_eq_false g, if_pos (by decide), if_pos ⟨rfl, g⟩]
      rw [e] at h
      exact h
theorem refRoot {a : Int} (h0 : 0 ≤ a) (h1 : a ≤ 70368744177664) (how : Nat) (hh : how = 1 ∨ how = 2) : Ev (fun k => besomref01_Root.f k a (how : Int)) ((rootF (a.toNat * 65536) how : Nat), 0) := by
  obtain ⟨n, rfl⟩ := Int.eq_ofNat_of_zero_le h0
  rw [Int.toNat_natCast]
  obtain ⟨l, l1, l2, l3⟩ := of_f (x := (n : Int)) (by omega) (by omega)
  have ll := of_len l2 l3 (by omega)
  obtain ⟨u, u1, u2, u3⟩ := up_f l2 (by omega) (n := 16) (by omega)
  have hA : dval u = ((n * 65536 : Nat) : Int) := by rw [u3, l3, Int.natCast_mul]; rfl
  have hlt : n * 65536 < 2 ^ 118 := by
    have : (2 : Nat) ^ 62 < 2 ^ 118 := by decide
    omega
  have hr := rooted_f u2 hA hlt how hh
  have hsq : isqrt (n * 65536) < 2 ^ 32 := isqrt_small (by omega)
  have hrf : rootF (n * 65536) how ≤ 2 ^ 32 := by unfold rootF; split <;> omega
  have j0 : Ev (fun k => besomref01_Root.j0 k (n : Int) (how : Int) false) ((rootF (n * 65536) how : Nat), 0) := by
    refine Ev.step (f := fun k => (besomref01_of.f k (n : Int)).bind fun t310 => (besomref01_up.f k t310 16).bind fun t313 => (besomref01_rooted.f k t313 (how : Int)).bind fun bt316 => (besomref01_fit.f bt316.1 bt316.2).bind fun bt318 => some (bt318.1, bt318.2)) (fun k => ?_) (Ev.bind l1 (Ev.bind u1 (Ev.bind hr ?_)))
    · simp only [besomref01_Root.j0, Bool.false_eq_true, if_false]
      rw [if_neg (by omega)]
    · exact ev_some (fit_f (by omega) (by omega)) (Ev.now _)
  refine Ev.congr (fun k => ?_) j0
  unfold besomref01_Root.f
  rw [valid_f, decide_eq_true (by omega), how_f, show inB (how : Int) 0 3 = true from decide_eq_true (by omega)]
  rfl
theorem refScale3 {a n d : Int} (ha : okFix a) (hn : okRate n) (hd : okRate d) (hd0 : d ≠ 0) (hm : nabs a * nabs n < 70368744177663) : Ev (fun k => besomref01_Scale.f k a n d 3) (scaleF a n d 3, 0) := refScale 3 (by omega) ha hn hd hd0 hm
theorem refScale0 {a n d : Int} (ha : okFix a) (hn : okRate n) (hd : okRate d) (hd0 : d ≠ 0) (hm : nabs a * nabs n < 70368744177663) : Ev (fun k => besomref01_Scale.f k a n d 0) (scaleF a n d 0, 0) := refScale 0 (by omega) ha hn hd hd0 hm
theorem refMul2 {a b : Int} (ha : okFix a) (hb : okFix b) (hm : nabs a * nabs b < 4611686018427322368) : Ev (fun k => besomref01_Mul.f k a b 2) (mulF a b 2, 0) := refMul 2 (by omega) ha hb hm
theorem refMul0 {a b : Int} (ha : okFix a) (hb : okFix b) (hm : nabs a * nabs b < 4611686018427322368) : Ev (fun k => besomref01_Mul.f k a b 0) (mulF a b 0, 0) := refMul 0 (by omega) ha hb hm
theorem refRoot2 {a : Int} (h0 : 0 ≤ a) (h1 : a ≤ 70368744177664) : Ev (fun k => besomref01_Root.f k a 2) ((rootF (a.toNat * 65536) 2 : Nat), 0) := refRoot h0 h1 2 (.inr rfl)
end Go.Proofs.YtibaapaglocpjaaGreat.B

end
