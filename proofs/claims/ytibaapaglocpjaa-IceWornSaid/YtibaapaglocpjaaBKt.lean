import Derived.Test.YtibaapaglocpjaaBKs
import Derived.Test.YtibaapaglocpjaaBKd
/- Proved here: lemmas for the laws' proofs (the texts Kt). No condition. -/
section
set_option linter.unusedSimpArgs false
set_option linter.unusedVariables false
namespace Go.Proofs.Ytibaapaglocpjaa.B
open Go.RowKit Go.Shelf Go.Proofs.YtibaapaglocpjaaW.PrintWords
attribute [local go_sem] Oper.semAt_some
theorem fromTo_pre {i m : Int} (h0 : 0 ≤ i) (h : i ≤ m) : fromTo 0 (i - 1) ++ [i] <+: fromTo 0 m := by
  obtain ⟨k, rfl⟩ := Int.eq_ofNat_of_zero_le h0
  rw [← fromTo_snoc]
  unfold fromTo
  have := List.take_prefix (((k : Int) - 0 + 1).toNat) (List.range (m - 0 + 1).toNat)
  rw [List.take_range, Nat.min_eq_left (by omega)] at this
  exact this.map _
set_option maxRecDepth 100000 in
set_option maxHeartbeats 2000000 in
theorem all1_seqB (b n₀ : Nat) (wd ht : Int) (w : World) (hw : 1 ≤ wd ∧ wd ≤ 256) (hh : 1 ≤ ht ∧ ht ≤ 256) (hc3 : w.cell? ⟨b, 3, none⟩ = some (.int .i64 wd)) (hc4 : w.cell? ⟨b, 4, none⟩ = some (.int .i64 ht)) :
    SeqB n₀ 74 #[.pointer (some ⟨b, 0, none⟩)] (fromTo 0 (wd * ht - 1)) w := by
  intro n hn l J Jx W hW hJ hJx hY h0
  have c3 := bl_cell hW hc3
  have c4 := bl_cell hW hc4
  have hM : 1 ≤ wd * ht ∧ wd * ht ≤ 65536 := ⟨by have := Int.mul_le_mul hw.1 hh.1 (by omega) (by omega); omega, (mul_bd (by omega) hw.2 (by omega) hh.2).2⟩
  have HY := Kp.mk hY
  have HPre := fun (I : Int) (h0 : 0 ≤ I) (h : I ≤ wd * ht - 1) => Kp.mk (fromTo_pre h0 h)
  have HLen : Kp (fromTo 0 (wd * ht - 1) = fromTo 0 (wd * ht - 1)) := ⟨rfl⟩
  generalize hMv : wd * ht = M at *
  obtain ⟨m0, m1⟩ := hM
  have hw1 : wrap64 (wd * ht) = M := by rw [hMv]; unfold wrap64; omega
  clear hY hW hc3 hc4 hJ hJx HLen hw hh
  have H0 := Kp.mk h0
  clear h0
  refine callsIn_of_wp Try.func74 rfl trivial ?_ rfl
  simp only [Try.ntmps74, List.size_toArray, List.length_cons, List.length_nil, Nat.reduceAdd, Nat.reduceSub, Array.replicate_succ, Array.replicate_zero, List.push_toArray, List.append_toArray, List.nil_append, List.cons_append]
  have hMk := Kp.mk hMv
  clear hMv
  gi_wp2
  simp only [hw1]
  gi_loopw [9] (fun i wr => ∃ (I : Int) (pre : List Int), i = .int .i64 I ∧ Kp (0 ≤ I ∧ I ≤ M) ∧ Kp (pre = fromTo 0 (I - 1)) ∧ Kp (J pre wr) ∧ Kp (W.heap.size ≤ wr.heap.size)) (fun i _ => (M - intOf i).toNat)
  case atStart => exact ⟨0, [], rfl, ⟨by omega, by omega⟩, ⟨rfl⟩, H0, ⟨Nat.le_refl _⟩⟩
  case round =>
    obtain ⟨I, pre, rfl, HI, HP, HJp, HS⟩ := hrel
    obtain ⟨i0, i1⟩ := HI.out
    by_cases hlt : I < M
    · have hpp := (HPre I i0 (by omega)).out
      rw [← HP.out] at hpp
      obtain ⟨fn, tmps, assign, body, hy, hR⟩ := HY.out pre I _ hpp HJp.out HS.out
      have HPP := Kp.mk hpp
      clear hpp
      gi_wp2
      refine hR.mono ?_
      rintro e w4 (⟨rfl, hJ4, hb4, hk4⟩ | ⟨rfl, hJx4, hk4⟩)
      · have HJ4 := Kp.mk hJ4
        have HS4 : Kp (W.heap.size ≤ w4.heap.size) := ⟨Nat.le_trans HS.out hk4.size⟩
        clear hJ4 hb4 hk4
        gi_wp2
        go_roundw
        case measure => simp [intOf]; omega
        case rel => exact ⟨I + 1, pre ++ [I], rfl, ⟨by omega, by omega⟩, ⟨by rw [HP.out, show I + 1 - 1 = I by omega]; obtain ⟨k, rfl⟩ := Int.eq_ofNat_of_zero_le i0; exact (fromTo_snoc k).symm⟩, HJ4, HS4⟩
      · have HX : Kp (∃ pre, pre <+: fromTo 0 (M - 1) ∧ Jx pre w4) := ⟨pre ++ [I], HPP.out, hJx4⟩
        clear hJx4 hk4
        gi_wp2
        refine bodyPost_ret (results_none rfl _ _ _) rfl ?_
        exact ⟨⟨_, rfl⟩, .inr HX.out⟩
    · have HX : Kp (J (fromTo 0 (M - 1)) wr) := ⟨by have := HJp.out; rw [HP.out, show I = M by omega] at this; exact this⟩
      gi_wp2
      go_end0
      exact ⟨⟨_, rfl⟩, .inl HX.out⟩
end Go.Proofs.Ytibaapaglocpjaa.B

end
