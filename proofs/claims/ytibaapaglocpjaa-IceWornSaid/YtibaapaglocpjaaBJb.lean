import Derived.Test.YtibaapaglocpjaaBJa
/- Proved here: lemmas for the laws' proofs (the texts Jb). No condition. -/
section
set_option linter.unusedSimpArgs false
set_option linter.unusedVariables false
namespace Go.Proofs.Ytibaapaglocpjaa.B
open Go.RowKit Go.Shelf Go.Proofs.YtibaapaglocpjaaW.PrintWords
set_option maxHeartbeats 4000000 in
set_option maxRecDepth 100000 in
theorem corners_any (cx cy sd wd ht : Int) (A : Option Addr) (c : Nat) (pb : List Int) (B : Option Addr) (d : Nat) (pl : List Int) (k : Int) (w : World) (hcx : -6553600000 ≤ cx ∧ cx ≤ 6553600000) (hcy : -6553600000 ≤ cy ∧ cy ≤ 6553600000) (hs : 1 ≤ sd ∧ sd ≤ 6553600000) (hw : 1 ≤ wd ∧ wd ≤ 256) (hk : 0 ≤ k ∧ k < 65536) :
    Calls Try.prog 76 #[.agg #[.int .i64 cx, .int .i64 cy, .int .i64 sd, .int .i64 wd, .int .i64 ht, .slice A pb.length c, .slice B pl.length d], .int .i64 k] w fun e w' => e = .returned (.agg #[.int .i64 (cx + k % wd * sd), .int .i64 (cy + k / wd * sd), .int .i64 (cx + k % wd * sd + sd), .int .i64 (cy + k / wd * sd), .int .i64 (cx + k % wd * sd), .int .i64 (cy + k / wd * sd + sd), .int .i64 (cx + k % wd * sd + sd), .int .i64 (cy + k / wd * sd + sd)]) ∧ Below w.heap.size w w' := by
  have q1 : 0 ≤ k % wd ∧ k % wd < wd := ⟨Int.emod_nonneg _ (by omega), Int.emod_lt_of_pos _ (by omega)⟩
  have q2 : 0 ≤ k / wd ∧ k / wd ≤ k := ⟨Int.ediv_nonneg hk.1 (by omega), Int.ediv_le_self _ hk.1⟩
  have p1 : 0 ≤ k % wd * sd ∧ k % wd * sd ≤ 256 * 6553600000 := mul_bd (by omega) (by omega) (by omega) (by omega)
  have p2 : 0 ≤ k / wd * sd ∧ k / wd * sd ≤ 65536 * 6553600000 := mul_bd (by omega) (by omega) (by omega) (by omega)
  have hwd : ¬ wd = 0 := by omega
  obtain ⟨m1, hm1⟩ : ∃ e, e = k % wd * sd := ⟨_, rfl⟩
  obtain ⟨m2, hm2⟩ : ∃ e, e = k / wd * sd := ⟨_, rfl⟩
  rw [← hm1, ← hm2]
  rw [← hm1] at p1
  rw [← hm2] at p2
  have w1 : wrap64 (k % wd * sd) = m1 := by rw [← hm1]; unfold wrap64; omega
  have w2 : wrap64 (k / wd * sd) = m2 := by rw [← hm2]; unfold wrap64; omega
  obtain ⟨lx, hlx⟩ : ∃ e, e = cx + m1 := ⟨_, rfl⟩
  obtain ⟨ly, hly⟩ : ∃ e, e = cy + m2 := ⟨_, rfl⟩
  have w3 : wrap64 (cx + m1) = lx := by unfold wrap64; omega
  have w4 : wrap64 (cy + m2) = ly := by unfold wrap64; omega
  obtain ⟨hx, hhx⟩ : ∃ e, e = lx + sd := ⟨_, rfl⟩
  obtain ⟨hy, hhy⟩ : ∃ e, e = ly + sd := ⟨_, rfl⟩
  have w5 : wrap64 (lx + sd) = hx := by unfold wrap64; omega
  have w6 : wrap64 (ly + sd) = hy := by unfold wrap64; omega
  rw [← hlx, ← hly, ← hhx, ← hhy]
  clear hlx hly hhx hhy hm1 hm2 p1 p2 hcx hcy q1 q2
  have HS := Kp.mk hs
  have HWd := Kp.mk hw
  clear hs
  go_enter Try.func76, Try.ntmps76
  go_wp2
  go_region
  go_wp2
  (try simp only [Exit.inBlock, Exit.then])
  refine bodyPost_ret (v := .agg #[.int .i64 lx, .int .i64 ly, .int .i64 hx, .int .i64 ly, .int .i64 lx, .int .i64 hy, .int .i64 hx, .int .i64 hy]) (by simp [results, Try.results76, go_sem]) rfl ?_
  exact ⟨rfl, (by repeat (first | exact Below.refl _ _ | (with_reducible assumption) | apply bl_drew | apply bl_drewN | apply bl_alloc | (refine bl_set ?_ (by go_simp))))⟩
end Go.Proofs.Ytibaapaglocpjaa.B

end
