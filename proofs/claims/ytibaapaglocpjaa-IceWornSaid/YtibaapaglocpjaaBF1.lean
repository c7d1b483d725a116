import Derived.BigQuiet
import Derived.Deep.QuietTactic
import Derived.Deep.RegionHeld3
import Derived.Deep.RegionWith
import Derived.Defers
import Derived.Laws.EntriesVeiled
import Derived.Laws.Externs
import Derived.Lib.Hide
import Derived.Recover
import Derived.Shelf.Bits.Mul64
import Derived.Test.YtibaapaglocpjaaProg
import Derived.WalkKit
import Derived.WalkLawsBesides
import Derived.WalkSpells
import Derived.Test.YtibaapaglocpjaaBP
/- Proved here: lemmas for the laws' proofs (the texts Fa Fb Fc Fd Fe). No condition. -/
section
set_option linter.unusedSimpArgs false
set_option linter.unusedVariables false
namespace Go.Proofs.Ytibaapaglocpjaa.B
open Go.RowKit Go.Shelf
def lays264_ren : Go.Shelf.Ren := ⟨fun | 264 => 90 | n => n, fun | 53 => 102 | 46 => 123 | n => n, fun | n => n⟩
theorem lays264 : Go.Proofs.Lays.n264 Try.prog lays264_ren := {
  mixed := by kernel_rfl
  f264 := Try.func90.trans (congrArg some (by kernel_rfl))
  t46 := Try.underlying123
  a46 := Try.isAgg123
  z46 := Try.sizeOf123
  v46 := Try.zeroValue123
  t53 := Try.underlying102
  a53 := Try.isAgg102
  z53 := Try.sizeOf102
  v53 := Try.zeroValue102 }
def m64 : Nat := 18446744073709551616
theorem mul64 (x y : Nat) (hx : x < m64) (hy : y < m64) (w : World) :
    Calls Try.prog 90 #[.int .u64 x, .int .u64 y] w fun e w' => e = .returned (.tuple #[.int .u64 ((x * y / m64 : Nat) : Int), .int .u64 ((x * y % m64 : Nat) : Int)]) ∧ w = w' :=
  (Any.bits_Mul64 lays264 x y hx hy w).mono fun _ _ h => ⟨h.1, h.2.symm⟩
def whi (v : Int) : Int := v / 18446744073709551616
def wlo (v : Int) : Int := v % 18446744073709551616
theorem whi_nonneg {v : Int} (h : 0 ≤ v) : 0 ≤ whi v := by unfold whi; omega
theorem wlo_nonneg (v : Int) : 0 ≤ wlo v := by unfold wlo; omega
theorem wlo_lt (v : Int) : wlo v < 18446744073709551616 := by unfold wlo; omega
theorem bl_alloc {w W : World} (h : Below w.heap.size w W) (o : Obj) : Below w.heap.size w (W.alloc o) := h.alloc h.size o
theorem bl_drew {w W : World} (h : Below w.heap.size w W) : Below w.heap.size w W.drew := h.drew
theorem bl_drewN {w W : World} (h : Below w.heap.size w W) (n : Nat) : Below w.heap.size w (W.drewN n) := ⟨h.os, h.tape, h.output, h.size, h.block⟩
theorem bl_set {w W : World} {p : Addr} {v : Value} (h : Below w.heap.size w W) (hg : w.heap.size ≤ p.block) : Below w.heap.size w (W.setCell p v) := h.setCell hg _
theorem bl_then {w w1 w2 : World} (h : Below w.heap.size w w1) (k : Below w1.heap.size w1 w2) : Below w.heap.size w w2 := h.trans (k.mono h.size)
theorem bl_cell {w w2 : World} (h : Below w.heap.size w w2) {p : Addr} {v : Value} (hc : w.cell? p = some v) : w2.cell? p = some v := (h.cell (World.block_lt_of_cell? w p hc)).trans hc
theorem bl_frozen {w w2 : World} (h : Below w.heap.size w w2) {p : Addr} (hp : p.block < w.heap.size) (hc : w.frozen? p = false) : w2.frozen? p = false := (h.frozen hp).trans hc
theorem need_ok (e : Int) (w : World) : Calls Try.prog 67 #[.bool true, .int .i64 e] w fun e w' => e = .returned (.tuple #[]) ∧ w = w' := by
  go_enter Try.func67, Try.ntmps67
  go_wp2
  go_end0
  exact ⟨rfl, rfl⟩
theorem need_b (b : Bool) (e : Int) (hb : b = true) (w : World) : Calls Try.prog 67 #[.bool b, .int .i64 e] w fun e w' => e = .returned (.tuple #[]) ∧ w = w' := by
  subst hb
  exact need_ok e w
theorem ret_i {k : IntKind} {a b : Int} (h : a = b) : Ending.returned (.int k a) = .returned (.int k b) := by rw [h]
theorem nabs_neg {n : Int} (h : n < 0) (h0 : -9223372036854775808 < n) : IntKind.u64.wrap (-IntKind.u64.wrap n) = nabs n := by
  rw [IntKind.wrap_u64, IntKind.wrap_u64]; unfold nabs; rw [if_pos h]; omega
theorem size_fix (n : Int) (h0 : -9223372036854775808 < n) (h1 : n ≤ 9223372036854775807) (w : World) : Calls Try.prog 72 #[.int .i64 n] w fun e w' => e = .returned (.int .u64 (nabs n)) ∧ w = w' := by
  by_cases h : n < 0
  · go_enter Try.func72, Try.ntmps72
    go_wp2
    go_ret
    exact ⟨ret_i (nabs_neg h h0), rfl⟩
  · go_enter Try.func72, Try.ntmps72
    go_wp2
    go_ret
    exact ⟨ret_i (by unfold nabs; rw [if_neg (by omega)]), rfl⟩
theorem size_int (n : Int) (h0 : -9223372036854775808 < n) (h1 : n ≤ 9223372036854775807) (w : World) : Calls Try.prog 73 #[.int .i64 n] w fun e w' => e = .returned (.int .u64 (nabs n)) ∧ w = w' := by
  by_cases h : n < 0
  · go_enter Try.func73, Try.ntmps73
    go_wp2
    go_ret
    exact ⟨ret_i (nabs_neg h h0), rfl⟩
  · go_enter Try.func73, Try.ntmps73
    go_wp2
    go_ret
    exact ⟨ret_i (by unfold nabs; rw [if_neg (by omega)]), rfl⟩
theorem mul64i (x y : Int) (hx0 : 0 ≤ x) (hx : x < 18446744073709551616) (hy0 : 0 ≤ y) (hy : y < 18446744073709551616) (w : World) :
    Calls Try.prog 90 #[.int .u64 x, .int .u64 y] w fun e w' => e = .returned (.tuple #[.int .u64 (whi (x * y)), .int .u64 (wlo (x * y))]) ∧ w = w' := by
  obtain ⟨a, rfl⟩ := Int.eq_ofNat_of_zero_le hx0
  obtain ⟨b, rfl⟩ := Int.eq_ofNat_of_zero_le hy0
  refine (mul64 a b (by unfold m64; omega) (by unfold m64; omega) w).mono ?_
  rintro e w' ⟨rfl, rfl⟩
  exact ⟨rfl, rfl⟩
theorem product_any (x y : Int) (hx0 : 0 ≤ x) (hx : x < 18446744073709551616) (hy0 : 0 ≤ y) (hy : y < 18446744073709551616) (w : World) :
    Calls Try.prog 69 #[.int .u64 x, .int .u64 y] w fun e w' => e = .returned (.agg #[.int .u64 (whi (x * y)), .int .u64 (wlo (x * y))]) ∧ Below w.heap.size w w' := by
  go_enter Try.func69, Try.ntmps69
  go_wp2_with ((with_reducible refine (mul64i x y (by omega) (by omega) (by omega) (by omega) _).mono ?_); rintro e w' ⟨rfl, rfl⟩)
  exact bodyPost_ret (v := .agg #[.int .u64 (whi (x * y)), .int .u64 (wlo (x * y))]) (by simp [results, Try.results69, go_sem]) rfl ⟨rfl, (Below.refl _ _).alloc (Nat.le_refl _) _⟩
theorem compare_u (x y : Int) (w : World) :
    Calls Try.prog 98 #[.int .u64 x, .int .u64 y] w fun e w' => e = .returned (.int .i64 (cmpI x y)) ∧ w = w' := by
  by_cases h : x < y
  · go_enter Try.func98, Try.ntmps98
    go_wp2
    go_ret
    exact ⟨ret_i (by unfold cmpI; rw [if_pos h]), rfl⟩
  · by_cases h2 : y < x
    · go_enter Try.func98, Try.ntmps98
      go_wp2
      go_ret
      exact ⟨ret_i (by unfold cmpI; rw [if_neg (by omega), if_neg (by omega)]), rfl⟩
    · go_enter Try.func98, Try.ntmps98
      go_wp2
      go_ret
      exact ⟨ret_i (by unfold cmpI; rw [if_neg (by omega), if_pos (by omega)]), rfl⟩
def orI (a b : Int) : Int := if a = 0 then b else a
theorem or_two (a b : Int) (bk : Nat) (w : World) (h0 : w.cell? ⟨bk, 0, none⟩ = some (.int .i64 a)) (h1 : w.cell? ⟨bk, 1, none⟩ = some (.int .i64 b)) :
    Calls Try.prog 97 #[.slice (some ⟨bk, 0, none⟩) 2 2] w fun e w' => e = .returned (.int .i64 (orI a b)) ∧ w = w' := by
  by_cases ha : a = 0
  · subst ha
    by_cases hb : b = 0
    · subst hb
      go_enter Try.func97, Try.ntmps97
      go_wp2
      refine wp_loop_rounds 3 ?_
      rw [rounds_succ]; go_wp2
      rw [rounds_succ]; go_wp2
      rw [rounds_succ]; go_wp2
      go_ret
      exact ⟨rfl, rfl⟩
    · have hb1 : (b != 0) = true := bne_iff_ne.2 hb
      go_enter Try.func97, Try.ntmps97
      go_wp2
      refine wp_loop_rounds 3 ?_
      rw [rounds_succ]; go_wp2
      rw [rounds_succ]; go_wp2
      go_ret
      exact ⟨rfl, rfl⟩
  · have ha1 : (a != 0) = true := bne_iff_ne.2 ha
    go_enter Try.func97, Try.ntmps97
    go_wp2
    refine wp_loop_rounds 3 ?_
    rw [rounds_succ]; go_wp2
    go_ret
    exact ⟨ret_i (by unfold orI; rw [if_neg ha]), rfl⟩
theorem orI_cmp (a b : Int) : orI (cmpI (whi a) (whi b)) (cmpI (wlo a) (wlo b)) = cmpI a b := by
  unfold orI cmpI whi wlo
  by_cases h1 : a / 18446744073709551616 < b / 18446744073709551616
  · rw [if_pos h1, if_neg (by omega), if_pos (by omega)]
  · rw [if_neg h1]
    by_cases h2 : a / 18446744073709551616 = b / 18446744073709551616
    · rw [if_pos h2, if_pos rfl]
      by_cases h3 : a < b
      · rw [if_pos h3, if_pos (by omega)]
      · rw [if_neg h3, if_neg (by omega)]
        by_cases h4 : a = b
        · rw [if_pos h4, if_pos (by rw [h4])]
        · rw [if_neg h4, if_neg (by omega)]
    · rw [if_neg h2, if_neg (by omega), if_neg (by omega), if_neg (by omega)]
theorem compare_g (ah al bh bl : Int) (w : World) :
    Calls Try.prog 88 #[.agg #[.int .u64 ah, .int .u64 al], .agg #[.int .u64 bh, .int .u64 bl]] w fun e w' => e = .returned (.int .i64 (orI (cmpI ah bh) (cmpI al bl))) ∧ Below w.heap.size w w' := by
  go_enter Try.func88, Try.ntmps88
  go_wp2
  go_region_held3 (fun w' => w'.cell? ⟨w.heap.size, 0, none⟩ = some (.int .u64 ah) ∧ w'.cell? ⟨w.heap.size, 1, none⟩ = some (.int .u64 al) ∧ w'.cell? ⟨w.heap.size + 1, 0, none⟩ = some (.int .u64 bh) ∧ w'.cell? ⟨w.heap.size + 1, 1, none⟩ = some (.int .u64 bl)) (go_simp)
    (first | (go_at_call 98; refine (compare_u _ _ _).mono ?_; rintro e w' ⟨rfl, rfl⟩) | (go_at_call 97; refine (or_two (cmpI ah bh) (cmpI al bl) _ _ ?h0 ?h1).mono ?_; (case h0 => go_simp); (case h1 => go_simp); rintro e w' ⟨rfl, rfl⟩))
  go_wp2
  go_ret
  exact ⟨rfl, (by repeat (first | exact Below.refl _ _ | (with_reducible assumption) | apply bl_drew | apply bl_drewN | apply bl_alloc | (refine bl_set ?_ (by go_simp))))⟩
theorem compare_w (a b : Int) (w : World) :
    Calls Try.prog 88 #[.agg #[.int .u64 (whi a), .int .u64 (wlo a)], .agg #[.int .u64 (whi b), .int .u64 (wlo b)]] w fun e w' => e = .returned (.int .i64 (cmpI a b)) ∧ Below w.heap.size w w' := by
  have h := compare_g (whi a) (wlo a) (whi b) (wlo b) w
  rw [orI_cmp] at h
  exact h
end Go.Proofs.Ytibaapaglocpjaa.B

end
section
set_option linter.unusedSimpArgs false
set_option linter.unusedVariables false
namespace Go.Proofs.Ytibaapaglocpjaa.B
open Go.RowKit Go.Shelf
set_option maxRecDepth 100000 in
theorem right_list (l : List Int) (b : Nat) (c : Nat) (w : World) (hn : l.length ≤ 100) (hc : ∀ i, i < l.length → w.cell? ⟨b, i, none⟩ = some (.int .i64 (l.getD i 0))) (hv : ∀ i, i < l.length → okFix (l.getD i 0)) :
    Calls Try.prog 66 #[.slice (some ⟨b, 0, none⟩) l.length c] w fun e w' => e = .returned (.tuple #[]) ∧ w = w' := by
  have HC := Kp.mk hc
  have HV := Kp.mk hv
  clear hc hv
  go_enter Try.func66, Try.ntmps66
  go_wp2
  go_loop [6] (fun i => ∃ k : Nat, k ≤ l.length ∧ i = .int .i64 k) (fun i => l.length - (intOf i).toNat)
  case atStart => exact ⟨0, Nat.zero_le _, rfl⟩
  case round =>
    obtain ⟨k, hk, rfl⟩ := hrel
    by_cases hlt : k < l.length
    · have hcell := HC.out k hlt
      obtain ⟨v0, v1⟩ := HV.out k hlt
      generalize l.getD k 0 = v at hcell v0 v1
      clear HC HV
      go_wp2_with (go_at_call 67; refine (need_ok _ _).mono ?_; rintro e w' ⟨rfl, rfl⟩)
      go_round
      case rel => exact ⟨k + 1, by omega, by go_num⟩
      case measure => simp [intOf]; omega
    · go_wp2
      go_end0
      exact ⟨rfl, rfl⟩
theorem right_1 (a : Int) (bk c : Nat) (w : World) (ha : okFix a) (h0 : w.cell? ⟨bk, 0, none⟩ = some (.int .i64 a)) :
    Calls Try.prog 66 #[.slice (some ⟨bk, 0, none⟩) 1 c] w fun e w' => e = .returned (.tuple #[]) ∧ w = w' :=
  right_list [a] bk c w (by simp) (fun i hi => by
    match i, hi with
    | 0, _ => exact h0) (fun i hi => by
    match i, hi with
    | 0, _ => exact ha)
theorem right_2 (a b : Int) (bk c : Nat) (w : World) (ha : okFix a) (hb : okFix b) (h0 : w.cell? ⟨bk, 0, none⟩ = some (.int .i64 a)) (h1 : w.cell? ⟨bk, 1, none⟩ = some (.int .i64 b)) :
    Calls Try.prog 66 #[.slice (some ⟨bk, 0, none⟩) 2 c] w fun e w' => e = .returned (.tuple #[]) ∧ w = w' :=
  right_list [a, b] bk c w (by simp) (fun i hi => by
    match i, hi with
    | 0, _ => exact h0
    | 1, _ => exact h1) (fun i hi => by
    match i, hi with
    | 0, _ => exact ha
    | 1, _ => exact hb)
theorem right_3 (a b d : Int) (bk c : Nat) (w : World) (ha : okFix a) (hb : okFix b) (hd : okFix d) (h0 : w.cell? ⟨bk, 0, none⟩ = some (.int .i64 a)) (h1 : w.cell? ⟨bk, 1, none⟩ = some (.int .i64 b)) (h2 : w.cell? ⟨bk, 2, none⟩ = some (.int .i64 d)) :
    Calls Try.prog 66 #[.slice (some ⟨bk, 0, none⟩) 3 c] w fun e w' => e = .returned (.tuple #[]) ∧ w = w' :=
  right_list [a, b, d] bk c w (by simp) (fun i hi => by
    match i, hi with
    | 0, _ => exact h0
    | 1, _ => exact h1
    | 2, _ => exact h2) (fun i hi => by
    match i, hi with
    | 0, _ => exact ha
    | 1, _ => exact hb
    | 2, _ => exact hd)
theorem right_4 (a b d f : Int) (bk c : Nat) (w : World) (ha : okFix a) (hb : okFix b) (hd : okFix d) (hf : okFix f) (h0 : w.cell? ⟨bk, 0, none⟩ = some (.int .i64 a)) (h1 : w.cell? ⟨bk, 1, none⟩ = some (.int .i64 b)) (h2 : w.cell? ⟨bk, 2, none⟩ = some (.int .i64 d)) (h3 : w.cell? ⟨bk, 3, none⟩ = some (.int .i64 f)) :
    Calls Try.prog 66 #[.slice (some ⟨bk, 0, none⟩) 4 c] w fun e w' => e = .returned (.tuple #[]) ∧ w = w' :=
  right_list [a, b, d, f] bk c w (by simp) (fun i hi => by
    match i, hi with
    | 0, _ => exact h0
    | 1, _ => exact h1
    | 2, _ => exact h2
    | 3, _ => exact h3) (fun i hi => by
    match i, hi with
    | 0, _ => exact ha
    | 1, _ => exact hb
    | 2, _ => exact hd
    | 3, _ => exact hf)
theorem ways_0 (w : World) : Calls Try.prog 64 #[.int .i64 0] w fun e w' => e = .returned (.func (.func 82) #[] #[]) ∧ w = w' := by
  go_enter Try.func64, Try.ntmps64
  go_wp2
  go_ret
  exact ⟨rfl, rfl⟩
theorem ways_1 (w : World) : Calls Try.prog 64 #[.int .i64 1] w fun e w' => e = .returned (.func (.func 83) #[] #[]) ∧ w = w' := by
  go_enter Try.func64, Try.ntmps64
  go_wp2
  go_ret
  exact ⟨rfl, rfl⟩
theorem ways_2 (w : World) : Calls Try.prog 64 #[.int .i64 2] w fun e w' => e = .returned (.func (.func 84) #[] #[]) ∧ w = w' := by
  go_enter Try.func64, Try.ntmps64
  go_wp2
  go_ret
  exact ⟨rfl, rfl⟩
theorem ways_3 (w : World) : Calls Try.prog 64 #[.int .i64 3] w fun e w' => e = .returned (.func (.func 85) #[] #[]) ∧ w = w' := by
  go_enter Try.func64, Try.ntmps64
  go_wp2
  go_ret
  exact ⟨rfl, rfl⟩
def wayOf (how : Nat) : Nat := if how = 0 then 82 else if how = 1 then 83 else if how = 2 then 84 else 85
theorem ways_any (how : Nat) (h : how < 4) (w : World) : Calls Try.prog 64 #[.int .i64 how] w fun e w' => e = .returned (.func (.func (wayOf how)) #[] #[]) ∧ w = w' := by
  have : how = 0 ∨ how = 1 ∨ how = 2 ∨ how = 3 := by omega
  rcases this with rfl | rfl | rfl | rfl
  · exact ways_0 w
  · exact ways_1 w
  · exact ways_2 w
  · exact ways_3 w
theorem way_any (how : Nat) (h : how < 4) (half : Int) (neg : Bool) (w : World) : Calls Try.prog (wayOf how) #[.int .i64 half, .bool neg] w fun e w' => e = .returned (.bool (rnd how half neg)) ∧ w = w' := by
  have : how = 0 ∨ how = 1 ∨ how = 2 ∨ how = 3 := by omega
  rcases this with rfl | rfl | rfl | rfl
  · show Calls Try.prog 82 _ _ _
    go_enter Try.func82, Try.ntmps82
    go_wp2
    go_ret
    exact ⟨rfl, rfl⟩
  · show Calls Try.prog 83 _ _ _
    go_enter Try.func83, Try.ntmps83
    go_wp2
    go_ret
    exact ⟨rfl, rfl⟩
  · show Calls Try.prog 84 _ _ _
    go_enter Try.func84, Try.ntmps84
    go_wp2
    go_ret
    exact ⟨rfl, rfl⟩
  · show Calls Try.prog 85 _ _ _
    go_enter Try.func85, Try.ntmps85
    go_wp2
    go_ret
    exact ⟨rfl, rfl⟩
theorem enters_way (how : Nat) (h : how < 4) : ∀ args w, (callFunc (wayOf how) args).run Try.prog w = .ok (.enter (wayOf how) args) w := by
  have : how = 0 ∨ how = 1 ∨ how = 2 ∨ how = 3 := by omega
  rcases this with rfl | rfl | rfl | rfl
  · exact enters_of Try.func82 (by kernel_rfl) rfl
  · exact enters_of Try.func83 (by kernel_rfl) rfl
  · exact enters_of Try.func84 (by kernel_rfl) rfl
  · exact enters_of Try.func85 (by kernel_rfl) rfl
end Go.Proofs.Ytibaapaglocpjaa.B

end
section
set_option linter.unusedSimpArgs false
set_option linter.unusedVariables false
namespace Go.Proofs.Ytibaapaglocpjaa.B
open Go.RowKit Go.Shelf
theorem signed_any (n : Int) (neg : Bool) (h0 : 0 ≤ n) (h1 : n ≤ 70368744177664) (w : World) :
    Calls Try.prog 89 #[.int .u64 n, .bool neg] w fun e w' => e = .returned (.int .i64 (if neg = true then -n else n)) ∧ w = w' := by
  cases neg
  · go_enter Try.func89, Try.ntmps89
    go_wp2_with (go_at_call 67; refine (need_ok _ _).mono ?_; rintro e w' ⟨rfl, rfl⟩)
    go_ret
    exact ⟨rfl, rfl⟩
  · go_enter Try.func89, Try.ntmps89
    go_wp2_with (go_at_call 67; refine (need_ok _ _).mono ?_; rintro e w' ⟨rfl, rfl⟩)
    go_ret
    exact ⟨rfl, rfl⟩
theorem add64 (x y c : Int) (hx : 0 ≤ x) (hy : 0 ≤ y) (hc0 : 0 ≤ c) (hc : c ≤ 1) (w : World) :
    (callFunc 100 #[.int .u64 x, .int .u64 y, .int .u64 c]).run Try.prog w = .ok (.value (.tuple #[.int .u64 ((x + y + c) % 18446744073709551616), .int .u64 ((x + y + c) / 18446744073709551616)])) w := by
  rw [run_callFunc_extern Try.func100 (by kernel_rfl) (by kernel_rfl) (by kernel_rfl) (e := add64Entry) (by kernel_rfl), run_add64 x y c hx hy hc0 hc]
  simp only [Result.andThen]
theorem plus_parts (a b : Int) (ha : 0 ≤ a) (hb : 0 ≤ b) (hs : a + b < 340282366920938463463374607431768211456) :
    (wlo a + wlo b + 0) % 18446744073709551616 = wlo (a + b) ∧ (whi a + whi b + (wlo a + wlo b + 0) / 18446744073709551616) % 18446744073709551616 = whi (a + b) := by
  unfold wlo whi
  constructor <;> omega
theorem carry_bd (a b : Int) : 0 ≤ (wlo a + wlo b + 0) / 18446744073709551616 ∧ (wlo a + wlo b + 0) / 18446744073709551616 ≤ 1 := by
  unfold wlo
  omega
theorem plus_w (a b : Int) (ha : 0 ≤ a) (hb : 0 ≤ b) (hs : a + b < 340282366920938463463374607431768211456) (w : World) :
    Calls Try.prog 92 #[.agg #[.int .u64 (whi a), .int .u64 (wlo a)], .agg #[.int .u64 (whi b), .int .u64 (wlo b)]] w fun e w' => e = .returned (.agg #[.int .u64 (whi (a + b)), .int .u64 (wlo (a + b))]) ∧ Below w.heap.size w w' := by
  obtain ⟨p1, p2⟩ := plus_parts a b ha hb hs
  obtain ⟨c0, c1⟩ := carry_bd a b
  have g0 := whi_nonneg ha
  have g1 := whi_nonneg hb
  have g2 := wlo_nonneg a
  have g3 := wlo_nonneg b
  have e1 := fun W => add64 (wlo a) (wlo b) 0 g2 g3 (Int.le_refl _) (by omega) W
  have e2 := fun W => add64 (whi a) (whi b) _ g0 g1 c0 c1 W
  rw [p2] at e2
  rw [p1] at e1
  generalize (wlo a + wlo b + 0) / 18446744073709551616 = c at e1 e2
  clear p1 p2 c0 c1
  go_enter Try.func92, Try.ntmps92
  go_wp2
  exact bodyPost_ret (v := .agg #[.int .u64 (whi (a + b)), .int .u64 (wlo (a + b))]) (by simp [results, Try.results92, go_sem]) rfl ⟨rfl, (by repeat (first | exact Below.refl _ _ | (with_reducible assumption) | apply bl_drew | apply bl_drewN | apply bl_alloc | (refine bl_set ?_ (by go_simp))))⟩
def SomeWide (w : World) (e : Ending) (w' : World) : Prop := ∃ x y : Int, e = .returned (.agg #[.int .u64 x, .int .u64 y]) ∧ Below w.heap.size w w'
theorem up_2 (x y : Int) (w : World) : Calls Try.prog 87 #[.agg #[.int .u64 x, .int .u64 y], .int .u64 2] w (SomeWide w) := by
  go_enter Try.func87, Try.ntmps87
  go_wp2
  exact bodyPost_ret (v := .agg #[.int .u64 (bits .or .u64 (IntKind.u64.wrap (x * 4)) (y / 4611686018427387904)), .int .u64 (IntKind.u64.wrap (y * 4))]) (by simp [results, Try.results87, go_sem]) rfl ⟨_, _, rfl, (by repeat (first | exact Below.refl _ _ | (with_reducible assumption) | apply bl_drew | apply bl_drewN | apply bl_alloc | (refine bl_set ?_ (by go_simp))))⟩
theorem product_small (x y : Int) (hx0 : 0 ≤ x) (hx : x < 18446744073709551616) (hy0 : 0 ≤ y) (hy : y < 18446744073709551616) (h : x * y < 18446744073709551616) (w : World) :
    Calls Try.prog 69 #[.int .u64 x, .int .u64 y] w fun e w' => e = .returned (.agg #[.int .u64 0, .int .u64 (x * y)]) ∧ Below w.heap.size w w' := by
  have h0 : 0 ≤ x * y := Int.mul_nonneg hx0 hy0
  have := product_any x y hx0 hx hy0 hy w
  have e1 : whi (x * y) = 0 := by unfold whi; omega
  have e2 : wlo (x * y) = x * y := by unfold wlo; omega
  rw [e1, e2] at this
  exact this
theorem ret_2 {k l : IntKind} {x y x' y' : Int} (h1 : x = x') (h2 : y = y') : Ending.returned (.tuple #[.int k x, .int l y]) = .returned (.tuple #[.int k x', .int l y']) := by rw [h1, h2]
theorem quo_u {a d : Int} (ha : 0 ≤ a) (ha1 : a < 18446744073709551616) (hd : 0 < d) : IntKind.u64.wrap (a.tdiv d) = a / d := by
  rw [Int.tdiv_eq_ediv_of_nonneg ha, IntKind.wrap_u64]
  have h0 : 0 ≤ a / d := Int.ediv_nonneg ha (by omega)
  have h1 : a / d ≤ a := Int.ediv_le_self _ ha
  omega
theorem div64_0 (a d : Int) (ha : 0 ≤ a) (ha1 : a < 18446744073709551616) (hd : 0 < d) (w : World) :
    Calls Try.prog 99 #[.int .u64 0, .int .u64 a, .int .u64 d] w fun e w' => e = .returned (.tuple #[.int .u64 (a / d), .int .u64 (a % d)]) ∧ Below w.heap.size w w' := by
  have hd0 : ¬ d = 0 := by omega
  have hd1 : (d == 0) = false := beq_eq_false_iff_ne.2 hd0
  have hd2 : decide (d ≤ 0) = false := decide_eq_false (by omega)
  go_enter Try.func99, Try.ntmps99
  go_wp2
  go_quiet (fail)
  go_wp2
  go_ret2
  exact ⟨rfl, (by repeat (first | exact Below.refl _ _ | (with_reducible assumption) | apply bl_drew | apply bl_drewN | apply bl_alloc | (refine bl_set ?_ (by go_simp))))⟩
theorem over_0 (a d : Int) (ha : 0 ≤ a) (ha1 : a < 18446744073709551616) (hd : 0 < d) (w : World) :
    Calls Try.prog 91 #[.agg #[.int .u64 0, .int .u64 a], .int .u64 d] w fun e w' => e = .returned (.tuple #[.int .u64 (a / d), .int .u64 (a % d), .bool true]) ∧ Below w.heap.size w w' := by
  have hd2 : decide (d ≤ 0) = false := decide_eq_false (by omega)
  go_enter Try.func91, Try.ntmps91
  go_wp2_with (go_at_call 99; refine (div64_0 a d ha ha1 hd _).mono ?_; rintro e w' ⟨rfl, hb'⟩; have hb := Kp.mk hb'; clear hb')
  go_ret3
  exact ⟨rfl, bl_then (by repeat (first | exact Below.refl _ _ | (with_reducible assumption) | apply bl_drew | apply bl_drewN | apply bl_alloc | (refine bl_set ?_ (by go_simp)))) hb.out⟩
theorem plus_small (a b : Int) (ha : 0 ≤ a) (hb : 0 ≤ b) (h : a + b < 18446744073709551616) (w : World) :
    Calls Try.prog 92 #[.agg #[.int .u64 0, .int .u64 a], .agg #[.int .u64 0, .int .u64 b]] w fun e w' => e = .returned (.agg #[.int .u64 0, .int .u64 (a + b)]) ∧ Below w.heap.size w w' := by
  have := plus_w a b ha hb (by omega) w
  have f : ∀ x : Int, 0 ≤ x → x < 18446744073709551616 → whi x = 0 ∧ wlo x = x := fun x h0 h1 => by unfold whi wlo; omega
  rw [(f a ha (by omega)).1, (f a ha (by omega)).2, (f b hb (by omega)).1, (f b hb (by omega)).2, (f (a + b) (by omega) h).1, (f (a + b) (by omega) h).2] at this
  exact this
theorem compare_small (a b : Int) (w : World) :
    Calls Try.prog 88 #[.agg #[.int .u64 0, .int .u64 a], .agg #[.int .u64 0, .int .u64 b]] w fun e w' => e = .returned (.int .i64 (cmpI a b)) ∧ Below w.heap.size w w' := compare_g 0 a 0 b w
set_option maxRecDepth 100000 in
theorem quotient_0 (a d : Int) (neg : Bool) (how : Nat) (hh : how < 4) (ha : 0 ≤ a) (ha1 : a < 18446744073709551616) (hd : 0 < d) (hd1 : d < 4611686018427387904) (hq : a / d + 1 ≤ 70368744177664) (w : World) :
    Calls Try.prog 71 #[.agg #[.int .u64 0, .int .u64 a], .int .u64 d, .bool neg, .func (.func (wayOf how)) #[] #[]] w fun e w' => e = .returned (.int .i64 (sgn neg (quoR a d neg how))) ∧ Below w.heap.size w w' := by
  have eg := enters_way how hh
  have hq0 : 0 ≤ a / d := Int.ediv_nonneg ha (by omega)
  have hr0 : 0 ≤ a % d := Int.emod_nonneg _ (by omega)
  have hr1 : a % d < d := Int.emod_lt_of_pos _ hd
  have HO := fun W => Kp.mk (over_0 a d ha ha1 hd W)
  have HQ : Kp (quoR a d neg how = a / d + if 0 < a % d ∧ rnd how (cmpI (a % d + a % d) d) neg = true then 1 else 0) := ⟨rfl⟩
  have HS : Kp (∀ n, (if neg = true then -n else n) = sgn neg n) := ⟨fun _ => rfl⟩
  generalize quoR a d neg how = Q at HQ ⊢
  generalize a / d = q at *
  generalize a % d = r at *
  clear ha ha1
  by_cases hr : 0 < r
  · have hrb : decide (0 < r) = true := decide_eq_true hr
    have HR : Kp (∃ b, rnd how (cmpI (r + r) d) neg = b) := ⟨_, rfl⟩
    obtain ⟨b, hb⟩ := HR.out
    clear HR
    have HB := Kp.mk hb
    clear hb
    cases b with
    | true =>
      have HQ' : Kp (Q = q + 1) := ⟨by rw [HQ.out, if_pos ⟨hr, HB.out⟩]⟩
      clear HQ
      go_enter Try.func71, Try.ntmps71
      go_wp2_with (first | (go_at_call 91; (with_reducible refine ((HO _).out).mono ?_); rintro e w1 ⟨rfl, hb1'⟩; have hb1 := Kp.mk hb1'; clear hb1') | (go_at_call 67; (with_reducible refine (need_b _ _ ?hb _).mono ?_); (case hb => exact decide_eq_true (by omega)); rintro e w' ⟨rfl, rfl⟩) | (go_at_call 92; (with_reducible refine (plus_small r r hr0 hr0 (by omega) _).mono ?_); rintro e w2 ⟨rfl, hb2'⟩; have hb2 := Kp.mk hb2'; clear hb2') | (go_at_call 88; (with_reducible refine (compare_small (r + r) d _).mono ?_); rintro e w3 ⟨rfl, hb3'⟩; have hb3 := Kp.mk hb3'; clear hb3') | ((with_reducible refine (way_any how hh (cmpI (r + r) d) neg _).mono ?_); rintro e w' ⟨rfl, rfl⟩; rw [HB.out]) | (go_at_call 89; (with_reducible refine (signed_any (q + 1) neg (by omega) (by omega) _).mono ?_); rintro e w' ⟨rfl, rfl⟩; rw [HS.out]))
      go_ret
      exact ⟨by rw [HQ'.out]; rfl, bl_then (bl_then (bl_then (by repeat (first | exact Below.refl _ _ | (with_reducible assumption) | apply bl_drew | apply bl_drewN | apply bl_alloc | (refine bl_set ?_ (by go_simp)))) hb1.out) hb2.out) hb3.out⟩
    | false =>
      have HQ' : Kp (Q = q) := ⟨by rw [HQ.out, if_neg (fun h => by rw [HB.out] at h; exact Bool.false_ne_true h.2), Int.add_zero]⟩
      clear HQ
      go_enter Try.func71, Try.ntmps71
      go_wp2_with (first | (go_at_call 91; (with_reducible refine ((HO _).out).mono ?_); rintro e w1 ⟨rfl, hb1'⟩; have hb1 := Kp.mk hb1'; clear hb1') | (go_at_call 67; (with_reducible refine (need_b _ _ ?hb _).mono ?_); (case hb => exact decide_eq_true (by omega)); rintro e w' ⟨rfl, rfl⟩) | (go_at_call 92; (with_reducible refine (plus_small r r hr0 hr0 (by omega) _).mono ?_); rintro e w2 ⟨rfl, hb2'⟩; have hb2 := Kp.mk hb2'; clear hb2') | (go_at_call 88; (with_reducible refine (compare_small (r + r) d _).mono ?_); rintro e w3 ⟨rfl, hb3'⟩; have hb3 := Kp.mk hb3'; clear hb3') | ((with_reducible refine (way_any how hh (cmpI (r + r) d) neg _).mono ?_); rintro e w' ⟨rfl, rfl⟩; rw [HB.out]) | (go_at_call 89; (with_reducible refine (signed_any q neg (by omega) (by omega) _).mono ?_); rintro e w' ⟨rfl, rfl⟩; rw [HS.out]))
      go_ret
      exact ⟨by rw [HQ'.out]; rfl, bl_then (bl_then (bl_then (by repeat (first | exact Below.refl _ _ | (with_reducible assumption) | apply bl_drew | apply bl_drewN | apply bl_alloc | (refine bl_set ?_ (by go_simp)))) hb1.out) hb2.out) hb3.out⟩
  · have hrb : decide (0 < r) = false := decide_eq_false hr
    have HQ' : Kp (Q = q) := ⟨by rw [HQ.out, if_neg (fun h => hr h.1), Int.add_zero]⟩
    clear HQ
    go_enter Try.func71, Try.ntmps71
    go_wp2_with (first | (go_at_call 91; (with_reducible refine ((HO _).out).mono ?_); rintro e w1 ⟨rfl, hb1'⟩; have hb1 := Kp.mk hb1'; clear hb1') | (go_at_call 67; (with_reducible refine (need_b _ _ ?hb _).mono ?_); (case hb => exact decide_eq_true (by omega)); rintro e w' ⟨rfl, rfl⟩) | (go_at_call 92; (with_reducible refine (plus_small r r hr0 hr0 (by omega) _).mono ?_); rintro e w2 ⟨rfl, hb2'⟩; have hb2 := Kp.mk hb2'; clear hb2') | (go_at_call 88; (with_reducible refine (compare_small (r + r) d _).mono ?_); rintro e w3 ⟨rfl, hb3'⟩; have hb3 := Kp.mk hb3'; clear hb3') | ((with_reducible refine (way_any how hh (cmpI (r + r) d) neg _).mono ?_); rintro e w' ⟨rfl, rfl⟩; skip) | (go_at_call 89; (with_reducible refine (signed_any q neg (by omega) (by omega) _).mono ?_); rintro e w' ⟨rfl, rfl⟩; rw [HS.out]))
    go_ret
    exact ⟨by rw [HQ'.out]; rfl, bl_then (by repeat (first | exact Below.refl _ _ | (with_reducible assumption) | apply bl_drew | apply bl_drewN | apply bl_alloc | (refine bl_set ?_ (by go_simp)))) hb1.out⟩
end Go.Proofs.Ytibaapaglocpjaa.B

end
section
set_option linter.unusedSimpArgs false
set_option linter.unusedVariables false
namespace Go.Proofs.Ytibaapaglocpjaa.B
open Go.RowKit Go.Shelf
theorem hmf (fn : Fn) (first cap : Array Value) (w : World) : (Instr.makeFunc fn first cap).run Try.prog w = .ok (.func fn first cap) w := rfl
theorem hta (W : World) : (Instr.typeAssert .nilIface 20 118 true).run Try.prog W = .ok (.tuple #[.agg #[.int .i64 0], .bool false]) W := by kernel_rfl
theorem hne (W : World) : (binOp .neq 20 .nilIface .nilIface).run Try.prog W = .ok (.bool false) W := by kernel_rfl
set_option maxRecDepth 100000 in
theorem tried_fix_idle (p q : Addr) (w : World) :
    CallsD Try.prog 81 #[.pointer (some p), .pointer (some q)] .returning w fun e u' w' => e = .returned (.tuple #[]) ∧ u' = .returning ∧ Below w.heap.size w w' := by
  have ht := hta
  have hn := hne
  refine callsD_of_wpS Try.func81 rfl fun c₀ cs hu => ?_
  apply wpS_seq
  apply wpS_region
  simp [wpOpsS, go_sem, recoverD, hu, Try.ntmps81, Exit.thenS]
  refine wpS_of_wp ?_
  simp only [Array.replicate_succ, Array.replicate_zero, List.push_toArray, List.append_toArray, List.setIfInBounds_toArray, List.set_cons_succ, List.set_cons_zero, List.nil_append, List.cons_append]
  go_wp2
  exact ⟨rfl, .returning, by rw [← hu], _, results_none rfl _ _ _, rfl, rfl, (by repeat (first | exact Below.refl _ _ | (with_reducible assumption) | apply bl_drew | apply bl_drewN | apply bl_alloc | (refine bl_set ?_ (by go_simp))))⟩
set_option maxRecDepth 100000 in
theorem tried_int_idle (p q : Addr) (w : World) :
    CallsD Try.prog 103 #[.pointer (some p), .pointer (some q)] .returning w fun e u' w' => e = .returned (.tuple #[]) ∧ u' = .returning ∧ Below w.heap.size w w' := by
  have ht := hta
  have hn := hne
  refine callsD_of_wpS Try.func103 rfl fun c₀ cs hu => ?_
  apply wpS_seq
  apply wpS_region
  simp [wpOpsS, go_sem, recoverD, hu, Try.ntmps103, Exit.thenS]
  refine wpS_of_wp ?_
  simp only [Array.replicate_succ, Array.replicate_zero, List.push_toArray, List.append_toArray, List.setIfInBounds_toArray, List.set_cons_succ, List.set_cons_zero, List.nil_append, List.cons_append]
  go_wp2
  exact ⟨rfl, .returning, by rw [← hu], _, results_none rfl _ _ _, rfl, rfl, (by repeat (first | exact Below.refl _ _ | (with_reducible assumption) | apply bl_drew | apply bl_drewN | apply bl_alloc | (refine bl_set ?_ (by go_simp))))⟩
set_option maxRecDepth 100000 in
theorem tried_spot_idle (p q : Addr) (w : World) :
    CallsD Try.prog 106 #[.pointer (some p), .pointer (some q)] .returning w fun e u' w' => e = .returned (.tuple #[]) ∧ u' = .returning ∧ Below w.heap.size w w' := by
  have ht := hta
  have hn := hne
  refine callsD_of_wpS Try.func106 rfl fun c₀ cs hu => ?_
  apply wpS_seq
  apply wpS_region
  simp [wpOpsS, go_sem, recoverD, hu, Try.ntmps106, Exit.thenS]
  refine wpS_of_wp ?_
  simp only [Array.replicate_succ, Array.replicate_zero, List.push_toArray, List.append_toArray, List.setIfInBounds_toArray, List.set_cons_succ, List.set_cons_zero, List.nil_append, List.cons_append]
  go_wp2
  exact ⟨rfl, .returning, by rw [← hu], _, results_none rfl _ _ _, rfl, rfl, (by repeat (first | exact Below.refl _ _ | (with_reducible assumption) | apply bl_drew | apply bl_drewN | apply bl_alloc | (refine bl_set ?_ (by go_simp))))⟩
set_option maxRecDepth 100000 in
theorem tried_fix (k : Nat) (cap : Array Value) (v : Int) (w : World) (eg0 : Enters Try.prog k)
    (hdo : ∀ W, Below w.heap.size w W → Calls Try.prog k cap W fun e w' => e = .returned (.int .i64 v) ∧ Below W.heap.size W w') :
    Calls Try.prog 61 #[.func (.func k) #[] cap] w fun e w' => e = .returned (.tuple #[.int .i64 v, .int .i64 0]) ∧ Below w.heap.size w w' := by
  have eg : ∀ args w, (callFunc k args).run Try.prog w = .ok (.enter k args) w := eg0
  clear eg0
  have hm := hmf
  have HD := Kp.mk hdo
  clear hdo
  go_enter_defers Try.func61, Try.ntmps61
  go_wp2_with ((with_reducible refine (HD.out _ ?hb).mono ?_); (case hb => exact (by repeat (first | exact Below.refl _ _ | (with_reducible assumption) | apply bl_drew | apply bl_drewN | apply bl_alloc | (refine bl_set ?_ (by go_simp))))); rintro e w1 ⟨rfl, hb1⟩; have hc1 : w1.cell? ⟨w.heap.size, 0, none⟩ = some (.int .i64 0) := (hb1.cell (p := ⟨w.heap.size, 0, none⟩) (by simp; omega)).trans (by go_simp); have hf1 : w1.frozen? ⟨w.heap.size, 0, none⟩ = false := (hb1.frozen (p := ⟨w.heap.size, 0, none⟩) (by simp; omega)).trans (by go_simp); have hc2 : w1.cell? ⟨w.heap.size + 1, 0, none⟩ = some (.int .i64 0) := (hb1.cell (p := ⟨w.heap.size + 1, 0, none⟩) (by simp)).trans (by go_simp); have hf2 : w1.frozen? ⟨w.heap.size + 1, 0, none⟩ = false := (hb1.frozen (p := ⟨w.heap.size + 1, 0, none⟩) (by simp)).trans (by go_simp); have HB := Kp.mk (bl_then (by repeat (first | exact Below.refl _ _ | (with_reducible assumption) | apply bl_drew | apply bl_drewN | apply bl_alloc | (refine bl_set ?_ (by go_simp)))) hb1 : Below w.heap.size w w1); clear hb1)
  refine leaves_cons (f := 81) (args := #[.pointer (some ⟨w.heap.size, 0, none⟩), .pointer (some ⟨w.heap.size + 1, 0, none⟩)]) (by simp) (by simp [go_sem]) ?_
  refine (tried_fix_idle ⟨w.heap.size, 0, none⟩ ⟨w.heap.size + 1, 0, none⟩ _).mono ?_
  rintro e u' w'' ⟨rfl, rfl, hb2⟩
  have hsz := HB.out.size
  have hlt : w.heap.size + 1 < w1.heap.size := World.block_lt_of_cell? w1 _ hc2
  have hd1 : w''.cell? ⟨w.heap.size, 0, none⟩ = some (.int .i64 v) := (hb2.cell (p := ⟨w.heap.size, 0, none⟩) (by simp; omega)).trans (by go_simp)
  have hd2 : w''.cell? ⟨w.heap.size + 1, 0, none⟩ = some (.int .i64 0) := (hb2.cell (p := ⟨w.heap.size + 1, 0, none⟩) (by simp; omega)).trans (by go_simp)
  have hbw : Below w.heap.size w w'' := bl_then (bl_set (bl_set HB.out (Nat.le_refl _)) (Nat.le_succ _)) hb2
  simp [Leaves, settle, results, Try.results61, go_sem, hd1, hd2, hbw]
set_option maxRecDepth 100000 in
theorem tried_int (k : Nat) (cap : Array Value) (v : Int) (w : World) (eg0 : Enters Try.prog k)
    (hdo : ∀ W, Below w.heap.size w W → Calls Try.prog k cap W fun e w' => e = .returned (.int .i64 v) ∧ Below W.heap.size W w') :
    Calls Try.prog 95 #[.func (.func k) #[] cap] w fun e w' => e = .returned (.tuple #[.int .i64 v, .int .i64 0]) ∧ Below w.heap.size w w' := by
  have eg : ∀ args w, (callFunc k args).run Try.prog w = .ok (.enter k args) w := eg0
  clear eg0
  have hm := hmf
  have HD := Kp.mk hdo
  clear hdo
  go_enter_defers Try.func95, Try.ntmps95
  go_wp2_with ((with_reducible refine (HD.out _ ?hb).mono ?_); (case hb => exact (by repeat (first | exact Below.refl _ _ | (with_reducible assumption) | apply bl_drew | apply bl_drewN | apply bl_alloc | (refine bl_set ?_ (by go_simp))))); rintro e w1 ⟨rfl, hb1⟩; have hc1 : w1.cell? ⟨w.heap.size, 0, none⟩ = some (.int .i64 0) := (hb1.cell (p := ⟨w.heap.size, 0, none⟩) (by simp; omega)).trans (by go_simp); have hf1 : w1.frozen? ⟨w.heap.size, 0, none⟩ = false := (hb1.frozen (p := ⟨w.heap.size, 0, none⟩) (by simp; omega)).trans (by go_simp); have hc2 : w1.cell? ⟨w.heap.size + 1, 0, none⟩ = some (.int .i64 0) := (hb1.cell (p := ⟨w.heap.size + 1, 0, none⟩) (by simp)).trans (by go_simp); have hf2 : w1.frozen? ⟨w.heap.size + 1, 0, none⟩ = false := (hb1.frozen (p := ⟨w.heap.size + 1, 0, none⟩) (by simp)).trans (by go_simp); have HB := Kp.mk (bl_then (by repeat (first | exact Below.refl _ _ | (with_reducible assumption) | apply bl_drew | apply bl_drewN | apply bl_alloc | (refine bl_set ?_ (by go_simp)))) hb1 : Below w.heap.size w w1); clear hb1)
  refine leaves_cons (f := 103) (args := #[.pointer (some ⟨w.heap.size, 0, none⟩), .pointer (some ⟨w.heap.size + 1, 0, none⟩)]) (by simp) (by simp [go_sem]) ?_
  refine (tried_int_idle ⟨w.heap.size, 0, none⟩ ⟨w.heap.size + 1, 0, none⟩ _).mono ?_
  rintro e u' w'' ⟨rfl, rfl, hb2⟩
  have hsz := HB.out.size
  have hlt : w.heap.size + 1 < w1.heap.size := World.block_lt_of_cell? w1 _ hc2
  have hd1 : w''.cell? ⟨w.heap.size, 0, none⟩ = some (.int .i64 v) := (hb2.cell (p := ⟨w.heap.size, 0, none⟩) (by simp; omega)).trans (by go_simp)
  have hd2 : w''.cell? ⟨w.heap.size + 1, 0, none⟩ = some (.int .i64 0) := (hb2.cell (p := ⟨w.heap.size + 1, 0, none⟩) (by simp; omega)).trans (by go_simp)
  have hbw : Below w.heap.size w w'' := bl_then (bl_set (bl_set HB.out (Nat.le_refl _)) (Nat.le_succ _)) hb2
  simp [Leaves, settle, results, Try.results95, go_sem, hd1, hd2, hbw]
end Go.Proofs.Ytibaapaglocpjaa.B

end
section
set_option linter.unusedSimpArgs false
set_option linter.unusedVariables false
namespace Go.Proofs.Ytibaapaglocpjaa.B
open Go.RowKit Go.Shelf
set_option maxRecDepth 100000 in
theorem mul_any (a b : Int) (how : Nat) (hh : how < 4) (ha : okFix a) (hb : okFix b) (hm : nabs a * nabs b < 4611686018427322368) (w : World) :
    Calls Try.prog 63 #[.int .i64 a, .int .i64 b, .func (.func (wayOf how)) #[] #[]] w fun e w' => e = .returned (.int .i64 (mulF a b how)) ∧ Below w.heap.size w w' := by
  obtain ⟨ha0, ha1⟩ := ha
  obtain ⟨hb0, hb1⟩ := hb
  have na := nabs_nonneg a
  have nb := nabs_nonneg b
  have na1 : nabs a < 18446744073709551616 := by unfold nabs; split <;> omega
  have nb1 : nabs b < 18446744073709551616 := by unfold nabs; split <;> omega
  have hp0 : 0 ≤ nabs a * nabs b := Int.mul_nonneg na nb
  have HP := fun W => Kp.mk (product_small (nabs a) (nabs b) na na1 nb nb1 (by omega) W)
  have HQ := fun W => Kp.mk (quotient_0 (nabs a * nabs b) 65536 (negOf a b) how hh hp0 (by omega) (by omega) (by omega) (by omega) W)
  have HN : Kp (negOf a b = (!(decide (a < 0) == decide (b < 0)))) := ⟨rfl⟩
  have HA : Kp (okFix a ∧ okFix b) := ⟨⟨⟨ha0, ha1⟩, ⟨hb0, hb1⟩⟩⟩
  show Calls Try.prog 63 _ w fun e w' => e = .returned (.int .i64 (sgn (negOf a b) (quoR (nabs a * nabs b) 65536 (negOf a b) how))) ∧ _
  have hf := size_fix a (by omega) (by omega)
  have HSA := fun W => Kp.mk (hf W)
  have hg := size_fix b (by omega) (by omega)
  have HSB := fun W => Kp.mk (hg W)
  clear hf hg hm na1 nb1 hp0 na nb
  generalize nabs a * nabs b = m at *
  generalize nabs a = x at *
  generalize nabs b = y at *
  go_enter Try.func63, Try.ntmps63
  go_wp2_with (first | (go_at_call 66; (with_reducible refine (right_2 a b _ _ _ HA.out.1 HA.out.2 ?h0 ?h1).mono ?_); (case h0 => go_simp); (case h1 => go_simp); rintro e w' ⟨rfl, rfl⟩) | (go_at_call 72; (with_reducible first | refine (HSA _).out.mono ?_ | refine (HSB _).out.mono ?_); rintro e w' ⟨rfl, rfl⟩) | (go_at_call 69; (with_reducible refine (HP _).out.mono ?_); rintro e w1 ⟨rfl, hb1'⟩; have hb1 := Kp.mk hb1'; clear hb1') | (go_at_call 71; rw [← HN.out]; (with_reducible refine (HQ _).out.mono ?_); rintro e w2 ⟨rfl, hb2'⟩; have hb2 := Kp.mk hb2'; clear hb2'))
  go_ret
  exact ⟨rfl, bl_then (bl_then (by repeat (first | exact Below.refl _ _ | (with_reducible assumption) | apply bl_drew | apply bl_drewN | apply bl_alloc | (refine bl_set ?_ (by go_simp)))) hb1.out) hb2.out⟩
theorem mul_do (a b : Int) (how : Nat) (hh : how < 4) (ha : okFix a) (hb : okFix b) (hm : nabs a * nabs b < 4611686018427322368) (p q r : Addr) (w : World)
    (h0 : w.cell? p = some (.int .i64 a)) (h1 : w.cell? q = some (.int .i64 b)) (h2 : w.cell? r = some (.int .i64 how)) :
    Calls Try.prog 62 #[.pointer (some p), .pointer (some q), .pointer (some r)] w fun e w' => e = .returned (.int .i64 (mulF a b how)) ∧ Below w.heap.size w w' := by
  have HM := fun W => Kp.mk (mul_any a b how hh ha hb hm W)
  clear ha hb hm
  go_enter Try.func62, Try.ntmps62
  go_wp2
  go_region_held3 (fun w' => w'.cell? p = some (.int .i64 a) ∧ w'.cell? q = some (.int .i64 b) ∧ w'.cell? r = some (.int .i64 how)) (go_simp)
    (first | (go_at_call 64; (with_reducible refine (ways_any how hh _).mono ?_); rintro e w' ⟨rfl, rfl⟩) | (go_at_call 63; (with_reducible refine (HM _).out.mono ?_); rintro e w2 ⟨rfl, hb2'⟩; have k0 := bl_cell hb2' (p := p) (v := .int .i64 a) (by go_simp); have k1 := bl_cell hb2' (p := q) (v := .int .i64 b) (by go_simp); have k2 := bl_cell hb2' (p := r) (v := .int .i64 how) (by go_simp); have hb2 := Kp.mk hb2'; clear hb2'))
  go_wp2
  go_ret
  exact ⟨rfl, bl_then (by repeat (first | exact Below.refl _ _ | (with_reducible assumption) | apply bl_drew | apply bl_drewN | apply bl_alloc | (refine bl_set ?_ (by go_simp)))) hb2.out⟩
theorem Mul_any (a b : Int) (how : Nat) (hh : how < 4) (ha : okFix a) (hb : okFix b) (hm : nabs a * nabs b < 4611686018427322368) (w : World) :
    Calls Try.prog 32 #[.int .i64 a, .int .i64 b, .int .i64 how] w fun e w' => e = .returned (.tuple #[.int .i64 (mulF a b how), .int .i64 0]) ∧ Below w.heap.size w w' := by
  have HM := fun p q r W h0 h1 h2 => Kp.mk (mul_do a b how hh ha hb hm p q r W h0 h1 h2)
  have hmk := hmf
  have EG := Kp.mk (enters_of Try.func62 (by kernel_rfl) rfl)
  clear ha hb hm
  go_enter Try.func32, Try.ntmps32
  go_wp2_with (go_at_call 61; (with_reducible refine (tried_fix _ _ (mulF a b how) _ EG.out ?hdo).mono ?_); (case hdo => exact fun W hW => (HM _ _ _ W (bl_cell hW (by go_simp)) (bl_cell hW (by go_simp)) (bl_cell hW (by go_simp))).out); rintro e w2 ⟨rfl, hb2'⟩; have hb2 := Kp.mk hb2'; clear hb2')
  go_ret2
  exact ⟨rfl, bl_then (by repeat (first | exact Below.refl _ _ | (with_reducible assumption) | apply bl_drew | apply bl_drewN | apply bl_alloc | (refine bl_set ?_ (by go_simp)))) hb2.out⟩
set_option maxRecDepth 100000 in
theorem scale_do (a n d : Int) (how : Nat) (hh : how < 4) (ha : okFix a) (hn : okRate n) (hd : okRate d) (hd0 : d ≠ 0) (hm : nabs a * nabs n < 70368744177663) (p q r t : Addr) (w : World)
    (h0 : w.cell? p = some (.int .i64 a)) (h1 : w.cell? q = some (.int .i64 how)) (h2 : w.cell? r = some (.int .i64 n)) (h3 : w.cell? t = some (.int .i64 d)) :
    Calls Try.prog 70 #[.pointer (some p), .pointer (some q), .pointer (some r), .pointer (some t)] w fun e w' => e = .returned (.int .i64 (scaleF a n d how)) ∧ Below w.heap.size w w' := by
  obtain ⟨ha0, ha1⟩ := ha
  obtain ⟨hn0, hn1⟩ := hn
  obtain ⟨hdl, hdh⟩ := hd
  have na := nabs_nonneg a
  have nn := nabs_nonneg n
  have na1 : nabs a < 18446744073709551616 := by unfold nabs; split <;> omega
  have nn1 : nabs n < 18446744073709551616 := by unfold nabs; split <;> omega
  have nd0 : 0 < nabs d := by unfold nabs; split <;> omega
  have nd1 : nabs d < 4611686018427387904 := by unfold nabs; split <;> omega
  have hp0 : 0 ≤ nabs a * nabs n := Int.mul_nonneg na nn
  have hq : nabs a * nabs n / nabs d + 1 ≤ 70368744177664 := by
    have := Int.ediv_le_self (nabs d) hp0
    omega
  have HP := fun W => Kp.mk (product_small (nabs a) (nabs n) na na1 nn nn1 (by omega) W)
  have HQ := fun W => Kp.mk (quotient_0 (nabs a * nabs n) (nabs d) (neg3 a n d) how hh hp0 (by omega) nd0 nd1 hq W)
  have HN : Kp (neg3 a n d = (!(decide (a < 0) == !(decide (n < 0) == decide (d < 0))))) := ⟨rfl⟩
  have HA : Kp (okFix a) := ⟨⟨ha0, ha1⟩⟩
  have hd1 : (d != 0) = true := bne_iff_ne.2 hd0
  have e0 := fun o => bl_cell (bl_alloc (Below.refl _ w) o) h0
  have e1 := fun o => bl_cell (bl_alloc (Below.refl _ w) o) h1
  have e2 := fun o => bl_cell (bl_alloc (Below.refl _ w) o) h2
  have e3 := fun o => bl_cell (bl_alloc (Below.refl _ w) o) h3
  show Calls Try.prog 70 _ w fun e w' => e = .returned (.int .i64 (sgn (neg3 a n d) (quoR (nabs a * nabs n) (nabs d) (neg3 a n d) how))) ∧ _
  have hf := size_fix a (by omega) (by omega)
  have HSA := fun W => Kp.mk (hf W)
  have hg := size_int n (by omega) (by omega)
  have HSN := fun W => Kp.mk (hg W)
  have hk := size_int d (by omega) (by omega)
  have HSD := fun W => Kp.mk (hk W)
  clear hf hg hk hm na1 nn1 hp0 na nn nd0 nd1 hq
  generalize nabs a * nabs n = m at *
  generalize nabs a = x at *
  generalize nabs n = y at *
  generalize nabs d = z at *
  go_enter Try.func70, Try.ntmps70
  go_wp2_with (first | (go_at_call 66; (with_reducible refine (right_1 a _ _ _ HA.out ?h0).mono ?_); (case h0 => go_simp); rintro e w' ⟨rfl, rfl⟩) | (go_at_call 64; (with_reducible refine (ways_any how hh _).mono ?_); rintro e w' ⟨rfl, rfl⟩) | (go_at_call 67; (with_reducible refine (need_b _ _ ?hb _).mono ?_); (case hb => first | rfl | exact decide_eq_true (by omega)); rintro e w' ⟨rfl, rfl⟩))
  go_region_held3 (fun w' => w'.cell? p = some (.int .i64 a) ∧ w'.cell? r = some (.int .i64 n) ∧ w'.cell? t = some (.int .i64 d)) (go_simp)
    (first | (go_at_call 72; (with_reducible refine (HSA _).out.mono ?_); rintro e w' ⟨rfl, rfl⟩) | (go_at_call 73; (with_reducible first | refine (HSN _).out.mono ?_ | refine (HSD _).out.mono ?_); rintro e w' ⟨rfl, rfl⟩) | (go_at_call 69; (with_reducible refine (HP _).out.mono ?_); rintro e w1 ⟨rfl, hb1'⟩; have k0 := bl_cell hb1' (p := p) (v := .int .i64 a) (by go_simp); have k1 := bl_cell hb1' (p := r) (v := .int .i64 n) (by go_simp); have k2 := bl_cell hb1' (p := t) (v := .int .i64 d) (by go_simp); have hb1 := Kp.mk hb1'; clear hb1') | (go_at_call 71; rw [← HN.out]; (with_reducible refine (HQ _).out.mono ?_); rintro e w2 ⟨rfl, hb2'⟩; have j0 := bl_cell hb2' (p := p) (v := .int .i64 a) (by go_simp); have j1 := bl_cell hb2' (p := r) (v := .int .i64 n) (by go_simp); have j2 := bl_cell hb2' (p := t) (v := .int .i64 d) (by go_simp); have hb2 := Kp.mk hb2'; clear hb2'))
  go_wp2
  go_ret
  exact ⟨rfl, bl_then (bl_then (by repeat (first | exact Below.refl _ _ | (with_reducible assumption) | apply bl_drew | apply bl_drewN | apply bl_alloc | (refine bl_set ?_ (by go_simp)))) hb1.out) hb2.out⟩
theorem Scale_any (a n d : Int) (how : Nat) (hh : how < 4) (ha : okFix a) (hn : okRate n) (hd : okRate d) (hd0 : d ≠ 0) (hm : nabs a * nabs n < 70368744177663) (w : World) :
    Calls Try.prog 36 #[.int .i64 a, .int .i64 n, .int .i64 d, .int .i64 how] w fun e w' => e = .returned (.tuple #[.int .i64 (scaleF a n d how), .int .i64 0]) ∧ Below w.heap.size w w' := by
  have HM := fun p q r t W h0 h1 h2 h3 => Kp.mk (scale_do a n d how hh ha hn hd hd0 hm p q r t W h0 h1 h2 h3)
  have hmk := hmf
  have EG := Kp.mk (enters_of Try.func70 (by kernel_rfl) rfl)
  clear ha hn hd hd0 hm
  go_enter Try.func36, Try.ntmps36
  go_wp2_with (go_at_call 61; (with_reducible refine (tried_fix _ _ (scaleF a n d how) _ EG.out ?hdo).mono ?_); (case hdo => exact fun W hW => (HM _ _ _ _ W (bl_cell hW (by go_simp)) (bl_cell hW (by go_simp)) (bl_cell hW (by go_simp)) (bl_cell hW (by go_simp))).out); rintro e w2 ⟨rfl, hb2'⟩; have hb2 := Kp.mk hb2'; clear hb2')
  go_ret2
  exact ⟨rfl, bl_then (by repeat (first | exact Below.refl _ _ | (with_reducible assumption) | apply bl_drew | apply bl_drewN | apply bl_alloc | (refine bl_set ?_ (by go_simp)))) hb2.out⟩
end Go.Proofs.Ytibaapaglocpjaa.B

end
