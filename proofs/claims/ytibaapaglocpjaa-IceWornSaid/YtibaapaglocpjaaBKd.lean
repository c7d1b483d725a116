import Derived.Deep.RegionHeld3
import Derived.OrdersHeld
import Derived.Test.YtibaapaglocpjaaBL
import Derived.Test.YtibaapaglocpjaaBKc
import Derived.Test.YtibaapaglocpjaaBPh
/- Proved here: lemmas for the laws' proofs (the texts Kd). No condition. -/
section
set_option linter.unusedSimpArgs false
set_option linter.unusedVariables false
namespace Go.Proofs.Ytibaapaglocpjaa.B
open Go.RowKit Go.Shelf Go.Proofs.YtibaapaglocpjaaW.PrintWords
theorem bc_ {w w2 : World} (h : Below w.heap.size w w2) (p : Addr) (v : Value) (hc : w.cell? p = some v := by first | (go_simp; done) | exact bl_cell (by repeat (with_reducible first | apply bl_alloc | apply bl_drew | exact Below.refl _ _)) (by assumption)) : w2.cell? p = some v := bl_cell h hc
theorem bl_fz {w w2 : World} (h : Below w.heap.size w w2) {p : Addr} {v : Value} (hc : w.cell? p = some v) (hf : w.frozen? p = false) : w2.frozen? p = false := (h.frozen (World.block_lt_of_cell? w p hc)).trans hf
theorem bz_ {w w2 : World} (h : Below w.heap.size w w2) (p : Addr) (v : Value) (hc : w.cell? p = some v := by first | (go_simp; done) | exact bl_cell (by repeat (with_reducible first | apply bl_alloc | apply bl_drew | exact Below.refl _ _)) (by assumption)) (hf : w.frozen? p = false := by first | (go_simp; done) | assumption | exact bl_fz (by repeat (with_reducible first | apply bl_alloc | apply bl_drew | exact Below.refl _ _)) (by assumption) (by assumption)) : w2.frozen? p = false := bl_fz h hc hf
def IceOut (r : IceR) (w : World) (e : Ending) (w' : World) : Prop :=
  ∃ (R1 : Option Addr) (c1 : Nat) (R2 : Option Addr) (c2 : Nat), e = .returned (.tuple #[.agg #[.int .i64 r.cx, .int .i64 r.cy, .int .i64 r.sd, .int .i64 r.wd, .int .i64 r.ht, .slice R1 r.pb.length c1, .slice R2 r.pl.length c2], .int .i64 r.err]) ∧
    w'.ownsRow w.heap.size 3 1 (.slice R1 r.pb.length c1) r.pb.length (r.pb.map (Value.int .i64)) ∧ w'.ownsRow w.heap.size 3 1 (.slice R2 r.pl.length c2) r.pl.length (r.pl.map (Value.int .i64)) ∧ Below w.heap.size w w'
theorem iceNo_out (w w' : World) (h : Below w.heap.size w w') : IceOut iceNo w (.returned (.tuple #[.agg #[.int .i64 0, .int .i64 0, .int .i64 0, .int .i64 0, .int .i64 0, .slice none 0 0, .slice none 0 0], .int .i64 2])) w' :=
  ⟨none, 0, none, 0, rfl, World.ownsRow_nil _ _ _ _, World.ownsRow_nil _ _ _ _, h⟩
theorem run_min2 (ts : Array TypeId) (t : TypeId) (a b : Int) (w : World) : (Builtin.min_ ts t #[.int .i64 a, .int .i64 b]).run Try.prog w = .ok (.int .i64 (minI a b)) w := by
  unfold minI
  by_cases h : b < a
  · rw [if_pos h]; go_simp
  · rw [if_neg h]; go_simp
theorem run_max2 (ts : Array TypeId) (t : TypeId) (a b : Int) (w : World) : (Builtin.max_ ts t #[.int .i64 a, .int .i64 b]).run Try.prog w = .ok (.int .i64 (maxI a b)) w := by
  unfold maxI
  by_cases h : a < b
  · rw [if_pos h]; go_simp
  · rw [if_neg h]; go_simp
theorem yields_min {ρ : Operand → Value} {o : Oper} {x y : Operand} {ats : Array TypeId} {a b : Int} (ho : o.op = .call { callee := .builtin .min, args := #[x, y], argTypes := ats }) (hx : ρ x = .int .i64 a) (hy : ρ y = .int .i64 b) (w : World) :
    (execOp ρ o).run Try.prog w = .ok (.value (.int .i64 (minI a b))) w := by
  unfold execOp
  simp only [ho, resolve, invoke, builtin, Sem.run_bind, Sem.run_pure, Result.andThen_ok, List.map_toArray, List.map_cons, List.map_nil, hx, hy, run_min2]
theorem yields_max {ρ : Operand → Value} {o : Oper} {x y : Operand} {ats : Array TypeId} {a b : Int} (ho : o.op = .call { callee := .builtin .max, args := #[x, y], argTypes := ats }) (hx : ρ x = .int .i64 a) (hy : ρ y = .int .i64 b) (w : World) :
    (execOp ρ o).run Try.prog w = .ok (.value (.int .i64 (maxI a b))) w := by
  unfold execOp
  simp only [ho, resolve, invoke, builtin, Sem.run_bind, Sem.run_pure, Result.andThen_ok, List.map_toArray, List.map_cons, List.map_nil, hx, hy, run_max2]
def PassS (b bf bt : Nat) (cx cy sd wd ht : Int) (A : Option Addr) (c : Nat) (pb : List Int) (B : Option Addr) (d : Nat) (pl : List Int) (fx fy tx ty : Int) (W : World) : Prop :=
  W.cell? ⟨b, 0, none⟩ = some (.int .i64 cx) ∧ W.cell? ⟨b, 1, none⟩ = some (.int .i64 cy) ∧ W.cell? ⟨b, 2, none⟩ = some (.int .i64 sd) ∧ W.cell? ⟨b, 3, none⟩ = some (.int .i64 wd) ∧ W.cell? ⟨b, 4, none⟩ = some (.int .i64 ht) ∧ W.cell? ⟨b, 5, none⟩ = some (.slice A pb.length c) ∧ W.cell? ⟨b, 6, none⟩ = some (.slice B pl.length d) ∧
  W.cell? ⟨bf, 0, none⟩ = some (.int .i64 fx) ∧ W.cell? ⟨bf, 1, none⟩ = some (.int .i64 fy) ∧ W.cell? ⟨bt, 0, none⟩ = some (.int .i64 tx) ∧ W.cell? ⟨bt, 1, none⟩ = some (.int .i64 ty)
def IceS (b : Nat) (cx cy sd wd ht : Int) (A : Option Addr) (c : Nat) (pb : List Int) (B : Option Addr) (d : Nat) (pl : List Int) (W : World) : Prop :=
  W.cell? ⟨b, 0, none⟩ = some (.int .i64 cx) ∧ W.cell? ⟨b, 1, none⟩ = some (.int .i64 cy) ∧ W.cell? ⟨b, 2, none⟩ = some (.int .i64 sd) ∧ W.cell? ⟨b, 3, none⟩ = some (.int .i64 wd) ∧ W.cell? ⟨b, 4, none⟩ = some (.int .i64 ht) ∧ W.cell? ⟨b, 5, none⟩ = some (.slice A pb.length c) ∧ W.cell? ⟨b, 6, none⟩ = some (.slice B pl.length d)
theorem pass_do (n we : Int) (b : Nat) (w : World) (hn : 0 ≤ n ∧ n ≤ 1000) (hw : 0 ≤ we ∧ we ≤ 1000) (hc : w.cell? ⟨b, 4, none⟩ = some (.int .i64 we)) :
    Calls Try.prog 38 #[.int .i64 n, .pointer (some ⟨b, 0, none⟩)] w fun e w' => e = .returned (.int .i64 (wornF we n)) ∧ Below w.heap.size w w' := by
  obtain ⟨h0, h1⟩ := hn
  obtain ⟨h2, h3⟩ := hw
  go_enter Try.func38, Try.ntmps38
  go_wp2
  all_goals (go_ret; exact ⟨ret_i (by first | rfl | (unfold wornF maxI; split <;> omega) | (unfold sweptF minI; split <;> omega) | (unfold minI; split <;> omega)), Below.refl _ _⟩)
theorem fade_do (n s : Int) (b : Nat) (w : World) (hn : 0 ≤ n ∧ n ≤ 1000) (hw : 0 ≤ s ∧ s ≤ 1000) (hc : w.cell? ⟨b, 0, none⟩ = some (.int .i64 s)) :
    Calls Try.prog 44 #[.int .i64 n, .pointer (some ⟨b, 0, none⟩)] w fun e w' => e = .returned (.int .i64 (wornF s n)) ∧ Below w.heap.size w w' := by
  obtain ⟨h0, h1⟩ := hn
  obtain ⟨h2, h3⟩ := hw
  go_enter Try.func44, Try.ntmps44
  go_wp2
  all_goals (go_ret; exact ⟨ret_i (by first | rfl | (unfold wornF maxI; split <;> omega) | (unfold sweptF minI; split <;> omega) | (unfold minI; split <;> omega)), Below.refl _ _⟩)
theorem sweep_do (n s : Int) (b : Nat) (w : World) (hn : 0 ≤ n ∧ n ≤ 1000) (hw : 0 ≤ s ∧ s ≤ 1000) (hc : w.cell? ⟨b, 0, none⟩ = some (.int .i64 s)) :
    Calls Try.prog 42 #[.int .i64 n, .pointer (some ⟨b, 0, none⟩)] w fun e w' => e = .returned (.int .i64 (sweptF s n)) ∧ Below w.heap.size w w' := by
  obtain ⟨h0, h1⟩ := hn
  obtain ⟨h2, h3⟩ := hw
  go_enter Try.func42, Try.ntmps42
  go_wp2
  all_goals (go_ret; exact ⟨ret_i (by first | rfl | (unfold wornF maxI; split <;> omega) | (unfold sweptF minI; split <;> omega) | (unfold minI; split <;> omega)), Below.refl _ _⟩)
theorem spray_do (n s : Int) (b : Nat) (w : World) (hn : 0 ≤ n ∧ n ≤ 1000) (hw : 0 ≤ s ∧ s ≤ 1000) (hc : w.cell? ⟨b, 0, none⟩ = some (.int .i64 s)) :
    Calls Try.prog 50 #[.int .i64 n, .pointer (some ⟨b, 0, none⟩)] w fun e w' => e = .returned (.int .i64 (sweptF s n)) ∧ Below w.heap.size w w' := by
  obtain ⟨h0, h1⟩ := hn
  obtain ⟨h2, h3⟩ := hw
  go_enter Try.func50, Try.ntmps50
  go_wp2
  all_goals (go_ret; exact ⟨ret_i (by first | rfl | (unfold wornF maxI; split <;> omega) | (unfold sweptF minI; split <;> omega) | (unfold minI; split <;> omega)), Below.refl _ _⟩)
theorem scrape_do (n s : Int) (b : Nat) (w : World) (hc : w.cell? ⟨b, 0, none⟩ = some (.int .i64 s)) :
    Calls Try.prog 47 #[.int .i64 n, .pointer (some ⟨b, 0, none⟩)] w fun e w' => e = .returned (.int .i64 (minI s n)) ∧ Below w.heap.size w w' := by
  go_enter Try.func47, Try.ntmps47
  go_wp2
  all_goals (go_ret; exact ⟨ret_i (by first | rfl | (unfold wornF maxI; split <;> omega) | (unfold sweptF minI; split <;> omega) | (unfold minI; split <;> omega)), Below.refl _ _⟩)
theorem nought_do (n : Int) (w : World) : Calls Try.prog 48 #[.int .i64 n] w fun e w' => e = .returned (.int .i64 0) ∧ Below w.heap.size w w' := by
  go_enter Try.func48, Try.ntmps48
  go_wp2
  all_goals (go_ret; exact ⟨ret_i (by first | rfl | (unfold wornF maxI; split <;> omega) | (unfold sweptF minI; split <;> omega) | (unfold minI; split <;> omega)), Below.refl _ _⟩)
set_option maxRecDepth 100000 in
theorem with_any (cx cy sd wd ht : Int) (A : Option Addr) (c : Nat) (pb : List Int) (B : Option Addr) (d : Nat) (pl : List Int) (R1 : Option Addr) (n1 c1 : Nat) (R2 : Option Addr) (n2 c2 : Nat) (w : World) :
    Calls Try.prog 39 #[.agg #[.int .i64 cx, .int .i64 cy, .int .i64 sd, .int .i64 wd, .int .i64 ht, .slice A pb.length c, .slice B pl.length d], .slice R1 n1 c1, .slice R2 n2 c2] w fun e w' => e = .returned (.agg #[.int .i64 cx, .int .i64 cy, .int .i64 sd, .int .i64 wd, .int .i64 ht, .slice R1 n1 c1, .slice R2 n2 c2]) ∧ Below w.heap.size w w' := by
  go_enter Try.func39, Try.ntmps39
  go_wp2
  exact bodyPost_ret (v := .agg #[.int .i64 cx, .int .i64 cy, .int .i64 sd, .int .i64 wd, .int .i64 ht, .slice R1 n1 c1, .slice R2 n2 c2]) (by simp [results, Try.results39, go_sem]) rfl ⟨rfl, (by repeat (first | exact Below.refl _ _ | (with_reducible assumption) | apply bl_drew | apply bl_drewN | apply bl_alloc | (refine bl_set ?_ (by go_simp))))⟩
end Go.Proofs.Ytibaapaglocpjaa.B

end
