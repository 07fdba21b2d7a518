/- The contracts over rectangles that are not looked into. -/
import Derived.Test.YtjekoaodgdodjaaRH
import Derived.Test.YtjekoaodgdodjaaF
import Derived.Test.YtjekoaodgdodjaaDrawn2
import Derived.Maps.AppendAt
import Derived.Deep.AppendLies
import Derived.RowKit3
set_option linter.unusedVariables false
set_option linter.unusedSimpArgs false
namespace Go.Proofs.Ytjekoaodgdodjaa
open Go.RowKit
open PLess
open Go.Proofs.YtjekoaodgdodjaaW.PrintWords (Kd Reps own_nil Drawn0 LeO)
def RS (r : R4) : Array Value := #[.int .i64 r.x, .int .i64 r.y, .int .i64 r.w, .int .i64 r.h]
theorem info24 (r : R4) : (Try.prog.info? 24).map (·.size) = some (RS r).size := by
  rw [show (RS r).size = 4 from rfl]
  kernel_rfl
theorem info23 (r : R4) : (Try.prog.info? 23).map (·.size) = some (RS r).size := by
  rw [show (RS r).size = 4 from rfl]
  kernel_rfl
theorem eqR_is (p q : R4) (W : World) : (Op.equalIn 10000 23 (.agg (RS p)) (.agg (RS q))).run Try.prog W = .ok (decide (p = q)) W := by
  have : (Op.equalIn 10000 23 (.agg (RS p)) (.agg (RS q))).run Try.prog W = .ok (p.x == q.x && (p.y == q.y && (p.w == q.w && p.h == q.h))) W := by
    have hu23 := Try.underlying23
    unfold RS
    go_simp
    by_cases h1 : p.x = q.x <;> by_cases h2 : p.y = q.y <;> by_cases h3 : p.w = q.w <;> by_cases h4 : p.h = q.h <;> simp [*]
  rw [this]
  congr 1
  rw [Bool.eq_iff_iff]
  cases p
  cases q
  simp
theorem of_is (a b c d X Y P Q : Int) (w : World) (hX : a = X) (hY : c = Y) (hP : b - a = P) (hQ : d - c = Q) (h1 : -9223372036854775808 ≤ b - a) (h2 : b - a ≤ 9223372036854775807) (h3 : -9223372036854775808 ≤ d - c) (h4 : d - c ≤ 9223372036854775807) :
    Calls Try.prog 44 #[.agg #[.int .i64 a, .int .i64 b], .agg #[.int .i64 c, .int .i64 d]] w fun e w' => e = .returned (.agg #[.int .i64 X, .int .i64 Y, .int .i64 P, .int .i64 Q]) ∧ Below w.heap.size w w' := by
  subst hX hY hP hQ
  exact of_any a b c d w h1 h2 h3 h4
theorem rightR (p : R4) (w : World) : Calls Try.prog 8 #[.agg (RS p)] w fun e w' => e = .returned (.bool p.right) ∧ Below w.heap.size w w' := right_any _ _ _ _ w
theorem emptyR (p : R4) (w : World) : Calls Try.prog 12 #[.agg (RS p)] w fun e w' => e = .returned (.bool p.empty) ∧ Below w.heap.size w w' := empty_any _ _ _ _ w
theorem meetR (p q : R4) (w : World) : Calls Try.prog 10 #[.agg (RS p), .agg (RS q)] w fun e w' => e = .returned (.agg (RS (meetF p q))) ∧ Below w.heap.size w w' := meet_any _ _ _ _ _ _ _ _ w
theorem withinR (p q : R4) (w : World) : Calls Try.prog 11 #[.agg (RS p), .agg (RS q)] w fun e w' => e = .returned (.bool (withinF p q)) ∧ Below w.heap.size w w' := within_any _ _ _ _ _ _ _ _ w
theorem holdsR (p : R4) (x y : Int) (w : World) : Calls Try.prog 19 #[.agg (RS p), .int .i64 x, .int .i64 y] w fun e w' => e = .returned (.bool (holdsF p x y)) ∧ Below w.heap.size w w' := holds_any _ _ _ _ _ _ w
theorem joinR (p q : R4) (w : World) : Calls Try.prog 13 #[.agg (RS p), .agg (RS q)] w fun e w' => e = .returned (.tuple #[.agg (RS (joinF p q).1), .int .i64 (joinF p q).2]) ∧ Below w.heap.size w w' := join_any _ _ _ _ _ _ _ _ w
theorem ownR (p : R4) (w : World) : Calls Try.prog 7 #[.agg (RS p)] w fun e w' => e = .returned (.agg (RS p)) ∧ Below w.heap.size w w' := own_any _ _ _ _ w
theorem insetR (p : R4) (n : Int) (w : World) : Calls Try.prog 22 #[.agg (RS p), .int .i64 n] w fun e w' => e = .returned (.tuple #[.agg (RS (insetF p n).1), .int .i64 (insetF p n).2]) ∧ Below w.heap.size w w' := insetR4 _ _ _ _ _ w
theorem refR (p : R4) (w : World) : Calls Try.prog 24 #[.agg (RS p)] w fun e w' => e = .returned (.agg (RS p)) ∧ Below w.heap.size w w' := refR4 _ _ _ _ w
theorem joinD (p q : R4) (w : World) : Calls Try.prog 21 #[.agg (RS p), .agg (RS q)] w fun e w' => e = .returned (.tuple #[.agg (RS (joinF p q).1), .int .i64 (joinF p q).2]) ∧ Below w.heap.size w w' := joinD4 p q w
theorem insetD (p : R4) (n : Int) (w : World) : Calls Try.prog 23 #[.agg (RS p), .int .i64 n] w fun e w' => e = .returned (.tuple #[.agg (RS (insetF p n).1), .int .i64 (insetF p n).2]) ∧ Below w.heap.size w w' := insetD4 _ _ _ _ _ w
theorem rightD (p : R4) (w : World) : Calls Try.prog 27 #[.agg (RS p)] w fun e w' => e = .returned (.bool p.right) ∧ Below w.heap.size w w' := rightD4 _ _ _ _ w
theorem emptyD (p : R4) (w : World) : Calls Try.prog 28 #[.agg (RS p)] w fun e w' => e = .returned (.bool p.empty) ∧ Below w.heap.size w w' := emptyD4 _ _ _ _ w
theorem holdsD (p : R4) (x y : Int) (w : World) : Calls Try.prog 29 #[.agg (RS p), .int .i64 x, .int .i64 y] w fun e w' => e = .returned (.bool (holdsF p x y)) ∧ Below w.heap.size w w' := holdsD4 _ _ _ _ _ _ w
theorem withinD (p q : R4) (w : World) : Calls Try.prog 30 #[.agg (RS p), .agg (RS q)] w fun e w' => e = .returned (.bool (withinF p q)) ∧ Below w.heap.size w w' := withinD4 _ _ _ _ _ _ _ _ w
theorem meetD (p q : R4) (w : World) : Calls Try.prog 31 #[.agg (RS p), .agg (RS q)] w fun e w' => e = .returned (.agg (RS (meetF p q))) ∧ Below w.heap.size w w' := dioramaref20_Meet.calls 1 _ _ _ _ _ _ _ _ _ _ _ _ w (refMeet 0 p q)
theorem wideR (p : R4) (h : p.right = true) (w : World) : Calls Try.prog 40 #[.agg (RS p)] w fun e w' => e = .returned (.agg #[.int .i64 p.x, .int .i64 (p.x + p.w)]) ∧ Below w.heap.size w w' := by
  obtain ⟨a1, a2, a3, a4, a5, a6, a7, a8⟩ := right_bd h
  exact wide_any _ _ _ _ w a1 a2 a5 a6
theorem tallR (p : R4) (h : p.right = true) (w : World) : Calls Try.prog 42 #[.agg (RS p)] w fun e w' => e = .returned (.agg #[.int .i64 p.y, .int .i64 (p.y + p.h)]) ∧ Below w.heap.size w w' := by
  obtain ⟨a1, a2, a3, a4, a5, a6, a7, a8⟩ := right_bd h
  exact tall_any _ _ _ _ w a3 a4 a7 a8
theorem ofR (a b c d : Int) (r : R4) (w : World) (hX : a = r.x) (hY : c = r.y) (hP : b - a = r.w) (hQ : d - c = r.h) (h1 : -9223372036854775808 ≤ b - a) (h2 : b - a ≤ 9223372036854775807) (h3 : -9223372036854775808 ≤ d - c) (h4 : d - c ≤ 9223372036854775807) :
    Calls Try.prog 44 #[.agg #[.int .i64 a, .int .i64 b], .agg #[.int .i64 c, .int .i64 d]] w fun e w' => e = .returned (.agg (RS r)) ∧ Below w.heap.size w w' := of_is _ _ _ _ _ _ _ _ w hX hY hP hQ h1 h2 h3 h4
theorem bs24 (r : R4) (W : World) : (Instr.buildSlice 52 1 #[(0, .agg (RS r))]).run Try.prog W = .ok (.slice (some ⟨W.heap.size, 0, none⟩) 1 1) (W.alloc (.cells (RS r) 24)) := by
  kernel_rfl
def PS4 (c : Nat → R4) : Array Value := #[.int .i64 (c 0).x, .int .i64 (c 0).y, .int .i64 (c 0).w, .int .i64 (c 0).h, .int .i64 (c 1).x, .int .i64 (c 1).y, .int .i64 (c 1).w, .int .i64 (c 1).h, .int .i64 (c 2).x, .int .i64 (c 2).y, .int .i64 (c 2).w, .int .i64 (c 2).h, .int .i64 (c 3).x, .int .i64 (c 3).y, .int .i64 (c 3).w, .int .i64 (c 3).h]
theorem ix89 (c : Nat → R4) (k : Nat) (hk : k < 4) (W : World) : (Instr.index 89 (.agg (PS4 c)) (.int .i64 k)).run Try.prog W = .ok (.agg (RS (c k))) W := by
  rcases (show k = 0 ∨ k = 1 ∨ k = 2 ∨ k = 3 by omega) with rfl | rfl | rfl | rfl
  all_goals kernel_rfl
theorem bd89 (c : Nat → R4) (W : World) : (Instr.build 89 #[(0, .agg (RS (c 0))), (1, .agg (RS (c 1))), (2, .agg (RS (c 2))), (3, .agg (RS (c 3)))]).run Try.prog W = .ok (.agg (PS4 c)) W := by
  kernel_rfl
theorem wpList_bs24 {ops : Array Oper} {rest : List Oper} {o : Oper} {a : Act} {Q : Exit → Act → World → Prop} {W : World} (hgd : o.guard = none) (x : Operand) (ho : o.op = .buildSlice 52 1 #[(0, x)]) (r : R4) (hx : a.eval x = .agg (RS r))
    (h : wpList Try.prog ops Q rest (a.put o.dst (.slice (some ⟨W.heap.size, 0, none⟩) 1 1)) (W.alloc (.cells (RS r) 24))) : wpList Try.prog ops Q (o :: rest) a W :=
  wpList_of_run hgd (exec_buildSlice (l := [(0, x)]) ho (by simp only [List.map_cons, List.map_nil, hx]; exact bs24 r W)) h
theorem wpList_ix89 {ops : Array Oper} {rest : List Oper} {o : Oper} {a : Act} {Q : Exit → Act → World → Prop} {W : World} (hgd : o.guard = none) (x i : Operand) (ho : o.op = .index 89 x i) (c : Nat → R4) (k : Nat) (hk : k < 4) (hx : a.eval x = .agg (PS4 c)) (hi : a.eval i = .int .i64 k)
    (h : wpList Try.prog ops Q rest (a.put o.dst (.agg (RS (c k)))) W) : wpList Try.prog ops Q (o :: rest) a W :=
  wpList_of_run hgd (exec_index ho (by rw [hx, hi]; exact ix89 c k hk W)) h
/-- A row's cells. -/
def cellsR (l : List R4) : List Value := l.flatMap fun r => (RS r).toList
theorem cellsR_snoc (l : List R4) (r : R4) : cellsR (l ++ [r]) = cellsR l ++ (RS r).toList := by simp [cellsR]
theorem info52 : (Try.prog.info? 24).map (fun i => (i.zero, i.size, i.bytes)) = some (some (.agg #[.int .i64 0, .int .i64 0, .int .i64 0, .int .i64 0]), 4, 32) := by kernel_rfl
theorem wpList_append_rect {ops : Array Oper} {rest : List Oper} {o : Oper} {a : Act} {Q : Exit → Act → World → Prop} {W : World} (base : Nat) (hgd : o.guard = none) (s x : Operand)
    (ho : o.op = .call { callee := .builtin .append, args := #[s, x], argTypes := #[52, 52] }) (v : Value) (l : List R4) (r : R4) (hs : a.eval s = v) (hx : a.eval x = .slice (some ⟨W.heap.size, 0, none⟩) 1 1)
    (HO : W.ownsRow base 24 4 v l.length (cellsR l)) (hbase : base ≤ W.heap.size) (hl : l.length ≤ 1000)
    (h : ∀ v1 w1, w1.ownsRow base 24 4 v1 (l ++ [r]).length (cellsR (l ++ [r])) → (∀ B w0, B ≤ base → Below B w0 W → Below B w0 w1) → wpList Try.prog ops Q rest (a.put o.dst v1) w1) : wpList Try.prog ops Q (o :: rest) a (W.alloc (.cells (RS r) 24)) := by
  obtain ⟨i0, hi, hzz⟩ := Option.map_eq_some_iff.1 info52
  simp only [Prod.mk.injEq] at hzz
  obtain ⟨hz0, hz1, hz2⟩ := hzz
  refine wpList_append_own_at (W.alloc (.cells (RS r) 24)) hgd s x 52 ho base 24 i0 _ 4 32 Try.underlying52 hi hz0 hz1 hz2 rfl (by omega) v l.length (cellsR l) hs (HO.alloc _) ⟨W.heap.size, 0, none⟩ 1 1 (RS r).toList hx rfl
    (World.news_of_block (cs := RS r) (t := 24) (fr := (0, 0)) (heap_alloc_new W _)) (by
      intro u hu
      simp only [RS, List.mem_cons, List.not_mem_nil, or_false] at hu
      rcases hu with rfl | rfl | rfl | rfl <;> rfl) (by simp only [maxLen]; omega) (by omega) (by simp; omega) ?_
  intro v1 w1 hown hg _ hat
  refine h v1 w1 (by rw [cellsR_snoc]; simpa using hown) (fun B w0 hB hb => ?_)
  have h1 : W.grownBy w1 v.ownBlock := World.grownBy.trans (World.grownBy_alloc W _ _) hg
  have hWB : B ≤ W.heap.size := by omega
  exact hb.grown h1 hWB (fun k hk => by
    rcases HO.2 with ⟨rfl, _⟩ | ⟨g, cap, cur, rfl, hb', _⟩
    · simp [Value.ownBlock] at hk
    · have : g = k := by simpa [Value.ownBlock] using hk
      omega)
end Go.Proofs.Ytjekoaodgdodjaa
