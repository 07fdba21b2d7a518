/- Items as keys of a map; the counts that are left. -/
import Derived.Test.YtndfoohdoadkfaaMaps
import Derived.Test.YtndfoohdoadkfaaPC
set_option linter.unusedVariables false
set_option linter.unusedSimpArgs false
namespace Go.Proofs.Ytndfoohdoadkfaa
open Go.RowKit
abbrev kI (x : It) : Value := .agg (IS x)
abbrev vI (n : Int) : Value := .int .i64 n
theorem eqI_is (p q : It) (W : World) : (Op.equal 40 (.agg (IS p)) (.agg (IS q))).run Try.prog W = .ok (decide (p = q)) W := by
  have : (Op.equalIn 10000 40 (.agg (IS p)) (.agg (IS q))).run Try.prog W = .ok (p.t == q.t && p.r == q.r && p.g == q.g) W := by
    have hu40 := Try.underlying40
    have hu34 := Try.underlying34
    unfold IS
    go_simp
    by_cases h1 : p.t = q.t <;> by_cases h2 : p.r = q.r <;> by_cases h3 : p.g = q.g <;> simp [*]
  simp only [Op.equal]
  rw [show Op.maxDepth = 10000 from rfl, this]
  congr 1
  rw [Bool.eq_iff_iff]
  cases p
  cases q
  simp [and_assoc]
theorem keyI : KeyEnc Try.prog 40 kI where
  check := fun e x w => by kernel_rfl
  eq := eqI_is
  bits := fun x => by simp [Instr.sameBits, IS]
  now := ⟨_, Try.underlying40, fun x y => .inr rfl⟩
theorem zeroI (w : World) : (zeroValue 3).run Try.prog w = .ok (vI 0) w := by kernel_rfl
theorem und51 : Try.prog.underlying 51 = some (.map 40 3) := Try.underlying51
/-- The map says how often each item stands in a list. -/
def Left (W : World) (m : Nat) (xs : List It) : Prop := ∃ l, MapAt kI vI W m l ∧ ∀ y, (getM l y).getD 0 = (xs.count y : Int)
theorem Left.below {W W' : World} {m : Nat} {xs : List It} (h : Left W m xs) (hb : Below W.heap.size W W') : Left W' m xs := by
  obtain ⟨l, h1, h2⟩ := h
  exact ⟨l, h1.below hb, h2⟩
theorem Left.keep {W W' : World} {m : Nat} {xs : List It} (h : Left W m xs) (hb : W'.heap[m]? = W.heap[m]?) : Left W' m xs := by
  obtain ⟨l, h1, h2⟩ := h
  exact ⟨l, h1.keep hb, h2⟩
theorem Left.get {W : World} {m : Nat} {xs : List It} (h : Left W m xs) (x : It) : (Instr.lookup 51 (.map (some m)) (.agg (IS x)) false).run Try.prog W = .ok (.int .i64 (xs.count x)) W := by
  obtain ⟨l, h1, h2⟩ := h
  have := run_get keyI und51 zeroI h1 x
  rw [h2 x] at this
  exact this
theorem Left.put {W : World} {m : Nat} {xs ys : List It} (h : Left W m xs) (x : It) (n : Int) (hn : n = ys.count x) (ho : ∀ y, y ≠ x → ys.count y = xs.count y) : ∃ W', (Instr.mapUpdate 51 (.map (some m)) (.agg (IS x)) (.int .i64 n)).run Try.prog W = .ok () W' ∧ Left W' m ys ∧ Turn m W W' := by
  obtain ⟨l, h1, h2⟩ := h
  obtain ⟨W', r1, r2, r3⟩ := run_put keyI und51 h1 x n
  refine ⟨W', r1, ⟨_, r2, fun y => ?_⟩, r3⟩
  rw [getM_put]
  by_cases hy : x = y
  · subst hy
    simp [hn]
  · rw [if_neg hy, h2 y, ho y (Ne.symm hy)]
theorem exec_lookup {P : Program} {ρ : Operand → Value} {o : Oper} {t : TypeId} {x y : Operand} {c : Bool} {u k v : Value} {w : World} (ho : o.op = .lookup t x y c) (hx : ρ x = u) (hy : ρ y = k) (hr : (Instr.lookup t u k c).run P w = .ok v w) : (execOp ρ o).run P w = .ok (.value v) w := by
  simp only [execOp, ho, hx, hy, Sem.run_bind, hr, Result.andThen_ok, Sem.run_pure]
theorem wp_mapUpdate {P : Program} {o : Oper} {a : Act} {K : Act → World → Prop} {Q : Exit → Act → World → Prop} {W W' : World} {t : TypeId} {m x y : Operand} {u k v : Value} (ho : o.op = .mapUpdate t m x y) (hm : a.eval m = u) (hx : a.eval x = k) (hy : a.eval y = v) (hr : (Instr.mapUpdate t u k v).run P W = .ok () W') (h : K (a.put o.dst undef) W') : o.wp P a W K Q := by
  unfold Oper.wp execOp
  simp only [ho, hm, hx, hy, Sem.run_bind, hr, Result.andThen_ok, Sem.run_pure]
  exact h
theorem wpList_runw {P : Program} {ops : Array Oper} {rest : List Oper} {o : Oper} {a : Act} {w w1 : World} {Q : Exit → Act → World → Prop} {v : Value} (hw : Region.wanted o (yielded ops a.tmps) = true) (hrun : (execOp a.eval o).run P w = .ok (.value v) w1) (h : wpList P ops Q rest (a.put o.dst v) w1) : wpList P ops Q (o :: rest) a w := by
  refine wpList_step fun K hK => ?_
  rw [if_pos hw]
  exact wp_run hrun (hK _ _ h)
end Go.Proofs.Ytndfoohdoadkfaa
