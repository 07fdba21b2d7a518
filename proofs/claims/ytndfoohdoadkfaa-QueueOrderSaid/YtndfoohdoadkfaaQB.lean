/- Calls through heap.Interface at *pile; Compare, Before, Len. No condition. -/
import Derived.Test.YtndfoohdoadkfaaQA
set_option linter.unusedVariables false
set_option linter.unusedSimpArgs false
namespace Go.Proofs.Ytndfoohdoadkfaa
open Go.RowKit
theorem ssaw (a : Addr) (s : String) (w : World) : (Builtin.ssaWrapNilChk_ #[47] 47 #[.pointer (some a), strVal "", strVal s]).run Try.prog w = .ok (.pointer (some a)) w := by
  rfl
theorem ld66 (b : Nat) (A : Option Addr) (n c : Nat) (w : World) (h : w.cell? ⟨b, 0, none⟩ = some (.slice A n c)) : (loadVar 66 ⟨b, 0, none⟩).run Try.prog w = .ok (.slice A n c) w := by
  have hu66 := Try.underlying66
  simp only [loadVar, isAgg, Sem.run_bind, run_underlying hu66, Sem.run_pure, Result.andThen_ok, Bool.false_eq_true, if_false]
  simp [go_sem, h]
theorem meth {s : String} {f : FuncId} (hi0 : ((Try.prog.info? 47).map fun i => (i.methods.find? (·.name == s)).map fun m => (m.path.toList, m.func)) = some (some ([], some (f, false)))) (k b : Nat) (A : Option Addr) (n c : Nat) (w : World) (h : w.cell? ⟨b, 0, none⟩ = some (.slice A n c)) : (method (k + 1) 47 (.pointer (some ⟨b, 0, none⟩)) s).run Try.prog w = .ok (f, .slice A n c) w := by
  obtain ⟨i, hi, hm⟩ := Option.map_eq_some_iff.1 hi0
  obtain ⟨m, hm1, hm2⟩ := Option.map_eq_some_iff.1 hm
  simp only [Prod.mk.injEq] at hm2
  obtain ⟨p1, p2⟩ := hm2
  have hu47 := Try.underlying47
  have hl := ld66 b A n c w h
  have he : m.path.isEmpty = true := by
    have : m.path = #[] := by
      apply Array.toList_inj.1
      simpa using p1
    simp [this]
  unfold method
  simp only [Sem.run_bind, typeInfo, run_program, hi, hm1, p1, p2, Result.andThen_ok, Sem.run_pure, follow, he, if_true, receiverAt, run_underlying hu47, Place.get, ssaw, asAddr, hl]
theorem fuel : ∃ k, Try.prog.types.size + Made.depth = k + 1 := by
  have : 0 < Try.prog.types.size := by decide +kernel
  exact ⟨Try.prog.types.size + Made.depth - 1, by omega⟩
theorem inv {s : String} {f : FuncId} (hi0 : ((Try.prog.info? 47).map fun i => (i.methods.find? (·.name == s)).map fun m => (m.path.toList, m.func)) = some (some ([], some (f, false))))
    (hc : ∀ (args : Array Value) (w : World), (callFunc f args).run Try.prog w = .ok (.enter f args) w) (b : Nat) (A : Option Addr) (n c : Nat) (rest : List Value) (w : World) (h : w.cell? ⟨b, 0, none⟩ = some (.slice A n c)) :
    (invoke (.fn (.method s) #[]) (⟨.iface 47 (.pointer (some ⟨b, 0, none⟩)) :: rest⟩)).run Try.prog w = .ok (.enter f ⟨.slice A n c :: rest⟩) w := by
  obtain ⟨k, hk⟩ := fuel
  have hm := meth hi0 k b A n c w h
  have e1 : ((⟨.iface 47 (.pointer (some ⟨b, 0, none⟩)) :: rest⟩ : Array Value).extract 1 (⟨.iface 47 (.pointer (some ⟨b, 0, none⟩)) :: rest⟩ : Array Value).size) = ⟨rest⟩ := by
    apply Array.toList_inj.1
    simp
  simp only [invoke, List.getElem?_toArray, List.getElem?_cons_zero, e1, callMethod, Sem.run_bind, run_program, Result.andThen_ok, hk, hm, hc]
  rw [show (#[Value.slice A n c] ++ (⟨rest⟩ : Array Value)) = ⟨.slice A n c :: rest⟩ from Array.toList_inj.1 (by simp)]
theorem invLen (b : Nat) (A : Option Addr) (n c : Nat) (w : World) (h : w.cell? ⟨b, 0, none⟩ = some (.slice A n c)) : (invoke (.fn (.method "Len") #[]) #[.iface 47 (.pointer (some ⟨b, 0, none⟩))]).run Try.prog w = .ok (.enter 34 #[.slice A n c]) w :=
  inv (by kernel_rfl) (fun _ _ => by kernel_rfl) b A n c [] w h
theorem invLess (b : Nat) (A : Option Addr) (n c : Nat) (x y : Value) (w : World) (h : w.cell? ⟨b, 0, none⟩ = some (.slice A n c)) : (invoke (.fn (.method "Less") #[]) #[.iface 47 (.pointer (some ⟨b, 0, none⟩)), x, y]).run Try.prog w = .ok (.enter 59 #[.slice A n c, x, y]) w :=
  inv (by kernel_rfl) (fun _ _ => by kernel_rfl) b A n c [x, y] w h
theorem invSwap (b : Nat) (A : Option Addr) (n c : Nat) (x y : Value) (w : World) (h : w.cell? ⟨b, 0, none⟩ = some (.slice A n c)) : (invoke (.fn (.method "Swap") #[]) #[.iface 47 (.pointer (some ⟨b, 0, none⟩)), x, y]).run Try.prog w = .ok (.enter 62 #[.slice A n c, x, y]) w :=
  inv (by kernel_rfl) (fun _ _ => by kernel_rfl) b A n c [x, y] w h
theorem invPush (x y : Value) (w : World) : (invoke (.fn (.method "Push") #[]) #[.iface 47 x, y]).run Try.prog w = .ok (.enter 61 #[x, y]) w := by kernel_rfl
theorem invPop (x : Value) (w : World) : (invoke (.fn (.method "Pop") #[]) #[.iface 47 x]).run Try.prog w = .ok (.enter 60 #[x]) w := by kernel_rfl
def cmpS (a b : It) : Int := if a.t = b.t ∧ a.r = b.r then 0 else if a.t < b.t ∨ (a.t = b.t ∧ a.r < b.r) then -1 else 1
def befB (a b : It) : Bool := if cmpS a b = 0 then decide (a.g < b.g) else decide (cmpS a b < 0)
set_option maxHeartbeats 1000000 in
theorem cmp_any (a b : It) (w : World) : Calls Try.prog 36 #[.agg #[.int .i64 a.t, .int .i64 a.r], .agg #[.int .i64 b.t, .int .i64 b.r]] w fun e w' => e = .returned (.int .i64 (cmpS a b)) ∧ Below w.heap.size w w' := by
  obtain ⟨t, r, g⟩ := a
  obtain ⟨t', r', g'⟩ := b
  have hu34 := Try.underlying34
  go_enter Try.func36, Try.ntmps36
  go_wp2
  all_goals
    go_ret
    exact ⟨ret_int (by simp_all [cmpS] <;> omega), by (repeat (first | with_reducible exact Below.refl _ _ | with_reducible apply below_alloc | with_reducible apply below_drew1 | with_reducible assumption | (with_reducible refine Keep.below (by assumption)) | (with_reducible refine bel ?_ (by assumption)) | ((with_reducible refine below_set ?_ ?_); rotate_left; (focus (first | assumption | omega | (simp; done) | (simp; omega))))))⟩
theorem len_any (A : Option Addr) (n c : Nat) (w : World) : Calls Try.prog 34 #[.slice A n c] w fun e w' => e = .returned (.int .i64 n) ∧ w = w' := by
  go_enter Try.func34, Try.ntmps34
  go_wp2
  go_ret
  exact ⟨rfl, rfl⟩
set_option maxHeartbeats 1000000 in
theorem bef_any (a b : It) (w : World) : Calls Try.prog 17 #[.agg (IS a), .agg (IS b)] w fun e w' => e = .returned (.bool (befB a b)) ∧ Below w.heap.size w w' := by
  show Calls Try.prog 17 #[.agg #[.int .i64 a.t, .int .i64 a.r, .int .i64 a.g], .agg #[.int .i64 b.t, .int .i64 b.r, .int .i64 b.g]] w fun e w' => e = .returned (.bool (befB a b)) ∧ Below w.heap.size w w'
  obtain ⟨q, hq⟩ : ∃ q, q = cmpS a b := ⟨_, rfl⟩
  have HQ := Lib.hid hq
  go_enter Try.func17, Try.ntmps17
  go_wp2_with (go_at_call 36; refine (cmp_any a b _).mono ?_; rintro e w1 ⟨rfl, hb⟩; rw [← HQ.out]; obtain ⟨hc, hf⟩ := ch hb; have hz := hb.size)
  all_goals
    go_ret
    exact ⟨ret_bool (by unfold befB; rw [← HQ.out]; simp_all), by (repeat (first | with_reducible exact Below.refl _ _ | with_reducible apply below_alloc | with_reducible apply below_drew1 | with_reducible assumption | (with_reducible refine Keep.below (by assumption)) | (with_reducible refine bel ?_ (by assumption)) | ((with_reducible refine below_set ?_ ?_); rotate_left; (focus (first | assumption | omega | (simp; done) | (simp; omega))))))⟩
end Go.Proofs.Ytndfoohdoadkfaa
