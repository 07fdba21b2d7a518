/- A region whose order is drawn, walked in one order: operations that leave the same value wherever they come up are taken first; the others come up by turns. No condition. -/
import Derived.Test.YtndfoohdoadkfaaDrawn
set_option linter.unusedVariables false
set_option linter.unusedSimpArgs false
namespace Go.Proofs.Ytndfoohdoadkfaa
open Go.RowKit
section
variable {P : Program} {ops : Array Oper} {Q : Exit → Act → World → Prop} {md : Region.Mode}
/-- What the run of one operation leaves, its calls gone through. -/
def Res (P : Program) (F : Value → World → Prop) : Result Next → Prop
  | .ok (.value v) w => F v w
  | .ok .skip w => F undef w
  | .ok (.enter f args) w => Calls P f args w fun
      | .returned v, w' => F v w'
      | _, _ => False
  | .ok (.row row args) w => Rows P row args w F
  | _ => False
theorem Res.mono {F F' : Value → World → Prop} (h : ∀ v w, F v w → F' v w) {r : Result Next} (hr : Res P F r) : Res P F' r := by
  cases r with
  | ok n w =>
    cases n <;> simp only [Res] at hr ⊢
    case value => exact h _ _ hr
    case skip => exact h _ _ hr
    case enter => exact Calls.mono hr fun e w' he => by cases e <;> first | exact h _ _ he | exact he
    case row => exact Rows.mono hr fun v w' he => h _ _ he
  | halt x w => cases x <;> simp only [Res] at hr
/-- From a walk of the operation, whatever comes behind it. -/
theorem res_of_wp {o : Oper} {a : Act} {W : World} {v : Value} {R : World → World → Prop}
    (h : ∀ K : Act → World → Prop, (∀ W', R W W' → K (a.put o.dst v) W') → o.wp P a W K (fun _ _ _ => False)) :
    Res P (fun v' W' => a.put o.dst v' = a.put o.dst v ∧ R W W') ((execOp a.eval o).run P W) := by
  have h1 := h (fun a' W' => a' = a.put o.dst v ∧ R W W') (fun W' hR => ⟨rfl, hR⟩)
  unfold Oper.wp at h1
  generalize (execOp a.eval o).run P W = r at h1 ⊢
  cases r with
  | ok n w =>
    cases n <;> simp only [Oper.upon] at h1 <;> simp only [Res]
    case value => exact h1
    case skip => exact h1
    case defer d =>
      obtain ⟨h2, _⟩ := h1
      have h3 := congrArg (fun b : Act => b.defers.length) h2
      cases hd : o.dst <;> simp [hd, Act.put] at h3
    case enter =>
      refine Calls.mono h1 fun e w' he => ?_
      cases e with
      | returned v' => exact he
      | panicked => exact he
      | outgrown =>
        obtain ⟨_, _, hh⟩ := he
        exact hh
    case row => exact h1
  | halt x w => cases x <;> simp only [Oper.upon] at h1 <;> exact h1
theorem wp_of_res {o : Oper} {a : Act} {W : World} {K : Act → World → Prop} {F : Value → World → Prop} (h : Res P F ((execOp a.eval o).run P W)) (hK : ∀ v W', F v W' → K (a.put o.dst v) W') : o.wp P a W K Q := by
  unfold Oper.wp
  generalize (execOp a.eval o).run P W = r at h ⊢
  cases r with
  | ok n w =>
    cases n <;> simp only [Res] at h <;> simp only [Oper.upon]
    case value => exact hK _ _ h
    case skip => exact hK _ _ h
    case enter => exact Calls.mono h fun e w' he => by cases e <;> first | exact hK _ _ he | exact he.elim
    case row => exact Rows.mono h fun v w' he => hK _ _ he
  | halt x w => cases x <;> simp only [Res] at h
/-- A put of a value, by what it does. -/
def SamePut (n : Nat) (d : Option Tmp) (v v' : Value) : Prop := ∀ a : Act, a.tmps.size = n → a.put d v' = a.put d v
theorem samePut_of {a : Act} {d : Option Tmp} {v v' : Value} (h : a.put d v' = a.put d v) : SamePut a.tmps.size d v v' := by
  intro b hb
  cases d with
  | none => rfl
  | some d =>
    rcases Nat.lt_or_ge d a.tmps.size with hd | hd
    · have h1 := congrArg (fun b : Act => b.tmps[d]?) h
      simp only [Act.put] at h1
      rw [Array.getElem?_setIfInBounds_self_of_lt hd, Array.getElem?_setIfInBounds_self_of_lt hd] at h1
      injection h1 with h1
      rw [h1]
    · simp only [Act.put]
      rw [Array.setIfInBounds_eq_of_size_le (by omega), Array.setIfInBounds_eq_of_size_le (by omega)]
def closedL (md : Region.Mode) (ops : Array Oper) (L : Array Bool) : Prop := ∀ j, L.getD j false = true → ∀ k ∈ needs md ops j, L.getD k false = true
def closedB (md : Region.Mode) (ops : Array Oper) (L : Array Bool) : Bool := (List.range L.size).all fun j => !L.getD j false || (needs md ops j).all fun k => L.getD k false
theorem closed_of {L : Array Bool} (h : closedB md ops L = true) : closedL md ops L := by
  intro j hj k hk
  simp only [closedB, List.all_eq_true, List.mem_range] at h
  have hl : j < L.size := by
    rcases Nat.lt_or_ge j L.size with h' | h'
    · exact h'
    · simp [Array.getElem?_eq_none h'] at hj
  have := h j hl
  rw [hj] at this
  simp only [Bool.not_true, Bool.false_or, List.all_eq_true] at this
  exact this k hk
/-- Does k wait for i, through others? -/
def waits (md : Region.Mode) (ops : Array Oper) (k i : Nat) : Bool := (cl md ops ops.size (needs md ops k)).contains i
theorem not_yet {L : Array Bool} {i k : Nat} (hc : closedL md ops L) (hi : L.getD i false = false) (hw : waits md ops k i = true) : L.getD k false = false := by
  cases hk : L.getD k false with
  | false => rfl
  | true =>
    have := cl_all (md := md) (ops := ops) (p := fun x => L.getD x false = true) (fun j hj x hx => hc j hj x hx) ops.size (needs md ops k) (fun x hx => hc k hk x hx) i (by simpa [waits] using hw)
    rw [hi] at this
    cases this
def early (late : List Nat) (L : Array Bool) : Prop := ∀ k ∈ late, L.getD k false = false
theorem early_less {late : List Nat} {L : Array Bool} {i : Nat} (h : early late (L.setIfInBounds i true)) : early late L := by
  intro k hk
  cases h1 : L.getD k false with
  | false => rfl
  | true =>
    have := getD_set_true (i := i) h1
    rw [h k hk] at this
    cases this
theorem early_more {late : List Nat} {L : Array Bool} {i : Nat} (h : early late L) (hi : late.contains i = false) : early late (L.setIfInBounds i true) := by
  intro k hk
  have hne : i ≠ k := by
    rintro rfl
    have : late.contains i = true := by simpa using hk
    rw [hi] at this
    cases this
  rw [getD_set_ne false hne]
  exact h k hk
/-- The operation leaves v wherever it comes up. -/
def Leaves1 (P : Program) (ops : Array Oper) (md : Region.Mode) (late : List Nat) (I : World → Prop) (R : World → World → Prop) (i : Nat) (o : Oper) (v : Value) (a : Act) : Prop :=
  (Region.wanted o (yielded ops a.tmps) = true ∧ ∀ L W, closedL md ops L → L.getD i false = false → (early late L → I W) → Res P (fun v' W' => SamePut a.tmps.size o.dst v v' ∧ R W W') ((execOp a.eval o).run P W)) ∨
  (Region.wanted o (yielded ops a.tmps) = false ∧ v = undef)
theorem Leaves1.of_same {late : List Nat} {I : World → Prop} {R : World → World → Prop} {i : Nat} {o : Oper} {v : Value} {a a' : Act} (hy : Leaves1 P ops md late I R i o v a) (he : execOp a'.eval o = execOp a.eval o)
    (hw : Region.wanted o (yielded ops a'.tmps) = Region.wanted o (yielded ops a.tmps)) (hs : a'.tmps.size = a.tmps.size) : Leaves1 P ops md late I R i o v a' := by
  unfold Leaves1 at *
  rw [he, hw, hs]
  exact hy
/-- The region's walk: R: how the world may grow between; I: what holds till one of 'late' is done. -/
def wpAnyC (P : Program) (md : Region.Mode) (ops : Array Oper) (late : List Nat) (I : World → Prop) (R : World → World → Prop) (Q : Exit → Act → World → Prop) : Nat → Array Bool → Act → World → Prop
  | 0, L, a, w => ∀ W, R w W → Region.ready md ops L = [] ∧ Q .normal a W
  | f + 1, L, a, w => ∀ W, R w W → (Region.ready md ops L = [] → Q .normal a W) ∧
      ∀ i ∈ Region.ready md ops L, wpOp P ops Q i (fun a' w' => (early late (L.setIfInBounds i true) → I w') ∧ wpAnyC P md ops late I R Q f (L.setIfInBounds i true) a' w') a W
variable {late : List Nat} {I : World → Prop} {R : World → World → Prop}
theorem wpAnyC_up (hT : ∀ {a b c}, R a b → R b c → R a c) {f : Nat} {L : Array Bool} {a : Act} {w w' : World} (h : wpAnyC P md ops late I R Q f L a w) (hr : R w w') : wpAnyC P md ops late I R Q f L a w' := by
  cases f with
  | zero => exact fun W hW => h W (hT hr hW)
  | succ f => exact fun W hW => h W (hT hr hW)
theorem wpAnyC_any (hR : ∀ w, R w w) : ∀ (f : Nat) (L : Array Bool) (a : Act) (w : World), wpAnyC P md ops late I R Q f L a w → wpAny P md ops Q f L a w
  | 0, _, _, _, h => h _ (hR _)
  | f + 1, L, a, w, h => ⟨(h _ (hR _)).1, fun i hi => wpOp_mono (fun a' w' hk => wpAnyC_any hR f _ _ _ hk.2) ((h _ (hR _)).2 i hi)⟩
/-- The commutation: number j, shown behind i, is as good ahead of it. -/
theorem wpOp_swap {i j : Nat} {oi oj : Oper} {v : Value} (hj : ops[j]? = some oj) (hap : oi.apart ops oj = true)
    (hsi : ∀ cs b, oi.op ≠ .select cs b) (hsj : ∀ cs b, oj.op ≠ .select cs b)
    (hQ : ∀ c a w, Q (.panic c) (a.put oi.dst v) w → Q (.panic c) a w) {K : Act → World → Prop} {a : Act} {w : World}
    (hy : Leaves1 P ops md late I R i oi v a) (h : wpOp P ops Q j K (a.put oi.dst v) w) :
    wpOp P ops Q j (fun a' w' => Leaves1 P ops md late I R i oi v a' ∧ K (a'.put oi.dst v) w') a w := by
  obtain ⟨h1, h2, h3⟩ := Oper.apart_spec hap
  have keep : ∀ (a : Act), Leaves1 P ops md late I R i oi v a → ∀ u, Leaves1 P ops md late I R i oi v (a.put oj.dst u) := fun a hy u =>
    hy.of_same (execOp_put oi hsi a oj.dst u h3) (wanted_put oi a oj.dst u h3) (put_size _ _ _)
  have keepD : ∀ d, Leaves1 P ops md late I R i oi v { a with defers := d :: a.defers } := fun d => hy.of_same rfl rfl rfl
  unfold wpOp at *
  simp only [hj] at *
  rw [wanted_put oj a oi.dst v h1] at h
  split
  · rename_i hw
    simp only [hw, if_true] at h
    rcases h with h | ⟨hasks, hlets⟩
    case inr => exact .inr ⟨by unfold Oper.asks at *; rw [execOp_put oj hsj a oi.dst v h1] at hasks; exact hasks, hlets⟩
    refine .inl ?_
    unfold Oper.wp at *
    rw [execOp_put oj hsj a oi.dst v h1] at h
    generalize (execOp a.eval oj).run P w = r at *
    cases r with
    | ok n w' =>
      cases n <;> simp only [Oper.upon] at h ⊢
      case value u => exact ⟨keep a hy u, by rw [← Act.put_comm a v u h2]; exact h⟩
      case skip => exact ⟨keep a hy _, by rw [← Act.put_comm a v undef h2]; exact h⟩
      case defer d =>
        refine ⟨keep _ (keepD d) _, ?_⟩
        rw [← Act.put_comm _ v undef h2, ← Act.put_defers]
        exact h
      case enter f args =>
        refine Calls.mono h fun e w'' he => ?_
        cases e with
        | returned u => exact ⟨keep a hy u, by rw [← Act.put_comm a v u h2]; exact he⟩
        | panicked c => exact hQ _ _ _ he
        | outgrown => exact he
      case row row args => exact Rows.mono h fun u w'' he => ⟨keep a hy u, by rw [← Act.put_comm a v u h2]; exact he⟩
    | halt x w' =>
      cases x <;> simp only [Oper.upon] at h ⊢
      case panic u => exact hQ _ _ _ h
  · rename_i hw
    simp only [hw] at h
    exact ⟨keep a hy _, by rw [← Act.put_comm a v undef h2]; exact h⟩
theorem wpOp_leaves {i : Nat} {o : Oper} {v : Value} {a : Act} {L : Array Bool} {w : World} (hi : ops[i]? = some o) (hy : Leaves1 P ops md late I R i o v a) (hc : closedL md ops L) (hl : L.getD i false = false) (hI : early late L → I w) (hR : ∀ w, R w w)
    {K : Act → World → Prop} (h : ∀ w', R w w' → K (a.put o.dst v) w') : wpOp P ops Q i K a w := by
  unfold Go.wpOp
  simp only [hi]
  rcases hy with ⟨hw, hv⟩ | ⟨hw, rfl⟩
  · simp only [hw, if_true]
    exact .inl (wp_of_res (hv L w hc hl hI) fun v' w' hF => by rw [hF.1 a rfl]; exact h _ hF.2)
  · simp only [hw, Bool.false_eq_true, if_false]
    exact h _ (hR _)
theorem closed_ready {L : Array Bool} {j : Nat} (hc : closedL md ops L) (hj : j ∈ Region.ready md ops L) : closedL md ops (L.setIfInBounds j true) := by
  rw [mem_ready'] at hj
  intro x hx k hk
  by_cases e : x = j
  · subst e
    exact getD_set_true (hj.2.2 k hk)
  · rw [getD_set_ne false (Ne.symm e)] at hx
    exact getD_set_true (hc x hx k hk)
theorem getD_conv {L : Array Bool} {i : Nat} (h : L.getD i true = false) : L.getD i false = false := by
  rcases Nat.lt_or_ge i L.size with h' | h'
  · simp [h'] at h ⊢; exact h
  · simp [Array.getElem?_eq_none h'] at h
theorem wpAnyC_first (hRr : ∀ w, R w w) (hT : ∀ {a b c}, R a b → R b c → R a c) (hIR : ∀ {w w'}, I w → R w w' → I w')
    {i : Nat} {oi : Oper} {v : Value} (hi : ops[i]? = some oi) (hil : late.contains i = false) (hsel : ∀ (j : Nat) (o : Oper) cs b, ops[j]? = some o → o.op ≠ .select cs b)
    (hQ : ∀ c a w, Q (.panic c) (a.put oi.dst v) w → Q (.panic c) a w) :
    ∀ (f : Nat) (L : Array Bool) (a : Act) (w : World),
      (∀ j oj, ops[j]? = some oj → j ≠ i → L.getD j true = false → (∀ e ∈ oj.after, Region.binds md e = true → e.on ≠ i) → oi.apart ops oj = true) →
      i ∈ Region.ready md ops L → closedL md ops L → (early late L → I w) → Leaves1 P ops md late I R i oi v a →
      wpAnyC P md ops late I R Q f (L.setIfInBounds i true) (a.put oi.dst v) w → wpAnyC P md ops late I R Q (f + 1) L a w := by
  intro f
  induction f with
  | zero =>
    intro L a w _ hr hc hI hy H W hW
    have hl := getD_conv (mem_ready.1 hr).1
    refine ⟨fun h => (by rw [h] at hr; cases hr), fun j hj => ?_⟩
    by_cases hji : j = i
    · subst hji
      exact wpOp_leaves hi hy hc hl (fun he => hIR (hI he) hW) hRr fun w' hw' => ⟨fun he => hIR (hIR (hI (early_less he)) hW) hw', wpAnyC_up @hT H (hT hW hw')⟩
    · have := ready_mono hj hji
      rw [(H w (hRr w)).1] at this
      cases this
  | succ f ih =>
    intro L a w hfree hr hc hI hy H W hW
    have hl := getD_conv (mem_ready.1 hr).1
    refine ⟨fun h => (by rw [h] at hr; cases hr), fun j hj => ?_⟩
    by_cases hji : j = i
    · subst hji
      exact wpOp_leaves hi hy hc hl (fun he => hIR (hI he) hW) hRr fun w' hw' => ⟨fun he => hIR (hIR (hI (early_less he)) hW) hw', wpAnyC_up @hT H (hT hW hw')⟩
    · have h1 := (H W hW).2 j (ready_mono hj hji)
      obtain ⟨hjun, oj, hoj, hall⟩ := mem_ready.1 hj
      have hnot : ∀ e ∈ oj.after, Region.binds md e = true → e.on ≠ i := fun e he hb heq => by
        have h1 := hall e he hb
        rw [heq, hl] at h1
        cases h1
      have h2 := wpOp_swap hoj (hfree j oj hoj hji hjun hnot) (fun cs b => hsel i oi cs b hi) (fun cs b => hsel j oj cs b hoj) hQ hy h1
      have hfree' : ∀ k ok, ops[k]? = some ok → k ≠ i → (L.setIfInBounds j true).getD k true = false →
          (∀ e ∈ ok.after, Region.binds md e = true → e.on ≠ i) → oi.apart ops ok = true := fun k ok hk hki hun hno => by
        refine hfree k ok hk hki ?_ hno
        by_cases hjk : j = k
        · subst hjk; exact hjun
        · rw [getD_set_ne true hjk] at hun; exact hun
      refine wpOp_mono (fun a' w' h3 => ⟨fun he => ?_, ih (L.setIfInBounds j true) a' w' hfree' (ready_mono hr (Ne.symm hji)) (closed_ready hc hj) (fun he => ?_) h3.1 ?_⟩) h2
      · exact h3.2.1 (by rw [Array.setIfInBounds_comm _ _ (Ne.symm hji)]; exact early_more he hil)
      · exact h3.2.1 (by rw [Array.setIfInBounds_comm _ _ (Ne.symm hji)]; exact early_more he hil)
      · rw [Array.setIfInBounds_comm _ _ hji]
        exact h3.2.2
/-- The region's fixed part. -/
structure Cx (P : Program) (ops : Array Oper) (late : List Nat) (I : World → Prop) (R : World → World → Prop) (Q : Exit → Act → World → Prop) : Prop where
  sel : Region.noSelect ops = true
  refl : ∀ w, R w w
  trans : ∀ {a b c}, R a b → R b c → R a c
  keep : ∀ {w w'}, I w → R w w' → I w'
  panic : ∀ (d : Option Tmp) (v : Value) c a w, Q (.panic c) (a.put d v) w → Q (.panic c) a w
def takeOk (ops : Array Oper) (late : List Nat) (L : Array Bool) (i : Nat) : Bool :=
  Region.free .any ops L i && (Region.ready .any ops L).contains i && closedB .any ops L && !late.contains i && late.all fun k => waits .any ops k i
theorem takeOk_spec {L : Array Bool} {i : Nat} (h : takeOk ops late L i = true) : Region.free .any ops L i = true ∧ i ∈ Region.ready .any ops L ∧ closedL .any ops L ∧ late.contains i = false ∧ ∀ k ∈ late, waits .any ops k i = true := by
  simp only [takeOk, Bool.and_eq_true, Bool.not_eq_true', List.all_eq_true] at h
  obtain ⟨⟨⟨⟨h1, h2⟩, h3⟩, h4⟩, h5⟩ := h
  exact ⟨h1, by simpa using h2, closed_of h3, h4, h5⟩
theorem c_take (hX : Cx P ops late I R Q) {L : Array Bool} {i f : Nat} {a : Act} {w : World} {o : Oper} {v : Value} (hok : takeOk ops late L i = true) (hi : ops[i]? = some o) (hI : I w)
    (hy : Leaves1 P ops .any late I R i o v a) (h : wpAnyC P .any ops late I R Q f (L.setIfInBounds i true) (a.put o.dst v) w) : wpAnyC P .any ops late I R Q (f + 1) L a w := by
  obtain ⟨h1, h2, h3, h4, _⟩ := takeOk_spec hok
  exact wpAnyC_first hX.refl hX.trans hX.keep hi h4 (fun j o cs b ho => Region.noSelect_spec hX.sel j o cs b ho) (fun c a w => hX.panic o.dst v c a w) f L a w (Region.free_spec hi h1) h2 h3 (fun _ => hI) hy h
/-- An operation that leaves v wherever it comes up. -/
theorem c_val (hX : Cx P ops late I R Q) {L : Array Bool} {f : Nat} {a : Act} {w : World} (i : Nat) (o : Oper) {v : Value} (hI : I w) (hok : takeOk ops late L i = true) (hi : ops[i]? = some o)
    (hw : Region.wanted o (yielded ops a.tmps) = true)
    (hy : ∀ b : Act, (∀ t : Nat, b.tmps[t]? = a.tmps[t]?) → ∀ W, I W → ∀ K : Act → World → Prop, (∀ W', R W W' → K (b.put o.dst v) W') → o.wp P b W K (fun _ _ _ => False))
    (h : wpAnyC P .any ops late I R Q f (L.setIfInBounds i true) (a.put o.dst v) w) : wpAnyC P .any ops late I R Q (f + 1) L a w := by
  obtain ⟨_, _, _, _, h5⟩ := takeOk_spec hok
  refine c_take hX hok hi hI (.inl ⟨hw, fun L' W hc hl hI' => ?_⟩) h
  refine Res.mono (fun v' W' hF => ⟨samePut_of hF.1, hF.2⟩) (res_of_wp (hy a (fun _ => rfl) W (hI' fun k hk => not_yet hc hl (h5 k hk))))
/-- One that is passed over. -/
theorem c_off (hX : Cx P ops late I R Q) {L : Array Bool} {f : Nat} {a : Act} {w : World} (i : Nat) (o : Oper) (hI : I w) (hok : takeOk ops late L i = true) (hi : ops[i]? = some o)
    (hw : Region.wanted o (yielded ops a.tmps) = false)
    (h : wpAnyC P .any ops late I R Q f (L.setIfInBounds i true) (a.put o.dst undef) w) : wpAnyC P .any ops late I R Q (f + 1) L a w :=
  c_take hX hok hi hI (.inr ⟨hw, rfl⟩) h
/-- One that comes up alone. -/
theorem c_main {L : Array Bool} {f : Nat} {a : Act} {w : World} (i : Nat) (o : Oper) (hr : Region.ready .any ops L = [i]) (hi : ops[i]? = some o)
    (hw : Region.wanted o (yielded ops a.tmps) = true)
    (h : ∀ b : Act, (∀ t : Nat, b.tmps[t]? = a.tmps[t]?) → ∀ W, R w W → ∀ K : Act → World → Prop, (∀ v W', I W' → wpAnyC P .any ops late I R Q f (L.setIfInBounds i true) (a.put o.dst v) W' → K (b.put o.dst v) W') → o.wp P b W K Q) :
    wpAnyC P .any ops late I R Q (f + 1) L a w := by
  intro W hW
  refine ⟨fun h0 => (by rw [h0] at hr; cases hr), fun j hj => ?_⟩
  rw [hr, List.mem_singleton] at hj
  subst hj
  unfold Go.wpOp
  simp only [hi, hw, if_true]
  exact .inl (h a (fun _ => rfl) W hW _ (fun v W' h1 h2 => ⟨fun _ => h1, h2⟩))
/-- Two that come up together. -/
theorem c_two {L : Array Bool} {f : Nat} {a : Act} {w : World} (i j : Nat) (o o' : Oper) (hr : Region.ready .any ops L = [i, j]) (hi : ops[i]? = some o) (hj : ops[j]? = some o')
    (hw : Region.wanted o (yielded ops a.tmps) = true) (hw' : Region.wanted o' (yielded ops a.tmps) = true)
    (h : ∀ b : Act, (∀ t : Nat, b.tmps[t]? = a.tmps[t]?) → ∀ W, R w W → ∀ K : Act → World → Prop, (∀ v W', I W' → wpAnyC P .any ops late I R Q f (L.setIfInBounds i true) (a.put o.dst v) W' → K (b.put o.dst v) W') → o.wp P b W K Q)
    (h' : ∀ b : Act, (∀ t : Nat, b.tmps[t]? = a.tmps[t]?) → ∀ W, R w W → ∀ K : Act → World → Prop, (∀ v W', I W' → wpAnyC P .any ops late I R Q f (L.setIfInBounds j true) (a.put o'.dst v) W' → K (b.put o'.dst v) W') → o'.wp P b W K Q) :
    wpAnyC P .any ops late I R Q (f + 1) L a w := by
  intro W hW
  refine ⟨fun h0 => (by rw [h0] at hr; cases hr), fun k hk => ?_⟩
  rw [hr] at hk
  simp only [List.mem_cons, List.not_mem_nil, or_false] at hk
  unfold Go.wpOp
  rcases hk with rfl | rfl
  · simp only [hi, hw, if_true]
    exact .inl (h a (fun _ => rfl) W hW _ (fun v W' h1 h2 => ⟨fun _ => h1, h2⟩))
  · simp only [hj, hw', if_true]
    exact .inl (h' a (fun _ => rfl) W hW _ (fun v W' h1 h2 => ⟨fun _ => h1, h2⟩))
/-- One that comes up alone, behind which the condition need not hold. -/
theorem c_late {L : Array Bool} {f : Nat} {a : Act} {w : World} (i : Nat) (o : Oper) (hr : Region.ready .any ops L = [i]) (hi : ops[i]? = some o) (hl : late.contains i = true) (hz : decide (i < L.size) = true)
    (hw : Region.wanted o (yielded ops a.tmps) = true)
    (h : ∀ b : Act, (∀ t : Nat, b.tmps[t]? = a.tmps[t]?) → ∀ W, R w W → ∀ K : Act → World → Prop, (∀ v W', wpAnyC P .any ops late I R Q f (L.setIfInBounds i true) (a.put o.dst v) W' → K (b.put o.dst v) W') → o.wp P b W K Q) :
    wpAnyC P .any ops late I R Q (f + 1) L a w := by
  intro W hW
  refine ⟨fun h0 => (by rw [h0] at hr; cases hr), fun j hj => ?_⟩
  rw [hr, List.mem_singleton] at hj
  subst hj
  unfold Go.wpOp
  simp only [hi, hw, if_true]
  refine .inl (h a (fun _ => rfl) W hW _ (fun v W' h2 => ⟨fun he => ?_, h2⟩))
  have := he j (by simpa using hl)
  simp only [decide_eq_true_eq] at hz
  simp [hz] at this
/-- An operation by its run, a call of append. -/
theorem wp_run {o : Oper} {a : Act} {w w1 : World} {K : Act → World → Prop} {v : Value} (hrun : (execOp a.eval o).run P w = .ok (.value v) w1) (h : K (a.put o.dst v) w1) : o.wp P a w K Q := by
  unfold Oper.wp
  rw [hrun]
  exact h
theorem wp_app {o : Oper} {a : Act} {K : Act → World → Prop} {W W' : World} {v u v' : Value} {T : TypeId} (s x : Operand) (ho : o.op = .call { callee := .builtin .append, args := #[s, x], argTypes := #[T, T] }) (hty : o.type = T)
    (hs : a.eval s = v) (hx : a.eval x = u) (hr : (Builtin.append_ #[T, T] T #[v, u]).run P W = .ok v' W') (h : K (a.put o.dst v') W') : o.wp P a W K Q := by
  unfold Oper.wp execOp
  simp only [ho, hty, resolve, invoke, builtin, Sem.run_bind, Sem.run_pure, Result.andThen_ok, List.map_toArray, List.map_cons, List.map_nil, hs, hx, hr]
  exact h
theorem ev_tmp {a : Act} {t : Nat} {v : Value} (h : a.tmps[t]? = some v) : a.eval (.tmp t) = v := by simp [Act.eval, h]
theorem c_done {L : Array Bool} {f : Nat} {a : Act} {w : World} (hr : Region.ready .any ops L = []) (h : ∀ W, R w W → Q .normal a W) : wpAnyC P .any ops late I R Q f L a w := by
  cases f with
  | zero => exact fun W hW => ⟨hr, h W hW⟩
  | succ f => exact fun W hW => ⟨fun _ => h W hW, fun i hi => by rw [hr] at hi; cases hi⟩
def opsIn (id : Nat) : Code → Option (Array Oper)
  | .region i ops _ => if i = id then some ops else none
  | .seq a b | .cond _ a b => (opsIn id a).orElse fun _ => opsIn id b
  | .block _ a | .loop a | .rangeFunc _ _ _ a | .scope a => opsIn id a
  | _ => none
def regOps (f : Func) (id : Nat) : Array Oper := (f.body.bind (opsIn id)).getD #[]
/-- THE RULE. -/
theorem run_region {fn : Func} {id n : Nat} {a : Act} {w : World} (late : List Nat) (I : World → Prop) (R : World → World → Prop) (hm : P.follows .mixedOrders = true) (hops : regOps fn id = ops) (hn : (regOps fn id).size = n) (hsel : Region.noSelect (regOps fn id) = true)
    (hr : ∀ w, R w w) (ht : ∀ a b c, R a b → R b c → R a c) (hk : ∀ w w', I w → R w w' → I w')
    (h : ∀ Q' : Exit → Act → World → Prop, (∀ a W, Q .normal a W → Q' .normal a W) → Cx P (regOps fn id) late I R Q' → wpAnyC P .any (regOps fn id) late I R Q' n (Array.replicate n false) a w.drew) :
    (Code.region id ops true).wp P Q a w := by
  subst hops
  subst hn
  exact wp_region_noPanic (wp_region_any hm (wpAnyC_any hr _ _ _ _ (h (NoPanic Q) (fun _ _ h => NoPanic.normal h) ⟨hsel, hr, fun h1 h2 => ht _ _ _ h1 h2, fun h1 h2 => hk _ _ h1 h2, fun _ _ _ _ _ h => h⟩)))
/-- The old memory is as it was. -/
def Bw (w W : World) : Prop := Below w.heap.size w W
/-- Worlds that grow, and no more. -/
def Gr (w W : World) : Prop := Below w.heap.size w W
theorem Gr.refl (w : World) : Gr w w := Below.refl _ _
theorem Gr.trans {a b c : World} (h : Gr a b) (k : Gr b c) : Gr a c := bel h k
end
end Go.Proofs.Ytndfoohdoadkfaa
