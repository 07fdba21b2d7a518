/- Arguments opened: slices of whatever elements. No condition. -/
import Derived.Test.YtndfoohdoadkfaaQR
import Derived.Test.YtndfoohdoadkfaaQY
set_option linter.unusedVariables false
set_option linter.unusedSimpArgs false
namespace Go.Proofs.Ytndfoohdoadkfaa
open Go.RowKit Go.ChangeShapes Go.WideShapes Go.ChangeAt Go.Deep
section
variable {H : Type} {enc : TypeId × Value → H} {W : World} {base : Nat} {spare : Nat → Bool} {held : Bool}
theorem no_spot {a : Addr} {v : Value} (h : W.cell? a = some v) : a = ⟨a.block, a.off, none⟩ := by
  obtain ⟨b, o, s⟩ := a
  cases s with
  | none => rfl
  | some s =>
    simp only [World.cell?] at h
    split at h
    · simp at h
    · cases h
theorem choose_xs {α : Type} (F : α → List Value → Prop) (g o k : Nat) : ∀ n : Nat, (∀ i, i < n → ∃ p c, F p c ∧ W.rangeAt g (o + i * k) c) → ∃ xs : List α, xs.length = n ∧ ∀ j p, xs[j]? = some p → ∃ c, F p c ∧ W.rangeAt g (o + j * k) c
  | 0, _ => ⟨[], rfl, fun j p h => by simp at h⟩
  | n + 1, h => by
    obtain ⟨xs, hl, hx⟩ := choose_xs F g o k n (fun i hi => h i (by omega))
    obtain ⟨p, c, h1, h2⟩ := h n (by omega)
    refine ⟨xs ++ [p], by simp [hl], fun j q hj => ?_⟩
    rcases Nat.lt_or_ge j xs.length with hjl | hjl
    · rw [List.getElem?_append_left hjl] at hj
      exact hx j q hj
    · have hjn : j = n := by
        have := (List.getElem?_eq_some_iff.1 hj).1
        simp at this
        omega
      subst hjn
      rw [List.getElem?_append_right hjl, hl, Nat.sub_self] at hj
      obtain rfl := Option.some.inj (show some p = some q from hj)
      exact ⟨c, h1, h2⟩
/-- What a slice's cell tells. -/
def ListAt (W : World) {α : Type} (k : Nat) (F : α → List Value → Prop) (A : Option Addr) (c : Nat) (xs : List α) : Prop :=
  xs.length ≤ c ∧ c ≤ maxLen ∧ (A = none → c = 0 ∧ xs = []) ∧ (0 < xs.length → ∃ g o, A = some ⟨g, o, none⟩ ∧ ∀ j p, xs[j]? = some p → ∃ cs, F p cs ∧ W.rangeAt g (o + j * k) cs)
theorem open_list {α : Type} {T te : TypeId} {k fuel : Nat} {cs : List Value} {x : DataW H × List MemPlace} (hu : Try.prog.underlying T = some (.slice te)) (hk : Try.prog.cellsOf te = k) (hk0 : 0 < k) (F : α → List Value → Prop)
    (hF : ∀ fuel cs x, DataW.trod enc Try.prog W base spare held fuel te cs = some x → ∃ p, F p cs) (h : DataW.trod enc Try.prog W base spare held fuel T cs = some x) :
    ∃ A c xs, cs = [.slice A xs.length c] ∧ ListAt W k F A c xs := by
  rcases open_slice hu h with ⟨hcs, _⟩ | ⟨ad, l, c, m, n, D, Pl, hcs, _, hl, hm, hmm, _, hx⟩
  · exact ⟨none, 0, [], hcs, Nat.le_refl _, by simp [maxLen], fun _ => ⟨rfl, rfl⟩, fun h => absurd h (Nat.lt_irrefl 0)⟩
  · have hlm : l ≤ m := by
      rw [hmm]
      split
      · exact hl
      · exact Nat.le_refl _
    rw [hk] at hx
    rcases Nat.eq_zero_or_pos l with h0 | h0
    · subst h0
      exact ⟨some ad, c, [], hcs, Nat.zero_le _, hm, fun h => (by cases h), fun h => absurd h (Nat.lt_irrefl 0)⟩
    · have hs : ad = ⟨ad.block, ad.off, none⟩ := by
        obtain ⟨cs', h1, h2⟩ := hx 0 (by omega)
        obtain ⟨_, hlen, hcell⟩ := World.cells?_some h1
        have hc := hcell 0 hk0
        rw [Nat.zero_mul, show ((ad.add 0).add 0) = ad from rfl, List.getElem?_eq_getElem (by omega)] at hc
        exact no_spot hc
      obtain ⟨g, o, s⟩ := ad
      injection hs with _ _ hs
      subst hs
      obtain ⟨xs, hxl, hxs⟩ := choose_xs (W := W) F g o k l (fun i hi => by
        obtain ⟨cs', h1, h2⟩ := hx i (by omega)
        obtain ⟨q, hq⟩ := hF _ _ _ h2
        obtain ⟨_, hlen, hcell⟩ := World.cells?_some h1
        refine ⟨q, cs', hq, fun j u hj => ?_⟩
        have hjk : j < k := by have := (List.getElem?_eq_some_iff.1 hj).1; omega
        have := hcell j hjk
        rw [hj, Addr.add_mid, Addr.add_mid] at this
        exact this)
      subst hxl
      exact ⟨some ⟨g, o, none⟩, c, xs, hcs, hl, hm, fun h => (by cases h), fun _ => ⟨g, o, rfl, hxs⟩⟩
theorem open_listv {α : Type} {T te : TypeId} {k : Nat} {v : Value} {d : DataW H} {p : List MemPlace} {r : Reach} {b0 : Nat} (hu : Try.prog.underlying T = some (.slice te)) (hk : Try.prog.cellsOf te = k) (hk0 : 0 < k) (F : α → List Value → Prop)
    (hF : ∀ fuel cs x, DataW.trod enc Try.prog W base spare held fuel te cs = some x → ∃ p, F p cs) (hv : Value.okWide Try.prog W r b0 T v) (h : DataW.Trod enc Try.prog W base spare held T v d p) :
    ∃ A c xs, v = .slice A xs.length c ∧ ListAt W k F A c xs := by
  obtain ⟨A, len, cap, rfl⟩ := okWide_slice hu hv
  obtain ⟨fuel, hf⟩ := h
  obtain ⟨A', c, xs, e, hL⟩ := open_list hu hk hk0 F hF (show DataW.trod enc Try.prog W base spare held fuel T [.slice A len cap] = some (d, p) from hf)
  injection e with e _
  exact ⟨A', c, xs, e, hL⟩
def FS (s : St) (cs : List Value) : Prop := cs = (SS s).toList
def FI (s : It) (cs : List Value) : Prop := cs = (IS s).toList
theorem ListAt.row {W : World} {A : Option Addr} {c : Nat} {xs : List St} (h : ListAt W 2 FS A c xs) : Row2 W (.slice A xs.length c) xs ∧ Nz (.slice A xs.length c) := by
  obtain ⟨h1, h2, h3, h4⟩ := h
  refine ⟨⟨A, c, rfl, h1, fun h0 => ?_⟩, ?_⟩
  · obtain ⟨g, o, e, hr⟩ := h4 h0
    refine ⟨g, o, e, fun k s hk => ?_⟩
    obtain ⟨cs, rfl, hc⟩ := hr k s hk
    exact hc
  · cases A with
    | none =>
      obtain ⟨rfl, rfl⟩ := h3 rfl
      exact .inl rfl
    | some a => exact .inr ⟨a, _, _, rfl⟩
theorem open_sts {v : Value} {d : DataW H} {p : List MemPlace} {r : Reach} {b0 : Nat} (hv : Value.okWide Try.prog W r b0 55 v) (h : DataW.Trod enc Try.prog W base spare held 55 v d p) : ∃ xs : List St, Row2 W v xs ∧ Nz v := by
  obtain ⟨A, c, xs, rfl, hL⟩ := open_listv Try.underlying55 (k := 2) (by kernel_rfl) (by omega) FS (fun fuel cs x hx => open_st hx) hv h
  exact ⟨xs, hL.row⟩
end
/-- QueueTogether, for whatever rows. -/
theorem row_len {W : World} {A : Option Addr} {n c : Nat} {l : List St} (h : Row2 W (.slice A n c) l) : n = l.length := by
  obtain ⟨A', c', e, _⟩ := h
  injection e
set_option maxRecDepth 10000 in
set_option maxHeartbeats 1000000 in
theorem together_walk (va vb vc : Value) (a b c : List St) (w : World) (ha : Row2 w va a ∧ Nz va) (hb : Row2 w vb b ∧ Nz vb) (hc : Row2 w vc c ∧ Nz vc) :
    Calls Try.prog 7 #[va, vb, vc] w fun e w' => e = .returned (.bool true) ∧ Below w.heap.size w w' := by
  by_cases la : a.length ≤ 200
  · by_cases lb : b.length ≤ 200
    · by_cases lc : c.length ≤ 200
      · exact together_any va vb vc a b c w ha.1 hb.1 hc.1 ha.2 hb.2 hc.2 la lb lc
      · obtain ⟨Aa, ca, rfl, _⟩ := ha.1
        obtain ⟨Ab, cb, rfl, _⟩ := hb.1
        obtain ⟨Ac, cc, rfl, _⟩ := hc.1
        clear ha hb hc
        have g1 : ¬ (200 : Int) < (a.length : Int) := by omega
        have g2 : ¬ (200 : Int) < (b.length : Int) := by omega
        have g3 : (200 : Int) < (c.length : Int) := by omega
        go_enter Try.func7, Try.ntmps7
        go_wp2_with (go_at_call 8; refine (knows_is _).mono ?_; rintro e w2 ⟨rfl, hb⟩)
        go_ret
        exact ⟨rfl, hb⟩
    · obtain ⟨Aa, ca, rfl, _⟩ := ha.1
      obtain ⟨Ab, cb, rfl, _⟩ := hb.1
      clear ha hb hc
      have g1 : ¬ (200 : Int) < (a.length : Int) := by omega
      have g2 : (200 : Int) < (b.length : Int) := by omega
      go_enter Try.func7, Try.ntmps7
      go_wp2_with (go_at_call 8; refine (knows_is _).mono ?_; rintro e w2 ⟨rfl, hb⟩)
      go_ret
      exact ⟨rfl, hb⟩
  · obtain ⟨Aa, ca, rfl, _⟩ := ha.1
    clear ha hb hc
    have g1 : (200 : Int) < (a.length : Int) := by omega
    go_enter Try.func7, Try.ntmps7
    go_wp2_with (go_at_call 8; refine (knows_is _).mono ?_; rintro e w2 ⟨rfl, hb⟩)
    go_ret
    exact ⟨rfl, hb⟩
theorem together_row (va : Value) (a : List St) (vb : Value) (b : List St) (vc : Value) (c : List St) (w : World) (ha : Row2 w va a ∧ Nz va) (hb : Row2 w vb b ∧ Nz vb) (hc : Row2 w vc c ∧ Nz vc) :
    Calls Try.prog 7 #[va, vb, vc] w fun e w' => e = .returned (.bool true) ∧ Below w.heap.size w w' := together_walk va vb vc a b c w ha hb hc
end Go.Proofs.Ytndfoohdoadkfaa
