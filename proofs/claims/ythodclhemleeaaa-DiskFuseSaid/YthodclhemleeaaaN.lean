/- The law DiskFuse's walk. -/
import Derived.Test.YthodclhemleeaaaM
set_option linter.unusedVariables false
set_option linter.unusedSimpArgs false
namespace Go.Proofs.Ythodclhemleeaaa
open Go.RowKit
open Go.Proofs.YthodclhemleeaaaW.PrintWords (nums ReadsInt Drawn0 Kd pw_cell_below)
open PDiskNil (S33 k33 rd_T33)
attribute [local go_sem] max2_int min2_int max_two min_two
theorem fuseN_bd (n : Int) : -1 ≤ fuseN n ∧ fuseN n ≤ 10 := by
  unfold fuseN
  have h1 := Int.tmod_lt_of_pos n (show (0 : Int) < 12 by omega)
  have h2 := Int.lt_tmod_of_pos n (show (0 : Int) < 12 by omega)
  have h3 := Int.tmod_lt_of_pos (n.tmod 12 + 12) (show (0 : Int) < 12 by omega)
  have h4 := Int.tmod_nonneg 12 (show 0 ≤ n.tmod 12 + 12 by omega)
  omega
theorem Fz.more {d : Dsk} {n : Int} {done i : Nat} (h : Fz d n done i) : Fz d n done (i + 1) := ⟨h.ok, h.room, by have := h.ll; omega, h.ls, h.st⟩
def StepPost (w : World) (g : Nat) (m : Int) (done i : Nat) (o : Bool) (e : Ending) (w' : World) : Prop :=
  e = .returned (.int .i64 (if o then 9 else 0)) ∧ (∃ d' lv sv, DiskAt w' g d' lv sv ∧ Fz d' m (done + 1) (i + 1) ∧ d'.off = o) ∧ Only g w w'
theorem step_of {w : World} {g : Nat} {m : Int} {done i : Nat} {o : Bool} {d : Dsk} {F : Dsk → Dsk} {half : Bool} {used : Int} (ho : offB m done = o) (hF : Fz d m done i) (hO : Opn F 3000) (hu : used ≤ 1048576) (hi : i < 150) (hm : m ≤ 10) {f : FuncId} {args : Array Value}
    (h : Calls Try.prog f args w (OpPost w g (opR F half d used).1 (opR F half d used).2)) : Calls Try.prog f args w (StepPost w g m done i o) := by
  obtain ⟨h1, h2, h3⟩ := hF.step F half used hO hu hi hm
  refine h.mono ?_
  rintro e w' ⟨he, ⟨lv, sv, hD⟩, hOn⟩
  rw [h2, ho] at he
  exact ⟨he, ⟨_, lv, sv, hD, h1, h3.trans ho⟩, hOn⟩
theorem app_step (g : Nat) (d : Dsk) (lv sv bv : Value) (bs : List Int) (w : World) {m : Int} {done i : Nat} {o : Bool} (h : DiskAt w g d lv sv) (hbs : Slc0 w bv bs) (ho : offB m done = o) (hF : Fz d m done i) (hi : i < 150) (hm : m ≤ 10) (hbl : bs.length ≤ 3000) :
    Calls Try.prog 12 #[dp g, bv] w (StepPost w g m done i o) := by
  have h1 := hF.ll
  have h2 := hF.ls
  exact step_of ho hF (opn_app bs hbl) (by omega) hi hm (append_any g d lv sv bv bs w h hbs hF.ok (by omega))
theorem sync_step (g : Nat) (d : Dsk) (lv sv : Value) (w : World) {m : Int} {done i : Nat} {o : Bool} (h : DiskAt w g d lv sv) (ho : offB m done = o) (hF : Fz d m done i) (hi : i < 150) (hm : m ≤ 10) :
    Calls Try.prog 13 #[dp g] w (StepPost w g m done i o) := step_of ho hF opn_sync (by omega) hi hm (sync_any g d lv sv w h hF.ok)
theorem clear_step (g : Nat) (d : Dsk) (lv sv : Value) (w : World) {m : Int} {done i : Nat} {o : Bool} (h : DiskAt w g d lv sv) (ho : offB m done = o) (hF : Fz d m done i) (hi : i < 150) (hm : m ≤ 10) :
    Calls Try.prog 15 #[dp g] w (StepPost w g m done i o) := step_of ho hF opn_clear (by omega) hi hm (clear_any g d lv sv w h hF.ok)
theorem swap_step (g : Nat) (d : Dsk) (lv sv bv : Value) (bs : List Int) (w : World) {m : Int} {done i : Nat} {o : Bool} (h : DiskAt w g d lv sv) (hbs : Slc0 w bv bs) (ho : offB m done = o) (hF : Fz d m done i) (hi : i < 150) (hm : m ≤ 10) (hbl : bs.length ≤ 3000) :
    Calls Try.prog 14 #[dp g, bv] w (StepPost w g m done i o) := by
  have h1 := hF.ll
  exact step_of ho hF (opn_swap bs hbl) (by omega) hi hm (swap_any g d lv sv bv bs w h hbs hF.ok (by omega))
theorem down_is (g : Nat) (d : Dsk) (lv sv : Value) (w : World) {o : Bool} (h : DiskAt w g d lv sv) (hr : 1 ≤ d.room) (ho : d.off = o) : Calls Try.prog 16 #[dp g] w fun e w' => e = .returned (.bool o) ∧ w = w' := by
  subst ho
  exact down_any g d lv sv w h hr
theorem off_cases (m : Int) (done : Nat) : ∃ o, offB m done = o ∧ ((o = true ∧ 0 ≤ m ∧ m ≤ done) ∨ (o = false ∧ ¬ 0 ≤ m) ∨ (o = false ∧ 0 ≤ m ∧ ¬ m ≤ done)) := by
  refine ⟨_, rfl, ?_⟩
  unfold offB
  by_cases a : 0 ≤ m <;> by_cases b : m ≤ (done : Int) <;> simp [a, b]
set_option maxRecDepth 10000 in
set_option maxHeartbeats 1000000 in
theorem fuse_walk (A : Option Addr) (c : Nat) (xs : List S33) (n : Int) (w : World) (hc : xs.length ≤ c) (hcm : c ≤ maxLen) (hA : Acts w A xs) (h0 : -9223372036854775808 ≤ n) (h1 : n ≤ 9223372036854775807) :
    Calls Try.prog 3 #[.slice A xs.length c, .int .i64 n] w fun e w' => e = .returned (.bool true) ∧ Below w.heap.size w w' := by
  obtain ⟨hm0, hm1⟩ := fuseN_bd n
  obtain ⟨m, hm⟩ : ∃ m, m = fuseN n := ⟨_, rfl⟩
  rw [← hm] at hm0 hm1
  have hw : wrap64 ((wrap64 (n.tmod 12 + 12)).tmod 12 - 1) = m := by
    have q1 := Int.tmod_lt_of_pos n (show (0 : Int) < 12 by omega)
    have q2 := Int.lt_tmod_of_pos n (show (0 : Int) < 12 by omega)
    have e1 : wrap64 (n.tmod 12 + 12) = n.tmod 12 + 12 := by unfold wrap64; omega
    rw [e1, hm]
    unfold fuseN at hm ⊢
    unfold wrap64
    omega
  have HA := Lib.hid hA
  clear hA hm
  go_enter Try.func3, Try.ntmps3
  go_wp2_with (first
    | (go_at_call 7; refine (long_any _ _ _ _ HA.out hc).mono ?_; rintro e w1 ⟨b, rfl, hb, hsh⟩; have hB := Lib.hid hb; have hsh := Lib.hid hsh; clear hb)
    | (go_at_call 8; refine (knows_any _).mono ?_; rintro e w2 ⟨rfl, hb⟩; have hB := Lib.hid (bel hB.out hb); (try have hD := Lib.hid (hD.out.below hb)); clear hb)
    | (go_at_call 9; refine (new_any 1048576 _ (by decide) (by decide)).mono ?_; rintro e w3 ⟨rfl, hD, hb⟩; have hg := Lib.hid hB.out.size; have hB := Lib.hid (bel hB.out hb); have hD := Lib.hid hD; clear hb)
    | (go_at_call 10; refine (num_any _ _).mono ?_; rintro e w1 ⟨rfl, rfl⟩)
    | (go_at_call 11; refine (cut_any _ _ _ _ _ _ hD.out (by decide)).mono ?_; rintro e w4 ⟨rfl, hD, hO⟩; have hB := Lib.hid (hO.below hg.out hB.out); have hD := Lib.hid hD; clear hO))
  · go_ret
    exact ⟨rfl, hB.out⟩
  · have hbf : b = false := ‹_›
    subst hbf
    obtain ⟨hx, hxs⟩ := hsh.out rfl
    have hxs := Lib.hid hxs
    clear hw hsh
    go_loopw [7, 8] (fun s t wr => ∃ (i done : Nat) (d : Dsk) (lv sv : Value), i ≤ xs.length ∧ done ≤ i ∧ s = .int .i64 done ∧ t = .int .i64 i ∧ DiskAt wr w1.heap.size d lv sv ∧ Fz d m done i ∧ Below w.heap.size w wr) (fun _ t _ => xs.length - (intOf t).toNat)
    case atStart => exact ⟨0, 0, _, _, _, by omega, by omega, rfl, rfl, hD.out, Fz.start m hm0 hm1, hB.out⟩
    case round =>
      obtain ⟨i, done, d, lv, sv, hi, hdi, rfl, rfl, hD, hF, hB⟩ := hrel
      by_cases hil : i < xs.length
      · obtain ⟨x, hxi⟩ : ∃ x, xs[i]? = some x := ⟨_, List.getElem?_eq_getElem hil⟩
        have hx3 := hxs.out x (List.mem_of_getElem? hxi)
        have HAr := HA.out.below hB
        obtain ⟨ad, A2, c2, rfl, e0, e1, e2, hS, hb0, hb1⟩ := HAr.at_ hxi
        have hD := Lib.hid hD
        have hF := Lib.hid hF
        have hB := Lib.hid hB
        have hS := Lib.hid hS
        clear HAr hxi
        obtain ⟨o, ho, hcs⟩ := off_cases m done
        have hi150 : i < 150 := by omega
        rcases hcs with ⟨rfl, p0, p1⟩ | ⟨rfl, p0⟩ | ⟨rfl, p0, p1⟩
        all_goals
          have ho := Lib.hid ho
          go_wp2_with (first
            | (go_at_call 12; refine (app_step _ _ _ _ _ x.f2 _ (hD.out.alloc _) (hS.out.below (below_alloc (Below.refl _ _) _)) ho.out hF.out hi150 hm1 hx3).mono ?_; rintro e w6 ⟨rfl, ⟨d6, lv6, sv6, hD, hF, ho6⟩, hO⟩; have hB := Lib.hid (hO.below hg.out (below_alloc hB.out _)); have hD := Lib.hid hD; have hF := Lib.hid hF; have ho6 := Lib.hid ho6; clear hO)
            | (go_at_call 14; refine (swap_step _ _ _ _ _ x.f2 _ (hD.out.alloc _) (hS.out.below (below_alloc (Below.refl _ _) _)) ho.out hF.out hi150 hm1 hx3).mono ?_; rintro e w6 ⟨rfl, ⟨d6, lv6, sv6, hD, hF, ho6⟩, hO⟩; have hB := Lib.hid (hO.below hg.out (below_alloc hB.out _)); have hD := Lib.hid hD; have hF := Lib.hid hF; have ho6 := Lib.hid ho6; clear hO)
            | (go_at_call 13; refine (sync_step _ _ _ _ _ (hD.out.alloc _) ho.out hF.out hi150 hm1).mono ?_; rintro e w6 ⟨rfl, ⟨d6, lv6, sv6, hD, hF, ho6⟩, hO⟩; have hB := Lib.hid (hO.below hg.out (below_alloc hB.out _)); have hD := Lib.hid hD; have hF := Lib.hid hF; have ho6 := Lib.hid ho6; clear hO)
            | (go_at_call 15; refine (clear_step _ _ _ _ _ (hD.out.alloc _) ho.out hF.out hi150 hm1).mono ?_; rintro e w6 ⟨rfl, ⟨d6, lv6, sv6, hD, hF, ho6⟩, hO⟩; have hB := Lib.hid (hO.below hg.out (below_alloc hB.out _)); have hD := Lib.hid hD; have hF := Lib.hid hF; have ho6 := Lib.hid ho6; clear hO)
            | (go_at_call 10; refine (num_any _ _).mono ?_; rintro e w1 ⟨rfl, rfl⟩)
            | (go_at_call 16; refine (down_is _ _ _ _ _ hD.out (by rw [hF.out.room]; decide) ho6.out).mono ?_; rintro e w7 ⟨rfl, rfl⟩))
        all_goals
          refine ⟨?_, by simp [intOf]; omega⟩
          first
            | exact ⟨i + 1, done + 1, _, _, _, by omega, by omega, by go_num, by go_num, hD.out, hF.out, hB.out⟩
            | exact ⟨i + 1, done, _, _, _, by omega, by omega, rfl, by go_num, hD.out.alloc _, hF.out.more, below_alloc hB.out _⟩
      · have hie : i = xs.length := by omega
        subst hie
        have hB := Lib.hid hB
        clear hD hF
        go_wp2
        go_ret
        exact ⟨rfl, hB.out⟩
end Go.Proofs.Ythodclhemleeaaa
