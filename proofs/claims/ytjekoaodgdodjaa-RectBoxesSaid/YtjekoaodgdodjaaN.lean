/- The walk of the law RectBoxes. -/
import Derived.Test.YtjekoaodgdodjaaL
import Derived.Test.YtjekoaodgdodjaaH
import Derived.Test.YtjekoaodgdodjaaDrawn
set_option linter.unusedVariables false
set_option linter.unusedSimpArgs false
namespace Go.Proofs.Ytjekoaodgdodjaa
open Go.RowKit
attribute [local go_sem] Act.eval

theorem Keep.comp {w0 w wsA W W' : World} {k : Nat} (h : Keep w0 w wsA k W) (h' : Keep w0 W W 0 W') : Keep w0 w wsA k W' :=
  ⟨fun b o hb => (h'.1 b o (by have := h.2.1; omega)).trans (h.1 b o hb), by have := h.2.1; have := h'.2.1; omega, h'.2.2⟩
theorem box_is (a b c d e f x y u v : Int) (w : World) {p q r s t : Int} (h : boxF ⟨a, b, c, d, e, f⟩ ⟨x, y, u, v⟩ = (⟨p, q, r, s⟩, t)) :
    Calls Try.prog 15 #[.agg #[.int .i64 a, .int .i64 b, .int .i64 c, .int .i64 d, .int .i64 e, .int .i64 f], .agg #[.int .i64 x, .int .i64 y, .int .i64 u, .int .i64 v]] w fun r' w' =>
      r' = .returned (.tuple #[.agg #[.int .i64 p, .int .i64 q, .int .i64 r, .int .i64 s], .int .i64 t]) ∧ Below w.heap.size w w' := by
  have := box_any a b c d e f x y u v w
  rw [h] at this
  exact this
theorem then_is (a b c d e f a' b' c' d' e' f' : Int) (w : World) {p q r s t o k : Int} (h : thenF ⟨a, b, c, d, e, f⟩ ⟨a', b', c', d', e', f'⟩ = (⟨p, q, r, s, t, o⟩, k)) :
    Calls Try.prog 16 #[.agg #[.int .i64 a, .int .i64 b, .int .i64 c, .int .i64 d, .int .i64 e, .int .i64 f], .agg #[.int .i64 a', .int .i64 b', .int .i64 c', .int .i64 d', .int .i64 e', .int .i64 f']] w fun r' w' =>
      r' = .returned (.tuple #[.agg #[.int .i64 p, .int .i64 q, .int .i64 r, .int .i64 s, .int .i64 t, .int .i64 o], .int .i64 k]) ∧ Below w.heap.size w w' := by
  have := then_any a b c d e f a' b' c' d' e' f' w
  rw [h] at this
  exact this
set_option maxHeartbeats 400000 in
theorem maps_any (a b c d e f : Int) (w : World) :
    Calls Try.prog 17 #[.agg #[.int .i64 a, .int .i64 b, .int .i64 c, .int .i64 d, .int .i64 e, .int .i64 f]] w fun r w' => r = .returned (.agg #[.int .i64 a, .int .i64 b, .int .i64 c, .int .i64 d, .int .i64 e, .int .i64 f]) ∧ Below w.heap.size w w' := by
  go_enter Try.func17, Try.ntmps17
  go_wp2
  exact bodyPost_ret (v := .agg #[.int .i64 a, .int .i64 b, .int .i64 c, .int .i64 d, .int .i64 e, .int .i64 f]) (by simp [results, Try.results17, go_sem]) rfl ⟨rfl, by (repeat (first | with_reducible exact Below.refl _ _ | with_reducible apply below_alloc | with_reducible apply below_drew1 | with_reducible assumption | (with_reducible refine Keep.below (by assumption)) | (with_reducible refine bel ?_ (by assumption)) | ((with_reducible refine below_set ?_ ?_); rotate_left; (focus (first | assumption | omega | (simp; done) | (simp; omega))))))⟩
theorem fine_is (a b c d e f : Int) (w : World) {r : Bool} (h : fineB a b c d e f = r) :
    Calls Try.prog 18 #[.agg #[.int .i64 a, .int .i64 b, .int .i64 c, .int .i64 d, .int .i64 e, .int .i64 f]] w fun r' w' => r' = .returned (.bool r) ∧ Below w.heap.size w w' := h ▸ fine_any a b c d e f w
theorem holds_is (x y u v a b : Int) (w : World) {r : Bool} (h : holdsF ⟨x, y, u, v⟩ a b = r) :
    Calls Try.prog 19 #[.agg #[.int .i64 x, .int .i64 y, .int .i64 u, .int .i64 v], .int .i64 a, .int .i64 b] w fun e w' => e = .returned (.bool r) ∧ Below w.heap.size w w' := h ▸ holds_any x y u v a b w

set_option maxRecDepth 100000 in
set_option maxHeartbeats 8000000 in
theorem boxes_walk (a b c d e f x y u v s t k1 k2 k3 k4 k5 k6 ke l1 l2 l3 l4 l5 l6 le pu pv pe jx jy jw jh je : Int) (w : World)
    (h1 : rightB x y u v = true → boxF ⟨65536, 0, 0, 65536, 0, 0⟩ ⟨x, y, u, v⟩ = (⟨x, y, u, v⟩, 0))
    (h2 : thenF ⟨a, b, c, d, e, f⟩ ⟨65536, 0, 0, 65536, 0, 0⟩ = (⟨k1, k2, k3, k4, k5, k6⟩, ke)) (h3 : thenF ⟨65536, 0, 0, 65536, 0, 0⟩ ⟨a, b, c, d, e, f⟩ = (⟨l1, l2, l3, l4, l5, l6⟩, le))
    (h4 : fineB a b c d e f = true → ke = 0 ∧ le = 0 ∧ k1 = a ∧ k2 = b ∧ k3 = c ∧ k4 = d ∧ k5 = e ∧ k6 = f ∧ l1 = a ∧ l2 = b ∧ l3 = c ∧ l4 = d ∧ l5 = e ∧ l6 = f)
    (h5 : pointF ⟨a, b, c, d, e, f⟩ s t = (pu, pv, pe)) (h6 : boxF ⟨a, b, c, d, e, f⟩ ⟨x, y, u, v⟩ = (⟨jx, jy, jw, jh⟩, je))
    (h7 : holdsF ⟨x, y, u, v⟩ s t = true → pe = 0 → je = 0 → (jx ≤ pu ∧ jy ≤ pv ∧ pu ≤ jx + jw ∧ pv ≤ jy + jh) ∧ rightB jx jy jw jh = true) :
    Calls Try.prog 4 #[.agg #[.int .i64 a, .int .i64 b, .int .i64 c, .int .i64 d, .int .i64 e, .int .i64 f], .agg #[.int .i64 x, .int .i64 y, .int .i64 u, .int .i64 v], .int .i64 s, .int .i64 t] w fun r w' =>
      r = .returned (.bool true) ∧ Below w.heap.size w w' := by
  have H1 := Lib.hid h1
  have H2 := Lib.hid h2
  have H3 := Lib.hid h3
  have H4 := Lib.hid h4
  have H5 := Lib.hid h5
  have H6 := Lib.hid h6
  have H7 := Lib.hid h7
  clear h1 h2 h3 h4 h5 h6 h7
  go_enter Try.func4, Try.ntmps4
  go_upto_if 26 with (first | (go_at_call 7; refine (own_ex _ _ _ _ _).mono ?_; rintro e w1 ⟨rfl, rfl⟩) | (go_at_call 8; refine (right_any _ _ _ _ _).mono ?_; rintro e w1 ⟨rfl, hb⟩; (try replace hb := undrew hb); obtain ⟨hc, hf⟩ := ch hb; have hz := hb.size; (try simp only [World.size_alloc, World.size_setCell, World.size_drew] at hz); have zw0 : w.heap.size < w1.heap.size := (by omega); have zw1 : w.heap.size + 1 < w1.heap.size := (by omega); have zw2 : w.heap.size + 1 + 1 < w1.heap.size := (by omega); have zw3 : w.heap.size + 1 + 1 + 1 < w1.heap.size := (by omega); have zw4 : w.heap.size + 1 + 1 + 1 + 1 < w1.heap.size := (by omega); have zw5 : w.heap.size + 1 + 1 + 1 + 1 + 1 < w1.heap.size := (by omega)))
  go_cut [11, 12] (fun s11 s12 wx => Keep w w ((((((w.alloc (.cells #[.int .i64 a, .int .i64 b, .int .i64 c, .int .i64 d, .int .i64 e, .int .i64 f] 36)).alloc (.cells #[.int .i64 x, .int .i64 y, .int .i64 u, .int .i64 v] 23)).alloc (.cells #[.int .i64 65536, .int .i64 0, .int .i64 0, .int .i64 65536, .int .i64 0, .int .i64 0] 37)).alloc (.cells #[.int .i64 x, .int .i64 y, .int .i64 u, .int .i64 v] 23)).alloc (.cells #[.int .i64 x, .int .i64 y, .int .i64 u, .int .i64 v] 24)).alloc (.cells #[.int .i64 x, .int .i64 y, .int .i64 u, .int .i64 v] 24)) 6 wx)
  case first =>
    cases r : rightB x y u v with
    | false =>
      go_wp2_with fail
      go_meet
      show Keep w w ((((((w.alloc (.cells #[.int .i64 a, .int .i64 b, .int .i64 c, .int .i64 d, .int .i64 e, .int .i64 f] 36)).alloc (.cells #[.int .i64 x, .int .i64 y, .int .i64 u, .int .i64 v] 23)).alloc (.cells #[.int .i64 65536, .int .i64 0, .int .i64 0, .int .i64 65536, .int .i64 0, .int .i64 0] 37)).alloc (.cells #[.int .i64 x, .int .i64 y, .int .i64 u, .int .i64 v] 23)).alloc (.cells #[.int .i64 x, .int .i64 y, .int .i64 u, .int .i64 v] 24)).alloc (.cells #[.int .i64 x, .int .i64 y, .int .i64 u, .int .i64 v] 24)) 6 _
      (repeat (first | with_reducible assumption | (apply Keep.start <;> (first | ((repeat (first | with_reducible exact Below.refl _ _ | with_reducible apply below_alloc | with_reducible apply below_drew1 | with_reducible assumption | (with_reducible refine Keep.below (by assumption)) | (with_reducible refine bel ?_ (by assumption)) | ((with_reducible refine below_set ?_ ?_); rotate_left; (focus (first | assumption | omega | (simp; done) | (simp; omega)))))); done) | (first | assumption | omega | (simp; done) | (simp; omega)))) | with_reducible apply Keep.alloc | with_reducible apply Keep.drew | (with_reducible refine Keep.next ?_ (by assumption)) | ((with_reducible refine Keep.set ?_ ?_ ?_); rotate_left; (focus (first | assumption | omega | (simp; done) | (simp; omega))); (focus (first | assumption | omega | (simp; done) | (simp; omega))))))
    | true =>
      have hb1 := Lib.hid (H1.out r)
      go_wp2_with (first | (go_at_call 15; refine (box_is _ _ _ _ _ _ _ _ _ _ _ hb1.out).mono ?_; rintro e wb ⟨rfl, hb⟩; (try replace hb := undrew hb); have hB_wb := hb; obtain ⟨hc, hf⟩ := ch hb; have hz := hb.size; (try simp only [World.size_alloc, World.size_setCell, World.size_drew] at hz); have zw0 : w.heap.size < wb.heap.size := (by omega); have zw1 : w.heap.size + 1 < wb.heap.size := (by omega); have zw2 : w.heap.size + 1 + 1 < wb.heap.size := (by omega); have zw3 : w.heap.size + 1 + 1 + 1 < wb.heap.size := (by omega); have zw4 : w.heap.size + 1 + 1 + 1 + 1 < wb.heap.size := (by omega); have zw5 : w.heap.size + 1 + 1 + 1 + 1 + 1 < wb.heap.size := (by omega)) | (go_at_call 14; refine (num_any _ _).mono ?_; rintro e w1 ⟨rfl, rfl⟩))
      go_meet
      show Keep w w ((((((w.alloc (.cells #[.int .i64 a, .int .i64 b, .int .i64 c, .int .i64 d, .int .i64 e, .int .i64 f] 36)).alloc (.cells #[.int .i64 x, .int .i64 y, .int .i64 u, .int .i64 v] 23)).alloc (.cells #[.int .i64 65536, .int .i64 0, .int .i64 0, .int .i64 65536, .int .i64 0, .int .i64 0] 37)).alloc (.cells #[.int .i64 x, .int .i64 y, .int .i64 u, .int .i64 v] 23)).alloc (.cells #[.int .i64 x, .int .i64 y, .int .i64 u, .int .i64 v] 24)).alloc (.cells #[.int .i64 x, .int .i64 y, .int .i64 u, .int .i64 v] 24)) 6 _
      (repeat (first | with_reducible assumption | (apply Keep.start <;> (first | ((repeat (first | with_reducible exact Below.refl _ _ | with_reducible apply below_alloc | with_reducible apply below_drew1 | with_reducible assumption | (with_reducible refine Keep.below (by assumption)) | (with_reducible refine bel ?_ (by assumption)) | ((with_reducible refine below_set ?_ ?_); rotate_left; (focus (first | assumption | omega | (simp; done) | (simp; omega)))))); done) | (first | assumption | omega | (simp; done) | (simp; omega)))) | with_reducible apply Keep.alloc | with_reducible apply Keep.drew | (with_reducible refine Keep.next ?_ (by assumption)) | ((with_reducible refine Keep.set ?_ ?_ ?_); rotate_left; (focus (first | assumption | omega | (simp; done) | (simp; omega))); (focus (first | assumption | omega | (simp; done) | (simp; omega))))))
  case rest =>
    have hKc := hcut
    obtain ⟨hk1, hk2, hk3⟩ := hcut
    have zz0 : w.heap.size < wc.heap.size := by omega
    have zz1 : w.heap.size + 1 < wc.heap.size := by omega
    have zz2 : w.heap.size + 1 + 1 < wc.heap.size := by omega
    have zz3 : w.heap.size + 1 + 1 + 1 < wc.heap.size := by omega
    have zz4 : w.heap.size + 1 + 1 + 1 + 1 < wc.heap.size := by omega
    have zz5 : w.heap.size + 1 + 1 + 1 + 1 + 1 < wc.heap.size := by omega
    go_upto_region 7 with fail
    go_cut [13, 14] (fun s13 s14 wx => ∃ g : Nat, s13 = .pointer (some ⟨g, 0, none⟩) ∧ s14 = .int .i64 ke ∧ g < wx.heap.size ∧ (wx.cell? ⟨g, 0, none⟩ = some (.int .i64 k1) ∧ wx.cell? ⟨g, 1, none⟩ = some (.int .i64 k2) ∧ wx.cell? ⟨g, 2, none⟩ = some (.int .i64 k3) ∧ wx.cell? ⟨g, 3, none⟩ = some (.int .i64 k4) ∧ wx.cell? ⟨g, 4, none⟩ = some (.int .i64 k5) ∧ wx.cell? ⟨g, 5, none⟩ = some (.int .i64 k6)) ∧ Keep w w ((((((w.alloc (.cells #[.int .i64 a, .int .i64 b, .int .i64 c, .int .i64 d, .int .i64 e, .int .i64 f] 36)).alloc (.cells #[.int .i64 x, .int .i64 y, .int .i64 u, .int .i64 v] 23)).alloc (.cells #[.int .i64 65536, .int .i64 0, .int .i64 0, .int .i64 65536, .int .i64 0, .int .i64 0] 37)).alloc (.cells #[.int .i64 x, .int .i64 y, .int .i64 u, .int .i64 v] 23)).alloc (.cells #[.int .i64 x, .int .i64 y, .int .i64 u, .int .i64 v] 24)).alloc (.cells #[.int .i64 x, .int .i64 y, .int .i64 u, .int .i64 v] 24)) 6 wx)
    case first =>
      obtain ⟨ws, rfl⟩ : ∃ ws, ws = wc := ⟨_, rfl⟩
      have hK : Keep w ws ws 0 ws := Keep.start (by (repeat (first | with_reducible exact Below.refl _ _ | with_reducible apply below_alloc | with_reducible apply below_drew1 | with_reducible assumption | (with_reducible refine Keep.below (by assumption)) | (with_reducible refine bel ?_ (by assumption)) | ((with_reducible refine below_set ?_ ?_); rotate_left; (focus (first | assumption | omega | (simp; done) | (simp; omega))))))) (by first | assumption | omega | (simp; done) | (simp; omega))
      refine wp_region_noPanic ?_
      refine wp_region_held_drew (S := fun W_ => (∀ b_ o_, b_ < ws.heap.size + 0 → W_.cell? ⟨b_, o_, none⟩ = ws.cell? ⟨b_, o_, none⟩) ∧ ws.heap.size + 0 ≤ W_.heap.size ∧ Below w.heap.size w W_) (by kernel_rfl) (show Keep w ws ws 0 _ by (repeat (first | with_reducible assumption | with_reducible apply Keep.alloc | with_reducible apply Keep.drew | ((with_reducible refine Keep.set ?_ ?_ ?_); rotate_left; (focus (first | assumption | omega | (simp; done) | (simp; omega))); (focus (first | assumption | omega | (simp; done) | (simp; omega))))))) (fun hHeld => ?_)
      refine wpAnyH_take (i := 0) (oi := { dst := some 42, op := Go.Op.load 36 (Go.Operand.tmp 4), type := 36, pos := "law.go:139", after := #[], guard := none }) (v := ?_) rfl (by kernel_rfl) (by kernel_rfl) (by kernel_rfl) (fun _ _ _ h => h) (Or.inl ⟨by rfl, ?_⟩) hHeld ?_
      rotate_left
      · intro W_ hSw
        obtain ⟨hS1, hS2, hS3⟩ := hSw
        go_simp
        try with_reducible rfl
      (try simp only [Act.put, List.setIfInBounds_toArray, List.set_cons_zero, List.set_cons_succ])
      refine wpAnyH_take (i := 2) (oi := { dst := some 44, op := Go.Op.load 37 (Go.Operand.tmp 9), type := 37, pos := "law.go:139", after := #[], guard := none }) (v := ?_) rfl (by kernel_rfl) (by kernel_rfl) (by kernel_rfl) (fun _ _ _ h => h) (Or.inl ⟨by rfl, ?_⟩) hHeld ?_
      rotate_left
      · intro W_ hSw
        obtain ⟨hS1, hS2, hS3⟩ := hSw
        go_simp
        try with_reducible rfl
      (try simp only [Act.put, List.setIfInBounds_toArray, List.set_cons_zero, List.set_cons_succ])
      refine wpAnyH_ready (rs := [1, 7]) (by kernel_rfl) (by simp) ?_
      refine AllReadyH.cons (o := { dst := some 43, op := Go.Op.call { callee := Go.Callee.value (Go.Operand.func 17), args := #[Go.Operand.tmp 42], argTypes := #[36] }, type := 37, pos := "law.go:139", after := #[{ on := 0, ground := Go.Ground.data }], guard := none }) rfl (fun KR hKR => ?_) ?_
      · have hS := hHeld
        clear hHeld
        obtain ⟨hS1, hS2, hS3⟩ := hS
        go_simp
        ((try rw [if_pos (show IntKind.i64.wrap 0 = 0 from rfl)]); go_at_call 17; refine (maps_any _ _ _ _ _ _ _).mono ?_; rintro e wk1 ⟨rfl, hb⟩; have hK := Keep.next (by (repeat (first | with_reducible assumption | with_reducible apply Keep.alloc | with_reducible apply Keep.drew | ((with_reducible refine Keep.set ?_ ?_ ?_); rotate_left; (focus (first | assumption | omega | (simp; done) | (simp; omega))); (focus (first | assumption | omega | (simp; done) | (simp; omega))))))) hb; (try replace hb := undrew hb); obtain ⟨hc, hf⟩ := ch hb; have hz := hb.size; clear hb; (try simp only [World.size_alloc, World.size_setCell, World.size_drew] at hz))
        refine hKR.out _ _ (by exact (show Keep w ws ws 0 _ by (repeat (first | with_reducible assumption | with_reducible apply Keep.alloc | with_reducible apply Keep.drew | ((with_reducible refine Keep.set ?_ ?_ ?_); rotate_left; (focus (first | assumption | omega | (simp; done) | (simp; omega))); (focus (first | assumption | omega | (simp; done) | (simp; omega)))))))) (fun hHeld => ?_)
        clear hKR KR
        (try simp only [Act.put, List.setIfInBounds_toArray, List.set_cons_zero, List.set_cons_succ])
        refine wpAnyH_ready (rs := [3, 7]) (by kernel_rfl) (by simp) ?_
        refine AllReadyH.cons (o := { dst := some 45, op := Go.Op.call { callee := Go.Callee.value (Go.Operand.func 16), args := #[Go.Operand.tmp 43, Go.Operand.tmp 44], argTypes := #[37, 37] }, type := 39, pos := "law.go:139", after := #[{ on := 1, ground := Go.Ground.data }, { on := 2, ground := Go.Ground.data }, { on := 1, ground := Go.Ground.chain }], guard := none }) rfl (fun KR hKR => ?_) ?_
        · have hS := hHeld
          clear hHeld
          obtain ⟨hS1, hS2, hS3⟩ := hS
          go_simp
          ((try rw [if_pos (show IntKind.i64.wrap 0 = 0 from rfl)]); go_at_call 16; refine (then_is _ _ _ _ _ _ _ _ _ _ _ _ _ H2.out).mono ?_; rintro e wk2 ⟨rfl, hb⟩; have hK := Keep.next (by (repeat (first | with_reducible assumption | with_reducible apply Keep.alloc | with_reducible apply Keep.drew | ((with_reducible refine Keep.set ?_ ?_ ?_); rotate_left; (focus (first | assumption | omega | (simp; done) | (simp; omega))); (focus (first | assumption | omega | (simp; done) | (simp; omega))))))) hb; (try replace hb := undrew hb); obtain ⟨hc, hf⟩ := ch hb; have hz := hb.size; clear hb; (try simp only [World.size_alloc, World.size_setCell, World.size_drew] at hz))
          refine hKR.out _ _ (by exact (show Keep w ws ws 0 _ by (repeat (first | with_reducible assumption | with_reducible apply Keep.alloc | with_reducible apply Keep.drew | ((with_reducible refine Keep.set ?_ ?_ ?_); rotate_left; (focus (first | assumption | omega | (simp; done) | (simp; omega))); (focus (first | assumption | omega | (simp; done) | (simp; omega)))))))) (fun hHeld => ?_)
          clear hKR KR
          (try simp only [Act.put, List.setIfInBounds_toArray, List.set_cons_zero, List.set_cons_succ])
          refine wpAnyH_take (i := 4) (oi := { dst := some 41, op := Go.Op.move (Go.Operand.tmp 45), type := 39, pos := "law.go:139", after := #[{ on := 3, ground := Go.Ground.data }], guard := none }) (v := ?_) rfl (by kernel_rfl) (by kernel_rfl) (by kernel_rfl) (fun _ _ _ h => h) (Or.inl ⟨by rfl, ?_⟩) hHeld ?_
          rotate_left
          · intro W_ hSw
            obtain ⟨hS1, hS2, hS3⟩ := hSw
            go_simp
            try with_reducible rfl
          (try simp only [Act.put, List.setIfInBounds_toArray, List.set_cons_zero, List.set_cons_succ])
          refine wpAnyH_take (i := 5) (oi := { dst := some 46, op := Go.Op.extract (Go.Operand.tmp 41) 0, type := 37, pos := "law.go:139", after := #[{ on := 4, ground := Go.Ground.data }], guard := none }) (v := ?_) rfl (by kernel_rfl) (by kernel_rfl) (by kernel_rfl) (fun _ _ _ h => h) (Or.inl ⟨by rfl, ?_⟩) hHeld ?_
          rotate_left
          · intro W_ hSw
            obtain ⟨hS1, hS2, hS3⟩ := hSw
            go_simp
            try with_reducible rfl
          (try simp only [Act.put, List.setIfInBounds_toArray, List.set_cons_zero, List.set_cons_succ])
          refine wpAnyH_take (i := 6) (oi := { dst := some 47, op := Go.Op.extract (Go.Operand.tmp 41) 1, type := 30, pos := "law.go:139", after := #[{ on := 4, ground := Go.Ground.data }, { on := 8, ground := Go.Ground.gcOnly Go.Departure.lateStores }], guard := none }) (v := ?_) rfl (by kernel_rfl) (by kernel_rfl) (by kernel_rfl) (fun _ _ _ h => h) (Or.inl ⟨by rfl, ?_⟩) hHeld ?_
          rotate_left
          · intro W_ hSw
            obtain ⟨hS1, hS2, hS3⟩ := hSw
            go_simp
            try with_reducible rfl
          (try simp only [Act.put, List.setIfInBounds_toArray, List.set_cons_zero, List.set_cons_succ])
          refine wpAnyH_ready (rs := [7]) (by kernel_rfl) (by simp) ?_
          refine AllReadyH.cons (o := { dst := some 13, op := Go.Op.alloc 37, type := 0, pos := "law.go:139", after := #[], guard := none }) rfl (fun KR hKR => ?_) ?_
          have hS := hHeld
          clear hHeld
          obtain ⟨hS1, hS2, hS3⟩ := hS
          go_simp
          refine hKR.out _ _ (by exact (show Keep w ws ws 0 _ by (repeat (first | with_reducible assumption | with_reducible apply Keep.alloc | with_reducible apply Keep.drew | ((with_reducible refine Keep.set ?_ ?_ ?_); rotate_left; (focus (first | assumption | omega | (simp; done) | (simp; omega))); (focus (first | assumption | omega | (simp; done) | (simp; omega)))))))) (fun hHeld => ?_)
          clear hKR KR
          (try simp only [Act.put, List.setIfInBounds_toArray, List.set_cons_zero, List.set_cons_succ])
          rotate_left
          · exact AllReadyH.nil
          refine wpAnyH_ready (rs := [8]) (by kernel_rfl) (by simp) ?_
          refine AllReadyH.cons (o := { dst := none, op := Go.Op.store 37 (Go.Operand.tmp 13) (Go.Operand.tmp 46), type := 0, pos := "law.go:139", after := #[{ on := 7, ground := Go.Ground.data }, { on := 5, ground := Go.Ground.data }, { on := 3, ground := Go.Ground.chain }, { on := 0, ground := Go.Ground.phase }, { on := 1, ground := Go.Ground.phase }, { on := 2, ground := Go.Ground.phase }, { on := 3, ground := Go.Ground.phase }, { on := 4, ground := Go.Ground.phase }, { on := 5, ground := Go.Ground.phase }, { on := 6, ground := Go.Ground.textOnly Go.Departure.lateStores }, { on := 7, ground := Go.Ground.phase }], guard := none }) rfl (fun KR hKR => ?_) ?_
          have hS := hHeld
          clear hHeld
          obtain ⟨hS1, hS2, hS3⟩ := hS
          go_simp
          refine hKR.out _ _ (by exact (show Keep w ws ws 0 _ by (repeat (first | with_reducible assumption | with_reducible apply Keep.alloc | with_reducible apply Keep.drew | ((with_reducible refine Keep.set ?_ ?_ ?_); rotate_left; (focus (first | assumption | omega | (simp; done) | (simp; omega))); (focus (first | assumption | omega | (simp; done) | (simp; omega)))))))) (fun hHeld => ?_)
          clear hKR KR
          (try simp only [Act.put, List.setIfInBounds_toArray, List.set_cons_zero, List.set_cons_succ])
          rotate_left
          · exact AllReadyH.nil
          refine wpAnyH_take (i := 9) (oi := { dst := some 14, op := Go.Op.assign (Go.Operand.tmp 47), type := 30, pos := "law.go:139", after := #[{ on := 6, ground := Go.Ground.data }, { on := 8, ground := Go.Ground.chain }, { on := 0, ground := Go.Ground.phase }, { on := 1, ground := Go.Ground.phase }, { on := 2, ground := Go.Ground.phase }, { on := 3, ground := Go.Ground.phase }, { on := 4, ground := Go.Ground.phase }, { on := 5, ground := Go.Ground.phase }, { on := 6, ground := Go.Ground.phase }, { on := 7, ground := Go.Ground.phase }, { on := 8, ground := Go.Ground.phase }], guard := none }) (v := ?_) rfl (by kernel_rfl) (by kernel_rfl) (by kernel_rfl) (fun _ _ _ h => h) (Or.inl ⟨by rfl, ?_⟩) hHeld ?_
          rotate_left
          · intro W_ hSw
            obtain ⟨hS1, hS2, hS3⟩ := hSw
            go_simp
            try with_reducible rfl
          (try simp only [Act.put, List.setIfInBounds_toArray, List.set_cons_zero, List.set_cons_succ])
          refine wpAnyH_done (by kernel_rfl) ?_ _
          refine NoPanic.normal ?_
          obtain ⟨hS1, hS2, hS3⟩ := hHeld
          go_wp2_with fail
          go_meet
          exact ⟨_, rfl, rfl, (by first | with_reducible assumption | (simp; done) | (simp; omega)), by go_simp, Keep.comp hKc ⟨hS1, hS2, hS3⟩⟩
        refine AllReadyH.cons (o := { dst := some 13, op := Go.Op.alloc 37, type := 0, pos := "law.go:139", after := #[], guard := none }) rfl (fun KR hKR => ?_) ?_
        · have hS := hHeld
          clear hHeld
          obtain ⟨hS1, hS2, hS3⟩ := hS
          go_simp
          refine hKR.out _ _ (by exact (show Keep w ws ws 0 _ by (repeat (first | with_reducible assumption | with_reducible apply Keep.alloc | with_reducible apply Keep.drew | ((with_reducible refine Keep.set ?_ ?_ ?_); rotate_left; (focus (first | assumption | omega | (simp; done) | (simp; omega))); (focus (first | assumption | omega | (simp; done) | (simp; omega)))))))) (fun hHeld => ?_)
          clear hKR KR
          (try simp only [Act.put, List.setIfInBounds_toArray, List.set_cons_zero, List.set_cons_succ])
          refine wpAnyH_ready (rs := [3]) (by kernel_rfl) (by simp) ?_
          refine AllReadyH.cons (o := { dst := some 45, op := Go.Op.call { callee := Go.Callee.value (Go.Operand.func 16), args := #[Go.Operand.tmp 43, Go.Operand.tmp 44], argTypes := #[37, 37] }, type := 39, pos := "law.go:139", after := #[{ on := 1, ground := Go.Ground.data }, { on := 2, ground := Go.Ground.data }, { on := 1, ground := Go.Ground.chain }], guard := none }) rfl (fun KR hKR => ?_) ?_
          have hS := hHeld
          clear hHeld
          obtain ⟨hS1, hS2, hS3⟩ := hS
          go_simp
          ((try rw [if_pos (show IntKind.i64.wrap 0 = 0 from rfl)]); go_at_call 16; refine (then_is _ _ _ _ _ _ _ _ _ _ _ _ _ H2.out).mono ?_; rintro e wk3 ⟨rfl, hb⟩; have hK := Keep.next (by (repeat (first | with_reducible assumption | with_reducible apply Keep.alloc | with_reducible apply Keep.drew | ((with_reducible refine Keep.set ?_ ?_ ?_); rotate_left; (focus (first | assumption | omega | (simp; done) | (simp; omega))); (focus (first | assumption | omega | (simp; done) | (simp; omega))))))) hb; (try replace hb := undrew hb); obtain ⟨hc, hf⟩ := ch hb; have hz := hb.size; clear hb; (try simp only [World.size_alloc, World.size_setCell, World.size_drew] at hz))
          have zb0 : wk1.heap.size < wk3.heap.size := by omega
          refine hKR.out _ _ (by exact (show Keep w ws ws 0 _ by (repeat (first | with_reducible assumption | with_reducible apply Keep.alloc | with_reducible apply Keep.drew | ((with_reducible refine Keep.set ?_ ?_ ?_); rotate_left; (focus (first | assumption | omega | (simp; done) | (simp; omega))); (focus (first | assumption | omega | (simp; done) | (simp; omega)))))))) (fun hHeld => ?_)
          clear hKR KR
          (try simp only [Act.put, List.setIfInBounds_toArray, List.set_cons_zero, List.set_cons_succ])
          rotate_left
          · exact AllReadyH.nil
          refine wpAnyH_take (i := 4) (oi := { dst := some 41, op := Go.Op.move (Go.Operand.tmp 45), type := 39, pos := "law.go:139", after := #[{ on := 3, ground := Go.Ground.data }], guard := none }) (v := ?_) rfl (by kernel_rfl) (by kernel_rfl) (by kernel_rfl) (fun _ _ _ h => h) (Or.inl ⟨by rfl, ?_⟩) hHeld ?_
          rotate_left
          · intro W_ hSw
            obtain ⟨hS1, hS2, hS3⟩ := hSw
            go_simp
            try with_reducible rfl
          (try simp only [Act.put, List.setIfInBounds_toArray, List.set_cons_zero, List.set_cons_succ])
          refine wpAnyH_take (i := 5) (oi := { dst := some 46, op := Go.Op.extract (Go.Operand.tmp 41) 0, type := 37, pos := "law.go:139", after := #[{ on := 4, ground := Go.Ground.data }], guard := none }) (v := ?_) rfl (by kernel_rfl) (by kernel_rfl) (by kernel_rfl) (fun _ _ _ h => h) (Or.inl ⟨by rfl, ?_⟩) hHeld ?_
          rotate_left
          · intro W_ hSw
            obtain ⟨hS1, hS2, hS3⟩ := hSw
            go_simp
            try with_reducible rfl
          (try simp only [Act.put, List.setIfInBounds_toArray, List.set_cons_zero, List.set_cons_succ])
          refine wpAnyH_take (i := 6) (oi := { dst := some 47, op := Go.Op.extract (Go.Operand.tmp 41) 1, type := 30, pos := "law.go:139", after := #[{ on := 4, ground := Go.Ground.data }, { on := 8, ground := Go.Ground.gcOnly Go.Departure.lateStores }], guard := none }) (v := ?_) rfl (by kernel_rfl) (by kernel_rfl) (by kernel_rfl) (fun _ _ _ h => h) (Or.inl ⟨by rfl, ?_⟩) hHeld ?_
          rotate_left
          · intro W_ hSw
            obtain ⟨hS1, hS2, hS3⟩ := hSw
            go_simp
            try with_reducible rfl
          (try simp only [Act.put, List.setIfInBounds_toArray, List.set_cons_zero, List.set_cons_succ])
          refine wpAnyH_ready (rs := [8]) (by kernel_rfl) (by simp) ?_
          refine AllReadyH.cons (o := { dst := none, op := Go.Op.store 37 (Go.Operand.tmp 13) (Go.Operand.tmp 46), type := 0, pos := "law.go:139", after := #[{ on := 7, ground := Go.Ground.data }, { on := 5, ground := Go.Ground.data }, { on := 3, ground := Go.Ground.chain }, { on := 0, ground := Go.Ground.phase }, { on := 1, ground := Go.Ground.phase }, { on := 2, ground := Go.Ground.phase }, { on := 3, ground := Go.Ground.phase }, { on := 4, ground := Go.Ground.phase }, { on := 5, ground := Go.Ground.phase }, { on := 6, ground := Go.Ground.textOnly Go.Departure.lateStores }, { on := 7, ground := Go.Ground.phase }], guard := none }) rfl (fun KR hKR => ?_) ?_
          have hS := hHeld
          clear hHeld
          obtain ⟨hS1, hS2, hS3⟩ := hS
          go_simp
          refine hKR.out _ _ (by exact (show Keep w ws ws 0 _ by (repeat (first | with_reducible assumption | with_reducible apply Keep.alloc | with_reducible apply Keep.drew | ((with_reducible refine Keep.set ?_ ?_ ?_); rotate_left; (focus (first | assumption | omega | (simp; done) | (simp; omega))); (focus (first | assumption | omega | (simp; done) | (simp; omega)))))))) (fun hHeld => ?_)
          clear hKR KR
          (try simp only [Act.put, List.setIfInBounds_toArray, List.set_cons_zero, List.set_cons_succ])
          rotate_left
          · exact AllReadyH.nil
          refine wpAnyH_take (i := 9) (oi := { dst := some 14, op := Go.Op.assign (Go.Operand.tmp 47), type := 30, pos := "law.go:139", after := #[{ on := 6, ground := Go.Ground.data }, { on := 8, ground := Go.Ground.chain }, { on := 0, ground := Go.Ground.phase }, { on := 1, ground := Go.Ground.phase }, { on := 2, ground := Go.Ground.phase }, { on := 3, ground := Go.Ground.phase }, { on := 4, ground := Go.Ground.phase }, { on := 5, ground := Go.Ground.phase }, { on := 6, ground := Go.Ground.phase }, { on := 7, ground := Go.Ground.phase }, { on := 8, ground := Go.Ground.phase }], guard := none }) (v := ?_) rfl (by kernel_rfl) (by kernel_rfl) (by kernel_rfl) (fun _ _ _ h => h) (Or.inl ⟨by rfl, ?_⟩) hHeld ?_
          rotate_left
          · intro W_ hSw
            obtain ⟨hS1, hS2, hS3⟩ := hSw
            go_simp
            try with_reducible rfl
          (try simp only [Act.put, List.setIfInBounds_toArray, List.set_cons_zero, List.set_cons_succ])
          refine wpAnyH_done (by kernel_rfl) ?_ _
          refine NoPanic.normal ?_
          obtain ⟨hS1, hS2, hS3⟩ := hHeld
          go_wp2_with fail
          go_meet
          exact ⟨_, rfl, rfl, (by first | with_reducible assumption | (simp; done) | (simp; omega)), by go_simp, Keep.comp hKc ⟨hS1, hS2, hS3⟩⟩
        exact AllReadyH.nil
      refine AllReadyH.cons (o := { dst := some 13, op := Go.Op.alloc 37, type := 0, pos := "law.go:139", after := #[], guard := none }) rfl (fun KR hKR => ?_) ?_
      · have hS := hHeld
        clear hHeld
        obtain ⟨hS1, hS2, hS3⟩ := hS
        go_simp
        refine hKR.out _ _ (by exact (show Keep w ws ws 0 _ by (repeat (first | with_reducible assumption | with_reducible apply Keep.alloc | with_reducible apply Keep.drew | ((with_reducible refine Keep.set ?_ ?_ ?_); rotate_left; (focus (first | assumption | omega | (simp; done) | (simp; omega))); (focus (first | assumption | omega | (simp; done) | (simp; omega)))))))) (fun hHeld => ?_)
        clear hKR KR
        (try simp only [Act.put, List.setIfInBounds_toArray, List.set_cons_zero, List.set_cons_succ])
        refine wpAnyH_ready (rs := [1]) (by kernel_rfl) (by simp) ?_
        refine AllReadyH.cons (o := { dst := some 43, op := Go.Op.call { callee := Go.Callee.value (Go.Operand.func 17), args := #[Go.Operand.tmp 42], argTypes := #[36] }, type := 37, pos := "law.go:139", after := #[{ on := 0, ground := Go.Ground.data }], guard := none }) rfl (fun KR hKR => ?_) ?_
        have hS := hHeld
        clear hHeld
        obtain ⟨hS1, hS2, hS3⟩ := hS
        go_simp
        ((try rw [if_pos (show IntKind.i64.wrap 0 = 0 from rfl)]); go_at_call 17; refine (maps_any _ _ _ _ _ _ _).mono ?_; rintro e wk4 ⟨rfl, hb⟩; have hK := Keep.next (by (repeat (first | with_reducible assumption | with_reducible apply Keep.alloc | with_reducible apply Keep.drew | ((with_reducible refine Keep.set ?_ ?_ ?_); rotate_left; (focus (first | assumption | omega | (simp; done) | (simp; omega))); (focus (first | assumption | omega | (simp; done) | (simp; omega))))))) hb; (try replace hb := undrew hb); obtain ⟨hc, hf⟩ := ch hb; have hz := hb.size; clear hb; (try simp only [World.size_alloc, World.size_setCell, World.size_drew] at hz))
        have zb0 : ws.heap.size < wk4.heap.size := by omega
        refine hKR.out _ _ (by exact (show Keep w ws ws 0 _ by (repeat (first | with_reducible assumption | with_reducible apply Keep.alloc | with_reducible apply Keep.drew | ((with_reducible refine Keep.set ?_ ?_ ?_); rotate_left; (focus (first | assumption | omega | (simp; done) | (simp; omega))); (focus (first | assumption | omega | (simp; done) | (simp; omega)))))))) (fun hHeld => ?_)
        clear hKR KR
        (try simp only [Act.put, List.setIfInBounds_toArray, List.set_cons_zero, List.set_cons_succ])
        rotate_left
        · exact AllReadyH.nil
        refine wpAnyH_ready (rs := [3]) (by kernel_rfl) (by simp) ?_
        refine AllReadyH.cons (o := { dst := some 45, op := Go.Op.call { callee := Go.Callee.value (Go.Operand.func 16), args := #[Go.Operand.tmp 43, Go.Operand.tmp 44], argTypes := #[37, 37] }, type := 39, pos := "law.go:139", after := #[{ on := 1, ground := Go.Ground.data }, { on := 2, ground := Go.Ground.data }, { on := 1, ground := Go.Ground.chain }], guard := none }) rfl (fun KR hKR => ?_) ?_
        have hS := hHeld
        clear hHeld
        obtain ⟨hS1, hS2, hS3⟩ := hS
        go_simp
        ((try rw [if_pos (show IntKind.i64.wrap 0 = 0 from rfl)]); go_at_call 16; refine (then_is _ _ _ _ _ _ _ _ _ _ _ _ _ H2.out).mono ?_; rintro e wk5 ⟨rfl, hb⟩; have hK := Keep.next (by (repeat (first | with_reducible assumption | with_reducible apply Keep.alloc | with_reducible apply Keep.drew | ((with_reducible refine Keep.set ?_ ?_ ?_); rotate_left; (focus (first | assumption | omega | (simp; done) | (simp; omega))); (focus (first | assumption | omega | (simp; done) | (simp; omega))))))) hb; (try replace hb := undrew hb); obtain ⟨hc, hf⟩ := ch hb; have hz := hb.size; clear hb; (try simp only [World.size_alloc, World.size_setCell, World.size_drew] at hz))
        have zb0 : ws.heap.size < wk5.heap.size := by omega
        refine hKR.out _ _ (by exact (show Keep w ws ws 0 _ by (repeat (first | with_reducible assumption | with_reducible apply Keep.alloc | with_reducible apply Keep.drew | ((with_reducible refine Keep.set ?_ ?_ ?_); rotate_left; (focus (first | assumption | omega | (simp; done) | (simp; omega))); (focus (first | assumption | omega | (simp; done) | (simp; omega)))))))) (fun hHeld => ?_)
        clear hKR KR
        (try simp only [Act.put, List.setIfInBounds_toArray, List.set_cons_zero, List.set_cons_succ])
        rotate_left
        · exact AllReadyH.nil
        refine wpAnyH_take (i := 4) (oi := { dst := some 41, op := Go.Op.move (Go.Operand.tmp 45), type := 39, pos := "law.go:139", after := #[{ on := 3, ground := Go.Ground.data }], guard := none }) (v := ?_) rfl (by kernel_rfl) (by kernel_rfl) (by kernel_rfl) (fun _ _ _ h => h) (Or.inl ⟨by rfl, ?_⟩) hHeld ?_
        rotate_left
        · intro W_ hSw
          obtain ⟨hS1, hS2, hS3⟩ := hSw
          go_simp
          try with_reducible rfl
        (try simp only [Act.put, List.setIfInBounds_toArray, List.set_cons_zero, List.set_cons_succ])
        refine wpAnyH_take (i := 5) (oi := { dst := some 46, op := Go.Op.extract (Go.Operand.tmp 41) 0, type := 37, pos := "law.go:139", after := #[{ on := 4, ground := Go.Ground.data }], guard := none }) (v := ?_) rfl (by kernel_rfl) (by kernel_rfl) (by kernel_rfl) (fun _ _ _ h => h) (Or.inl ⟨by rfl, ?_⟩) hHeld ?_
        rotate_left
        · intro W_ hSw
          obtain ⟨hS1, hS2, hS3⟩ := hSw
          go_simp
          try with_reducible rfl
        (try simp only [Act.put, List.setIfInBounds_toArray, List.set_cons_zero, List.set_cons_succ])
        refine wpAnyH_take (i := 6) (oi := { dst := some 47, op := Go.Op.extract (Go.Operand.tmp 41) 1, type := 30, pos := "law.go:139", after := #[{ on := 4, ground := Go.Ground.data }, { on := 8, ground := Go.Ground.gcOnly Go.Departure.lateStores }], guard := none }) (v := ?_) rfl (by kernel_rfl) (by kernel_rfl) (by kernel_rfl) (fun _ _ _ h => h) (Or.inl ⟨by rfl, ?_⟩) hHeld ?_
        rotate_left
        · intro W_ hSw
          obtain ⟨hS1, hS2, hS3⟩ := hSw
          go_simp
          try with_reducible rfl
        (try simp only [Act.put, List.setIfInBounds_toArray, List.set_cons_zero, List.set_cons_succ])
        refine wpAnyH_ready (rs := [8]) (by kernel_rfl) (by simp) ?_
        refine AllReadyH.cons (o := { dst := none, op := Go.Op.store 37 (Go.Operand.tmp 13) (Go.Operand.tmp 46), type := 0, pos := "law.go:139", after := #[{ on := 7, ground := Go.Ground.data }, { on := 5, ground := Go.Ground.data }, { on := 3, ground := Go.Ground.chain }, { on := 0, ground := Go.Ground.phase }, { on := 1, ground := Go.Ground.phase }, { on := 2, ground := Go.Ground.phase }, { on := 3, ground := Go.Ground.phase }, { on := 4, ground := Go.Ground.phase }, { on := 5, ground := Go.Ground.phase }, { on := 6, ground := Go.Ground.textOnly Go.Departure.lateStores }, { on := 7, ground := Go.Ground.phase }], guard := none }) rfl (fun KR hKR => ?_) ?_
        have hS := hHeld
        clear hHeld
        obtain ⟨hS1, hS2, hS3⟩ := hS
        go_simp
        refine hKR.out _ _ (by exact (show Keep w ws ws 0 _ by (repeat (first | with_reducible assumption | with_reducible apply Keep.alloc | with_reducible apply Keep.drew | ((with_reducible refine Keep.set ?_ ?_ ?_); rotate_left; (focus (first | assumption | omega | (simp; done) | (simp; omega))); (focus (first | assumption | omega | (simp; done) | (simp; omega)))))))) (fun hHeld => ?_)
        clear hKR KR
        (try simp only [Act.put, List.setIfInBounds_toArray, List.set_cons_zero, List.set_cons_succ])
        rotate_left
        · exact AllReadyH.nil
        refine wpAnyH_take (i := 9) (oi := { dst := some 14, op := Go.Op.assign (Go.Operand.tmp 47), type := 30, pos := "law.go:139", after := #[{ on := 6, ground := Go.Ground.data }, { on := 8, ground := Go.Ground.chain }, { on := 0, ground := Go.Ground.phase }, { on := 1, ground := Go.Ground.phase }, { on := 2, ground := Go.Ground.phase }, { on := 3, ground := Go.Ground.phase }, { on := 4, ground := Go.Ground.phase }, { on := 5, ground := Go.Ground.phase }, { on := 6, ground := Go.Ground.phase }, { on := 7, ground := Go.Ground.phase }, { on := 8, ground := Go.Ground.phase }], guard := none }) (v := ?_) rfl (by kernel_rfl) (by kernel_rfl) (by kernel_rfl) (fun _ _ _ h => h) (Or.inl ⟨by rfl, ?_⟩) hHeld ?_
        rotate_left
        · intro W_ hSw
          obtain ⟨hS1, hS2, hS3⟩ := hSw
          go_simp
          try with_reducible rfl
        (try simp only [Act.put, List.setIfInBounds_toArray, List.set_cons_zero, List.set_cons_succ])
        refine wpAnyH_done (by kernel_rfl) ?_ _
        refine NoPanic.normal ?_
        obtain ⟨hS1, hS2, hS3⟩ := hHeld
        go_wp2_with fail
        go_meet
        exact ⟨_, rfl, rfl, (by first | with_reducible assumption | (simp; done) | (simp; omega)), by go_simp, Keep.comp hKc ⟨hS1, hS2, hS3⟩⟩
      exact AllReadyH.nil
    case rest =>
      obtain ⟨gA, rfl, rfl, hlA, ⟨qa0, qa1, qa2, qa3, qa4, qa5⟩, hK7⟩ := hcut
      obtain ⟨W7, rfl⟩ : ∃ W7, W7 = wc := ⟨_, rfl⟩
      obtain ⟨r1, r2, r3⟩ := id hK7
      have zW70 : w.heap.size < W7.heap.size := by omega
      have zW71 : w.heap.size + 1 < W7.heap.size := by omega
      have zW72 : w.heap.size + 1 + 1 < W7.heap.size := by omega
      have zW73 : w.heap.size + 1 + 1 + 1 < W7.heap.size := by omega
      have zW74 : w.heap.size + 1 + 1 + 1 + 1 < W7.heap.size := by omega
      have zW75 : w.heap.size + 1 + 1 + 1 + 1 + 1 < W7.heap.size := by omega
      go_upto_region 8 with fail
      go_cut [15, 16] (fun s15 s16 wx => ∃ g : Nat, s15 = .pointer (some ⟨g, 0, none⟩) ∧ s16 = .int .i64 le ∧ g < wx.heap.size ∧ W7.heap.size ≤ wx.heap.size ∧ (wx.cell? ⟨g, 0, none⟩ = some (.int .i64 l1) ∧ wx.cell? ⟨g, 1, none⟩ = some (.int .i64 l2) ∧ wx.cell? ⟨g, 2, none⟩ = some (.int .i64 l3) ∧ wx.cell? ⟨g, 3, none⟩ = some (.int .i64 l4) ∧ wx.cell? ⟨g, 4, none⟩ = some (.int .i64 l5) ∧ wx.cell? ⟨g, 5, none⟩ = some (.int .i64 l6) ∧ wx.cell? ⟨gA, 0, none⟩ = some (.int .i64 k1) ∧ wx.cell? ⟨gA, 1, none⟩ = some (.int .i64 k2) ∧ wx.cell? ⟨gA, 2, none⟩ = some (.int .i64 k3) ∧ wx.cell? ⟨gA, 3, none⟩ = some (.int .i64 k4) ∧ wx.cell? ⟨gA, 4, none⟩ = some (.int .i64 k5) ∧ wx.cell? ⟨gA, 5, none⟩ = some (.int .i64 k6)) ∧ Keep w w ((((((w.alloc (.cells #[.int .i64 a, .int .i64 b, .int .i64 c, .int .i64 d, .int .i64 e, .int .i64 f] 36)).alloc (.cells #[.int .i64 x, .int .i64 y, .int .i64 u, .int .i64 v] 23)).alloc (.cells #[.int .i64 65536, .int .i64 0, .int .i64 0, .int .i64 65536, .int .i64 0, .int .i64 0] 37)).alloc (.cells #[.int .i64 x, .int .i64 y, .int .i64 u, .int .i64 v] 23)).alloc (.cells #[.int .i64 x, .int .i64 y, .int .i64 u, .int .i64 v] 24)).alloc (.cells #[.int .i64 x, .int .i64 y, .int .i64 u, .int .i64 v] 24)) 6 wx)
      case first =>
        obtain ⟨ws, rfl⟩ : ∃ ws, ws = W7 := ⟨_, rfl⟩
        have hK : Keep w ws ws 0 ws := Keep.start (by (repeat (first | with_reducible exact Below.refl _ _ | with_reducible apply below_alloc | with_reducible apply below_drew1 | with_reducible assumption | (with_reducible refine Keep.below (by assumption)) | (with_reducible refine bel ?_ (by assumption)) | ((with_reducible refine below_set ?_ ?_); rotate_left; (focus (first | assumption | omega | (simp; done) | (simp; omega))))))) (by first | assumption | omega | (simp; done) | (simp; omega))
        refine wp_region_noPanic ?_
        refine wp_region_held_drew (S := fun W_ => (∀ b_ o_, b_ < ws.heap.size + 0 → W_.cell? ⟨b_, o_, none⟩ = ws.cell? ⟨b_, o_, none⟩) ∧ ws.heap.size + 0 ≤ W_.heap.size ∧ Below w.heap.size w W_) (by kernel_rfl) (show Keep w ws ws 0 _ by (repeat (first | with_reducible assumption | with_reducible apply Keep.alloc | with_reducible apply Keep.drew | ((with_reducible refine Keep.set ?_ ?_ ?_); rotate_left; (focus (first | assumption | omega | (simp; done) | (simp; omega))); (focus (first | assumption | omega | (simp; done) | (simp; omega))))))) (fun hHeld => ?_)
        refine wpAnyH_take (i := 0) (oi := { dst := some 49, op := Go.Op.load 37 (Go.Operand.tmp 9), type := 37, pos := "law.go:140", after := #[], guard := none }) (v := ?_) rfl (by kernel_rfl) (by kernel_rfl) (by kernel_rfl) (fun _ _ _ h => h) (Or.inl ⟨by rfl, ?_⟩) hHeld ?_
        rotate_left
        · intro W_ hSw
          obtain ⟨hS1, hS2, hS3⟩ := hSw
          go_simp
          try with_reducible rfl
        (try simp only [Act.put, List.setIfInBounds_toArray, List.set_cons_zero, List.set_cons_succ])
        refine wpAnyH_take (i := 1) (oi := { dst := some 50, op := Go.Op.load 36 (Go.Operand.tmp 4), type := 36, pos := "law.go:140", after := #[], guard := none }) (v := ?_) rfl (by kernel_rfl) (by kernel_rfl) (by kernel_rfl) (fun _ _ _ h => h) (Or.inl ⟨by rfl, ?_⟩) hHeld ?_
        rotate_left
        · intro W_ hSw
          obtain ⟨hS1, hS2, hS3⟩ := hSw
          go_simp
          try with_reducible rfl
        (try simp only [Act.put, List.setIfInBounds_toArray, List.set_cons_zero, List.set_cons_succ])
        refine wpAnyH_ready (rs := [2, 7]) (by kernel_rfl) (by simp) ?_
        refine AllReadyH.cons (o := { dst := some 51, op := Go.Op.call { callee := Go.Callee.value (Go.Operand.func 17), args := #[Go.Operand.tmp 50], argTypes := #[36] }, type := 37, pos := "law.go:140", after := #[{ on := 1, ground := Go.Ground.data }], guard := none }) rfl (fun KR hKR => ?_) ?_
        · have hS := hHeld
          clear hHeld
          obtain ⟨hS1, hS2, hS3⟩ := hS
          go_simp
          ((try rw [if_pos (show IntKind.i64.wrap 0 = 0 from rfl)]); go_at_call 17; refine (maps_any _ _ _ _ _ _ _).mono ?_; rintro e wk1 ⟨rfl, hb⟩; have hK := Keep.next (by (repeat (first | with_reducible assumption | with_reducible apply Keep.alloc | with_reducible apply Keep.drew | ((with_reducible refine Keep.set ?_ ?_ ?_); rotate_left; (focus (first | assumption | omega | (simp; done) | (simp; omega))); (focus (first | assumption | omega | (simp; done) | (simp; omega))))))) hb; (try replace hb := undrew hb); obtain ⟨hc, hf⟩ := ch hb; have hz := hb.size; clear hb; (try simp only [World.size_alloc, World.size_setCell, World.size_drew] at hz))
          refine hKR.out _ _ (by exact (show Keep w ws ws 0 _ by (repeat (first | with_reducible assumption | with_reducible apply Keep.alloc | with_reducible apply Keep.drew | ((with_reducible refine Keep.set ?_ ?_ ?_); rotate_left; (focus (first | assumption | omega | (simp; done) | (simp; omega))); (focus (first | assumption | omega | (simp; done) | (simp; omega)))))))) (fun hHeld => ?_)
          clear hKR KR
          (try simp only [Act.put, List.setIfInBounds_toArray, List.set_cons_zero, List.set_cons_succ])
          refine wpAnyH_ready (rs := [3, 7]) (by kernel_rfl) (by simp) ?_
          refine AllReadyH.cons (o := { dst := some 52, op := Go.Op.call { callee := Go.Callee.value (Go.Operand.func 16), args := #[Go.Operand.tmp 49, Go.Operand.tmp 51], argTypes := #[37, 37] }, type := 39, pos := "law.go:140", after := #[{ on := 0, ground := Go.Ground.data }, { on := 2, ground := Go.Ground.data }, { on := 2, ground := Go.Ground.chain }], guard := none }) rfl (fun KR hKR => ?_) ?_
          · have hS := hHeld
            clear hHeld
            obtain ⟨hS1, hS2, hS3⟩ := hS
            go_simp
            ((try rw [if_pos (show IntKind.i64.wrap 0 = 0 from rfl)]); go_at_call 16; refine (then_is _ _ _ _ _ _ _ _ _ _ _ _ _ H3.out).mono ?_; rintro e wk2 ⟨rfl, hb⟩; have hK := Keep.next (by (repeat (first | with_reducible assumption | with_reducible apply Keep.alloc | with_reducible apply Keep.drew | ((with_reducible refine Keep.set ?_ ?_ ?_); rotate_left; (focus (first | assumption | omega | (simp; done) | (simp; omega))); (focus (first | assumption | omega | (simp; done) | (simp; omega))))))) hb; (try replace hb := undrew hb); obtain ⟨hc, hf⟩ := ch hb; have hz := hb.size; clear hb; (try simp only [World.size_alloc, World.size_setCell, World.size_drew] at hz))
            refine hKR.out _ _ (by exact (show Keep w ws ws 0 _ by (repeat (first | with_reducible assumption | with_reducible apply Keep.alloc | with_reducible apply Keep.drew | ((with_reducible refine Keep.set ?_ ?_ ?_); rotate_left; (focus (first | assumption | omega | (simp; done) | (simp; omega))); (focus (first | assumption | omega | (simp; done) | (simp; omega)))))))) (fun hHeld => ?_)
            clear hKR KR
            (try simp only [Act.put, List.setIfInBounds_toArray, List.set_cons_zero, List.set_cons_succ])
            refine wpAnyH_take (i := 4) (oi := { dst := some 48, op := Go.Op.move (Go.Operand.tmp 52), type := 39, pos := "law.go:140", after := #[{ on := 3, ground := Go.Ground.data }], guard := none }) (v := ?_) rfl (by kernel_rfl) (by kernel_rfl) (by kernel_rfl) (fun _ _ _ h => h) (Or.inl ⟨by rfl, ?_⟩) hHeld ?_
            rotate_left
            · intro W_ hSw
              obtain ⟨hS1, hS2, hS3⟩ := hSw
              go_simp
              try with_reducible rfl
            (try simp only [Act.put, List.setIfInBounds_toArray, List.set_cons_zero, List.set_cons_succ])
            refine wpAnyH_take (i := 5) (oi := { dst := some 53, op := Go.Op.extract (Go.Operand.tmp 48) 0, type := 37, pos := "law.go:140", after := #[{ on := 4, ground := Go.Ground.data }], guard := none }) (v := ?_) rfl (by kernel_rfl) (by kernel_rfl) (by kernel_rfl) (fun _ _ _ h => h) (Or.inl ⟨by rfl, ?_⟩) hHeld ?_
            rotate_left
            · intro W_ hSw
              obtain ⟨hS1, hS2, hS3⟩ := hSw
              go_simp
              try with_reducible rfl
            (try simp only [Act.put, List.setIfInBounds_toArray, List.set_cons_zero, List.set_cons_succ])
            refine wpAnyH_take (i := 6) (oi := { dst := some 54, op := Go.Op.extract (Go.Operand.tmp 48) 1, type := 30, pos := "law.go:140", after := #[{ on := 4, ground := Go.Ground.data }, { on := 8, ground := Go.Ground.gcOnly Go.Departure.lateStores }], guard := none }) (v := ?_) rfl (by kernel_rfl) (by kernel_rfl) (by kernel_rfl) (fun _ _ _ h => h) (Or.inl ⟨by rfl, ?_⟩) hHeld ?_
            rotate_left
            · intro W_ hSw
              obtain ⟨hS1, hS2, hS3⟩ := hSw
              go_simp
              try with_reducible rfl
            (try simp only [Act.put, List.setIfInBounds_toArray, List.set_cons_zero, List.set_cons_succ])
            refine wpAnyH_ready (rs := [7]) (by kernel_rfl) (by simp) ?_
            refine AllReadyH.cons (o := { dst := some 15, op := Go.Op.alloc 37, type := 0, pos := "law.go:140", after := #[], guard := none }) rfl (fun KR hKR => ?_) ?_
            have hS := hHeld
            clear hHeld
            obtain ⟨hS1, hS2, hS3⟩ := hS
            go_simp
            refine hKR.out _ _ (by exact (show Keep w ws ws 0 _ by (repeat (first | with_reducible assumption | with_reducible apply Keep.alloc | with_reducible apply Keep.drew | ((with_reducible refine Keep.set ?_ ?_ ?_); rotate_left; (focus (first | assumption | omega | (simp; done) | (simp; omega))); (focus (first | assumption | omega | (simp; done) | (simp; omega)))))))) (fun hHeld => ?_)
            clear hKR KR
            (try simp only [Act.put, List.setIfInBounds_toArray, List.set_cons_zero, List.set_cons_succ])
            rotate_left
            · exact AllReadyH.nil
            refine wpAnyH_ready (rs := [8]) (by kernel_rfl) (by simp) ?_
            refine AllReadyH.cons (o := { dst := none, op := Go.Op.store 37 (Go.Operand.tmp 15) (Go.Operand.tmp 53), type := 0, pos := "law.go:140", after := #[{ on := 7, ground := Go.Ground.data }, { on := 5, ground := Go.Ground.data }, { on := 3, ground := Go.Ground.chain }, { on := 0, ground := Go.Ground.phase }, { on := 1, ground := Go.Ground.phase }, { on := 2, ground := Go.Ground.phase }, { on := 3, ground := Go.Ground.phase }, { on := 4, ground := Go.Ground.phase }, { on := 5, ground := Go.Ground.phase }, { on := 6, ground := Go.Ground.textOnly Go.Departure.lateStores }, { on := 7, ground := Go.Ground.phase }], guard := none }) rfl (fun KR hKR => ?_) ?_
            have hS := hHeld
            clear hHeld
            obtain ⟨hS1, hS2, hS3⟩ := hS
            go_simp
            refine hKR.out _ _ (by exact (show Keep w ws ws 0 _ by (repeat (first | with_reducible assumption | with_reducible apply Keep.alloc | with_reducible apply Keep.drew | ((with_reducible refine Keep.set ?_ ?_ ?_); rotate_left; (focus (first | assumption | omega | (simp; done) | (simp; omega))); (focus (first | assumption | omega | (simp; done) | (simp; omega)))))))) (fun hHeld => ?_)
            clear hKR KR
            (try simp only [Act.put, List.setIfInBounds_toArray, List.set_cons_zero, List.set_cons_succ])
            rotate_left
            · exact AllReadyH.nil
            refine wpAnyH_take (i := 9) (oi := { dst := some 16, op := Go.Op.assign (Go.Operand.tmp 54), type := 30, pos := "law.go:140", after := #[{ on := 6, ground := Go.Ground.data }, { on := 8, ground := Go.Ground.chain }, { on := 0, ground := Go.Ground.phase }, { on := 1, ground := Go.Ground.phase }, { on := 2, ground := Go.Ground.phase }, { on := 3, ground := Go.Ground.phase }, { on := 4, ground := Go.Ground.phase }, { on := 5, ground := Go.Ground.phase }, { on := 6, ground := Go.Ground.phase }, { on := 7, ground := Go.Ground.phase }, { on := 8, ground := Go.Ground.phase }], guard := none }) (v := ?_) rfl (by kernel_rfl) (by kernel_rfl) (by kernel_rfl) (fun _ _ _ h => h) (Or.inl ⟨by rfl, ?_⟩) hHeld ?_
            rotate_left
            · intro W_ hSw
              obtain ⟨hS1, hS2, hS3⟩ := hSw
              go_simp
              try with_reducible rfl
            (try simp only [Act.put, List.setIfInBounds_toArray, List.set_cons_zero, List.set_cons_succ])
            refine wpAnyH_done (by kernel_rfl) ?_ _
            refine NoPanic.normal ?_
            obtain ⟨hS1, hS2, hS3⟩ := hHeld
            go_wp2_with fail
            go_meet
            exact ⟨_, rfl, rfl, (by first | with_reducible assumption | (simp; done) | (simp; omega)), by simpa using hS2, by go_simp, Keep.comp hK7 ⟨hS1, hS2, hS3⟩⟩
          refine AllReadyH.cons (o := { dst := some 15, op := Go.Op.alloc 37, type := 0, pos := "law.go:140", after := #[], guard := none }) rfl (fun KR hKR => ?_) ?_
          · have hS := hHeld
            clear hHeld
            obtain ⟨hS1, hS2, hS3⟩ := hS
            go_simp
            refine hKR.out _ _ (by exact (show Keep w ws ws 0 _ by (repeat (first | with_reducible assumption | with_reducible apply Keep.alloc | with_reducible apply Keep.drew | ((with_reducible refine Keep.set ?_ ?_ ?_); rotate_left; (focus (first | assumption | omega | (simp; done) | (simp; omega))); (focus (first | assumption | omega | (simp; done) | (simp; omega)))))))) (fun hHeld => ?_)
            clear hKR KR
            (try simp only [Act.put, List.setIfInBounds_toArray, List.set_cons_zero, List.set_cons_succ])
            refine wpAnyH_ready (rs := [3]) (by kernel_rfl) (by simp) ?_
            refine AllReadyH.cons (o := { dst := some 52, op := Go.Op.call { callee := Go.Callee.value (Go.Operand.func 16), args := #[Go.Operand.tmp 49, Go.Operand.tmp 51], argTypes := #[37, 37] }, type := 39, pos := "law.go:140", after := #[{ on := 0, ground := Go.Ground.data }, { on := 2, ground := Go.Ground.data }, { on := 2, ground := Go.Ground.chain }], guard := none }) rfl (fun KR hKR => ?_) ?_
            have hS := hHeld
            clear hHeld
            obtain ⟨hS1, hS2, hS3⟩ := hS
            go_simp
            ((try rw [if_pos (show IntKind.i64.wrap 0 = 0 from rfl)]); go_at_call 16; refine (then_is _ _ _ _ _ _ _ _ _ _ _ _ _ H3.out).mono ?_; rintro e wk3 ⟨rfl, hb⟩; have hK := Keep.next (by (repeat (first | with_reducible assumption | with_reducible apply Keep.alloc | with_reducible apply Keep.drew | ((with_reducible refine Keep.set ?_ ?_ ?_); rotate_left; (focus (first | assumption | omega | (simp; done) | (simp; omega))); (focus (first | assumption | omega | (simp; done) | (simp; omega))))))) hb; (try replace hb := undrew hb); obtain ⟨hc, hf⟩ := ch hb; have hz := hb.size; clear hb; (try simp only [World.size_alloc, World.size_setCell, World.size_drew] at hz))
            have zb0 : wk1.heap.size < wk3.heap.size := by omega
            refine hKR.out _ _ (by exact (show Keep w ws ws 0 _ by (repeat (first | with_reducible assumption | with_reducible apply Keep.alloc | with_reducible apply Keep.drew | ((with_reducible refine Keep.set ?_ ?_ ?_); rotate_left; (focus (first | assumption | omega | (simp; done) | (simp; omega))); (focus (first | assumption | omega | (simp; done) | (simp; omega)))))))) (fun hHeld => ?_)
            clear hKR KR
            (try simp only [Act.put, List.setIfInBounds_toArray, List.set_cons_zero, List.set_cons_succ])
            rotate_left
            · exact AllReadyH.nil
            refine wpAnyH_take (i := 4) (oi := { dst := some 48, op := Go.Op.move (Go.Operand.tmp 52), type := 39, pos := "law.go:140", after := #[{ on := 3, ground := Go.Ground.data }], guard := none }) (v := ?_) rfl (by kernel_rfl) (by kernel_rfl) (by kernel_rfl) (fun _ _ _ h => h) (Or.inl ⟨by rfl, ?_⟩) hHeld ?_
            rotate_left
            · intro W_ hSw
              obtain ⟨hS1, hS2, hS3⟩ := hSw
              go_simp
              try with_reducible rfl
            (try simp only [Act.put, List.setIfInBounds_toArray, List.set_cons_zero, List.set_cons_succ])
            refine wpAnyH_take (i := 5) (oi := { dst := some 53, op := Go.Op.extract (Go.Operand.tmp 48) 0, type := 37, pos := "law.go:140", after := #[{ on := 4, ground := Go.Ground.data }], guard := none }) (v := ?_) rfl (by kernel_rfl) (by kernel_rfl) (by kernel_rfl) (fun _ _ _ h => h) (Or.inl ⟨by rfl, ?_⟩) hHeld ?_
            rotate_left
            · intro W_ hSw
              obtain ⟨hS1, hS2, hS3⟩ := hSw
              go_simp
              try with_reducible rfl
            (try simp only [Act.put, List.setIfInBounds_toArray, List.set_cons_zero, List.set_cons_succ])
            refine wpAnyH_take (i := 6) (oi := { dst := some 54, op := Go.Op.extract (Go.Operand.tmp 48) 1, type := 30, pos := "law.go:140", after := #[{ on := 4, ground := Go.Ground.data }, { on := 8, ground := Go.Ground.gcOnly Go.Departure.lateStores }], guard := none }) (v := ?_) rfl (by kernel_rfl) (by kernel_rfl) (by kernel_rfl) (fun _ _ _ h => h) (Or.inl ⟨by rfl, ?_⟩) hHeld ?_
            rotate_left
            · intro W_ hSw
              obtain ⟨hS1, hS2, hS3⟩ := hSw
              go_simp
              try with_reducible rfl
            (try simp only [Act.put, List.setIfInBounds_toArray, List.set_cons_zero, List.set_cons_succ])
            refine wpAnyH_ready (rs := [8]) (by kernel_rfl) (by simp) ?_
            refine AllReadyH.cons (o := { dst := none, op := Go.Op.store 37 (Go.Operand.tmp 15) (Go.Operand.tmp 53), type := 0, pos := "law.go:140", after := #[{ on := 7, ground := Go.Ground.data }, { on := 5, ground := Go.Ground.data }, { on := 3, ground := Go.Ground.chain }, { on := 0, ground := Go.Ground.phase }, { on := 1, ground := Go.Ground.phase }, { on := 2, ground := Go.Ground.phase }, { on := 3, ground := Go.Ground.phase }, { on := 4, ground := Go.Ground.phase }, { on := 5, ground := Go.Ground.phase }, { on := 6, ground := Go.Ground.textOnly Go.Departure.lateStores }, { on := 7, ground := Go.Ground.phase }], guard := none }) rfl (fun KR hKR => ?_) ?_
            have hS := hHeld
            clear hHeld
            obtain ⟨hS1, hS2, hS3⟩ := hS
            go_simp
            refine hKR.out _ _ (by exact (show Keep w ws ws 0 _ by (repeat (first | with_reducible assumption | with_reducible apply Keep.alloc | with_reducible apply Keep.drew | ((with_reducible refine Keep.set ?_ ?_ ?_); rotate_left; (focus (first | assumption | omega | (simp; done) | (simp; omega))); (focus (first | assumption | omega | (simp; done) | (simp; omega)))))))) (fun hHeld => ?_)
            clear hKR KR
            (try simp only [Act.put, List.setIfInBounds_toArray, List.set_cons_zero, List.set_cons_succ])
            rotate_left
            · exact AllReadyH.nil
            refine wpAnyH_take (i := 9) (oi := { dst := some 16, op := Go.Op.assign (Go.Operand.tmp 54), type := 30, pos := "law.go:140", after := #[{ on := 6, ground := Go.Ground.data }, { on := 8, ground := Go.Ground.chain }, { on := 0, ground := Go.Ground.phase }, { on := 1, ground := Go.Ground.phase }, { on := 2, ground := Go.Ground.phase }, { on := 3, ground := Go.Ground.phase }, { on := 4, ground := Go.Ground.phase }, { on := 5, ground := Go.Ground.phase }, { on := 6, ground := Go.Ground.phase }, { on := 7, ground := Go.Ground.phase }, { on := 8, ground := Go.Ground.phase }], guard := none }) (v := ?_) rfl (by kernel_rfl) (by kernel_rfl) (by kernel_rfl) (fun _ _ _ h => h) (Or.inl ⟨by rfl, ?_⟩) hHeld ?_
            rotate_left
            · intro W_ hSw
              obtain ⟨hS1, hS2, hS3⟩ := hSw
              go_simp
              try with_reducible rfl
            (try simp only [Act.put, List.setIfInBounds_toArray, List.set_cons_zero, List.set_cons_succ])
            refine wpAnyH_done (by kernel_rfl) ?_ _
            refine NoPanic.normal ?_
            obtain ⟨hS1, hS2, hS3⟩ := hHeld
            go_wp2_with fail
            go_meet
            exact ⟨_, rfl, rfl, (by first | with_reducible assumption | (simp; done) | (simp; omega)), by simpa using hS2, by go_simp, Keep.comp hK7 ⟨hS1, hS2, hS3⟩⟩
          exact AllReadyH.nil
        refine AllReadyH.cons (o := { dst := some 15, op := Go.Op.alloc 37, type := 0, pos := "law.go:140", after := #[], guard := none }) rfl (fun KR hKR => ?_) ?_
        · have hS := hHeld
          clear hHeld
          obtain ⟨hS1, hS2, hS3⟩ := hS
          go_simp
          refine hKR.out _ _ (by exact (show Keep w ws ws 0 _ by (repeat (first | with_reducible assumption | with_reducible apply Keep.alloc | with_reducible apply Keep.drew | ((with_reducible refine Keep.set ?_ ?_ ?_); rotate_left; (focus (first | assumption | omega | (simp; done) | (simp; omega))); (focus (first | assumption | omega | (simp; done) | (simp; omega)))))))) (fun hHeld => ?_)
          clear hKR KR
          (try simp only [Act.put, List.setIfInBounds_toArray, List.set_cons_zero, List.set_cons_succ])
          refine wpAnyH_ready (rs := [2]) (by kernel_rfl) (by simp) ?_
          refine AllReadyH.cons (o := { dst := some 51, op := Go.Op.call { callee := Go.Callee.value (Go.Operand.func 17), args := #[Go.Operand.tmp 50], argTypes := #[36] }, type := 37, pos := "law.go:140", after := #[{ on := 1, ground := Go.Ground.data }], guard := none }) rfl (fun KR hKR => ?_) ?_
          have hS := hHeld
          clear hHeld
          obtain ⟨hS1, hS2, hS3⟩ := hS
          go_simp
          ((try rw [if_pos (show IntKind.i64.wrap 0 = 0 from rfl)]); go_at_call 17; refine (maps_any _ _ _ _ _ _ _).mono ?_; rintro e wk4 ⟨rfl, hb⟩; have hK := Keep.next (by (repeat (first | with_reducible assumption | with_reducible apply Keep.alloc | with_reducible apply Keep.drew | ((with_reducible refine Keep.set ?_ ?_ ?_); rotate_left; (focus (first | assumption | omega | (simp; done) | (simp; omega))); (focus (first | assumption | omega | (simp; done) | (simp; omega))))))) hb; (try replace hb := undrew hb); obtain ⟨hc, hf⟩ := ch hb; have hz := hb.size; clear hb; (try simp only [World.size_alloc, World.size_setCell, World.size_drew] at hz))
          have zb0 : ws.heap.size < wk4.heap.size := by omega
          refine hKR.out _ _ (by exact (show Keep w ws ws 0 _ by (repeat (first | with_reducible assumption | with_reducible apply Keep.alloc | with_reducible apply Keep.drew | ((with_reducible refine Keep.set ?_ ?_ ?_); rotate_left; (focus (first | assumption | omega | (simp; done) | (simp; omega))); (focus (first | assumption | omega | (simp; done) | (simp; omega)))))))) (fun hHeld => ?_)
          clear hKR KR
          (try simp only [Act.put, List.setIfInBounds_toArray, List.set_cons_zero, List.set_cons_succ])
          rotate_left
          · exact AllReadyH.nil
          refine wpAnyH_ready (rs := [3]) (by kernel_rfl) (by simp) ?_
          refine AllReadyH.cons (o := { dst := some 52, op := Go.Op.call { callee := Go.Callee.value (Go.Operand.func 16), args := #[Go.Operand.tmp 49, Go.Operand.tmp 51], argTypes := #[37, 37] }, type := 39, pos := "law.go:140", after := #[{ on := 0, ground := Go.Ground.data }, { on := 2, ground := Go.Ground.data }, { on := 2, ground := Go.Ground.chain }], guard := none }) rfl (fun KR hKR => ?_) ?_
          have hS := hHeld
          clear hHeld
          obtain ⟨hS1, hS2, hS3⟩ := hS
          go_simp
          ((try rw [if_pos (show IntKind.i64.wrap 0 = 0 from rfl)]); go_at_call 16; refine (then_is _ _ _ _ _ _ _ _ _ _ _ _ _ H3.out).mono ?_; rintro e wk5 ⟨rfl, hb⟩; have hK := Keep.next (by (repeat (first | with_reducible assumption | with_reducible apply Keep.alloc | with_reducible apply Keep.drew | ((with_reducible refine Keep.set ?_ ?_ ?_); rotate_left; (focus (first | assumption | omega | (simp; done) | (simp; omega))); (focus (first | assumption | omega | (simp; done) | (simp; omega))))))) hb; (try replace hb := undrew hb); obtain ⟨hc, hf⟩ := ch hb; have hz := hb.size; clear hb; (try simp only [World.size_alloc, World.size_setCell, World.size_drew] at hz))
          have zb0 : ws.heap.size < wk5.heap.size := by omega
          refine hKR.out _ _ (by exact (show Keep w ws ws 0 _ by (repeat (first | with_reducible assumption | with_reducible apply Keep.alloc | with_reducible apply Keep.drew | ((with_reducible refine Keep.set ?_ ?_ ?_); rotate_left; (focus (first | assumption | omega | (simp; done) | (simp; omega))); (focus (first | assumption | omega | (simp; done) | (simp; omega)))))))) (fun hHeld => ?_)
          clear hKR KR
          (try simp only [Act.put, List.setIfInBounds_toArray, List.set_cons_zero, List.set_cons_succ])
          rotate_left
          · exact AllReadyH.nil
          refine wpAnyH_take (i := 4) (oi := { dst := some 48, op := Go.Op.move (Go.Operand.tmp 52), type := 39, pos := "law.go:140", after := #[{ on := 3, ground := Go.Ground.data }], guard := none }) (v := ?_) rfl (by kernel_rfl) (by kernel_rfl) (by kernel_rfl) (fun _ _ _ h => h) (Or.inl ⟨by rfl, ?_⟩) hHeld ?_
          rotate_left
          · intro W_ hSw
            obtain ⟨hS1, hS2, hS3⟩ := hSw
            go_simp
            try with_reducible rfl
          (try simp only [Act.put, List.setIfInBounds_toArray, List.set_cons_zero, List.set_cons_succ])
          refine wpAnyH_take (i := 5) (oi := { dst := some 53, op := Go.Op.extract (Go.Operand.tmp 48) 0, type := 37, pos := "law.go:140", after := #[{ on := 4, ground := Go.Ground.data }], guard := none }) (v := ?_) rfl (by kernel_rfl) (by kernel_rfl) (by kernel_rfl) (fun _ _ _ h => h) (Or.inl ⟨by rfl, ?_⟩) hHeld ?_
          rotate_left
          · intro W_ hSw
            obtain ⟨hS1, hS2, hS3⟩ := hSw
            go_simp
            try with_reducible rfl
          (try simp only [Act.put, List.setIfInBounds_toArray, List.set_cons_zero, List.set_cons_succ])
          refine wpAnyH_take (i := 6) (oi := { dst := some 54, op := Go.Op.extract (Go.Operand.tmp 48) 1, type := 30, pos := "law.go:140", after := #[{ on := 4, ground := Go.Ground.data }, { on := 8, ground := Go.Ground.gcOnly Go.Departure.lateStores }], guard := none }) (v := ?_) rfl (by kernel_rfl) (by kernel_rfl) (by kernel_rfl) (fun _ _ _ h => h) (Or.inl ⟨by rfl, ?_⟩) hHeld ?_
          rotate_left
          · intro W_ hSw
            obtain ⟨hS1, hS2, hS3⟩ := hSw
            go_simp
            try with_reducible rfl
          (try simp only [Act.put, List.setIfInBounds_toArray, List.set_cons_zero, List.set_cons_succ])
          refine wpAnyH_ready (rs := [8]) (by kernel_rfl) (by simp) ?_
          refine AllReadyH.cons (o := { dst := none, op := Go.Op.store 37 (Go.Operand.tmp 15) (Go.Operand.tmp 53), type := 0, pos := "law.go:140", after := #[{ on := 7, ground := Go.Ground.data }, { on := 5, ground := Go.Ground.data }, { on := 3, ground := Go.Ground.chain }, { on := 0, ground := Go.Ground.phase }, { on := 1, ground := Go.Ground.phase }, { on := 2, ground := Go.Ground.phase }, { on := 3, ground := Go.Ground.phase }, { on := 4, ground := Go.Ground.phase }, { on := 5, ground := Go.Ground.phase }, { on := 6, ground := Go.Ground.textOnly Go.Departure.lateStores }, { on := 7, ground := Go.Ground.phase }], guard := none }) rfl (fun KR hKR => ?_) ?_
          have hS := hHeld
          clear hHeld
          obtain ⟨hS1, hS2, hS3⟩ := hS
          go_simp
          refine hKR.out _ _ (by exact (show Keep w ws ws 0 _ by (repeat (first | with_reducible assumption | with_reducible apply Keep.alloc | with_reducible apply Keep.drew | ((with_reducible refine Keep.set ?_ ?_ ?_); rotate_left; (focus (first | assumption | omega | (simp; done) | (simp; omega))); (focus (first | assumption | omega | (simp; done) | (simp; omega)))))))) (fun hHeld => ?_)
          clear hKR KR
          (try simp only [Act.put, List.setIfInBounds_toArray, List.set_cons_zero, List.set_cons_succ])
          rotate_left
          · exact AllReadyH.nil
          refine wpAnyH_take (i := 9) (oi := { dst := some 16, op := Go.Op.assign (Go.Operand.tmp 54), type := 30, pos := "law.go:140", after := #[{ on := 6, ground := Go.Ground.data }, { on := 8, ground := Go.Ground.chain }, { on := 0, ground := Go.Ground.phase }, { on := 1, ground := Go.Ground.phase }, { on := 2, ground := Go.Ground.phase }, { on := 3, ground := Go.Ground.phase }, { on := 4, ground := Go.Ground.phase }, { on := 5, ground := Go.Ground.phase }, { on := 6, ground := Go.Ground.phase }, { on := 7, ground := Go.Ground.phase }, { on := 8, ground := Go.Ground.phase }], guard := none }) (v := ?_) rfl (by kernel_rfl) (by kernel_rfl) (by kernel_rfl) (fun _ _ _ h => h) (Or.inl ⟨by rfl, ?_⟩) hHeld ?_
          rotate_left
          · intro W_ hSw
            obtain ⟨hS1, hS2, hS3⟩ := hSw
            go_simp
            try with_reducible rfl
          (try simp only [Act.put, List.setIfInBounds_toArray, List.set_cons_zero, List.set_cons_succ])
          refine wpAnyH_done (by kernel_rfl) ?_ _
          refine NoPanic.normal ?_
          obtain ⟨hS1, hS2, hS3⟩ := hHeld
          go_wp2_with fail
          go_meet
          exact ⟨_, rfl, rfl, (by first | with_reducible assumption | (simp; done) | (simp; omega)), by simpa using hS2, by go_simp, Keep.comp hK7 ⟨hS1, hS2, hS3⟩⟩
        exact AllReadyH.nil
      case rest =>
        obtain ⟨gB, rfl, rfl, hlB, hs8, ⟨qb0, qb1, qb2, qb3, qb4, qb5, pa0, pa1, pa2, pa3, pa4, pa5⟩, hK8⟩ := hcut
        obtain ⟨W8, rfl⟩ : ∃ W8, W8 = wc := ⟨_, rfl⟩
        have lgA : gA < W8.heap.size := by omega
        obtain ⟨r4, r5, r6⟩ := id hK8
        have zW80 : w.heap.size < W8.heap.size := by omega
        have zW81 : w.heap.size + 1 < W8.heap.size := by omega
        have zW82 : w.heap.size + 1 + 1 < W8.heap.size := by omega
        have zW83 : w.heap.size + 1 + 1 + 1 < W8.heap.size := by omega
        have zW84 : w.heap.size + 1 + 1 + 1 + 1 < W8.heap.size := by omega
        have zW85 : w.heap.size + 1 + 1 + 1 + 1 + 1 < W8.heap.size := by omega
        clear r1 qa0 qa1 qa2 qa3 qa4 qa5
        go_upto_region 9 with fail
        go_cut [77] (fun s77 wx => s77 = .bool false ∧ Keep w w ((((((w.alloc (.cells #[.int .i64 a, .int .i64 b, .int .i64 c, .int .i64 d, .int .i64 e, .int .i64 f] 36)).alloc (.cells #[.int .i64 x, .int .i64 y, .int .i64 u, .int .i64 v] 23)).alloc (.cells #[.int .i64 65536, .int .i64 0, .int .i64 0, .int .i64 65536, .int .i64 0, .int .i64 0] 37)).alloc (.cells #[.int .i64 x, .int .i64 y, .int .i64 u, .int .i64 v] 23)).alloc (.cells #[.int .i64 x, .int .i64 y, .int .i64 u, .int .i64 v] 24)).alloc (.cells #[.int .i64 x, .int .i64 y, .int .i64 u, .int .i64 v] 24)) 6 wx)
        case first =>
          cases q : fineB a b c d e f with
          | false =>
            obtain ⟨ws, rfl⟩ : ∃ ws, ws = W8 := ⟨_, rfl⟩
            have hK : Keep w ws ws 0 ws := Keep.start (by (repeat (first | with_reducible exact Below.refl _ _ | with_reducible apply below_alloc | with_reducible apply below_drew1 | with_reducible assumption | (with_reducible refine Keep.below (by assumption)) | (with_reducible refine bel ?_ (by assumption)) | ((with_reducible refine below_set ?_ ?_); rotate_left; (focus (first | assumption | omega | (simp; done) | (simp; omega))))))) (by first | assumption | omega | (simp; done) | (simp; omega))
            refine wp_region_noPanic ?_
            refine wp_region_held_drew (S := fun W_ => (∀ b_ o_, b_ < ws.heap.size + 0 → W_.cell? ⟨b_, o_, none⟩ = ws.cell? ⟨b_, o_, none⟩) ∧ ws.heap.size + 0 ≤ W_.heap.size ∧ Below w.heap.size w W_) (by kernel_rfl) (show Keep w ws ws 0 _ by (repeat (first | with_reducible assumption | with_reducible apply Keep.alloc | with_reducible apply Keep.drew | ((with_reducible refine Keep.set ?_ ?_ ?_); rotate_left; (focus (first | assumption | omega | (simp; done) | (simp; omega))); (focus (first | assumption | omega | (simp; done) | (simp; omega))))))) (fun hHeld => ?_)
            refine wpAnyH_take (i := 0) (oi := { dst := some 55, op := Go.Op.load 36 (Go.Operand.tmp 4), type := 36, pos := "law.go:141", after := #[], guard := none }) (v := ?_) rfl (by kernel_rfl) (by kernel_rfl) (by kernel_rfl) (fun _ _ _ h => h) (Or.inl ⟨by rfl, ?_⟩) hHeld ?_
            rotate_left
            · intro W_ hSw
              obtain ⟨hS1, hS2, hS3⟩ := hSw
              go_simp
              try with_reducible rfl
            (try simp only [Act.put, List.setIfInBounds_toArray, List.set_cons_zero, List.set_cons_succ])
            refine wpAnyH_ready (rs := [1]) (by kernel_rfl) (by simp) ?_
            refine AllReadyH.cons (o := { dst := some 56, op := Go.Op.call { callee := Go.Callee.value (Go.Operand.func 17), args := #[Go.Operand.tmp 55], argTypes := #[36] }, type := 37, pos := "law.go:141", after := #[{ on := 0, ground := Go.Ground.data }], guard := none }) rfl (fun KR hKR => ?_) ?_
            have hS := hHeld
            clear hHeld
            obtain ⟨hS1, hS2, hS3⟩ := hS
            go_simp
            ((try rw [if_pos (show IntKind.i64.wrap 0 = 0 from rfl)]); go_at_call 17; refine (maps_any _ _ _ _ _ _ _).mono ?_; rintro e wk1 ⟨rfl, hb⟩; have hK := Keep.next (by (repeat (first | with_reducible assumption | with_reducible apply Keep.alloc | with_reducible apply Keep.drew | ((with_reducible refine Keep.set ?_ ?_ ?_); rotate_left; (focus (first | assumption | omega | (simp; done) | (simp; omega))); (focus (first | assumption | omega | (simp; done) | (simp; omega))))))) hb; (try replace hb := undrew hb); obtain ⟨hc, hf⟩ := ch hb; have hz := hb.size; clear hb; (try simp only [World.size_alloc, World.size_setCell, World.size_drew] at hz))
            refine hKR.out _ _ (by exact (show Keep w ws ws 0 _ by (repeat (first | with_reducible assumption | with_reducible apply Keep.alloc | with_reducible apply Keep.drew | ((with_reducible refine Keep.set ?_ ?_ ?_); rotate_left; (focus (first | assumption | omega | (simp; done) | (simp; omega))); (focus (first | assumption | omega | (simp; done) | (simp; omega)))))))) (fun hHeld => ?_)
            clear hKR KR
            (try simp only [Act.put, List.setIfInBounds_toArray, List.set_cons_zero, List.set_cons_succ])
            rotate_left
            · exact AllReadyH.nil
            refine wpAnyH_ready (rs := [2]) (by kernel_rfl) (by simp) ?_
            refine AllReadyH.cons (o := { dst := some 57, op := Go.Op.call { callee := Go.Callee.value (Go.Operand.func 18), args := #[Go.Operand.tmp 56], argTypes := #[37] }, type := 4, pos := "law.go:141", after := #[{ on := 1, ground := Go.Ground.data }, { on := 1, ground := Go.Ground.chain }], guard := none }) rfl (fun KR hKR => ?_) ?_
            have hS := hHeld
            clear hHeld
            obtain ⟨hS1, hS2, hS3⟩ := hS
            go_simp
            ((try rw [if_pos (show IntKind.i64.wrap 0 = 0 from rfl)]); go_at_call 18; refine (fine_is _ _ _ _ _ _ _ q).mono ?_; rintro e wk2 ⟨rfl, hb⟩; have hK := Keep.next (by (repeat (first | with_reducible assumption | with_reducible apply Keep.alloc | with_reducible apply Keep.drew | ((with_reducible refine Keep.set ?_ ?_ ?_); rotate_left; (focus (first | assumption | omega | (simp; done) | (simp; omega))); (focus (first | assumption | omega | (simp; done) | (simp; omega))))))) hb; (try replace hb := undrew hb); obtain ⟨hc, hf⟩ := ch hb; have hz := hb.size; clear hb; (try simp only [World.size_alloc, World.size_setCell, World.size_drew] at hz))
            refine hKR.out _ _ (by exact (show Keep w ws ws 0 _ by (repeat (first | with_reducible assumption | with_reducible apply Keep.alloc | with_reducible apply Keep.drew | ((with_reducible refine Keep.set ?_ ?_ ?_); rotate_left; (focus (first | assumption | omega | (simp; done) | (simp; omega))); (focus (first | assumption | omega | (simp; done) | (simp; omega)))))))) (fun hHeld => ?_)
            clear hKR KR
            (try simp only [Act.put, List.setIfInBounds_toArray, List.set_cons_zero, List.set_cons_succ])
            rotate_left
            · exact AllReadyH.nil
            refine wpAnyH_take (i := 3) (oi := { dst := some 58, op := Go.Op.move (Go.Operand.tmp 57), type := 4, pos := "law.go:141", after := #[{ on := 2, ground := Go.Ground.data }, { on := 2, ground := Go.Ground.chain }], guard := none }) (v := ?_) rfl (by kernel_rfl) (by kernel_rfl) (by kernel_rfl) (fun _ _ _ h => h) (Or.inl ⟨by rfl, ?_⟩) hHeld ?_
            rotate_left
            · intro W_ hSw
              obtain ⟨hS1, hS2, hS3⟩ := hSw
              go_simp
              try with_reducible rfl
            (try simp only [Act.put, List.setIfInBounds_toArray, List.set_cons_zero, List.set_cons_succ])
            refine wpAnyH_take (i := 4) (oi := { dst := some 59, op := Go.Op.move (Go.Operand.tmp 14), type := 30, pos := "law.go:141", after := #[{ on := 3, ground := Go.Ground.guard }], guard := some (3, true) }) (v := undef) rfl (by kernel_rfl) (by kernel_rfl) (by kernel_rfl) (fun _ _ _ h => h) (Or.inr ⟨by rfl, rfl⟩) hHeld ?_
            (try simp only [Act.put, List.setIfInBounds_toArray, List.set_cons_zero, List.set_cons_succ])
            refine wpAnyH_take (i := 5) (oi := { dst := some 60, op := Go.Op.call { callee := Go.Callee.value (Go.Operand.func 14), args := #[Go.Operand.tmp 59], argTypes := #[30] }, type := 3, pos := "law.go:141", after := #[{ on := 4, ground := Go.Ground.data }, { on := 3, ground := Go.Ground.chain }, { on := 3, ground := Go.Ground.guard }], guard := some (3, true) }) (v := undef) rfl (by kernel_rfl) (by kernel_rfl) (by kernel_rfl) (fun _ _ _ h => h) (Or.inr ⟨by rfl, rfl⟩) hHeld ?_
            (try simp only [Act.put, List.setIfInBounds_toArray, List.set_cons_zero, List.set_cons_succ])
            refine wpAnyH_take (i := 6) (oi := { dst := some 61, op := Go.Op.move (Go.Operand.tmp 16), type := 30, pos := "law.go:141", after := #[{ on := 3, ground := Go.Ground.guard }], guard := some (3, true) }) (v := undef) rfl (by kernel_rfl) (by kernel_rfl) (by kernel_rfl) (fun _ _ _ h => h) (Or.inr ⟨by rfl, rfl⟩) hHeld ?_
            (try simp only [Act.put, List.setIfInBounds_toArray, List.set_cons_zero, List.set_cons_succ])
            refine wpAnyH_take (i := 7) (oi := { dst := some 62, op := Go.Op.call { callee := Go.Callee.value (Go.Operand.func 14), args := #[Go.Operand.tmp 61], argTypes := #[30] }, type := 3, pos := "law.go:141", after := #[{ on := 6, ground := Go.Ground.data }, { on := 5, ground := Go.Ground.chain }, { on := 3, ground := Go.Ground.guard }], guard := some (3, true) }) (v := undef) rfl (by kernel_rfl) (by kernel_rfl) (by kernel_rfl) (fun _ _ _ h => h) (Or.inr ⟨by rfl, rfl⟩) hHeld ?_
            (try simp only [Act.put, List.setIfInBounds_toArray, List.set_cons_zero, List.set_cons_succ])
            refine wpAnyH_take (i := 8) (oi := { dst := some 63, op := Go.Op.binOp Go.BinOp.add 3 (Go.Operand.tmp 60) (Go.Operand.tmp 62) 3, type := 3, pos := "law.go:141", after := #[{ on := 5, ground := Go.Ground.data }, { on := 7, ground := Go.Ground.data }, { on := 3, ground := Go.Ground.guard }], guard := some (3, true) }) (v := undef) rfl (by kernel_rfl) (by kernel_rfl) (by kernel_rfl) (fun _ _ _ h => h) (Or.inr ⟨by rfl, rfl⟩) hHeld ?_
            (try simp only [Act.put, List.setIfInBounds_toArray, List.set_cons_zero, List.set_cons_succ])
            refine wpAnyH_take (i := 9) (oi := { dst := some 64, op := Go.Op.binOp Go.BinOp.neq 3 (Go.Operand.tmp 63) (Go.Operand.const (Go.Value.int Go.IntKind.i64 0)) 3, type := 4, pos := "law.go:141", after := #[{ on := 8, ground := Go.Ground.data }, { on := 3, ground := Go.Ground.guard }], guard := some (3, true) }) (v := undef) rfl (by kernel_rfl) (by kernel_rfl) (by kernel_rfl) (fun _ _ _ h => h) (Or.inr ⟨by rfl, rfl⟩) hHeld ?_
            (try simp only [Act.put, List.setIfInBounds_toArray, List.set_cons_zero, List.set_cons_succ])
            refine wpAnyH_take (i := 10) (oi := { dst := some 65, op := Go.Op.move (Go.Operand.tmp 64), type := 4, pos := "law.go:141", after := #[{ on := 9, ground := Go.Ground.data }, { on := 7, ground := Go.Ground.chain }, { on := 3, ground := Go.Ground.guard }], guard := some (3, true) }) (v := undef) rfl (by kernel_rfl) (by kernel_rfl) (by kernel_rfl) (fun _ _ _ h => h) (Or.inr ⟨by rfl, rfl⟩) hHeld ?_
            (try simp only [Act.put, List.setIfInBounds_toArray, List.set_cons_zero, List.set_cons_succ])
            refine wpAnyH_take (i := 11) (oi := { dst := some 66, op := Go.Op.load 37 (Go.Operand.tmp 13), type := 37, pos := "law.go:141", after := #[{ on := 10, ground := Go.Ground.guard }], guard := some (10, false) }) (v := undef) rfl (by kernel_rfl) (by kernel_rfl) (by kernel_rfl) (fun _ _ _ h => h) (Or.inr ⟨by rfl, rfl⟩) hHeld ?_
            (try simp only [Act.put, List.setIfInBounds_toArray, List.set_cons_zero, List.set_cons_succ])
            refine wpAnyH_take (i := 12) (oi := { dst := some 67, op := Go.Op.load 36 (Go.Operand.tmp 4), type := 36, pos := "law.go:141", after := #[{ on := 10, ground := Go.Ground.guard }], guard := some (10, false) }) (v := undef) rfl (by kernel_rfl) (by kernel_rfl) (by kernel_rfl) (fun _ _ _ h => h) (Or.inr ⟨by rfl, rfl⟩) hHeld ?_
            (try simp only [Act.put, List.setIfInBounds_toArray, List.set_cons_zero, List.set_cons_succ])
            refine wpAnyH_take (i := 13) (oi := { dst := some 68, op := Go.Op.call { callee := Go.Callee.value (Go.Operand.func 17), args := #[Go.Operand.tmp 67], argTypes := #[36] }, type := 37, pos := "law.go:141", after := #[{ on := 12, ground := Go.Ground.data }, { on := 10, ground := Go.Ground.chain }, { on := 10, ground := Go.Ground.guard }], guard := some (10, false) }) (v := undef) rfl (by kernel_rfl) (by kernel_rfl) (by kernel_rfl) (fun _ _ _ h => h) (Or.inr ⟨by rfl, rfl⟩) hHeld ?_
            (try simp only [Act.put, List.setIfInBounds_toArray, List.set_cons_zero, List.set_cons_succ])
            refine wpAnyH_take (i := 14) (oi := { dst := some 69, op := Go.Op.binOp Go.BinOp.neq 37 (Go.Operand.tmp 66) (Go.Operand.tmp 68) 37, type := 4, pos := "law.go:141", after := #[{ on := 11, ground := Go.Ground.data }, { on := 13, ground := Go.Ground.data }, { on := 10, ground := Go.Ground.guard }], guard := some (10, false) }) (v := undef) rfl (by kernel_rfl) (by kernel_rfl) (by kernel_rfl) (fun _ _ _ h => h) (Or.inr ⟨by rfl, rfl⟩) hHeld ?_
            (try simp only [Act.put, List.setIfInBounds_toArray, List.set_cons_zero, List.set_cons_succ])
            refine wpAnyH_take (i := 15) (oi := { dst := some 70, op := Go.Op.pick (Go.Operand.tmp 65) (Go.Operand.const (Go.Value.bool true)) (Go.Operand.tmp 69), type := 4, pos := "law.go:141", after := #[{ on := 10, ground := Go.Ground.data }, { on := 14, ground := Go.Ground.data }, { on := 3, ground := Go.Ground.guard }], guard := some (3, true) }) (v := undef) rfl (by kernel_rfl) (by kernel_rfl) (by kernel_rfl) (fun _ _ _ h => h) (Or.inr ⟨by rfl, rfl⟩) hHeld ?_
            (try simp only [Act.put, List.setIfInBounds_toArray, List.set_cons_zero, List.set_cons_succ])
            refine wpAnyH_take (i := 16) (oi := { dst := some 71, op := Go.Op.move (Go.Operand.tmp 70), type := 4, pos := "law.go:141", after := #[{ on := 15, ground := Go.Ground.data }, { on := 13, ground := Go.Ground.chain }, { on := 3, ground := Go.Ground.guard }], guard := some (3, true) }) (v := undef) rfl (by kernel_rfl) (by kernel_rfl) (by kernel_rfl) (fun _ _ _ h => h) (Or.inr ⟨by rfl, rfl⟩) hHeld ?_
            (try simp only [Act.put, List.setIfInBounds_toArray, List.set_cons_zero, List.set_cons_succ])
            refine wpAnyH_take (i := 17) (oi := { dst := some 72, op := Go.Op.load 37 (Go.Operand.tmp 15), type := 37, pos := "law.go:141", after := #[{ on := 16, ground := Go.Ground.guard }], guard := some (16, false) }) (v := undef) rfl (by kernel_rfl) (by kernel_rfl) (by kernel_rfl) (fun _ _ _ h => h) (Or.inr ⟨by rfl, rfl⟩) hHeld ?_
            (try simp only [Act.put, List.setIfInBounds_toArray, List.set_cons_zero, List.set_cons_succ])
            refine wpAnyH_take (i := 18) (oi := { dst := some 73, op := Go.Op.load 36 (Go.Operand.tmp 4), type := 36, pos := "law.go:141", after := #[{ on := 16, ground := Go.Ground.guard }], guard := some (16, false) }) (v := undef) rfl (by kernel_rfl) (by kernel_rfl) (by kernel_rfl) (fun _ _ _ h => h) (Or.inr ⟨by rfl, rfl⟩) hHeld ?_
            (try simp only [Act.put, List.setIfInBounds_toArray, List.set_cons_zero, List.set_cons_succ])
            refine wpAnyH_take (i := 19) (oi := { dst := some 74, op := Go.Op.call { callee := Go.Callee.value (Go.Operand.func 17), args := #[Go.Operand.tmp 73], argTypes := #[36] }, type := 37, pos := "law.go:141", after := #[{ on := 18, ground := Go.Ground.data }, { on := 16, ground := Go.Ground.chain }, { on := 16, ground := Go.Ground.guard }], guard := some (16, false) }) (v := undef) rfl (by kernel_rfl) (by kernel_rfl) (by kernel_rfl) (fun _ _ _ h => h) (Or.inr ⟨by rfl, rfl⟩) hHeld ?_
            (try simp only [Act.put, List.setIfInBounds_toArray, List.set_cons_zero, List.set_cons_succ])
            refine wpAnyH_take (i := 20) (oi := { dst := some 75, op := Go.Op.binOp Go.BinOp.neq 37 (Go.Operand.tmp 72) (Go.Operand.tmp 74) 37, type := 4, pos := "law.go:141", after := #[{ on := 17, ground := Go.Ground.data }, { on := 19, ground := Go.Ground.data }, { on := 16, ground := Go.Ground.guard }], guard := some (16, false) }) (v := undef) rfl (by kernel_rfl) (by kernel_rfl) (by kernel_rfl) (fun _ _ _ h => h) (Or.inr ⟨by rfl, rfl⟩) hHeld ?_
            (try simp only [Act.put, List.setIfInBounds_toArray, List.set_cons_zero, List.set_cons_succ])
            refine wpAnyH_take (i := 21) (oi := { dst := some 76, op := Go.Op.pick (Go.Operand.tmp 71) (Go.Operand.const (Go.Value.bool true)) (Go.Operand.tmp 75), type := 4, pos := "law.go:141", after := #[{ on := 16, ground := Go.Ground.data }, { on := 20, ground := Go.Ground.data }, { on := 3, ground := Go.Ground.guard }], guard := some (3, true) }) (v := undef) rfl (by kernel_rfl) (by kernel_rfl) (by kernel_rfl) (fun _ _ _ h => h) (Or.inr ⟨by rfl, rfl⟩) hHeld ?_
            (try simp only [Act.put, List.setIfInBounds_toArray, List.set_cons_zero, List.set_cons_succ])
            refine wpAnyH_take (i := 22) (oi := { dst := some 77, op := Go.Op.pick (Go.Operand.tmp 58) (Go.Operand.tmp 76) (Go.Operand.const (Go.Value.bool false)), type := 4, pos := "law.go:141", after := #[{ on := 3, ground := Go.Ground.data }, { on := 21, ground := Go.Ground.data }], guard := none }) (v := ?_) rfl (by kernel_rfl) (by kernel_rfl) (by kernel_rfl) (fun _ _ _ h => h) (Or.inl ⟨by rfl, ?_⟩) hHeld ?_
            rotate_left
            · intro W_ hSw
              obtain ⟨hS1, hS2, hS3⟩ := hSw
              go_simp
              try with_reducible rfl
            (try simp only [Act.put, List.setIfInBounds_toArray, List.set_cons_zero, List.set_cons_succ])
            refine wpAnyH_done (by kernel_rfl) ?_ _
            refine NoPanic.normal ?_
            go_wp2_with fail
            go_meet
            exact ⟨rfl, Keep.comp hK8 hHeld⟩
          | true =>
            obtain ⟨rfl, rfl, rfl, rfl, rfl, rfl, rfl, rfl, rfl, rfl, rfl, rfl, rfl, rfl⟩ := H4.out q
            obtain ⟨ws, rfl⟩ : ∃ ws, ws = W8 := ⟨_, rfl⟩
            have hK : Keep w ws ws 0 ws := Keep.start (by (repeat (first | with_reducible exact Below.refl _ _ | with_reducible apply below_alloc | with_reducible apply below_drew1 | with_reducible assumption | (with_reducible refine Keep.below (by assumption)) | (with_reducible refine bel ?_ (by assumption)) | ((with_reducible refine below_set ?_ ?_); rotate_left; (focus (first | assumption | omega | (simp; done) | (simp; omega))))))) (by first | assumption | omega | (simp; done) | (simp; omega))
            refine wp_region_noPanic ?_
            refine wp_region_held_drew (S := fun W_ => (∀ b_ o_, b_ < ws.heap.size + 0 → W_.cell? ⟨b_, o_, none⟩ = ws.cell? ⟨b_, o_, none⟩) ∧ ws.heap.size + 0 ≤ W_.heap.size ∧ Below w.heap.size w W_) (by kernel_rfl) (show Keep w ws ws 0 _ by (repeat (first | with_reducible assumption | with_reducible apply Keep.alloc | with_reducible apply Keep.drew | ((with_reducible refine Keep.set ?_ ?_ ?_); rotate_left; (focus (first | assumption | omega | (simp; done) | (simp; omega))); (focus (first | assumption | omega | (simp; done) | (simp; omega))))))) (fun hHeld => ?_)
            refine wpAnyH_take (i := 0) (oi := { dst := some 55, op := Go.Op.load 36 (Go.Operand.tmp 4), type := 36, pos := "law.go:141", after := #[], guard := none }) (v := ?_) rfl (by kernel_rfl) (by kernel_rfl) (by kernel_rfl) (fun _ _ _ h => h) (Or.inl ⟨by rfl, ?_⟩) hHeld ?_
            rotate_left
            · intro W_ hSw
              obtain ⟨hS1, hS2, hS3⟩ := hSw
              go_simp
              try with_reducible rfl
            (try simp only [Act.put, List.setIfInBounds_toArray, List.set_cons_zero, List.set_cons_succ])
            refine wpAnyH_ready (rs := [1]) (by kernel_rfl) (by simp) ?_
            refine AllReadyH.cons (o := { dst := some 56, op := Go.Op.call { callee := Go.Callee.value (Go.Operand.func 17), args := #[Go.Operand.tmp 55], argTypes := #[36] }, type := 37, pos := "law.go:141", after := #[{ on := 0, ground := Go.Ground.data }], guard := none }) rfl (fun KR hKR => ?_) ?_
            have hS := hHeld
            clear hHeld
            obtain ⟨hS1, hS2, hS3⟩ := hS
            go_simp
            ((try rw [if_pos (show IntKind.i64.wrap 0 = 0 from rfl)]); go_at_call 17; refine (maps_any _ _ _ _ _ _ _).mono ?_; rintro e wk1 ⟨rfl, hb⟩; have hK := Keep.next (by (repeat (first | with_reducible assumption | with_reducible apply Keep.alloc | with_reducible apply Keep.drew | ((with_reducible refine Keep.set ?_ ?_ ?_); rotate_left; (focus (first | assumption | omega | (simp; done) | (simp; omega))); (focus (first | assumption | omega | (simp; done) | (simp; omega))))))) hb; (try replace hb := undrew hb); obtain ⟨hc, hf⟩ := ch hb; have hz := hb.size; clear hb; (try simp only [World.size_alloc, World.size_setCell, World.size_drew] at hz))
            refine hKR.out _ _ (by exact (show Keep w ws ws 0 _ by (repeat (first | with_reducible assumption | with_reducible apply Keep.alloc | with_reducible apply Keep.drew | ((with_reducible refine Keep.set ?_ ?_ ?_); rotate_left; (focus (first | assumption | omega | (simp; done) | (simp; omega))); (focus (first | assumption | omega | (simp; done) | (simp; omega)))))))) (fun hHeld => ?_)
            clear hKR KR
            (try simp only [Act.put, List.setIfInBounds_toArray, List.set_cons_zero, List.set_cons_succ])
            rotate_left
            · exact AllReadyH.nil
            refine wpAnyH_ready (rs := [2]) (by kernel_rfl) (by simp) ?_
            refine AllReadyH.cons (o := { dst := some 57, op := Go.Op.call { callee := Go.Callee.value (Go.Operand.func 18), args := #[Go.Operand.tmp 56], argTypes := #[37] }, type := 4, pos := "law.go:141", after := #[{ on := 1, ground := Go.Ground.data }, { on := 1, ground := Go.Ground.chain }], guard := none }) rfl (fun KR hKR => ?_) ?_
            have hS := hHeld
            clear hHeld
            obtain ⟨hS1, hS2, hS3⟩ := hS
            go_simp
            ((try rw [if_pos (show IntKind.i64.wrap 0 = 0 from rfl)]); go_at_call 18; refine (fine_is _ _ _ _ _ _ _ q).mono ?_; rintro e wk2 ⟨rfl, hb⟩; have hK := Keep.next (by (repeat (first | with_reducible assumption | with_reducible apply Keep.alloc | with_reducible apply Keep.drew | ((with_reducible refine Keep.set ?_ ?_ ?_); rotate_left; (focus (first | assumption | omega | (simp; done) | (simp; omega))); (focus (first | assumption | omega | (simp; done) | (simp; omega))))))) hb; (try replace hb := undrew hb); obtain ⟨hc, hf⟩ := ch hb; have hz := hb.size; clear hb; (try simp only [World.size_alloc, World.size_setCell, World.size_drew] at hz))
            refine hKR.out _ _ (by exact (show Keep w ws ws 0 _ by (repeat (first | with_reducible assumption | with_reducible apply Keep.alloc | with_reducible apply Keep.drew | ((with_reducible refine Keep.set ?_ ?_ ?_); rotate_left; (focus (first | assumption | omega | (simp; done) | (simp; omega))); (focus (first | assumption | omega | (simp; done) | (simp; omega)))))))) (fun hHeld => ?_)
            clear hKR KR
            (try simp only [Act.put, List.setIfInBounds_toArray, List.set_cons_zero, List.set_cons_succ])
            rotate_left
            · exact AllReadyH.nil
            refine wpAnyH_take (i := 3) (oi := { dst := some 58, op := Go.Op.move (Go.Operand.tmp 57), type := 4, pos := "law.go:141", after := #[{ on := 2, ground := Go.Ground.data }, { on := 2, ground := Go.Ground.chain }], guard := none }) (v := ?_) rfl (by kernel_rfl) (by kernel_rfl) (by kernel_rfl) (fun _ _ _ h => h) (Or.inl ⟨by rfl, ?_⟩) hHeld ?_
            rotate_left
            · intro W_ hSw
              obtain ⟨hS1, hS2, hS3⟩ := hSw
              go_simp
              try with_reducible rfl
            (try simp only [Act.put, List.setIfInBounds_toArray, List.set_cons_zero, List.set_cons_succ])
            refine wpAnyH_take (i := 4) (oi := { dst := some 59, op := Go.Op.move (Go.Operand.tmp 14), type := 30, pos := "law.go:141", after := #[{ on := 3, ground := Go.Ground.guard }], guard := some (3, true) }) (v := ?_) rfl (by kernel_rfl) (by kernel_rfl) (by kernel_rfl) (fun _ _ _ h => h) (Or.inl ⟨by rfl, ?_⟩) hHeld ?_
            rotate_left
            · intro W_ hSw
              obtain ⟨hS1, hS2, hS3⟩ := hSw
              go_simp
              try with_reducible rfl
            (try simp only [Act.put, List.setIfInBounds_toArray, List.set_cons_zero, List.set_cons_succ])
            refine wpAnyH_take (i := 6) (oi := { dst := some 61, op := Go.Op.move (Go.Operand.tmp 16), type := 30, pos := "law.go:141", after := #[{ on := 3, ground := Go.Ground.guard }], guard := some (3, true) }) (v := ?_) rfl (by kernel_rfl) (by kernel_rfl) (by kernel_rfl) (fun _ _ _ h => h) (Or.inl ⟨by rfl, ?_⟩) hHeld ?_
            rotate_left
            · intro W_ hSw
              obtain ⟨hS1, hS2, hS3⟩ := hSw
              go_simp
              try with_reducible rfl
            (try simp only [Act.put, List.setIfInBounds_toArray, List.set_cons_zero, List.set_cons_succ])
            refine wpAnyH_ready (rs := [5]) (by kernel_rfl) (by simp) ?_
            refine AllReadyH.cons (o := { dst := some 60, op := Go.Op.call { callee := Go.Callee.value (Go.Operand.func 14), args := #[Go.Operand.tmp 59], argTypes := #[30] }, type := 3, pos := "law.go:141", after := #[{ on := 4, ground := Go.Ground.data }, { on := 3, ground := Go.Ground.chain }, { on := 3, ground := Go.Ground.guard }], guard := some (3, true) }) rfl (fun KR hKR => ?_) ?_
            have hS := hHeld
            clear hHeld
            obtain ⟨hS1, hS2, hS3⟩ := hS
            go_simp
            (go_at_call 14; refine (num_any _ _).mono ?_; rintro e w1 ⟨rfl, rfl⟩)
            refine hKR.out _ _ (by exact (show Keep w ws ws 0 _ by (repeat (first | with_reducible assumption | with_reducible apply Keep.alloc | with_reducible apply Keep.drew | ((with_reducible refine Keep.set ?_ ?_ ?_); rotate_left; (focus (first | assumption | omega | (simp; done) | (simp; omega))); (focus (first | assumption | omega | (simp; done) | (simp; omega)))))))) (fun hHeld => ?_)
            clear hKR KR
            (try simp only [Act.put, List.setIfInBounds_toArray, List.set_cons_zero, List.set_cons_succ])
            rotate_left
            · exact AllReadyH.nil
            refine wpAnyH_ready (rs := [7]) (by kernel_rfl) (by simp) ?_
            refine AllReadyH.cons (o := { dst := some 62, op := Go.Op.call { callee := Go.Callee.value (Go.Operand.func 14), args := #[Go.Operand.tmp 61], argTypes := #[30] }, type := 3, pos := "law.go:141", after := #[{ on := 6, ground := Go.Ground.data }, { on := 5, ground := Go.Ground.chain }, { on := 3, ground := Go.Ground.guard }], guard := some (3, true) }) rfl (fun KR hKR => ?_) ?_
            have hS := hHeld
            clear hHeld
            obtain ⟨hS1, hS2, hS3⟩ := hS
            go_simp
            (go_at_call 14; refine (num_any _ _).mono ?_; rintro e w1 ⟨rfl, rfl⟩)
            refine hKR.out _ _ (by exact (show Keep w ws ws 0 _ by (repeat (first | with_reducible assumption | with_reducible apply Keep.alloc | with_reducible apply Keep.drew | ((with_reducible refine Keep.set ?_ ?_ ?_); rotate_left; (focus (first | assumption | omega | (simp; done) | (simp; omega))); (focus (first | assumption | omega | (simp; done) | (simp; omega)))))))) (fun hHeld => ?_)
            clear hKR KR
            (try simp only [Act.put, List.setIfInBounds_toArray, List.set_cons_zero, List.set_cons_succ])
            rotate_left
            · exact AllReadyH.nil
            refine wpAnyH_take (i := 8) (oi := { dst := some 63, op := Go.Op.binOp Go.BinOp.add 3 (Go.Operand.tmp 60) (Go.Operand.tmp 62) 3, type := 3, pos := "law.go:141", after := #[{ on := 5, ground := Go.Ground.data }, { on := 7, ground := Go.Ground.data }, { on := 3, ground := Go.Ground.guard }], guard := some (3, true) }) (v := ?_) rfl (by kernel_rfl) (by kernel_rfl) (by kernel_rfl) (fun _ _ _ h => h) (Or.inl ⟨by rfl, ?_⟩) hHeld ?_
            rotate_left
            · intro W_ hSw
              obtain ⟨hS1, hS2, hS3⟩ := hSw
              go_simp
              try with_reducible rfl
            (try simp only [Act.put, List.setIfInBounds_toArray, List.set_cons_zero, List.set_cons_succ])
            refine wpAnyH_take (i := 9) (oi := { dst := some 64, op := Go.Op.binOp Go.BinOp.neq 3 (Go.Operand.tmp 63) (Go.Operand.const (Go.Value.int Go.IntKind.i64 0)) 3, type := 4, pos := "law.go:141", after := #[{ on := 8, ground := Go.Ground.data }, { on := 3, ground := Go.Ground.guard }], guard := some (3, true) }) (v := ?_) rfl (by kernel_rfl) (by kernel_rfl) (by kernel_rfl) (fun _ _ _ h => h) (Or.inl ⟨by rfl, ?_⟩) hHeld ?_
            rotate_left
            · intro W_ hSw
              obtain ⟨hS1, hS2, hS3⟩ := hSw
              go_simp
              try with_reducible rfl
            (try simp only [Act.put, List.setIfInBounds_toArray, List.set_cons_zero, List.set_cons_succ])
            refine wpAnyH_take (i := 10) (oi := { dst := some 65, op := Go.Op.move (Go.Operand.tmp 64), type := 4, pos := "law.go:141", after := #[{ on := 9, ground := Go.Ground.data }, { on := 7, ground := Go.Ground.chain }, { on := 3, ground := Go.Ground.guard }], guard := some (3, true) }) (v := ?_) rfl (by kernel_rfl) (by kernel_rfl) (by kernel_rfl) (fun _ _ _ h => h) (Or.inl ⟨by rfl, ?_⟩) hHeld ?_
            rotate_left
            · intro W_ hSw
              obtain ⟨hS1, hS2, hS3⟩ := hSw
              go_simp
              try with_reducible rfl
            (try simp only [Act.put, List.setIfInBounds_toArray, List.set_cons_zero, List.set_cons_succ])
            refine wpAnyH_take (i := 11) (oi := { dst := some 66, op := Go.Op.load 37 (Go.Operand.tmp 13), type := 37, pos := "law.go:141", after := #[{ on := 10, ground := Go.Ground.guard }], guard := some (10, false) }) (v := ?_) rfl (by kernel_rfl) (by kernel_rfl) (by kernel_rfl) (fun _ _ _ h => h) (Or.inl ⟨by rfl, ?_⟩) hHeld ?_
            rotate_left
            · intro W_ hSw
              obtain ⟨hS1, hS2, hS3⟩ := hSw
              go_simp
              try with_reducible rfl
            (try simp only [Act.put, List.setIfInBounds_toArray, List.set_cons_zero, List.set_cons_succ])
            refine wpAnyH_take (i := 12) (oi := { dst := some 67, op := Go.Op.load 36 (Go.Operand.tmp 4), type := 36, pos := "law.go:141", after := #[{ on := 10, ground := Go.Ground.guard }], guard := some (10, false) }) (v := ?_) rfl (by kernel_rfl) (by kernel_rfl) (by kernel_rfl) (fun _ _ _ h => h) (Or.inl ⟨by rfl, ?_⟩) hHeld ?_
            rotate_left
            · intro W_ hSw
              obtain ⟨hS1, hS2, hS3⟩ := hSw
              go_simp
              try with_reducible rfl
            (try simp only [Act.put, List.setIfInBounds_toArray, List.set_cons_zero, List.set_cons_succ])
            refine wpAnyH_ready (rs := [13]) (by kernel_rfl) (by simp) ?_
            refine AllReadyH.cons (o := { dst := some 68, op := Go.Op.call { callee := Go.Callee.value (Go.Operand.func 17), args := #[Go.Operand.tmp 67], argTypes := #[36] }, type := 37, pos := "law.go:141", after := #[{ on := 12, ground := Go.Ground.data }, { on := 10, ground := Go.Ground.chain }, { on := 10, ground := Go.Ground.guard }], guard := some (10, false) }) rfl (fun KR hKR => ?_) ?_
            have hS := hHeld
            clear hHeld
            obtain ⟨hS1, hS2, hS3⟩ := hS
            go_simp
            ((try rw [if_pos (show IntKind.i64.wrap 0 = 0 from rfl)]); go_at_call 17; refine (maps_any _ _ _ _ _ _ _).mono ?_; rintro e wk3 ⟨rfl, hb⟩; have hK := Keep.next (by (repeat (first | with_reducible assumption | with_reducible apply Keep.alloc | with_reducible apply Keep.drew | ((with_reducible refine Keep.set ?_ ?_ ?_); rotate_left; (focus (first | assumption | omega | (simp; done) | (simp; omega))); (focus (first | assumption | omega | (simp; done) | (simp; omega))))))) hb; (try replace hb := undrew hb); obtain ⟨hc, hf⟩ := ch hb; have hz := hb.size; clear hb; (try simp only [World.size_alloc, World.size_setCell, World.size_drew] at hz))
            refine hKR.out _ _ (by exact (show Keep w ws ws 0 _ by (repeat (first | with_reducible assumption | with_reducible apply Keep.alloc | with_reducible apply Keep.drew | ((with_reducible refine Keep.set ?_ ?_ ?_); rotate_left; (focus (first | assumption | omega | (simp; done) | (simp; omega))); (focus (first | assumption | omega | (simp; done) | (simp; omega)))))))) (fun hHeld => ?_)
            clear hKR KR
            (try simp only [Act.put, List.setIfInBounds_toArray, List.set_cons_zero, List.set_cons_succ])
            rotate_left
            · exact AllReadyH.nil
            refine wpAnyH_take (i := 14) (oi := { dst := some 69, op := Go.Op.binOp Go.BinOp.neq 37 (Go.Operand.tmp 66) (Go.Operand.tmp 68) 37, type := 4, pos := "law.go:141", after := #[{ on := 11, ground := Go.Ground.data }, { on := 13, ground := Go.Ground.data }, { on := 10, ground := Go.Ground.guard }], guard := some (10, false) }) (v := ?_) rfl (by kernel_rfl) (by kernel_rfl) (by kernel_rfl) (fun _ _ _ h => h) (Or.inl ⟨by rfl, ?_⟩) hHeld ?_
            rotate_left
            · intro W_ hSw
              obtain ⟨hS1, hS2, hS3⟩ := hSw
              go_simp
              try with_reducible rfl
            (try simp only [Act.put, List.setIfInBounds_toArray, List.set_cons_zero, List.set_cons_succ])
            refine wpAnyH_take (i := 15) (oi := { dst := some 70, op := Go.Op.pick (Go.Operand.tmp 65) (Go.Operand.const (Go.Value.bool true)) (Go.Operand.tmp 69), type := 4, pos := "law.go:141", after := #[{ on := 10, ground := Go.Ground.data }, { on := 14, ground := Go.Ground.data }, { on := 3, ground := Go.Ground.guard }], guard := some (3, true) }) (v := ?_) rfl (by kernel_rfl) (by kernel_rfl) (by kernel_rfl) (fun _ _ _ h => h) (Or.inl ⟨by rfl, ?_⟩) hHeld ?_
            rotate_left
            · intro W_ hSw
              obtain ⟨hS1, hS2, hS3⟩ := hSw
              go_simp
              try with_reducible rfl
            (try simp only [Act.put, List.setIfInBounds_toArray, List.set_cons_zero, List.set_cons_succ])
            refine wpAnyH_take (i := 16) (oi := { dst := some 71, op := Go.Op.move (Go.Operand.tmp 70), type := 4, pos := "law.go:141", after := #[{ on := 15, ground := Go.Ground.data }, { on := 13, ground := Go.Ground.chain }, { on := 3, ground := Go.Ground.guard }], guard := some (3, true) }) (v := ?_) rfl (by kernel_rfl) (by kernel_rfl) (by kernel_rfl) (fun _ _ _ h => h) (Or.inl ⟨by rfl, ?_⟩) hHeld ?_
            rotate_left
            · intro W_ hSw
              obtain ⟨hS1, hS2, hS3⟩ := hSw
              go_simp
              try with_reducible rfl
            (try simp only [Act.put, List.setIfInBounds_toArray, List.set_cons_zero, List.set_cons_succ])
            refine wpAnyH_take (i := 17) (oi := { dst := some 72, op := Go.Op.load 37 (Go.Operand.tmp 15), type := 37, pos := "law.go:141", after := #[{ on := 16, ground := Go.Ground.guard }], guard := some (16, false) }) (v := ?_) rfl (by kernel_rfl) (by kernel_rfl) (by kernel_rfl) (fun _ _ _ h => h) (Or.inl ⟨by rfl, ?_⟩) hHeld ?_
            rotate_left
            · intro W_ hSw
              obtain ⟨hS1, hS2, hS3⟩ := hSw
              go_simp
              try with_reducible rfl
            (try simp only [Act.put, List.setIfInBounds_toArray, List.set_cons_zero, List.set_cons_succ])
            refine wpAnyH_take (i := 18) (oi := { dst := some 73, op := Go.Op.load 36 (Go.Operand.tmp 4), type := 36, pos := "law.go:141", after := #[{ on := 16, ground := Go.Ground.guard }], guard := some (16, false) }) (v := ?_) rfl (by kernel_rfl) (by kernel_rfl) (by kernel_rfl) (fun _ _ _ h => h) (Or.inl ⟨by rfl, ?_⟩) hHeld ?_
            rotate_left
            · intro W_ hSw
              obtain ⟨hS1, hS2, hS3⟩ := hSw
              go_simp
              try with_reducible rfl
            (try simp only [Act.put, List.setIfInBounds_toArray, List.set_cons_zero, List.set_cons_succ])
            refine wpAnyH_ready (rs := [19]) (by kernel_rfl) (by simp) ?_
            refine AllReadyH.cons (o := { dst := some 74, op := Go.Op.call { callee := Go.Callee.value (Go.Operand.func 17), args := #[Go.Operand.tmp 73], argTypes := #[36] }, type := 37, pos := "law.go:141", after := #[{ on := 18, ground := Go.Ground.data }, { on := 16, ground := Go.Ground.chain }, { on := 16, ground := Go.Ground.guard }], guard := some (16, false) }) rfl (fun KR hKR => ?_) ?_
            have hS := hHeld
            clear hHeld
            obtain ⟨hS1, hS2, hS3⟩ := hS
            go_simp
            ((try rw [if_pos (show IntKind.i64.wrap 0 = 0 from rfl)]); go_at_call 17; refine (maps_any _ _ _ _ _ _ _).mono ?_; rintro e wk4 ⟨rfl, hb⟩; have hK := Keep.next (by (repeat (first | with_reducible assumption | with_reducible apply Keep.alloc | with_reducible apply Keep.drew | ((with_reducible refine Keep.set ?_ ?_ ?_); rotate_left; (focus (first | assumption | omega | (simp; done) | (simp; omega))); (focus (first | assumption | omega | (simp; done) | (simp; omega))))))) hb; (try replace hb := undrew hb); obtain ⟨hc, hf⟩ := ch hb; have hz := hb.size; clear hb; (try simp only [World.size_alloc, World.size_setCell, World.size_drew] at hz))
            refine hKR.out _ _ (by exact (show Keep w ws ws 0 _ by (repeat (first | with_reducible assumption | with_reducible apply Keep.alloc | with_reducible apply Keep.drew | ((with_reducible refine Keep.set ?_ ?_ ?_); rotate_left; (focus (first | assumption | omega | (simp; done) | (simp; omega))); (focus (first | assumption | omega | (simp; done) | (simp; omega)))))))) (fun hHeld => ?_)
            clear hKR KR
            (try simp only [Act.put, List.setIfInBounds_toArray, List.set_cons_zero, List.set_cons_succ])
            rotate_left
            · exact AllReadyH.nil
            refine wpAnyH_take (i := 20) (oi := { dst := some 75, op := Go.Op.binOp Go.BinOp.neq 37 (Go.Operand.tmp 72) (Go.Operand.tmp 74) 37, type := 4, pos := "law.go:141", after := #[{ on := 17, ground := Go.Ground.data }, { on := 19, ground := Go.Ground.data }, { on := 16, ground := Go.Ground.guard }], guard := some (16, false) }) (v := ?_) rfl (by kernel_rfl) (by kernel_rfl) (by kernel_rfl) (fun _ _ _ h => h) (Or.inl ⟨by rfl, ?_⟩) hHeld ?_
            rotate_left
            · intro W_ hSw
              obtain ⟨hS1, hS2, hS3⟩ := hSw
              go_simp
              try with_reducible rfl
            (try simp only [Act.put, List.setIfInBounds_toArray, List.set_cons_zero, List.set_cons_succ])
            refine wpAnyH_take (i := 21) (oi := { dst := some 76, op := Go.Op.pick (Go.Operand.tmp 71) (Go.Operand.const (Go.Value.bool true)) (Go.Operand.tmp 75), type := 4, pos := "law.go:141", after := #[{ on := 16, ground := Go.Ground.data }, { on := 20, ground := Go.Ground.data }, { on := 3, ground := Go.Ground.guard }], guard := some (3, true) }) (v := ?_) rfl (by kernel_rfl) (by kernel_rfl) (by kernel_rfl) (fun _ _ _ h => h) (Or.inl ⟨by rfl, ?_⟩) hHeld ?_
            rotate_left
            · intro W_ hSw
              obtain ⟨hS1, hS2, hS3⟩ := hSw
              go_simp
              try with_reducible rfl
            (try simp only [Act.put, List.setIfInBounds_toArray, List.set_cons_zero, List.set_cons_succ])
            refine wpAnyH_take (i := 22) (oi := { dst := some 77, op := Go.Op.pick (Go.Operand.tmp 58) (Go.Operand.tmp 76) (Go.Operand.const (Go.Value.bool false)), type := 4, pos := "law.go:141", after := #[{ on := 3, ground := Go.Ground.data }, { on := 21, ground := Go.Ground.data }], guard := none }) (v := ?_) rfl (by kernel_rfl) (by kernel_rfl) (by kernel_rfl) (fun _ _ _ h => h) (Or.inl ⟨by rfl, ?_⟩) hHeld ?_
            rotate_left
            · intro W_ hSw
              obtain ⟨hS1, hS2, hS3⟩ := hSw
              go_simp
              try with_reducible rfl
            (try simp only [Act.put, List.setIfInBounds_toArray, List.set_cons_zero, List.set_cons_succ])
            refine wpAnyH_done (by kernel_rfl) ?_ _
            refine NoPanic.normal ?_
            go_wp2_with fail
            go_meet
            exact ⟨rfl, Keep.comp hK8 hHeld⟩
        case rest =>
          obtain ⟨rfl, hK9⟩ := hcut
          obtain ⟨W9, rfl⟩ : ∃ W9, W9 = wc := ⟨_, rfl⟩
          obtain ⟨t1, t2, t3⟩ := id hK9
          have zW90 : w.heap.size < W9.heap.size := by omega
          have zW91 : w.heap.size + 1 < W9.heap.size := by omega
          have zW92 : w.heap.size + 1 + 1 < W9.heap.size := by omega
          have zW93 : w.heap.size + 1 + 1 + 1 < W9.heap.size := by omega
          have zW94 : w.heap.size + 1 + 1 + 1 + 1 < W9.heap.size := by omega
          have zW95 : w.heap.size + 1 + 1 + 1 + 1 + 1 < W9.heap.size := by omega
          clear r4 qb0 qb1 qb2 qb3 qb4 qb5 pa0 pa1 pa2 pa3 pa4 pa5
          cases q1 : holdsF ⟨x, y, u, v⟩ s t with
          | false =>
            go_wp2_with (first | (go_at_call 19; refine (holds_is _ _ _ _ _ _ _ q1).mono ?_; rintro e w1 ⟨rfl, hb⟩; (try replace hb := undrew hb); obtain ⟨hc, hf⟩ := ch hb; have hz := hb.size; (try simp only [World.size_alloc, World.size_setCell, World.size_drew] at hz); have zw0 : w.heap.size < w1.heap.size := (by omega); have zw1 : w.heap.size + 1 < w1.heap.size := (by omega); have zw2 : w.heap.size + 1 + 1 < w1.heap.size := (by omega); have zw3 : w.heap.size + 1 + 1 + 1 < w1.heap.size := (by omega); have zw4 : w.heap.size + 1 + 1 + 1 + 1 < w1.heap.size := (by omega); have zw5 : w.heap.size + 1 + 1 + 1 + 1 + 1 < w1.heap.size := (by omega)) | (go_at_call 9; refine (knows_any _).mono ?_; rintro e w1 ⟨rfl, hb⟩; (try replace hb := undrew hb); obtain ⟨hc, hf⟩ := ch hb; have hz := hb.size; (try simp only [World.size_alloc, World.size_setCell, World.size_drew] at hz); have zw0 : w.heap.size < w1.heap.size := (by omega); have zw1 : w.heap.size + 1 < w1.heap.size := (by omega); have zw2 : w.heap.size + 1 + 1 < w1.heap.size := (by omega); have zw3 : w.heap.size + 1 + 1 + 1 < w1.heap.size := (by omega); have zw4 : w.heap.size + 1 + 1 + 1 + 1 < w1.heap.size := (by omega); have zw5 : w.heap.size + 1 + 1 + 1 + 1 + 1 < w1.heap.size := (by omega)))
            exact bodyPost_ret (v := .bool true) (by simp [results, Try.results4, go_sem, *]) rfl ⟨rfl, by (repeat (first | with_reducible exact Below.refl _ _ | with_reducible apply below_alloc | with_reducible apply below_drew1 | with_reducible assumption | (with_reducible refine Keep.below (by assumption)) | (with_reducible refine bel ?_ (by assumption)) | ((with_reducible refine below_set ?_ ?_); rotate_left; (focus (first | assumption | omega | (simp; done) | (simp; omega))))))⟩
          | true =>
            go_upto_region 14 with (first | (go_at_call 19; refine (holds_is _ _ _ _ _ _ _ q1).mono ?_; rintro e wd ⟨rfl, hb⟩; (try replace hb := undrew hb); have hB_wd := hb; obtain ⟨hc, hf⟩ := ch hb; have hz := hb.size; (try simp only [World.size_alloc, World.size_setCell, World.size_drew] at hz); have zw0 : w.heap.size < wd.heap.size := (by omega); have zw1 : w.heap.size + 1 < wd.heap.size := (by omega); have zw2 : w.heap.size + 1 + 1 < wd.heap.size := (by omega); have zw3 : w.heap.size + 1 + 1 + 1 < wd.heap.size := (by omega); have zw4 : w.heap.size + 1 + 1 + 1 + 1 < wd.heap.size := (by omega); have zw5 : w.heap.size + 1 + 1 + 1 + 1 + 1 < wd.heap.size := (by omega)) | (go_at_call 17; refine (maps_any _ _ _ _ _ _ _).mono ?_; rintro e we ⟨rfl, hb⟩; (try replace hb := undrew hb); have hB_we := hb; obtain ⟨hc, hf⟩ := ch hb; have hz := hb.size; (try simp only [World.size_alloc, World.size_setCell, World.size_drew] at hz); have zw0 : w.heap.size < we.heap.size := (by omega); have zw1 : w.heap.size + 1 < we.heap.size := (by omega); have zw2 : w.heap.size + 1 + 1 < we.heap.size := (by omega); have zw3 : w.heap.size + 1 + 1 + 1 < we.heap.size := (by omega); have zw4 : w.heap.size + 1 + 1 + 1 + 1 < we.heap.size := (by omega); have zw5 : w.heap.size + 1 + 1 + 1 + 1 + 1 < we.heap.size := (by omega)) | (go_at_call 20; refine (point_is _ _ _ _ _ _ _ _ _ H5.out).mono ?_; rintro e wp ⟨rfl, hb⟩; (try replace hb := undrew hb); have hB_wp := hb; obtain ⟨hc, hf⟩ := ch hb; have hz := hb.size; (try simp only [World.size_alloc, World.size_setCell, World.size_drew] at hz); have zw0 : w.heap.size < wp.heap.size := (by omega); have zw1 : w.heap.size + 1 < wp.heap.size := (by omega); have zw2 : w.heap.size + 1 + 1 < wp.heap.size := (by omega); have zw3 : w.heap.size + 1 + 1 + 1 < wp.heap.size := (by omega); have zw4 : w.heap.size + 1 + 1 + 1 + 1 < wp.heap.size := (by omega); have zw5 : w.heap.size + 1 + 1 + 1 + 1 + 1 < wp.heap.size := (by omega)))
            have hKp : Keep w w ((((((w.alloc (.cells #[.int .i64 a, .int .i64 b, .int .i64 c, .int .i64 d, .int .i64 e, .int .i64 f] 36)).alloc (.cells #[.int .i64 x, .int .i64 y, .int .i64 u, .int .i64 v] 23)).alloc (.cells #[.int .i64 65536, .int .i64 0, .int .i64 0, .int .i64 65536, .int .i64 0, .int .i64 0] 37)).alloc (.cells #[.int .i64 x, .int .i64 y, .int .i64 u, .int .i64 v] 23)).alloc (.cells #[.int .i64 x, .int .i64 y, .int .i64 u, .int .i64 v] 24)).alloc (.cells #[.int .i64 x, .int .i64 y, .int .i64 u, .int .i64 v] 24)) 6 wp := by (repeat (first | with_reducible assumption | (apply Keep.start <;> (first | ((repeat (first | with_reducible exact Below.refl _ _ | with_reducible apply below_alloc | with_reducible apply below_drew1 | with_reducible assumption | (with_reducible refine Keep.below (by assumption)) | (with_reducible refine bel ?_ (by assumption)) | ((with_reducible refine below_set ?_ ?_); rotate_left; (focus (first | assumption | omega | (simp; done) | (simp; omega)))))); done) | (first | assumption | omega | (simp; done) | (simp; omega)))) | with_reducible apply Keep.alloc | with_reducible apply Keep.drew | (with_reducible refine Keep.next ?_ (by assumption)) | ((with_reducible refine Keep.set ?_ ?_ ?_); rotate_left; (focus (first | assumption | omega | (simp; done) | (simp; omega))); (focus (first | assumption | omega | (simp; done) | (simp; omega))))))
            go_cut [20, 21] (fun s20 s21 wx => ∃ g : Nat, s20 = .pointer (some ⟨g, 0, none⟩) ∧ s21 = .int .i64 je ∧ g < wx.heap.size ∧ (wx.cell? ⟨g, 0, none⟩ = some (.int .i64 jx) ∧ wx.cell? ⟨g, 1, none⟩ = some (.int .i64 jy) ∧ wx.cell? ⟨g, 2, none⟩ = some (.int .i64 jw) ∧ wx.cell? ⟨g, 3, none⟩ = some (.int .i64 jh)) ∧ Below w.heap.size w wx)
            case first =>
              obtain ⟨ws, rfl⟩ : ∃ ws, ws = wp := ⟨_, rfl⟩
              have hK : Keep w ws ws 0 ws := Keep.start (by (repeat (first | with_reducible exact Below.refl _ _ | with_reducible apply below_alloc | with_reducible apply below_drew1 | with_reducible assumption | (with_reducible refine Keep.below (by assumption)) | (with_reducible refine bel ?_ (by assumption)) | ((with_reducible refine below_set ?_ ?_); rotate_left; (focus (first | assumption | omega | (simp; done) | (simp; omega))))))) (by first | assumption | omega | (simp; done) | (simp; omega))
              refine wp_region_noPanic ?_
              refine wp_region_held_drew (S := fun W_ => (∀ b_ o_, b_ < ws.heap.size + 0 → W_.cell? ⟨b_, o_, none⟩ = ws.cell? ⟨b_, o_, none⟩) ∧ ws.heap.size + 0 ≤ W_.heap.size ∧ Below w.heap.size w W_) (by kernel_rfl) (show Keep w ws ws 0 _ by (repeat (first | with_reducible assumption | with_reducible apply Keep.alloc | with_reducible apply Keep.drew | ((with_reducible refine Keep.set ?_ ?_ ?_); rotate_left; (focus (first | assumption | omega | (simp; done) | (simp; omega))); (focus (first | assumption | omega | (simp; done) | (simp; omega))))))) (fun hHeld => ?_)
              refine wpAnyH_take (i := 0) (oi := { dst := some 94, op := Go.Op.load 36 (Go.Operand.tmp 4), type := 36, pos := "law.go:148", after := #[], guard := none }) (v := ?_) rfl (by kernel_rfl) (by kernel_rfl) (by kernel_rfl) (fun _ _ _ h => h) (Or.inl ⟨by rfl, ?_⟩) hHeld ?_
              rotate_left
              · intro W_ hSw
                obtain ⟨hS1, hS2, hS3⟩ := hSw
                go_simp
                try with_reducible rfl
              (try simp only [Act.put, List.setIfInBounds_toArray, List.set_cons_zero, List.set_cons_succ])
              refine wpAnyH_take (i := 2) (oi := { dst := some 96, op := Go.Op.load 24 (Go.Operand.tmp 10), type := 24, pos := "law.go:148", after := #[], guard := none }) (v := ?_) rfl (by kernel_rfl) (by kernel_rfl) (by kernel_rfl) (fun _ _ _ h => h) (Or.inl ⟨by rfl, ?_⟩) hHeld ?_
              rotate_left
              · intro W_ hSw
                obtain ⟨hS1, hS2, hS3⟩ := hSw
                go_simp
                try with_reducible rfl
              (try simp only [Act.put, List.setIfInBounds_toArray, List.set_cons_zero, List.set_cons_succ])
              refine wpAnyH_ready (rs := [1, 7]) (by kernel_rfl) (by simp) ?_
              refine AllReadyH.cons (o := { dst := some 95, op := Go.Op.call { callee := Go.Callee.value (Go.Operand.func 17), args := #[Go.Operand.tmp 94], argTypes := #[36] }, type := 37, pos := "law.go:148", after := #[{ on := 0, ground := Go.Ground.data }], guard := none }) rfl (fun KR hKR => ?_) ?_
              · have hS := hHeld
                clear hHeld
                obtain ⟨hS1, hS2, hS3⟩ := hS
                go_simp
                ((try rw [if_pos (show IntKind.i64.wrap 0 = 0 from rfl)]); go_at_call 17; refine (maps_any _ _ _ _ _ _ _).mono ?_; rintro e wk1 ⟨rfl, hb⟩; have hK := Keep.next (by (repeat (first | with_reducible assumption | with_reducible apply Keep.alloc | with_reducible apply Keep.drew | ((with_reducible refine Keep.set ?_ ?_ ?_); rotate_left; (focus (first | assumption | omega | (simp; done) | (simp; omega))); (focus (first | assumption | omega | (simp; done) | (simp; omega))))))) hb; (try replace hb := undrew hb); obtain ⟨hc, hf⟩ := ch hb; have hz := hb.size; clear hb; (try simp only [World.size_alloc, World.size_setCell, World.size_drew] at hz))
                refine hKR.out _ _ (by exact (show Keep w ws ws 0 _ by (repeat (first | with_reducible assumption | with_reducible apply Keep.alloc | with_reducible apply Keep.drew | ((with_reducible refine Keep.set ?_ ?_ ?_); rotate_left; (focus (first | assumption | omega | (simp; done) | (simp; omega))); (focus (first | assumption | omega | (simp; done) | (simp; omega)))))))) (fun hHeld => ?_)
                clear hKR KR
                (try simp only [Act.put, List.setIfInBounds_toArray, List.set_cons_zero, List.set_cons_succ])
                refine wpAnyH_ready (rs := [3, 7]) (by kernel_rfl) (by simp) ?_
                refine AllReadyH.cons (o := { dst := some 97, op := Go.Op.call { callee := Go.Callee.value (Go.Operand.func 15), args := #[Go.Operand.tmp 95, Go.Operand.tmp 96], argTypes := #[37, 24] }, type := 31, pos := "law.go:148", after := #[{ on := 1, ground := Go.Ground.data }, { on := 2, ground := Go.Ground.data }, { on := 1, ground := Go.Ground.chain }], guard := none }) rfl (fun KR hKR => ?_) ?_
                · have hS := hHeld
                  clear hHeld
                  obtain ⟨hS1, hS2, hS3⟩ := hS
                  go_simp
                  ((try rw [if_pos (show IntKind.i64.wrap 0 = 0 from rfl)]); go_at_call 15; refine (box_is _ _ _ _ _ _ _ _ _ _ _ H6.out).mono ?_; rintro e wk2 ⟨rfl, hb⟩; have hK := Keep.next (by (repeat (first | with_reducible assumption | with_reducible apply Keep.alloc | with_reducible apply Keep.drew | ((with_reducible refine Keep.set ?_ ?_ ?_); rotate_left; (focus (first | assumption | omega | (simp; done) | (simp; omega))); (focus (first | assumption | omega | (simp; done) | (simp; omega))))))) hb; (try replace hb := undrew hb); obtain ⟨hc, hf⟩ := ch hb; have hz := hb.size; clear hb; (try simp only [World.size_alloc, World.size_setCell, World.size_drew] at hz))
                  refine hKR.out _ _ (by exact (show Keep w ws ws 0 _ by (repeat (first | with_reducible assumption | with_reducible apply Keep.alloc | with_reducible apply Keep.drew | ((with_reducible refine Keep.set ?_ ?_ ?_); rotate_left; (focus (first | assumption | omega | (simp; done) | (simp; omega))); (focus (first | assumption | omega | (simp; done) | (simp; omega)))))))) (fun hHeld => ?_)
                  clear hKR KR
                  (try simp only [Act.put, List.setIfInBounds_toArray, List.set_cons_zero, List.set_cons_succ])
                  refine wpAnyH_take (i := 4) (oi := { dst := some 93, op := Go.Op.move (Go.Operand.tmp 97), type := 31, pos := "law.go:148", after := #[{ on := 3, ground := Go.Ground.data }], guard := none }) (v := ?_) rfl (by kernel_rfl) (by kernel_rfl) (by kernel_rfl) (fun _ _ _ h => h) (Or.inl ⟨by rfl, ?_⟩) hHeld ?_
                  rotate_left
                  · intro W_ hSw
                    obtain ⟨hS1, hS2, hS3⟩ := hSw
                    go_simp
                    try with_reducible rfl
                  (try simp only [Act.put, List.setIfInBounds_toArray, List.set_cons_zero, List.set_cons_succ])
                  refine wpAnyH_take (i := 5) (oi := { dst := some 98, op := Go.Op.extract (Go.Operand.tmp 93) 0, type := 24, pos := "law.go:148", after := #[{ on := 4, ground := Go.Ground.data }], guard := none }) (v := ?_) rfl (by kernel_rfl) (by kernel_rfl) (by kernel_rfl) (fun _ _ _ h => h) (Or.inl ⟨by rfl, ?_⟩) hHeld ?_
                  rotate_left
                  · intro W_ hSw
                    obtain ⟨hS1, hS2, hS3⟩ := hSw
                    go_simp
                    try with_reducible rfl
                  (try simp only [Act.put, List.setIfInBounds_toArray, List.set_cons_zero, List.set_cons_succ])
                  refine wpAnyH_take (i := 6) (oi := { dst := some 99, op := Go.Op.extract (Go.Operand.tmp 93) 1, type := 30, pos := "law.go:148", after := #[{ on := 4, ground := Go.Ground.data }, { on := 8, ground := Go.Ground.gcOnly Go.Departure.lateStores }], guard := none }) (v := ?_) rfl (by kernel_rfl) (by kernel_rfl) (by kernel_rfl) (fun _ _ _ h => h) (Or.inl ⟨by rfl, ?_⟩) hHeld ?_
                  rotate_left
                  · intro W_ hSw
                    obtain ⟨hS1, hS2, hS3⟩ := hSw
                    go_simp
                    try with_reducible rfl
                  (try simp only [Act.put, List.setIfInBounds_toArray, List.set_cons_zero, List.set_cons_succ])
                  refine wpAnyH_ready (rs := [7]) (by kernel_rfl) (by simp) ?_
                  refine AllReadyH.cons (o := { dst := some 20, op := Go.Op.alloc 24, type := 0, pos := "law.go:148", after := #[], guard := none }) rfl (fun KR hKR => ?_) ?_
                  have hS := hHeld
                  clear hHeld
                  obtain ⟨hS1, hS2, hS3⟩ := hS
                  go_simp
                  refine hKR.out _ _ (by exact (show Keep w ws ws 0 _ by (repeat (first | with_reducible assumption | with_reducible apply Keep.alloc | with_reducible apply Keep.drew | ((with_reducible refine Keep.set ?_ ?_ ?_); rotate_left; (focus (first | assumption | omega | (simp; done) | (simp; omega))); (focus (first | assumption | omega | (simp; done) | (simp; omega)))))))) (fun hHeld => ?_)
                  clear hKR KR
                  (try simp only [Act.put, List.setIfInBounds_toArray, List.set_cons_zero, List.set_cons_succ])
                  rotate_left
                  · exact AllReadyH.nil
                  refine wpAnyH_ready (rs := [8]) (by kernel_rfl) (by simp) ?_
                  refine AllReadyH.cons (o := { dst := none, op := Go.Op.store 24 (Go.Operand.tmp 20) (Go.Operand.tmp 98), type := 0, pos := "law.go:148", after := #[{ on := 7, ground := Go.Ground.data }, { on := 5, ground := Go.Ground.data }, { on := 3, ground := Go.Ground.chain }, { on := 0, ground := Go.Ground.phase }, { on := 1, ground := Go.Ground.phase }, { on := 2, ground := Go.Ground.phase }, { on := 3, ground := Go.Ground.phase }, { on := 4, ground := Go.Ground.phase }, { on := 5, ground := Go.Ground.phase }, { on := 6, ground := Go.Ground.textOnly Go.Departure.lateStores }, { on := 7, ground := Go.Ground.phase }], guard := none }) rfl (fun KR hKR => ?_) ?_
                  have hS := hHeld
                  clear hHeld
                  obtain ⟨hS1, hS2, hS3⟩ := hS
                  go_simp
                  refine hKR.out _ _ (by exact (show Keep w ws ws 0 _ by (repeat (first | with_reducible assumption | with_reducible apply Keep.alloc | with_reducible apply Keep.drew | ((with_reducible refine Keep.set ?_ ?_ ?_); rotate_left; (focus (first | assumption | omega | (simp; done) | (simp; omega))); (focus (first | assumption | omega | (simp; done) | (simp; omega)))))))) (fun hHeld => ?_)
                  clear hKR KR
                  (try simp only [Act.put, List.setIfInBounds_toArray, List.set_cons_zero, List.set_cons_succ])
                  rotate_left
                  · exact AllReadyH.nil
                  refine wpAnyH_take (i := 9) (oi := { dst := some 21, op := Go.Op.assign (Go.Operand.tmp 99), type := 30, pos := "law.go:148", after := #[{ on := 6, ground := Go.Ground.data }, { on := 8, ground := Go.Ground.chain }, { on := 0, ground := Go.Ground.phase }, { on := 1, ground := Go.Ground.phase }, { on := 2, ground := Go.Ground.phase }, { on := 3, ground := Go.Ground.phase }, { on := 4, ground := Go.Ground.phase }, { on := 5, ground := Go.Ground.phase }, { on := 6, ground := Go.Ground.phase }, { on := 7, ground := Go.Ground.phase }, { on := 8, ground := Go.Ground.phase }], guard := none }) (v := ?_) rfl (by kernel_rfl) (by kernel_rfl) (by kernel_rfl) (fun _ _ _ h => h) (Or.inl ⟨by rfl, ?_⟩) hHeld ?_
                  rotate_left
                  · intro W_ hSw
                    obtain ⟨hS1, hS2, hS3⟩ := hSw
                    go_simp
                    try with_reducible rfl
                  (try simp only [Act.put, List.setIfInBounds_toArray, List.set_cons_zero, List.set_cons_succ])
                  refine wpAnyH_done (by kernel_rfl) ?_ _
                  refine NoPanic.normal ?_
                  obtain ⟨hS1, hS2, hS3⟩ := hHeld
                  go_wp2_with fail
                  go_meet
                  exact ⟨_, rfl, rfl, (by first | with_reducible assumption | (simp; done) | (simp; omega)), by go_simp, hS3⟩
                refine AllReadyH.cons (o := { dst := some 20, op := Go.Op.alloc 24, type := 0, pos := "law.go:148", after := #[], guard := none }) rfl (fun KR hKR => ?_) ?_
                · have hS := hHeld
                  clear hHeld
                  obtain ⟨hS1, hS2, hS3⟩ := hS
                  go_simp
                  refine hKR.out _ _ (by exact (show Keep w ws ws 0 _ by (repeat (first | with_reducible assumption | with_reducible apply Keep.alloc | with_reducible apply Keep.drew | ((with_reducible refine Keep.set ?_ ?_ ?_); rotate_left; (focus (first | assumption | omega | (simp; done) | (simp; omega))); (focus (first | assumption | omega | (simp; done) | (simp; omega)))))))) (fun hHeld => ?_)
                  clear hKR KR
                  (try simp only [Act.put, List.setIfInBounds_toArray, List.set_cons_zero, List.set_cons_succ])
                  refine wpAnyH_ready (rs := [3]) (by kernel_rfl) (by simp) ?_
                  refine AllReadyH.cons (o := { dst := some 97, op := Go.Op.call { callee := Go.Callee.value (Go.Operand.func 15), args := #[Go.Operand.tmp 95, Go.Operand.tmp 96], argTypes := #[37, 24] }, type := 31, pos := "law.go:148", after := #[{ on := 1, ground := Go.Ground.data }, { on := 2, ground := Go.Ground.data }, { on := 1, ground := Go.Ground.chain }], guard := none }) rfl (fun KR hKR => ?_) ?_
                  have hS := hHeld
                  clear hHeld
                  obtain ⟨hS1, hS2, hS3⟩ := hS
                  go_simp
                  ((try rw [if_pos (show IntKind.i64.wrap 0 = 0 from rfl)]); go_at_call 15; refine (box_is _ _ _ _ _ _ _ _ _ _ _ H6.out).mono ?_; rintro e wk3 ⟨rfl, hb⟩; have hK := Keep.next (by (repeat (first | with_reducible assumption | with_reducible apply Keep.alloc | with_reducible apply Keep.drew | ((with_reducible refine Keep.set ?_ ?_ ?_); rotate_left; (focus (first | assumption | omega | (simp; done) | (simp; omega))); (focus (first | assumption | omega | (simp; done) | (simp; omega))))))) hb; (try replace hb := undrew hb); obtain ⟨hc, hf⟩ := ch hb; have hz := hb.size; clear hb; (try simp only [World.size_alloc, World.size_setCell, World.size_drew] at hz))
                  have zb0 : wk1.heap.size < wk3.heap.size := by omega
                  refine hKR.out _ _ (by exact (show Keep w ws ws 0 _ by (repeat (first | with_reducible assumption | with_reducible apply Keep.alloc | with_reducible apply Keep.drew | ((with_reducible refine Keep.set ?_ ?_ ?_); rotate_left; (focus (first | assumption | omega | (simp; done) | (simp; omega))); (focus (first | assumption | omega | (simp; done) | (simp; omega)))))))) (fun hHeld => ?_)
                  clear hKR KR
                  (try simp only [Act.put, List.setIfInBounds_toArray, List.set_cons_zero, List.set_cons_succ])
                  rotate_left
                  · exact AllReadyH.nil
                  refine wpAnyH_take (i := 4) (oi := { dst := some 93, op := Go.Op.move (Go.Operand.tmp 97), type := 31, pos := "law.go:148", after := #[{ on := 3, ground := Go.Ground.data }], guard := none }) (v := ?_) rfl (by kernel_rfl) (by kernel_rfl) (by kernel_rfl) (fun _ _ _ h => h) (Or.inl ⟨by rfl, ?_⟩) hHeld ?_
                  rotate_left
                  · intro W_ hSw
                    obtain ⟨hS1, hS2, hS3⟩ := hSw
                    go_simp
                    try with_reducible rfl
                  (try simp only [Act.put, List.setIfInBounds_toArray, List.set_cons_zero, List.set_cons_succ])
                  refine wpAnyH_take (i := 5) (oi := { dst := some 98, op := Go.Op.extract (Go.Operand.tmp 93) 0, type := 24, pos := "law.go:148", after := #[{ on := 4, ground := Go.Ground.data }], guard := none }) (v := ?_) rfl (by kernel_rfl) (by kernel_rfl) (by kernel_rfl) (fun _ _ _ h => h) (Or.inl ⟨by rfl, ?_⟩) hHeld ?_
                  rotate_left
                  · intro W_ hSw
                    obtain ⟨hS1, hS2, hS3⟩ := hSw
                    go_simp
                    try with_reducible rfl
                  (try simp only [Act.put, List.setIfInBounds_toArray, List.set_cons_zero, List.set_cons_succ])
                  refine wpAnyH_take (i := 6) (oi := { dst := some 99, op := Go.Op.extract (Go.Operand.tmp 93) 1, type := 30, pos := "law.go:148", after := #[{ on := 4, ground := Go.Ground.data }, { on := 8, ground := Go.Ground.gcOnly Go.Departure.lateStores }], guard := none }) (v := ?_) rfl (by kernel_rfl) (by kernel_rfl) (by kernel_rfl) (fun _ _ _ h => h) (Or.inl ⟨by rfl, ?_⟩) hHeld ?_
                  rotate_left
                  · intro W_ hSw
                    obtain ⟨hS1, hS2, hS3⟩ := hSw
                    go_simp
                    try with_reducible rfl
                  (try simp only [Act.put, List.setIfInBounds_toArray, List.set_cons_zero, List.set_cons_succ])
                  refine wpAnyH_ready (rs := [8]) (by kernel_rfl) (by simp) ?_
                  refine AllReadyH.cons (o := { dst := none, op := Go.Op.store 24 (Go.Operand.tmp 20) (Go.Operand.tmp 98), type := 0, pos := "law.go:148", after := #[{ on := 7, ground := Go.Ground.data }, { on := 5, ground := Go.Ground.data }, { on := 3, ground := Go.Ground.chain }, { on := 0, ground := Go.Ground.phase }, { on := 1, ground := Go.Ground.phase }, { on := 2, ground := Go.Ground.phase }, { on := 3, ground := Go.Ground.phase }, { on := 4, ground := Go.Ground.phase }, { on := 5, ground := Go.Ground.phase }, { on := 6, ground := Go.Ground.textOnly Go.Departure.lateStores }, { on := 7, ground := Go.Ground.phase }], guard := none }) rfl (fun KR hKR => ?_) ?_
                  have hS := hHeld
                  clear hHeld
                  obtain ⟨hS1, hS2, hS3⟩ := hS
                  go_simp
                  refine hKR.out _ _ (by exact (show Keep w ws ws 0 _ by (repeat (first | with_reducible assumption | with_reducible apply Keep.alloc | with_reducible apply Keep.drew | ((with_reducible refine Keep.set ?_ ?_ ?_); rotate_left; (focus (first | assumption | omega | (simp; done) | (simp; omega))); (focus (first | assumption | omega | (simp; done) | (simp; omega)))))))) (fun hHeld => ?_)
                  clear hKR KR
                  (try simp only [Act.put, List.setIfInBounds_toArray, List.set_cons_zero, List.set_cons_succ])
                  rotate_left
                  · exact AllReadyH.nil
                  refine wpAnyH_take (i := 9) (oi := { dst := some 21, op := Go.Op.assign (Go.Operand.tmp 99), type := 30, pos := "law.go:148", after := #[{ on := 6, ground := Go.Ground.data }, { on := 8, ground := Go.Ground.chain }, { on := 0, ground := Go.Ground.phase }, { on := 1, ground := Go.Ground.phase }, { on := 2, ground := Go.Ground.phase }, { on := 3, ground := Go.Ground.phase }, { on := 4, ground := Go.Ground.phase }, { on := 5, ground := Go.Ground.phase }, { on := 6, ground := Go.Ground.phase }, { on := 7, ground := Go.Ground.phase }, { on := 8, ground := Go.Ground.phase }], guard := none }) (v := ?_) rfl (by kernel_rfl) (by kernel_rfl) (by kernel_rfl) (fun _ _ _ h => h) (Or.inl ⟨by rfl, ?_⟩) hHeld ?_
                  rotate_left
                  · intro W_ hSw
                    obtain ⟨hS1, hS2, hS3⟩ := hSw
                    go_simp
                    try with_reducible rfl
                  (try simp only [Act.put, List.setIfInBounds_toArray, List.set_cons_zero, List.set_cons_succ])
                  refine wpAnyH_done (by kernel_rfl) ?_ _
                  refine NoPanic.normal ?_
                  obtain ⟨hS1, hS2, hS3⟩ := hHeld
                  go_wp2_with fail
                  go_meet
                  exact ⟨_, rfl, rfl, (by first | with_reducible assumption | (simp; done) | (simp; omega)), by go_simp, hS3⟩
                exact AllReadyH.nil
              refine AllReadyH.cons (o := { dst := some 20, op := Go.Op.alloc 24, type := 0, pos := "law.go:148", after := #[], guard := none }) rfl (fun KR hKR => ?_) ?_
              · have hS := hHeld
                clear hHeld
                obtain ⟨hS1, hS2, hS3⟩ := hS
                go_simp
                refine hKR.out _ _ (by exact (show Keep w ws ws 0 _ by (repeat (first | with_reducible assumption | with_reducible apply Keep.alloc | with_reducible apply Keep.drew | ((with_reducible refine Keep.set ?_ ?_ ?_); rotate_left; (focus (first | assumption | omega | (simp; done) | (simp; omega))); (focus (first | assumption | omega | (simp; done) | (simp; omega)))))))) (fun hHeld => ?_)
                clear hKR KR
                (try simp only [Act.put, List.setIfInBounds_toArray, List.set_cons_zero, List.set_cons_succ])
                refine wpAnyH_ready (rs := [1]) (by kernel_rfl) (by simp) ?_
                refine AllReadyH.cons (o := { dst := some 95, op := Go.Op.call { callee := Go.Callee.value (Go.Operand.func 17), args := #[Go.Operand.tmp 94], argTypes := #[36] }, type := 37, pos := "law.go:148", after := #[{ on := 0, ground := Go.Ground.data }], guard := none }) rfl (fun KR hKR => ?_) ?_
                have hS := hHeld
                clear hHeld
                obtain ⟨hS1, hS2, hS3⟩ := hS
                go_simp
                ((try rw [if_pos (show IntKind.i64.wrap 0 = 0 from rfl)]); go_at_call 17; refine (maps_any _ _ _ _ _ _ _).mono ?_; rintro e wk4 ⟨rfl, hb⟩; have hK := Keep.next (by (repeat (first | with_reducible assumption | with_reducible apply Keep.alloc | with_reducible apply Keep.drew | ((with_reducible refine Keep.set ?_ ?_ ?_); rotate_left; (focus (first | assumption | omega | (simp; done) | (simp; omega))); (focus (first | assumption | omega | (simp; done) | (simp; omega))))))) hb; (try replace hb := undrew hb); obtain ⟨hc, hf⟩ := ch hb; have hz := hb.size; clear hb; (try simp only [World.size_alloc, World.size_setCell, World.size_drew] at hz))
                have zb0 : ws.heap.size < wk4.heap.size := by omega
                refine hKR.out _ _ (by exact (show Keep w ws ws 0 _ by (repeat (first | with_reducible assumption | with_reducible apply Keep.alloc | with_reducible apply Keep.drew | ((with_reducible refine Keep.set ?_ ?_ ?_); rotate_left; (focus (first | assumption | omega | (simp; done) | (simp; omega))); (focus (first | assumption | omega | (simp; done) | (simp; omega)))))))) (fun hHeld => ?_)
                clear hKR KR
                (try simp only [Act.put, List.setIfInBounds_toArray, List.set_cons_zero, List.set_cons_succ])
                rotate_left
                · exact AllReadyH.nil
                refine wpAnyH_ready (rs := [3]) (by kernel_rfl) (by simp) ?_
                refine AllReadyH.cons (o := { dst := some 97, op := Go.Op.call { callee := Go.Callee.value (Go.Operand.func 15), args := #[Go.Operand.tmp 95, Go.Operand.tmp 96], argTypes := #[37, 24] }, type := 31, pos := "law.go:148", after := #[{ on := 1, ground := Go.Ground.data }, { on := 2, ground := Go.Ground.data }, { on := 1, ground := Go.Ground.chain }], guard := none }) rfl (fun KR hKR => ?_) ?_
                have hS := hHeld
                clear hHeld
                obtain ⟨hS1, hS2, hS3⟩ := hS
                go_simp
                ((try rw [if_pos (show IntKind.i64.wrap 0 = 0 from rfl)]); go_at_call 15; refine (box_is _ _ _ _ _ _ _ _ _ _ _ H6.out).mono ?_; rintro e wk5 ⟨rfl, hb⟩; have hK := Keep.next (by (repeat (first | with_reducible assumption | with_reducible apply Keep.alloc | with_reducible apply Keep.drew | ((with_reducible refine Keep.set ?_ ?_ ?_); rotate_left; (focus (first | assumption | omega | (simp; done) | (simp; omega))); (focus (first | assumption | omega | (simp; done) | (simp; omega))))))) hb; (try replace hb := undrew hb); obtain ⟨hc, hf⟩ := ch hb; have hz := hb.size; clear hb; (try simp only [World.size_alloc, World.size_setCell, World.size_drew] at hz))
                have zb0 : ws.heap.size < wk5.heap.size := by omega
                refine hKR.out _ _ (by exact (show Keep w ws ws 0 _ by (repeat (first | with_reducible assumption | with_reducible apply Keep.alloc | with_reducible apply Keep.drew | ((with_reducible refine Keep.set ?_ ?_ ?_); rotate_left; (focus (first | assumption | omega | (simp; done) | (simp; omega))); (focus (first | assumption | omega | (simp; done) | (simp; omega)))))))) (fun hHeld => ?_)
                clear hKR KR
                (try simp only [Act.put, List.setIfInBounds_toArray, List.set_cons_zero, List.set_cons_succ])
                rotate_left
                · exact AllReadyH.nil
                refine wpAnyH_take (i := 4) (oi := { dst := some 93, op := Go.Op.move (Go.Operand.tmp 97), type := 31, pos := "law.go:148", after := #[{ on := 3, ground := Go.Ground.data }], guard := none }) (v := ?_) rfl (by kernel_rfl) (by kernel_rfl) (by kernel_rfl) (fun _ _ _ h => h) (Or.inl ⟨by rfl, ?_⟩) hHeld ?_
                rotate_left
                · intro W_ hSw
                  obtain ⟨hS1, hS2, hS3⟩ := hSw
                  go_simp
                  try with_reducible rfl
                (try simp only [Act.put, List.setIfInBounds_toArray, List.set_cons_zero, List.set_cons_succ])
                refine wpAnyH_take (i := 5) (oi := { dst := some 98, op := Go.Op.extract (Go.Operand.tmp 93) 0, type := 24, pos := "law.go:148", after := #[{ on := 4, ground := Go.Ground.data }], guard := none }) (v := ?_) rfl (by kernel_rfl) (by kernel_rfl) (by kernel_rfl) (fun _ _ _ h => h) (Or.inl ⟨by rfl, ?_⟩) hHeld ?_
                rotate_left
                · intro W_ hSw
                  obtain ⟨hS1, hS2, hS3⟩ := hSw
                  go_simp
                  try with_reducible rfl
                (try simp only [Act.put, List.setIfInBounds_toArray, List.set_cons_zero, List.set_cons_succ])
                refine wpAnyH_take (i := 6) (oi := { dst := some 99, op := Go.Op.extract (Go.Operand.tmp 93) 1, type := 30, pos := "law.go:148", after := #[{ on := 4, ground := Go.Ground.data }, { on := 8, ground := Go.Ground.gcOnly Go.Departure.lateStores }], guard := none }) (v := ?_) rfl (by kernel_rfl) (by kernel_rfl) (by kernel_rfl) (fun _ _ _ h => h) (Or.inl ⟨by rfl, ?_⟩) hHeld ?_
                rotate_left
                · intro W_ hSw
                  obtain ⟨hS1, hS2, hS3⟩ := hSw
                  go_simp
                  try with_reducible rfl
                (try simp only [Act.put, List.setIfInBounds_toArray, List.set_cons_zero, List.set_cons_succ])
                refine wpAnyH_ready (rs := [8]) (by kernel_rfl) (by simp) ?_
                refine AllReadyH.cons (o := { dst := none, op := Go.Op.store 24 (Go.Operand.tmp 20) (Go.Operand.tmp 98), type := 0, pos := "law.go:148", after := #[{ on := 7, ground := Go.Ground.data }, { on := 5, ground := Go.Ground.data }, { on := 3, ground := Go.Ground.chain }, { on := 0, ground := Go.Ground.phase }, { on := 1, ground := Go.Ground.phase }, { on := 2, ground := Go.Ground.phase }, { on := 3, ground := Go.Ground.phase }, { on := 4, ground := Go.Ground.phase }, { on := 5, ground := Go.Ground.phase }, { on := 6, ground := Go.Ground.textOnly Go.Departure.lateStores }, { on := 7, ground := Go.Ground.phase }], guard := none }) rfl (fun KR hKR => ?_) ?_
                have hS := hHeld
                clear hHeld
                obtain ⟨hS1, hS2, hS3⟩ := hS
                go_simp
                refine hKR.out _ _ (by exact (show Keep w ws ws 0 _ by (repeat (first | with_reducible assumption | with_reducible apply Keep.alloc | with_reducible apply Keep.drew | ((with_reducible refine Keep.set ?_ ?_ ?_); rotate_left; (focus (first | assumption | omega | (simp; done) | (simp; omega))); (focus (first | assumption | omega | (simp; done) | (simp; omega)))))))) (fun hHeld => ?_)
                clear hKR KR
                (try simp only [Act.put, List.setIfInBounds_toArray, List.set_cons_zero, List.set_cons_succ])
                rotate_left
                · exact AllReadyH.nil
                refine wpAnyH_take (i := 9) (oi := { dst := some 21, op := Go.Op.assign (Go.Operand.tmp 99), type := 30, pos := "law.go:148", after := #[{ on := 6, ground := Go.Ground.data }, { on := 8, ground := Go.Ground.chain }, { on := 0, ground := Go.Ground.phase }, { on := 1, ground := Go.Ground.phase }, { on := 2, ground := Go.Ground.phase }, { on := 3, ground := Go.Ground.phase }, { on := 4, ground := Go.Ground.phase }, { on := 5, ground := Go.Ground.phase }, { on := 6, ground := Go.Ground.phase }, { on := 7, ground := Go.Ground.phase }, { on := 8, ground := Go.Ground.phase }], guard := none }) (v := ?_) rfl (by kernel_rfl) (by kernel_rfl) (by kernel_rfl) (fun _ _ _ h => h) (Or.inl ⟨by rfl, ?_⟩) hHeld ?_
                rotate_left
                · intro W_ hSw
                  obtain ⟨hS1, hS2, hS3⟩ := hSw
                  go_simp
                  try with_reducible rfl
                (try simp only [Act.put, List.setIfInBounds_toArray, List.set_cons_zero, List.set_cons_succ])
                refine wpAnyH_done (by kernel_rfl) ?_ _
                refine NoPanic.normal ?_
                obtain ⟨hS1, hS2, hS3⟩ := hHeld
                go_wp2_with fail
                go_meet
                exact ⟨_, rfl, rfl, (by first | with_reducible assumption | (simp; done) | (simp; omega)), by go_simp, hS3⟩
              exact AllReadyH.nil
            case rest =>
              obtain ⟨gC, rfl, rfl, hlC, ⟨c0, c1, c2, c3⟩, hBC⟩ := hcut
              by_cases hp : pe = 0
              · by_cases hj : je = 0
                · subst hp hj
                  obtain ⟨⟨g1, g2, g3, g4⟩, g5⟩ := H7.out q1 rfl rfl
                  obtain ⟨y1, y2, y3, y4, y5, y6, y7, y8⟩ := right_bd g5
                  go_wp2_with (first | (go_at_call 14; refine (num_any _ _).mono ?_; rintro e w1 ⟨rfl, rfl⟩) | (go_at_call 9; refine (knows_any _).mono ?_; rintro e w1 ⟨rfl, hb⟩; (try replace hb := undrew hb); obtain ⟨hc, hf⟩ := ch hb; have hz := hb.size; (try simp only [World.size_alloc, World.size_setCell, World.size_drew] at hz)))
                  all_goals exact bodyPost_ret (v := .bool true) (by simp [results, Try.results4, go_sem, *]) rfl ⟨rfl, by (repeat (first | with_reducible exact Below.refl _ _ | with_reducible apply below_alloc | with_reducible apply below_drew1 | with_reducible assumption | (with_reducible refine Keep.below (by assumption)) | (with_reducible refine bel ?_ (by assumption)) | ((with_reducible refine below_set ?_ ?_); rotate_left; (focus (first | assumption | omega | (simp; done) | (simp; omega))))))⟩
                · subst hp
                  go_wp2_with (first | (go_at_call 14; refine (num_any _ _).mono ?_; rintro e w1 ⟨rfl, rfl⟩) | (go_at_call 9; refine (knows_any _).mono ?_; rintro e w1 ⟨rfl, hb⟩; (try replace hb := undrew hb); obtain ⟨hc, hf⟩ := ch hb; have hz := hb.size; (try simp only [World.size_alloc, World.size_setCell, World.size_drew] at hz)))
                  all_goals exact bodyPost_ret (v := .bool true) (by simp [results, Try.results4, go_sem, *]) rfl ⟨rfl, by (repeat (first | with_reducible exact Below.refl _ _ | with_reducible apply below_alloc | with_reducible apply below_drew1 | with_reducible assumption | (with_reducible refine Keep.below (by assumption)) | (with_reducible refine bel ?_ (by assumption)) | ((with_reducible refine below_set ?_ ?_); rotate_left; (focus (first | assumption | omega | (simp; done) | (simp; omega))))))⟩
              · go_wp2_with (first | (go_at_call 14; refine (num_any _ _).mono ?_; rintro e w1 ⟨rfl, rfl⟩) | (go_at_call 9; refine (knows_any _).mono ?_; rintro e w1 ⟨rfl, hb⟩; (try replace hb := undrew hb); obtain ⟨hc, hf⟩ := ch hb; have hz := hb.size; (try simp only [World.size_alloc, World.size_setCell, World.size_drew] at hz)))
                all_goals exact bodyPost_ret (v := .bool true) (by simp [results, Try.results4, go_sem, *]) rfl ⟨rfl, by (repeat (first | with_reducible exact Below.refl _ _ | with_reducible apply below_alloc | with_reducible apply below_drew1 | with_reducible assumption | (with_reducible refine Keep.below (by assumption)) | (with_reducible refine bel ?_ (by assumption)) | ((with_reducible refine below_set ?_ ?_); rotate_left; (focus (first | assumption | omega | (simp; done) | (simp; omega))))))⟩
end Go.Proofs.Ytjekoaodgdodjaa
