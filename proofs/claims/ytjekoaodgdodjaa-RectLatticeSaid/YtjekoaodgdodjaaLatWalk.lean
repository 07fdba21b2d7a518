/- The law RectLattice at every input: the walk, joined. -/
import Derived.Test.YtjekoaodgdodjaaH
set_option linter.unusedVariables false
set_option linter.unusedSimpArgs false
namespace Go.Proofs.Ytjekoaodgdodjaa
open Go.RowKit

theorem lat_any (x y u v x' y' u' v' x'' y'' u'' v'' : Int) (w : World) : Lat x y u v x' y' u' v' x'' y'' u'' v'' w := by
  cases a : rightB x y u v with
  | false => exact lat_no1 _ _ _ _ _ _ _ _ _ _ _ _ w a
  | true =>
    cases b : rightB x' y' u' v' with
    | false => exact lat_no2 _ _ _ _ _ _ _ _ _ _ _ _ w a b
    | true =>
      cases c : rightB x'' y'' u'' v'' with
      | false => exact lat_no3 _ _ _ _ _ _ _ _ _ _ _ _ w a b c
      | true =>
        have hp : R4.right ⟨x, y, u, v⟩ = true := a
        have hq : R4.right ⟨x', y', u', v'⟩ = true := b
        have hr : R4.right ⟨x'', y'', u'', v''⟩ = true := c
        exact lat_yes x y u v x' y' u' v' x'' y'' u'' v'' _ _ _ _ _ _ _ _ _ _ _ _ _ _ _ _ _ w a b c rfl (meet_comm hq hp) rfl rfl (meet_assoc hp hq hr).symm (within_meet_l hp hq) (within_meet_r hp hq) rfl
          (fun h1 h2 h3 => within_both hp hq hr h1 h2 h3) (fun h => within_join hp hq h)
end Go.Proofs.Ytjekoaodgdodjaa
