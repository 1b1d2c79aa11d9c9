/- Within hands back a number as one from 0 to n - 1, for each n from 1 to 1000. -/
import Derived.Test.YtbpfpjcacmgfeaaGreatDoorFlTabG
import Derived.WalkKit
import Derived.WalkSpells
import Derived.WalkLawsBesides
set_option linter.unusedVariables false
set_option linter.unusedSimpArgs false
namespace Go.Proofs
open Go.RowKit
set_option maxHeartbeats 400000 in
theorem within_any (a n : Int) (w : World) (h1 : 1 ≤ n) (h2 : n ≤ 1000) :
    Calls Tryz.prog 7 #[.int .i64 a, .int .i64 n] w fun e w' => e = .returned (.int .i64 (SE.within a n)) ∧ w' = w := by
  have h5 : a.tmod n < n := Int.tmod_lt_of_pos a (by omega)
  have h6 : -n < a.tmod n := Int.lt_tmod_of_pos a (by omega)
  go_enter Tryz.func7, Tryz.ntmps7
  go_wp2
  · go_ret
    refine ⟨?_, rfl⟩
    rw [SE.within, if_pos (by omega)]
    rfl
  · go_ret
    refine ⟨?_, rfl⟩
    rw [SE.within, if_neg (by omega)]
    rfl
theorem within_ok_ {sha : List UInt8 → Nat → UInt8} {E : SE.Env} : SE.SumOK sha E Tryz.prog 7 (SE.withinS E) :=
  SE.within_ok ⟨_, Tryz.func7, rfl, by decide⟩ fun a n w h1 h2 => within_any a n w h1 h2
end Go.Proofs
