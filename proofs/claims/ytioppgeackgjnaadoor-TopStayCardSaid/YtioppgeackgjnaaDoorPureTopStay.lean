/- Who stays, counted: the seven numbers there are, told each. -/
import Derived.Test.YtioppgeackgjnaaDoorHaSt
namespace Go.Proofs.YtioppgeackgjnaaDoor.Pure
open Go.RowKit Go.Proofs.YtioppgeackgjnaaDoor.Bt Go.Proofs.YtioppgeackgjnaaDoorW.PrintWords Go.Proofs.YtioppgeackgjnaaDoorW.PrintLast
set_option linter.unusedVariables false
set_option maxRecDepth 100000
theorem stay_alive : lotdrawertop_alive.f 60 = some true := by decide +kernel
theorem stay0 : lotdrawertop_TopStay.j0 2000 0 false = some true := by decide +kernel
theorem stay1 : lotdrawertop_TopStay.j0 2000 1 false = some true := by decide +kernel
theorem stay2 : lotdrawertop_TopStay.j0 2000 2 false = some true := by decide +kernel
theorem stay3 : lotdrawertop_TopStay.j0 2000 3 false = some true := by decide +kernel
theorem stay4 : lotdrawertop_TopStay.j0 2000 4 false = some true := by decide +kernel
theorem stay5 : lotdrawertop_TopStay.j0 2000 5 false = some true := by decide +kernel
theorem stay6 : lotdrawertop_TopStay.j0 2000 6 false = some true := by decide +kernel
theorem TopStay : lotdrawertop_TopStay.Pure := by
  intro a0 _
  refine ⟨2000, ?_⟩
  have ha : lotdrawertop_alive.f 2000 = some true := at_rounds (g := fun k => lotdrawertop_alive.f k) lotdrawertop_alive.mono (by omega) stay_alive
  unfold lotdrawertop_TopStay.f
  rw [ha, Option.bind_some, if_pos rfl]
  by_cases h0 : a0 < 0
  · rw [if_pos h0, lotdrawertop_TopStay.j0, if_pos rfl]
  · rw [if_neg h0]
    by_cases h1 : a0 > 6
    · rw [decide_eq_true h1, lotdrawertop_TopStay.j0, if_pos rfl]
    · rw [decide_eq_false h1]
      obtain rfl | rfl | rfl | rfl | rfl | rfl | rfl : a0 = 0 ∨ a0 = 1 ∨ a0 = 2 ∨ a0 = 3 ∨ a0 = 4 ∨ a0 = 5 ∨ a0 = 6 := by omega
      · exact stay0
      · exact stay1
      · exact stay2
      · exact stay3
      · exact stay4
      · exact stay5
      · exact stay6
end Go.Proofs.YtioppgeackgjnaaDoor.Pure
