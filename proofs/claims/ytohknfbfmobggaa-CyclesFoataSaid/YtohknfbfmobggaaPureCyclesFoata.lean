/- CyclesFoata: six numbers and fewer: each is reckoned. -/
import Derived.Test.YtohknfbfmobggaaCy16
namespace Go.Proofs.Ytohknfbfmobggaa.Pure
open Go.RowKit Go.Proofs.Ytohknfbfmobggaa.Cy Go.Proofs.YtohknfbfmobggaaW.PrintWords Go.Proofs.YtohknfbfmobggaaW.PrintLast

theorem foata0 : lotdrawerkeep_CyclesFoata.f 60 0 = some true := by decide +kernel
theorem foata1 : lotdrawerkeep_CyclesFoata.f 60 1 = some true := by decide +kernel
theorem foata2 : lotdrawerkeep_CyclesFoata.f 60 2 = some true := by decide +kernel
theorem foata3 : lotdrawerkeep_CyclesFoata.f 70 3 = some true := by decide +kernel
theorem foata4 : lotdrawerkeep_CyclesFoata.f 260 4 = some true := by decide +kernel
theorem foata5 : lotdrawerkeep_CyclesFoata.f 1200 5 = some true := by decide +kernel
theorem foata6 : lotdrawerkeep_CyclesFoata.f 7500 6 = some true := by decide +kernel
theorem alive23A : lotdrawerkeep_alive23.f 50 = some true := by decide +kernel
theorem CyclesFoata : lotdrawerkeep_CyclesFoata.Pure := by
  intro a _
  by_cases h : 0 ≤ a ∧ a ≤ 6
  · obtain ⟨h0, h1⟩ := h
    have : a = 0 ∨ a = 1 ∨ a = 2 ∨ a = 3 ∨ a = 4 ∨ a = 5 ∨ a = 6 := by omega
    rcases this with rfl | rfl | rfl | rfl | rfl | rfl | rfl
    · exact ⟨_, foata0⟩
    · exact ⟨_, foata1⟩
    · exact ⟨_, foata2⟩
    · exact ⟨_, foata3⟩
    · exact ⟨_, foata4⟩
    · exact ⟨_, foata5⟩
    · exact ⟨_, foata6⟩
  · refine ⟨50, ?_⟩
    unfold lotdrawerkeep_CyclesFoata.f
    rw [alive23A]
    simp only [Option.bind_some, if_true]
    by_cases h0 : a < 0
    · rw [if_pos h0]
      rfl
    · rw [if_neg h0, decide_eq_true (by omega)]
      rfl
end Go.Proofs.Ytohknfbfmobggaa.Pure
