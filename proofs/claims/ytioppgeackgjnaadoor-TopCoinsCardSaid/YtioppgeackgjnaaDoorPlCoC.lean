/- The bit trick counts the bits of the Gray words below 2^14. -/
import Derived.Test.YtioppgeackgjnaaDoorPlCoP0
import Derived.Test.YtioppgeackgjnaaDoorPlCoP1
import Derived.Test.YtioppgeackgjnaaDoorPlCoP2
import Derived.Test.YtioppgeackgjnaaDoorPlCoP3
namespace Go.Proofs.YtioppgeackgjnaaDoor.Coins
open Go.RowKit Go.Proofs.YtioppgeackgjnaaDoor.Bt Go.Proofs.YtioppgeackgjnaaDoorW.PrintWords Go.Proofs.YtioppgeackgjnaaDoorW.PrintLast
set_option linter.unusedVariables false
theorem counts : Counts := by
  intro x hx
  have key : ∀ (j : Nat) (h : ((List.range 1024).all fun i => decide (bits_OnesCount64.f (Go.bits .xor .u64 ((1024 * j + i : Nat) : Int) (((1024 * j + i : Nat) : Int) / 2)) = some ((gp (1024 * j + i) : Nat) : Int))) = true), x / 1024 = j → bits_OnesCount64.f (Go.bits .xor .u64 (x : Int) ((x : Int) / 2)) = some ((gp x : Nat) : Int) := by
    intro j h e
    have h1 := of_decide_eq_true ((List.all_eq_true.1 h) (x % 1024) (List.mem_range.2 (Nat.mod_lt _ (by omega))))
    rw [show 1024 * j + x % 1024 = x by omega] at h1
    exact h1
  have hc : x / 1024 = 0 ∨ x / 1024 = 1 ∨ x / 1024 = 2 ∨ x / 1024 = 3 ∨ x / 1024 = 4 ∨ x / 1024 = 5 ∨ x / 1024 = 6 ∨ x / 1024 = 7 ∨ x / 1024 = 8 ∨ x / 1024 = 9 ∨ x / 1024 = 10 ∨ x / 1024 = 11 ∨ x / 1024 = 12 ∨ x / 1024 = 13 ∨ x / 1024 = 14 ∨ x / 1024 = 15 := by omega
  rcases hc with h | h | h | h | h | h | h | h | h | h | h | h | h | h | h | h
  · exact key 0 count0 h
  · exact key 1 count1 h
  · exact key 2 count2 h
  · exact key 3 count3 h
  · exact key 4 count4 h
  · exact key 5 count5 h
  · exact key 6 count6 h
  · exact key 7 count7 h
  · exact key 8 count8 h
  · exact key 9 count9 h
  · exact key 10 count10 h
  · exact key 11 count11 h
  · exact key 12 count12 h
  · exact key 13 count13 h
  · exact key 14 count14 h
  · exact key 15 count15 h
end Go.Proofs.YtioppgeackgjnaaDoor.Coins
