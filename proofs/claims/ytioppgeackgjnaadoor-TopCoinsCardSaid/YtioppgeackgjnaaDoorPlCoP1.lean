/- The bit trick counts the bits of the Gray words: 4096 to 8191. -/
import Derived.Test.YtioppgeackgjnaaDoorPlCoA
namespace Go.Proofs.YtioppgeackgjnaaDoor.Coins
open Go.RowKit Go.Proofs.YtioppgeackgjnaaDoor.Bt Go.Proofs.YtioppgeackgjnaaDoorW.PrintWords Go.Proofs.YtioppgeackgjnaaDoorW.PrintLast
set_option linter.unusedVariables false
theorem count4 : ((List.range 1024).all fun i => decide (bits_OnesCount64.f (Go.bits .xor .u64 ((4096 + i : Nat) : Int) (((4096 + i : Nat) : Int) / 2)) = some ((gp (4096 + i) : Nat) : Int))) = true := by decide +kernel
theorem count5 : ((List.range 1024).all fun i => decide (bits_OnesCount64.f (Go.bits .xor .u64 ((5120 + i : Nat) : Int) (((5120 + i : Nat) : Int) / 2)) = some ((gp (5120 + i) : Nat) : Int))) = true := by decide +kernel
theorem count6 : ((List.range 1024).all fun i => decide (bits_OnesCount64.f (Go.bits .xor .u64 ((6144 + i : Nat) : Int) (((6144 + i : Nat) : Int) / 2)) = some ((gp (6144 + i) : Nat) : Int))) = true := by decide +kernel
theorem count7 : ((List.range 1024).all fun i => decide (bits_OnesCount64.f (Go.bits .xor .u64 ((7168 + i : Nat) : Int) (((7168 + i : Nat) : Int) / 2)) = some ((gp (7168 + i) : Nat) : Int))) = true := by decide +kernel
end Go.Proofs.YtioppgeackgjnaaDoor.Coins
