/- The bit trick counts the bits of the Gray words: 0 to 4095. -/
import Derived.Test.YtioppgeackgjnaaDoorPlCoA
namespace Go.Proofs.YtioppgeackgjnaaDoor.Coins
open Go.RowKit Go.Proofs.YtioppgeackgjnaaDoor.Bt Go.Proofs.YtioppgeackgjnaaDoorW.PrintWords Go.Proofs.YtioppgeackgjnaaDoorW.PrintLast
set_option linter.unusedVariables false
theorem count0 : ((List.range 1024).all fun i => decide (bits_OnesCount64.f (Go.bits .xor .u64 ((0 + i : Nat) : Int) (((0 + i : Nat) : Int) / 2)) = some ((gp (0 + i) : Nat) : Int))) = true := by decide +kernel
theorem count1 : ((List.range 1024).all fun i => decide (bits_OnesCount64.f (Go.bits .xor .u64 ((1024 + i : Nat) : Int) (((1024 + i : Nat) : Int) / 2)) = some ((gp (1024 + i) : Nat) : Int))) = true := by decide +kernel
theorem count2 : ((List.range 1024).all fun i => decide (bits_OnesCount64.f (Go.bits .xor .u64 ((2048 + i : Nat) : Int) (((2048 + i : Nat) : Int) / 2)) = some ((gp (2048 + i) : Nat) : Int))) = true := by decide +kernel
theorem count3 : ((List.range 1024).all fun i => decide (bits_OnesCount64.f (Go.bits .xor .u64 ((3072 + i : Nat) : Int) (((3072 + i : Nat) : Int) / 2)) = some ((gp (3072 + i) : Nat) : Int))) = true := by decide +kernel
end Go.Proofs.YtioppgeackgjnaaDoor.Coins
