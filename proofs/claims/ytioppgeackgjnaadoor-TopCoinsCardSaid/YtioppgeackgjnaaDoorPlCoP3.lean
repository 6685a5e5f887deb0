/- The bit trick counts the bits of the Gray words: 12288 to 16383. -/
import Derived.Test.YtioppgeackgjnaaDoorPlCoA
namespace Go.Proofs.YtioppgeackgjnaaDoor.Coins
open Go.RowKit Go.Proofs.YtioppgeackgjnaaDoor.Bt Go.Proofs.YtioppgeackgjnaaDoorW.PrintWords Go.Proofs.YtioppgeackgjnaaDoorW.PrintLast
set_option linter.unusedVariables false
theorem count12 : ((List.range 1024).all fun i => decide (bits_OnesCount64.f (Go.bits .xor .u64 ((12288 + i : Nat) : Int) (((12288 + i : Nat) : Int) / 2)) = some ((gp (12288 + i) : Nat) : Int))) = true := by decide +kernel
theorem count13 : ((List.range 1024).all fun i => decide (bits_OnesCount64.f (Go.bits .xor .u64 ((13312 + i : Nat) : Int) (((13312 + i : Nat) : Int) / 2)) = some ((gp (13312 + i) : Nat) : Int))) = true := by decide +kernel
theorem count14 : ((List.range 1024).all fun i => decide (bits_OnesCount64.f (Go.bits .xor .u64 ((14336 + i : Nat) : Int) (((14336 + i : Nat) : Int) / 2)) = some ((gp (14336 + i) : Nat) : Int))) = true := by decide +kernel
theorem count15 : ((List.range 1024).all fun i => decide (bits_OnesCount64.f (Go.bits .xor .u64 ((15360 + i : Nat) : Int) (((15360 + i : Nat) : Int) / 2)) = some ((gp (15360 + i) : Nat) : Int))) = true := by decide +kernel
end Go.Proofs.YtioppgeackgjnaaDoor.Coins
