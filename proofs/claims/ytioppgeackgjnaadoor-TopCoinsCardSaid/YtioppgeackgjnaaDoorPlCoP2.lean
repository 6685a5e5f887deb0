/- The bit trick counts the bits of the Gray words: 8192 to 12287. -/
import Derived.Test.YtioppgeackgjnaaDoorPlCoA
namespace Go.Proofs.YtioppgeackgjnaaDoor.Coins
open Go.RowKit Go.Proofs.YtioppgeackgjnaaDoor.Bt Go.Proofs.YtioppgeackgjnaaDoorW.PrintWords Go.Proofs.YtioppgeackgjnaaDoorW.PrintLast
set_option linter.unusedVariables false
theorem count8 : ((List.range 1024).all fun i => decide (bits_OnesCount64.f (Go.bits .xor .u64 ((8192 + i : Nat) : Int) (((8192 + i : Nat) : Int) / 2)) = some ((gp (8192 + i) : Nat) : Int))) = true := by decide +kernel
theorem count9 : ((List.range 1024).all fun i => decide (bits_OnesCount64.f (Go.bits .xor .u64 ((9216 + i : Nat) : Int) (((9216 + i : Nat) : Int) / 2)) = some ((gp (9216 + i) : Nat) : Int))) = true := by decide +kernel
theorem count10 : ((List.range 1024).all fun i => decide (bits_OnesCount64.f (Go.bits .xor .u64 ((10240 + i : Nat) : Int) (((10240 + i : Nat) : Int) / 2)) = some ((gp (10240 + i) : Nat) : Int))) = true := by decide +kernel
theorem count11 : ((List.range 1024).all fun i => decide (bits_OnesCount64.f (Go.bits .xor .u64 ((11264 + i : Nat) : Int) (((11264 + i : Nat) : Int) / 2)) = some ((gp (11264 + i) : Nat) : Int))) = true := by decide +kernel
end Go.Proofs.YtioppgeackgjnaaDoor.Coins
