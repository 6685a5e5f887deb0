/- The words of n bits, counted by their bits: a row of binomials. -/
import Derived.Test.YtioppgeackgjnaaDoorPlCoA
namespace Go.Proofs.YtioppgeackgjnaaDoor.Coins
open Go.RowKit Go.Proofs.YtioppgeackgjnaaDoor.Bt Go.Proofs.YtioppgeackgjnaaDoorW.PrintWords Go.Proofs.YtioppgeackgjnaaDoorW.PrintLast
set_option linter.unusedVariables false
theorem run0_0 : run 1 0 ([0] : List Int) = [1] := by decide +kernel
theorem runs0 : run 1 0 (List.replicate 1 0) = ([1] : List Int) := by
  show run 1 0 ([0] : List Int) = _
  exact run0_0
theorem run1_0 : run 2 0 ([0, 0] : List Int) = [1, 1] := by decide +kernel
theorem runs1 : run 2 0 (List.replicate 2 0) = ([1, 1] : List Int) := by
  show run 2 0 ([0, 0] : List Int) = _
  exact run1_0
theorem run2_0 : run 4 0 ([0, 0, 0] : List Int) = [1, 2, 1] := by decide +kernel
theorem runs2 : run 4 0 (List.replicate 3 0) = ([1, 2, 1] : List Int) := by
  show run 4 0 ([0, 0, 0] : List Int) = _
  exact run2_0
theorem run3_0 : run 8 0 ([0, 0, 0, 0] : List Int) = [1, 3, 3, 1] := by decide +kernel
theorem runs3 : run 8 0 (List.replicate 4 0) = ([1, 3, 3, 1] : List Int) := by
  show run 8 0 ([0, 0, 0, 0] : List Int) = _
  exact run3_0
theorem run4_0 : run 16 0 ([0, 0, 0, 0, 0] : List Int) = [1, 4, 6, 4, 1] := by decide +kernel
theorem runs4 : run 16 0 (List.replicate 5 0) = ([1, 4, 6, 4, 1] : List Int) := by
  show run 16 0 ([0, 0, 0, 0, 0] : List Int) = _
  exact run4_0
theorem run5_0 : run 32 0 ([0, 0, 0, 0, 0, 0] : List Int) = [1, 5, 10, 10, 5, 1] := by decide +kernel
theorem runs5 : run 32 0 (List.replicate 6 0) = ([1, 5, 10, 10, 5, 1] : List Int) := by
  show run 32 0 ([0, 0, 0, 0, 0, 0] : List Int) = _
  exact run5_0
theorem run6_0 : run 64 0 ([0, 0, 0, 0, 0, 0, 0] : List Int) = [1, 6, 15, 20, 15, 6, 1] := by decide +kernel
theorem runs6 : run 64 0 (List.replicate 7 0) = ([1, 6, 15, 20, 15, 6, 1] : List Int) := by
  show run 64 0 ([0, 0, 0, 0, 0, 0, 0] : List Int) = _
  exact run6_0
theorem run7_0 : run 128 0 ([0, 0, 0, 0, 0, 0, 0, 0] : List Int) = [1, 7, 21, 35, 35, 21, 7, 1] := by decide +kernel
theorem runs7 : run 128 0 (List.replicate 8 0) = ([1, 7, 21, 35, 35, 21, 7, 1] : List Int) := by
  show run 128 0 ([0, 0, 0, 0, 0, 0, 0, 0] : List Int) = _
  exact run7_0
theorem run8_0 : run 256 0 ([0, 0, 0, 0, 0, 0, 0, 0, 0] : List Int) = [1, 8, 28, 56, 70, 56, 28, 8, 1] := by decide +kernel
theorem runs8 : run 256 0 (List.replicate 9 0) = ([1, 8, 28, 56, 70, 56, 28, 8, 1] : List Int) := by
  show run 256 0 ([0, 0, 0, 0, 0, 0, 0, 0, 0] : List Int) = _
  exact run8_0
theorem run9_0 : run 512 0 ([0, 0, 0, 0, 0, 0, 0, 0, 0, 0] : List Int) = [1, 9, 36, 84, 126, 126, 84, 36, 9, 1] := by decide +kernel
theorem runs9 : run 512 0 (List.replicate 10 0) = ([1, 9, 36, 84, 126, 126, 84, 36, 9, 1] : List Int) := by
  show run 512 0 ([0, 0, 0, 0, 0, 0, 0, 0, 0, 0] : List Int) = _
  exact run9_0
theorem run10_0 : run 1024 0 ([0, 0, 0, 0, 0, 0, 0, 0, 0, 0, 0] : List Int) = [1, 10, 45, 120, 210, 252, 210, 120, 45, 10, 1] := by decide +kernel
theorem runs10 : run 1024 0 (List.replicate 11 0) = ([1, 10, 45, 120, 210, 252, 210, 120, 45, 10, 1] : List Int) := by
  show run 1024 0 ([0, 0, 0, 0, 0, 0, 0, 0, 0, 0, 0] : List Int) = _
  exact run10_0
theorem run11_0 : run 1024 0 ([0, 0, 0, 0, 0, 0, 0, 0, 0, 0, 0, 0] : List Int) = [1, 10, 45, 120, 210, 252, 210, 120, 45, 10, 1, 0] := by decide +kernel
theorem run11_1 : run 1024 1024 ([1, 10, 45, 120, 210, 252, 210, 120, 45, 10, 1, 0] : List Int) = [1, 11, 55, 165, 330, 462, 462, 330, 165, 55, 11, 1] := by decide +kernel
theorem runs11 : run 2048 0 (List.replicate 12 0) = ([1, 11, 55, 165, 330, 462, 462, 330, 165, 55, 11, 1] : List Int) := by
  show run 2048 0 ([0, 0, 0, 0, 0, 0, 0, 0, 0, 0, 0, 0] : List Int) = _
  rw [show (2048 : Nat) = 1024 + 1024 from rfl, run_add, run11_0]
  simp only [Nat.zero_add]
  exact run11_1
theorem run12_0 : run 1024 0 ([0, 0, 0, 0, 0, 0, 0, 0, 0, 0, 0, 0, 0] : List Int) = [1, 10, 45, 120, 210, 252, 210, 120, 45, 10, 1, 0, 0] := by decide +kernel
theorem run12_1 : run 1024 1024 ([1, 10, 45, 120, 210, 252, 210, 120, 45, 10, 1, 0, 0] : List Int) = [1, 11, 55, 165, 330, 462, 462, 330, 165, 55, 11, 1, 0] := by decide +kernel
theorem run12_2 : run 1024 2048 ([1, 11, 55, 165, 330, 462, 462, 330, 165, 55, 11, 1, 0] : List Int) = [1, 11, 56, 175, 375, 582, 672, 582, 375, 175, 56, 11, 1] := by decide +kernel
theorem run12_3 : run 1024 3072 ([1, 11, 56, 175, 375, 582, 672, 582, 375, 175, 56, 11, 1] : List Int) = [1, 12, 66, 220, 495, 792, 924, 792, 495, 220, 66, 12, 1] := by decide +kernel
theorem runs12 : run 4096 0 (List.replicate 13 0) = ([1, 12, 66, 220, 495, 792, 924, 792, 495, 220, 66, 12, 1] : List Int) := by
  show run 4096 0 ([0, 0, 0, 0, 0, 0, 0, 0, 0, 0, 0, 0, 0] : List Int) = _
  rw [show (4096 : Nat) = 1024 + 3072 from rfl, run_add, run12_0]
  simp only [Nat.zero_add]
  rw [show (3072 : Nat) = 1024 + 2048 from rfl, run_add, run12_1]
  rw [show (2048 : Nat) = 1024 + 1024 from rfl, run_add, run12_2]
  exact run12_3
theorem run13_0 : run 1024 0 ([0, 0, 0, 0, 0, 0, 0, 0, 0, 0, 0, 0, 0, 0] : List Int) = [1, 10, 45, 120, 210, 252, 210, 120, 45, 10, 1, 0, 0, 0] := by decide +kernel
theorem run13_1 : run 1024 1024 ([1, 10, 45, 120, 210, 252, 210, 120, 45, 10, 1, 0, 0, 0] : List Int) = [1, 11, 55, 165, 330, 462, 462, 330, 165, 55, 11, 1, 0, 0] := by decide +kernel
theorem run13_2 : run 1024 2048 ([1, 11, 55, 165, 330, 462, 462, 330, 165, 55, 11, 1, 0, 0] : List Int) = [1, 11, 56, 175, 375, 582, 672, 582, 375, 175, 56, 11, 1, 0] := by decide +kernel
theorem run13_3 : run 1024 3072 ([1, 11, 56, 175, 375, 582, 672, 582, 375, 175, 56, 11, 1, 0] : List Int) = [1, 12, 66, 220, 495, 792, 924, 792, 495, 220, 66, 12, 1, 0] := by decide +kernel
theorem run13_4 : run 1024 4096 ([1, 12, 66, 220, 495, 792, 924, 792, 495, 220, 66, 12, 1, 0] : List Int) = [1, 12, 67, 230, 540, 912, 1134, 1044, 705, 340, 111, 22, 2, 0] := by decide +kernel
theorem run13_5 : run 1024 5120 ([1, 12, 67, 230, 540, 912, 1134, 1044, 705, 340, 111, 22, 2, 0] : List Int) = [1, 12, 67, 231, 550, 957, 1254, 1254, 957, 550, 231, 67, 12, 1] := by decide +kernel
theorem run13_6 : run 1024 6144 ([1, 12, 67, 231, 550, 957, 1254, 1254, 957, 550, 231, 67, 12, 1] : List Int) = [1, 12, 68, 241, 595, 1077, 1464, 1506, 1167, 670, 276, 77, 13, 1] := by decide +kernel
theorem run13_7 : run 1024 7168 ([1, 12, 68, 241, 595, 1077, 1464, 1506, 1167, 670, 276, 77, 13, 1] : List Int) = [1, 13, 78, 286, 715, 1287, 1716, 1716, 1287, 715, 286, 78, 13, 1] := by decide +kernel
theorem runs13 : run 8192 0 (List.replicate 14 0) = ([1, 13, 78, 286, 715, 1287, 1716, 1716, 1287, 715, 286, 78, 13, 1] : List Int) := by
  show run 8192 0 ([0, 0, 0, 0, 0, 0, 0, 0, 0, 0, 0, 0, 0, 0] : List Int) = _
  rw [show (8192 : Nat) = 1024 + 7168 from rfl, run_add, run13_0]
  simp only [Nat.zero_add]
  rw [show (7168 : Nat) = 1024 + 6144 from rfl, run_add, run13_1]
  rw [show (6144 : Nat) = 1024 + 5120 from rfl, run_add, run13_2]
  rw [show (5120 : Nat) = 1024 + 4096 from rfl, run_add, run13_3]
  rw [show (4096 : Nat) = 1024 + 3072 from rfl, run_add, run13_4]
  rw [show (3072 : Nat) = 1024 + 2048 from rfl, run_add, run13_5]
  rw [show (2048 : Nat) = 1024 + 1024 from rfl, run_add, run13_6]
  exact run13_7
theorem run14_0 : run 1024 0 ([0, 0, 0, 0, 0, 0, 0, 0, 0, 0, 0, 0, 0, 0, 0] : List Int) = [1, 10, 45, 120, 210, 252, 210, 120, 45, 10, 1, 0, 0, 0, 0] := by decide +kernel
theorem run14_1 : run 1024 1024 ([1, 10, 45, 120, 210, 252, 210, 120, 45, 10, 1, 0, 0, 0, 0] : List Int) = [1, 11, 55, 165, 330, 462, 462, 330, 165, 55, 11, 1, 0, 0, 0] := by decide +kernel
theorem run14_2 : run 1024 2048 ([1, 11, 55, 165, 330, 462, 462, 330, 165, 55, 11, 1, 0, 0, 0] : List Int) = [1, 11, 56, 175, 375, 582, 672, 582, 375, 175, 56, 11, 1, 0, 0] := by decide +kernel
theorem run14_3 : run 1024 3072 ([1, 11, 56, 175, 375, 582, 672, 582, 375, 175, 56, 11, 1, 0, 0] : List Int) = [1, 12, 66, 220, 495, 792, 924, 792, 495, 220, 66, 12, 1, 0, 0] := by decide +kernel
theorem run14_4 : run 1024 4096 ([1, 12, 66, 220, 495, 792, 924, 792, 495, 220, 66, 12, 1, 0, 0] : List Int) = [1, 12, 67, 230, 540, 912, 1134, 1044, 705, 340, 111, 22, 2, 0, 0] := by decide +kernel
theorem run14_5 : run 1024 5120 ([1, 12, 67, 230, 540, 912, 1134, 1044, 705, 340, 111, 22, 2, 0, 0] : List Int) = [1, 12, 67, 231, 550, 957, 1254, 1254, 957, 550, 231, 67, 12, 1, 0] := by decide +kernel
theorem run14_6 : run 1024 6144 ([1, 12, 67, 231, 550, 957, 1254, 1254, 957, 550, 231, 67, 12, 1, 0] : List Int) = [1, 12, 68, 241, 595, 1077, 1464, 1506, 1167, 670, 276, 77, 13, 1, 0] := by decide +kernel
theorem run14_7 : run 1024 7168 ([1, 12, 68, 241, 595, 1077, 1464, 1506, 1167, 670, 276, 77, 13, 1, 0] : List Int) = [1, 13, 78, 286, 715, 1287, 1716, 1716, 1287, 715, 286, 78, 13, 1, 0] := by decide +kernel
theorem run14_8 : run 1024 8192 ([1, 13, 78, 286, 715, 1287, 1716, 1716, 1287, 715, 286, 78, 13, 1, 0] : List Int) = [1, 13, 79, 296, 760, 1407, 1926, 1968, 1497, 835, 331, 88, 14, 1, 0] := by decide +kernel
theorem run14_9 : run 1024 9216 ([1, 13, 79, 296, 760, 1407, 1926, 1968, 1497, 835, 331, 88, 14, 1, 0] : List Int) = [1, 13, 79, 297, 770, 1452, 2046, 2178, 1749, 1045, 451, 133, 24, 2, 0] := by decide +kernel
theorem run14_10 : run 1024 10240 ([1, 13, 79, 297, 770, 1452, 2046, 2178, 1749, 1045, 451, 133, 24, 2, 0] : List Int) = [1, 13, 79, 297, 771, 1462, 2091, 2298, 1959, 1297, 661, 253, 69, 12, 1] := by decide +kernel
theorem run14_11 : run 1024 11264 ([1, 13, 79, 297, 771, 1462, 2091, 2298, 1959, 1297, 661, 253, 69, 12, 1] : List Int) = [1, 13, 79, 298, 781, 1507, 2211, 2508, 2211, 1507, 781, 298, 79, 13, 1] := by decide +kernel
theorem run14_12 : run 1024 12288 ([1, 13, 79, 298, 781, 1507, 2211, 2508, 2211, 1507, 781, 298, 79, 13, 1] : List Int) = [1, 13, 80, 308, 826, 1627, 2421, 2760, 2421, 1627, 826, 308, 80, 13, 1] := by decide +kernel
theorem run14_13 : run 1024 13312 ([1, 13, 80, 308, 826, 1627, 2421, 2760, 2421, 1627, 826, 308, 80, 13, 1] : List Int) = [1, 13, 80, 309, 836, 1672, 2541, 2970, 2673, 1837, 946, 353, 90, 14, 1] := by decide +kernel
theorem run14_14 : run 1024 14336 ([1, 13, 80, 309, 836, 1672, 2541, 2970, 2673, 1837, 946, 353, 90, 14, 1] : List Int) = [1, 13, 81, 319, 881, 1792, 2751, 3222, 2883, 1957, 991, 363, 91, 14, 1] := by decide +kernel
theorem run14_15 : run 1024 15360 ([1, 13, 81, 319, 881, 1792, 2751, 3222, 2883, 1957, 991, 363, 91, 14, 1] : List Int) = [1, 14, 91, 364, 1001, 2002, 3003, 3432, 3003, 2002, 1001, 364, 91, 14, 1] := by decide +kernel
theorem runs14 : run 16384 0 (List.replicate 15 0) = ([1, 14, 91, 364, 1001, 2002, 3003, 3432, 3003, 2002, 1001, 364, 91, 14, 1] : List Int) := by
  show run 16384 0 ([0, 0, 0, 0, 0, 0, 0, 0, 0, 0, 0, 0, 0, 0, 0] : List Int) = _
  rw [show (16384 : Nat) = 1024 + 15360 from rfl, run_add, run14_0]
  simp only [Nat.zero_add]
  rw [show (15360 : Nat) = 1024 + 14336 from rfl, run_add, run14_1]
  rw [show (14336 : Nat) = 1024 + 13312 from rfl, run_add, run14_2]
  rw [show (13312 : Nat) = 1024 + 12288 from rfl, run_add, run14_3]
  rw [show (12288 : Nat) = 1024 + 11264 from rfl, run_add, run14_4]
  rw [show (11264 : Nat) = 1024 + 10240 from rfl, run_add, run14_5]
  rw [show (10240 : Nat) = 1024 + 9216 from rfl, run_add, run14_6]
  rw [show (9216 : Nat) = 1024 + 8192 from rfl, run_add, run14_7]
  rw [show (8192 : Nat) = 1024 + 7168 from rfl, run_add, run14_8]
  rw [show (7168 : Nat) = 1024 + 6144 from rfl, run_add, run14_9]
  rw [show (6144 : Nat) = 1024 + 5120 from rfl, run_add, run14_10]
  rw [show (5120 : Nat) = 1024 + 4096 from rfl, run_add, run14_11]
  rw [show (4096 : Nat) = 1024 + 3072 from rfl, run_add, run14_12]
  rw [show (3072 : Nat) = 1024 + 2048 from rfl, run_add, run14_13]
  rw [show (2048 : Nat) = 1024 + 1024 from rfl, run_add, run14_14]
  exact run14_15
end Go.Proofs.YtioppgeackgjnaaDoor.Coins
