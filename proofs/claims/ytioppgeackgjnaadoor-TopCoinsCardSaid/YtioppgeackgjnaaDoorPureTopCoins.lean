/- TopCoins: fourteen coins and fewer: each is reckoned. -/
import Derived.Test.YtioppgeackgjnaaDoorPlCoC
import Derived.Test.YtioppgeackgjnaaDoorPlCoR
namespace Go.Proofs.YtioppgeackgjnaaDoor.Coins
open Go.RowKit Go.Proofs.YtioppgeackgjnaaDoor.Bt Go.Proofs.YtioppgeackgjnaaDoorW.PrintWords Go.Proofs.YtioppgeackgjnaaDoorW.PrintLast
set_option linter.unusedVariables false
theorem alive9 : lotdrawertop_alive.f 60 = some true := by decide +kernel
theorem sum0 : dice_Sum.f 400 ([1] : List Int) [1, 1] = some ([1, 1], 0) := by decide +kernel
theorem sum1 : dice_Sum.f 400 ([1, 1] : List Int) [1, 1] = some ([1, 2, 1], 0) := by decide +kernel
theorem sum2 : dice_Sum.f 400 ([1, 2, 1] : List Int) [1, 1] = some ([1, 3, 3, 1], 0) := by decide +kernel
theorem sum3 : dice_Sum.f 400 ([1, 3, 3, 1] : List Int) [1, 1] = some ([1, 4, 6, 4, 1], 0) := by decide +kernel
theorem sum4 : dice_Sum.f 400 ([1, 4, 6, 4, 1] : List Int) [1, 1] = some ([1, 5, 10, 10, 5, 1], 0) := by decide +kernel
theorem sum5 : dice_Sum.f 400 ([1, 5, 10, 10, 5, 1] : List Int) [1, 1] = some ([1, 6, 15, 20, 15, 6, 1], 0) := by decide +kernel
theorem sum6 : dice_Sum.f 400 ([1, 6, 15, 20, 15, 6, 1] : List Int) [1, 1] = some ([1, 7, 21, 35, 35, 21, 7, 1], 0) := by decide +kernel
theorem sum7 : dice_Sum.f 400 ([1, 7, 21, 35, 35, 21, 7, 1] : List Int) [1, 1] = some ([1, 8, 28, 56, 70, 56, 28, 8, 1], 0) := by decide +kernel
theorem sum8 : dice_Sum.f 400 ([1, 8, 28, 56, 70, 56, 28, 8, 1] : List Int) [1, 1] = some ([1, 9, 36, 84, 126, 126, 84, 36, 9, 1], 0) := by decide +kernel
theorem sum9 : dice_Sum.f 400 ([1, 9, 36, 84, 126, 126, 84, 36, 9, 1] : List Int) [1, 1] = some ([1, 10, 45, 120, 210, 252, 210, 120, 45, 10, 1], 0) := by decide +kernel
theorem sum10 : dice_Sum.f 400 ([1, 10, 45, 120, 210, 252, 210, 120, 45, 10, 1] : List Int) [1, 1] = some ([1, 11, 55, 165, 330, 462, 462, 330, 165, 55, 11, 1], 0) := by decide +kernel
theorem sum11 : dice_Sum.f 400 ([1, 11, 55, 165, 330, 462, 462, 330, 165, 55, 11, 1] : List Int) [1, 1] = some ([1, 12, 66, 220, 495, 792, 924, 792, 495, 220, 66, 12, 1], 0) := by decide +kernel
theorem sum12 : dice_Sum.f 400 ([1, 12, 66, 220, 495, 792, 924, 792, 495, 220, 66, 12, 1] : List Int) [1, 1] = some ([1, 13, 78, 286, 715, 1287, 1716, 1716, 1287, 715, 286, 78, 13, 1], 0) := by decide +kernel
theorem sum13 : dice_Sum.f 400 ([1, 13, 78, 286, 715, 1287, 1716, 1716, 1287, 715, 286, 78, 13, 1] : List Int) [1, 1] = some ([1, 14, 91, 364, 1001, 2002, 3003, 3432, 3003, 2002, 1001, 364, 91, 14, 1], 0) := by decide +kernel
theorem shift0 : shl .u64 1 ((0 : Nat) : Int) = ((2 ^ 0 : Nat) : Int) := by decide +kernel
theorem last0 : lotdrawertop_TopCoins.l2 520 ((0 : Nat) : Int) ([1] : List Int) ([1] : List Int) (wrap64 (((0 : Nat) : Int) + 1)) 0 = some true := by decide +kernel
theorem shift1 : shl .u64 1 ((1 : Nat) : Int) = ((2 ^ 1 : Nat) : Int) := by decide +kernel
theorem last1 : lotdrawertop_TopCoins.l2 520 ((1 : Nat) : Int) ([1, 1] : List Int) ([1, 1] : List Int) (wrap64 (((1 : Nat) : Int) + 1)) 0 = some true := by decide +kernel
theorem shift2 : shl .u64 1 ((2 : Nat) : Int) = ((2 ^ 2 : Nat) : Int) := by decide +kernel
theorem last2 : lotdrawertop_TopCoins.l2 520 ((2 : Nat) : Int) ([1, 2, 1] : List Int) ([1, 2, 1] : List Int) (wrap64 (((2 : Nat) : Int) + 1)) 0 = some true := by decide +kernel
theorem shift3 : shl .u64 1 ((3 : Nat) : Int) = ((2 ^ 3 : Nat) : Int) := by decide +kernel
theorem last3 : lotdrawertop_TopCoins.l2 520 ((3 : Nat) : Int) ([1, 3, 3, 1] : List Int) ([1, 3, 3, 1] : List Int) (wrap64 (((3 : Nat) : Int) + 1)) 0 = some true := by decide +kernel
theorem shift4 : shl .u64 1 ((4 : Nat) : Int) = ((2 ^ 4 : Nat) : Int) := by decide +kernel
theorem last4 : lotdrawertop_TopCoins.l2 520 ((4 : Nat) : Int) ([1, 4, 6, 4, 1] : List Int) ([1, 4, 6, 4, 1] : List Int) (wrap64 (((4 : Nat) : Int) + 1)) 0 = some true := by decide +kernel
theorem shift5 : shl .u64 1 ((5 : Nat) : Int) = ((2 ^ 5 : Nat) : Int) := by decide +kernel
theorem last5 : lotdrawertop_TopCoins.l2 520 ((5 : Nat) : Int) ([1, 5, 10, 10, 5, 1] : List Int) ([1, 5, 10, 10, 5, 1] : List Int) (wrap64 (((5 : Nat) : Int) + 1)) 0 = some true := by decide +kernel
theorem shift6 : shl .u64 1 ((6 : Nat) : Int) = ((2 ^ 6 : Nat) : Int) := by decide +kernel
theorem last6 : lotdrawertop_TopCoins.l2 520 ((6 : Nat) : Int) ([1, 6, 15, 20, 15, 6, 1] : List Int) ([1, 6, 15, 20, 15, 6, 1] : List Int) (wrap64 (((6 : Nat) : Int) + 1)) 0 = some true := by decide +kernel
theorem shift7 : shl .u64 1 ((7 : Nat) : Int) = ((2 ^ 7 : Nat) : Int) := by decide +kernel
theorem last7 : lotdrawertop_TopCoins.l2 520 ((7 : Nat) : Int) ([1, 7, 21, 35, 35, 21, 7, 1] : List Int) ([1, 7, 21, 35, 35, 21, 7, 1] : List Int) (wrap64 (((7 : Nat) : Int) + 1)) 0 = some true := by decide +kernel
theorem shift8 : shl .u64 1 ((8 : Nat) : Int) = ((2 ^ 8 : Nat) : Int) := by decide +kernel
theorem last8 : lotdrawertop_TopCoins.l2 520 ((8 : Nat) : Int) ([1, 8, 28, 56, 70, 56, 28, 8, 1] : List Int) ([1, 8, 28, 56, 70, 56, 28, 8, 1] : List Int) (wrap64 (((8 : Nat) : Int) + 1)) 0 = some true := by decide +kernel
theorem shift9 : shl .u64 1 ((9 : Nat) : Int) = ((2 ^ 9 : Nat) : Int) := by decide +kernel
theorem last9 : lotdrawertop_TopCoins.l2 520 ((9 : Nat) : Int) ([1, 9, 36, 84, 126, 126, 84, 36, 9, 1] : List Int) ([1, 9, 36, 84, 126, 126, 84, 36, 9, 1] : List Int) (wrap64 (((9 : Nat) : Int) + 1)) 0 = some true := by decide +kernel
theorem shift10 : shl .u64 1 ((10 : Nat) : Int) = ((2 ^ 10 : Nat) : Int) := by decide +kernel
theorem last10 : lotdrawertop_TopCoins.l2 520 ((10 : Nat) : Int) ([1, 10, 45, 120, 210, 252, 210, 120, 45, 10, 1] : List Int) ([1, 10, 45, 120, 210, 252, 210, 120, 45, 10, 1] : List Int) (wrap64 (((10 : Nat) : Int) + 1)) 0 = some true := by decide +kernel
theorem shift11 : shl .u64 1 ((11 : Nat) : Int) = ((2 ^ 11 : Nat) : Int) := by decide +kernel
theorem last11 : lotdrawertop_TopCoins.l2 520 ((11 : Nat) : Int) ([1, 11, 55, 165, 330, 462, 462, 330, 165, 55, 11, 1] : List Int) ([1, 11, 55, 165, 330, 462, 462, 330, 165, 55, 11, 1] : List Int) (wrap64 (((11 : Nat) : Int) + 1)) 0 = some true := by decide +kernel
theorem shift12 : shl .u64 1 ((12 : Nat) : Int) = ((2 ^ 12 : Nat) : Int) := by decide +kernel
theorem last12 : lotdrawertop_TopCoins.l2 520 ((12 : Nat) : Int) ([1, 12, 66, 220, 495, 792, 924, 792, 495, 220, 66, 12, 1] : List Int) ([1, 12, 66, 220, 495, 792, 924, 792, 495, 220, 66, 12, 1] : List Int) (wrap64 (((12 : Nat) : Int) + 1)) 0 = some true := by decide +kernel
theorem shift13 : shl .u64 1 ((13 : Nat) : Int) = ((2 ^ 13 : Nat) : Int) := by decide +kernel
theorem last13 : lotdrawertop_TopCoins.l2 520 ((13 : Nat) : Int) ([1, 13, 78, 286, 715, 1287, 1716, 1716, 1287, 715, 286, 78, 13, 1] : List Int) ([1, 13, 78, 286, 715, 1287, 1716, 1716, 1287, 715, 286, 78, 13, 1] : List Int) (wrap64 (((13 : Nat) : Int) + 1)) 0 = some true := by decide +kernel
theorem shift14 : shl .u64 1 ((14 : Nat) : Int) = ((2 ^ 14 : Nat) : Int) := by decide +kernel
theorem last14 : lotdrawertop_TopCoins.l2 520 ((14 : Nat) : Int) ([1, 14, 91, 364, 1001, 2002, 3003, 3432, 3003, 2002, 1001, 364, 91, 14, 1] : List Int) ([1, 14, 91, 364, 1001, 2002, 3003, 3432, 3003, 2002, 1001, 364, 91, 14, 1] : List Int) (wrap64 (((14 : Nat) : Int) + 1)) 0 = some true := by decide +kernel

theorem l0_step {x0 x23 : Int} (i : Nat) (hi : i ≤ 14) {s s' : List Int} {res : Bool} (hlt : (i : Int) < x23) (h : dice_Sum.f 400 s [1, 1] = some (s', 0)) (hr : ∃ k, 400 ≤ k ∧ lotdrawertop_TopCoins.l0 k x0 s' x23 ((i + 1 : Nat) : Int) = some res) : ∃ k, 400 ≤ k ∧ lotdrawertop_TopCoins.l0 k x0 s x23 (i : Int) = some res := by
  obtain ⟨k, hk, hr⟩ := hr
  refine ⟨k + 1, by omega, ?_⟩
  have e : wrap64 ((i : Int) + 1) = ((i + 1 : Nat) : Int) := by unfold wrap64; omega
  rw [lotdrawertop_TopCoins.l0, if_pos hlt, at_rounds (dice_Sum.mono _ _) hk h, Option.bind_some, if_pos rfl, e]
  exact hr
theorem l0_last {n : Nat} (hn : n ≤ 14) {s wd : List Int} (hs : shl .u64 1 (n : Int) = ((2 ^ n : Nat) : Int)) (hw : run (2 ^ n) 0 (List.replicate (n + 1) 0) = wd) (hl : lotdrawertop_TopCoins.l2 520 (n : Int) s wd (wrap64 ((n : Int) + 1)) 0 = some true) :
    ∃ k, 400 ≤ k ∧ lotdrawertop_TopCoins.l0 k (n : Int) s (n : Int) (n : Int) = some true := by
  obtain ⟨K, hK⟩ : ∃ K, K = 2 ^ n + 1 + 520 := ⟨_, rfl⟩
  have hK2 : 520 ≤ K := by rw [hK]; exact Nat.le_add_left 520 _
  refine ⟨K + 1, by omega, ?_⟩
  have e : wrap64 ((n : Int) + 1) = ((n + 1 : Nat) : Int) := by unfold wrap64; omega
  have h1 := l1_run counts hn s (k := 520) (res := true) (2 ^ n) 0 (List.replicate (n + 1) 0) (by omega) (by simp) (by rw [hw]; exact hl)
  rw [← hK] at h1
  rw [lotdrawertop_TopCoins.l0, if_neg (by omega), e, if_pos (by omega), if_pos (by omega), if_pos (by omega), hs, Int.toNat_natCast]
  exact h1
theorem coins0 : ∃ k, lotdrawertop_TopCoins.l0 k ((0 : Nat) : Int) [1] ((0 : Nat) : Int) 0 = some true := by
  have h0 := l0_last (n := 0) (by omega) shift0 runs0 last0
  obtain ⟨k, _, h⟩ := h0
  exact ⟨k, h⟩
theorem coins1 : ∃ k, lotdrawertop_TopCoins.l0 k ((1 : Nat) : Int) [1] ((1 : Nat) : Int) 0 = some true := by
  have h1 := l0_last (n := 1) (by omega) shift1 runs1 last1
  have h0 := l0_step (x0 := ((1 : Nat) : Int)) (x23 := ((1 : Nat) : Int)) 0 (by omega) (by decide) sum0 h1
  obtain ⟨k, _, h⟩ := h0
  exact ⟨k, h⟩
theorem coins2 : ∃ k, lotdrawertop_TopCoins.l0 k ((2 : Nat) : Int) [1] ((2 : Nat) : Int) 0 = some true := by
  have h2 := l0_last (n := 2) (by omega) shift2 runs2 last2
  have h1 := l0_step (x0 := ((2 : Nat) : Int)) (x23 := ((2 : Nat) : Int)) 1 (by omega) (by decide) sum1 h2
  have h0 := l0_step (x0 := ((2 : Nat) : Int)) (x23 := ((2 : Nat) : Int)) 0 (by omega) (by decide) sum0 h1
  obtain ⟨k, _, h⟩ := h0
  exact ⟨k, h⟩
theorem coins3 : ∃ k, lotdrawertop_TopCoins.l0 k ((3 : Nat) : Int) [1] ((3 : Nat) : Int) 0 = some true := by
  have h3 := l0_last (n := 3) (by omega) shift3 runs3 last3
  have h2 := l0_step (x0 := ((3 : Nat) : Int)) (x23 := ((3 : Nat) : Int)) 2 (by omega) (by decide) sum2 h3
  have h1 := l0_step (x0 := ((3 : Nat) : Int)) (x23 := ((3 : Nat) : Int)) 1 (by omega) (by decide) sum1 h2
  have h0 := l0_step (x0 := ((3 : Nat) : Int)) (x23 := ((3 : Nat) : Int)) 0 (by omega) (by decide) sum0 h1
  obtain ⟨k, _, h⟩ := h0
  exact ⟨k, h⟩
theorem coins4 : ∃ k, lotdrawertop_TopCoins.l0 k ((4 : Nat) : Int) [1] ((4 : Nat) : Int) 0 = some true := by
  have h4 := l0_last (n := 4) (by omega) shift4 runs4 last4
  have h3 := l0_step (x0 := ((4 : Nat) : Int)) (x23 := ((4 : Nat) : Int)) 3 (by omega) (by decide) sum3 h4
  have h2 := l0_step (x0 := ((4 : Nat) : Int)) (x23 := ((4 : Nat) : Int)) 2 (by omega) (by decide) sum2 h3
  have h1 := l0_step (x0 := ((4 : Nat) : Int)) (x23 := ((4 : Nat) : Int)) 1 (by omega) (by decide) sum1 h2
  have h0 := l0_step (x0 := ((4 : Nat) : Int)) (x23 := ((4 : Nat) : Int)) 0 (by omega) (by decide) sum0 h1
  obtain ⟨k, _, h⟩ := h0
  exact ⟨k, h⟩
theorem coins5 : ∃ k, lotdrawertop_TopCoins.l0 k ((5 : Nat) : Int) [1] ((5 : Nat) : Int) 0 = some true := by
  have h5 := l0_last (n := 5) (by omega) shift5 runs5 last5
  have h4 := l0_step (x0 := ((5 : Nat) : Int)) (x23 := ((5 : Nat) : Int)) 4 (by omega) (by decide) sum4 h5
  have h3 := l0_step (x0 := ((5 : Nat) : Int)) (x23 := ((5 : Nat) : Int)) 3 (by omega) (by decide) sum3 h4
  have h2 := l0_step (x0 := ((5 : Nat) : Int)) (x23 := ((5 : Nat) : Int)) 2 (by omega) (by decide) sum2 h3
  have h1 := l0_step (x0 := ((5 : Nat) : Int)) (x23 := ((5 : Nat) : Int)) 1 (by omega) (by decide) sum1 h2
  have h0 := l0_step (x0 := ((5 : Nat) : Int)) (x23 := ((5 : Nat) : Int)) 0 (by omega) (by decide) sum0 h1
  obtain ⟨k, _, h⟩ := h0
  exact ⟨k, h⟩
theorem coins6 : ∃ k, lotdrawertop_TopCoins.l0 k ((6 : Nat) : Int) [1] ((6 : Nat) : Int) 0 = some true := by
  have h6 := l0_last (n := 6) (by omega) shift6 runs6 last6
  have h5 := l0_step (x0 := ((6 : Nat) : Int)) (x23 := ((6 : Nat) : Int)) 5 (by omega) (by decide) sum5 h6
  have h4 := l0_step (x0 := ((6 : Nat) : Int)) (x23 := ((6 : Nat) : Int)) 4 (by omega) (by decide) sum4 h5
  have h3 := l0_step (x0 := ((6 : Nat) : Int)) (x23 := ((6 : Nat) : Int)) 3 (by omega) (by decide) sum3 h4
  have h2 := l0_step (x0 := ((6 : Nat) : Int)) (x23 := ((6 : Nat) : Int)) 2 (by omega) (by decide) sum2 h3
  have h1 := l0_step (x0 := ((6 : Nat) : Int)) (x23 := ((6 : Nat) : Int)) 1 (by omega) (by decide) sum1 h2
  have h0 := l0_step (x0 := ((6 : Nat) : Int)) (x23 := ((6 : Nat) : Int)) 0 (by omega) (by decide) sum0 h1
  obtain ⟨k, _, h⟩ := h0
  exact ⟨k, h⟩
theorem coins7 : ∃ k, lotdrawertop_TopCoins.l0 k ((7 : Nat) : Int) [1] ((7 : Nat) : Int) 0 = some true := by
  have h7 := l0_last (n := 7) (by omega) shift7 runs7 last7
  have h6 := l0_step (x0 := ((7 : Nat) : Int)) (x23 := ((7 : Nat) : Int)) 6 (by omega) (by decide) sum6 h7
  have h5 := l0_step (x0 := ((7 : Nat) : Int)) (x23 := ((7 : Nat) : Int)) 5 (by omega) (by decide) sum5 h6
  have h4 := l0_step (x0 := ((7 : Nat) : Int)) (x23 := ((7 : Nat) : Int)) 4 (by omega) (by decide) sum4 h5
  have h3 := l0_step (x0 := ((7 : Nat) : Int)) (x23 := ((7 : Nat) : Int)) 3 (by omega) (by decide) sum3 h4
  have h2 := l0_step (x0 := ((7 : Nat) : Int)) (x23 := ((7 : Nat) : Int)) 2 (by omega) (by decide) sum2 h3
  have h1 := l0_step (x0 := ((7 : Nat) : Int)) (x23 := ((7 : Nat) : Int)) 1 (by omega) (by decide) sum1 h2
  have h0 := l0_step (x0 := ((7 : Nat) : Int)) (x23 := ((7 : Nat) : Int)) 0 (by omega) (by decide) sum0 h1
  obtain ⟨k, _, h⟩ := h0
  exact ⟨k, h⟩
theorem coins8 : ∃ k, lotdrawertop_TopCoins.l0 k ((8 : Nat) : Int) [1] ((8 : Nat) : Int) 0 = some true := by
  have h8 := l0_last (n := 8) (by omega) shift8 runs8 last8
  have h7 := l0_step (x0 := ((8 : Nat) : Int)) (x23 := ((8 : Nat) : Int)) 7 (by omega) (by decide) sum7 h8
  have h6 := l0_step (x0 := ((8 : Nat) : Int)) (x23 := ((8 : Nat) : Int)) 6 (by omega) (by decide) sum6 h7
  have h5 := l0_step (x0 := ((8 : Nat) : Int)) (x23 := ((8 : Nat) : Int)) 5 (by omega) (by decide) sum5 h6
  have h4 := l0_step (x0 := ((8 : Nat) : Int)) (x23 := ((8 : Nat) : Int)) 4 (by omega) (by decide) sum4 h5
  have h3 := l0_step (x0 := ((8 : Nat) : Int)) (x23 := ((8 : Nat) : Int)) 3 (by omega) (by decide) sum3 h4
  have h2 := l0_step (x0 := ((8 : Nat) : Int)) (x23 := ((8 : Nat) : Int)) 2 (by omega) (by decide) sum2 h3
  have h1 := l0_step (x0 := ((8 : Nat) : Int)) (x23 := ((8 : Nat) : Int)) 1 (by omega) (by decide) sum1 h2
  have h0 := l0_step (x0 := ((8 : Nat) : Int)) (x23 := ((8 : Nat) : Int)) 0 (by omega) (by decide) sum0 h1
  obtain ⟨k, _, h⟩ := h0
  exact ⟨k, h⟩
theorem coins9 : ∃ k, lotdrawertop_TopCoins.l0 k ((9 : Nat) : Int) [1] ((9 : Nat) : Int) 0 = some true := by
  have h9 := l0_last (n := 9) (by omega) shift9 runs9 last9
  have h8 := l0_step (x0 := ((9 : Nat) : Int)) (x23 := ((9 : Nat) : Int)) 8 (by omega) (by decide) sum8 h9
  have h7 := l0_step (x0 := ((9 : Nat) : Int)) (x23 := ((9 : Nat) : Int)) 7 (by omega) (by decide) sum7 h8
  have h6 := l0_step (x0 := ((9 : Nat) : Int)) (x23 := ((9 : Nat) : Int)) 6 (by omega) (by decide) sum6 h7
  have h5 := l0_step (x0 := ((9 : Nat) : Int)) (x23 := ((9 : Nat) : Int)) 5 (by omega) (by decide) sum5 h6
  have h4 := l0_step (x0 := ((9 : Nat) : Int)) (x23 := ((9 : Nat) : Int)) 4 (by omega) (by decide) sum4 h5
  have h3 := l0_step (x0 := ((9 : Nat) : Int)) (x23 := ((9 : Nat) : Int)) 3 (by omega) (by decide) sum3 h4
  have h2 := l0_step (x0 := ((9 : Nat) : Int)) (x23 := ((9 : Nat) : Int)) 2 (by omega) (by decide) sum2 h3
  have h1 := l0_step (x0 := ((9 : Nat) : Int)) (x23 := ((9 : Nat) : Int)) 1 (by omega) (by decide) sum1 h2
  have h0 := l0_step (x0 := ((9 : Nat) : Int)) (x23 := ((9 : Nat) : Int)) 0 (by omega) (by decide) sum0 h1
  obtain ⟨k, _, h⟩ := h0
  exact ⟨k, h⟩
theorem coins10 : ∃ k, lotdrawertop_TopCoins.l0 k ((10 : Nat) : Int) [1] ((10 : Nat) : Int) 0 = some true := by
  have h10 := l0_last (n := 10) (by omega) shift10 runs10 last10
  have h9 := l0_step (x0 := ((10 : Nat) : Int)) (x23 := ((10 : Nat) : Int)) 9 (by omega) (by decide) sum9 h10
  have h8 := l0_step (x0 := ((10 : Nat) : Int)) (x23 := ((10 : Nat) : Int)) 8 (by omega) (by decide) sum8 h9
  have h7 := l0_step (x0 := ((10 : Nat) : Int)) (x23 := ((10 : Nat) : Int)) 7 (by omega) (by decide) sum7 h8
  have h6 := l0_step (x0 := ((10 : Nat) : Int)) (x23 := ((10 : Nat) : Int)) 6 (by omega) (by decide) sum6 h7
  have h5 := l0_step (x0 := ((10 : Nat) : Int)) (x23 := ((10 : Nat) : Int)) 5 (by omega) (by decide) sum5 h6
  have h4 := l0_step (x0 := ((10 : Nat) : Int)) (x23 := ((10 : Nat) : Int)) 4 (by omega) (by decide) sum4 h5
  have h3 := l0_step (x0 := ((10 : Nat) : Int)) (x23 := ((10 : Nat) : Int)) 3 (by omega) (by decide) sum3 h4
  have h2 := l0_step (x0 := ((10 : Nat) : Int)) (x23 := ((10 : Nat) : Int)) 2 (by omega) (by decide) sum2 h3
  have h1 := l0_step (x0 := ((10 : Nat) : Int)) (x23 := ((10 : Nat) : Int)) 1 (by omega) (by decide) sum1 h2
  have h0 := l0_step (x0 := ((10 : Nat) : Int)) (x23 := ((10 : Nat) : Int)) 0 (by omega) (by decide) sum0 h1
  obtain ⟨k, _, h⟩ := h0
  exact ⟨k, h⟩
theorem coins11 : ∃ k, lotdrawertop_TopCoins.l0 k ((11 : Nat) : Int) [1] ((11 : Nat) : Int) 0 = some true := by
  have h11 := l0_last (n := 11) (by omega) shift11 runs11 last11
  have h10 := l0_step (x0 := ((11 : Nat) : Int)) (x23 := ((11 : Nat) : Int)) 10 (by omega) (by decide) sum10 h11
  have h9 := l0_step (x0 := ((11 : Nat) : Int)) (x23 := ((11 : Nat) : Int)) 9 (by omega) (by decide) sum9 h10
  have h8 := l0_step (x0 := ((11 : Nat) : Int)) (x23 := ((11 : Nat) : Int)) 8 (by omega) (by decide) sum8 h9
  have h7 := l0_step (x0 := ((11 : Nat) : Int)) (x23 := ((11 : Nat) : Int)) 7 (by omega) (by decide) sum7 h8
  have h6 := l0_step (x0 := ((11 : Nat) : Int)) (x23 := ((11 : Nat) : Int)) 6 (by omega) (by decide) sum6 h7
  have h5 := l0_step (x0 := ((11 : Nat) : Int)) (x23 := ((11 : Nat) : Int)) 5 (by omega) (by decide) sum5 h6
  have h4 := l0_step (x0 := ((11 : Nat) : Int)) (x23 := ((11 : Nat) : Int)) 4 (by omega) (by decide) sum4 h5
  have h3 := l0_step (x0 := ((11 : Nat) : Int)) (x23 := ((11 : Nat) : Int)) 3 (by omega) (by decide) sum3 h4
  have h2 := l0_step (x0 := ((11 : Nat) : Int)) (x23 := ((11 : Nat) : Int)) 2 (by omega) (by decide) sum2 h3
  have h1 := l0_step (x0 := ((11 : Nat) : Int)) (x23 := ((11 : Nat) : Int)) 1 (by omega) (by decide) sum1 h2
  have h0 := l0_step (x0 := ((11 : Nat) : Int)) (x23 := ((11 : Nat) : Int)) 0 (by omega) (by decide) sum0 h1
  obtain ⟨k, _, h⟩ := h0
  exact ⟨k, h⟩
theorem coins12 : ∃ k, lotdrawertop_TopCoins.l0 k ((12 : Nat) : Int) [1] ((12 : Nat) : Int) 0 = some true := by
  have h12 := l0_last (n := 12) (by omega) shift12 runs12 last12
  have h11 := l0_step (x0 := ((12 : Nat) : Int)) (x23 := ((12 : Nat) : Int)) 11 (by omega) (by decide) sum11 h12
  have h10 := l0_step (x0 := ((12 : Nat) : Int)) (x23 := ((12 : Nat) : Int)) 10 (by omega) (by decide) sum10 h11
  have h9 := l0_step (x0 := ((12 : Nat) : Int)) (x23 := ((12 : Nat) : Int)) 9 (by omega) (by decide) sum9 h10
  have h8 := l0_step (x0 := ((12 : Nat) : Int)) (x23 := ((12 : Nat) : Int)) 8 (by omega) (by decide) sum8 h9
  have h7 := l0_step (x0 := ((12 : Nat) : Int)) (x23 := ((12 : Nat) : Int)) 7 (by omega) (by decide) sum7 h8
  have h6 := l0_step (x0 := ((12 : Nat) : Int)) (x23 := ((12 : Nat) : Int)) 6 (by omega) (by decide) sum6 h7
  have h5 := l0_step (x0 := ((12 : Nat) : Int)) (x23 := ((12 : Nat) : Int)) 5 (by omega) (by decide) sum5 h6
  have h4 := l0_step (x0 := ((12 : Nat) : Int)) (x23 := ((12 : Nat) : Int)) 4 (by omega) (by decide) sum4 h5
  have h3 := l0_step (x0 := ((12 : Nat) : Int)) (x23 := ((12 : Nat) : Int)) 3 (by omega) (by decide) sum3 h4
  have h2 := l0_step (x0 := ((12 : Nat) : Int)) (x23 := ((12 : Nat) : Int)) 2 (by omega) (by decide) sum2 h3
  have h1 := l0_step (x0 := ((12 : Nat) : Int)) (x23 := ((12 : Nat) : Int)) 1 (by omega) (by decide) sum1 h2
  have h0 := l0_step (x0 := ((12 : Nat) : Int)) (x23 := ((12 : Nat) : Int)) 0 (by omega) (by decide) sum0 h1
  obtain ⟨k, _, h⟩ := h0
  exact ⟨k, h⟩
theorem coins13 : ∃ k, lotdrawertop_TopCoins.l0 k ((13 : Nat) : Int) [1] ((13 : Nat) : Int) 0 = some true := by
  have h13 := l0_last (n := 13) (by omega) shift13 runs13 last13
  have h12 := l0_step (x0 := ((13 : Nat) : Int)) (x23 := ((13 : Nat) : Int)) 12 (by omega) (by decide) sum12 h13
  have h11 := l0_step (x0 := ((13 : Nat) : Int)) (x23 := ((13 : Nat) : Int)) 11 (by omega) (by decide) sum11 h12
  have h10 := l0_step (x0 := ((13 : Nat) : Int)) (x23 := ((13 : Nat) : Int)) 10 (by omega) (by decide) sum10 h11
  have h9 := l0_step (x0 := ((13 : Nat) : Int)) (x23 := ((13 : Nat) : Int)) 9 (by omega) (by decide) sum9 h10
  have h8 := l0_step (x0 := ((13 : Nat) : Int)) (x23 := ((13 : Nat) : Int)) 8 (by omega) (by decide) sum8 h9
  have h7 := l0_step (x0 := ((13 : Nat) : Int)) (x23 := ((13 : Nat) : Int)) 7 (by omega) (by decide) sum7 h8
  have h6 := l0_step (x0 := ((13 : Nat) : Int)) (x23 := ((13 : Nat) : Int)) 6 (by omega) (by decide) sum6 h7
  have h5 := l0_step (x0 := ((13 : Nat) : Int)) (x23 := ((13 : Nat) : Int)) 5 (by omega) (by decide) sum5 h6
  have h4 := l0_step (x0 := ((13 : Nat) : Int)) (x23 := ((13 : Nat) : Int)) 4 (by omega) (by decide) sum4 h5
  have h3 := l0_step (x0 := ((13 : Nat) : Int)) (x23 := ((13 : Nat) : Int)) 3 (by omega) (by decide) sum3 h4
  have h2 := l0_step (x0 := ((13 : Nat) : Int)) (x23 := ((13 : Nat) : Int)) 2 (by omega) (by decide) sum2 h3
  have h1 := l0_step (x0 := ((13 : Nat) : Int)) (x23 := ((13 : Nat) : Int)) 1 (by omega) (by decide) sum1 h2
  have h0 := l0_step (x0 := ((13 : Nat) : Int)) (x23 := ((13 : Nat) : Int)) 0 (by omega) (by decide) sum0 h1
  obtain ⟨k, _, h⟩ := h0
  exact ⟨k, h⟩
theorem coins14 : ∃ k, lotdrawertop_TopCoins.l0 k ((14 : Nat) : Int) [1] ((14 : Nat) : Int) 0 = some true := by
  have h14 := l0_last (n := 14) (by omega) shift14 runs14 last14
  have h13 := l0_step (x0 := ((14 : Nat) : Int)) (x23 := ((14 : Nat) : Int)) 13 (by omega) (by decide) sum13 h14
  have h12 := l0_step (x0 := ((14 : Nat) : Int)) (x23 := ((14 : Nat) : Int)) 12 (by omega) (by decide) sum12 h13
  have h11 := l0_step (x0 := ((14 : Nat) : Int)) (x23 := ((14 : Nat) : Int)) 11 (by omega) (by decide) sum11 h12
  have h10 := l0_step (x0 := ((14 : Nat) : Int)) (x23 := ((14 : Nat) : Int)) 10 (by omega) (by decide) sum10 h11
  have h9 := l0_step (x0 := ((14 : Nat) : Int)) (x23 := ((14 : Nat) : Int)) 9 (by omega) (by decide) sum9 h10
  have h8 := l0_step (x0 := ((14 : Nat) : Int)) (x23 := ((14 : Nat) : Int)) 8 (by omega) (by decide) sum8 h9
  have h7 := l0_step (x0 := ((14 : Nat) : Int)) (x23 := ((14 : Nat) : Int)) 7 (by omega) (by decide) sum7 h8
  have h6 := l0_step (x0 := ((14 : Nat) : Int)) (x23 := ((14 : Nat) : Int)) 6 (by omega) (by decide) sum6 h7
  have h5 := l0_step (x0 := ((14 : Nat) : Int)) (x23 := ((14 : Nat) : Int)) 5 (by omega) (by decide) sum5 h6
  have h4 := l0_step (x0 := ((14 : Nat) : Int)) (x23 := ((14 : Nat) : Int)) 4 (by omega) (by decide) sum4 h5
  have h3 := l0_step (x0 := ((14 : Nat) : Int)) (x23 := ((14 : Nat) : Int)) 3 (by omega) (by decide) sum3 h4
  have h2 := l0_step (x0 := ((14 : Nat) : Int)) (x23 := ((14 : Nat) : Int)) 2 (by omega) (by decide) sum2 h3
  have h1 := l0_step (x0 := ((14 : Nat) : Int)) (x23 := ((14 : Nat) : Int)) 1 (by omega) (by decide) sum1 h2
  have h0 := l0_step (x0 := ((14 : Nat) : Int)) (x23 := ((14 : Nat) : Int)) 0 (by omega) (by decide) sum0 h1
  obtain ⟨k, _, h⟩ := h0
  exact ⟨k, h⟩
theorem TopCoins : lotdrawertop_TopCoins.Pure := by
  intro a _
  have key : ∀ n : Nat, n ≤ 14 → (∃ k, lotdrawertop_TopCoins.l0 k (n : Int) [1] (n : Int) 0 = some true) → ∃ k, lotdrawertop_TopCoins.f k (n : Int) = some true := by
    intro n hn ⟨k, hk⟩
    refine ⟨k + 60 + 1, ?_⟩
    unfold lotdrawertop_TopCoins.f
    rw [at_rounds lotdrawertop_alive.mono (show 60 ≤ k + 60 + 1 by omega) alive9]
    simp only [Option.bind_some, if_true]
    rw [if_neg (by omega), decide_eq_false (by omega)]
    simp only [lotdrawertop_TopCoins.j0]
    rw [if_neg (by decide)]
    exact at_rounds (fun k => (lotdrawertop_TopCoins.mono_l k).2.1 _ _ _ _) (show k ≤ k + 60 by omega) hk
  by_cases h : 0 ≤ a ∧ a ≤ 14
  · obtain ⟨n, rfl⟩ := Int.eq_ofNat_of_zero_le h.1
    have hn : n = 0 ∨ n = 1 ∨ n = 2 ∨ n = 3 ∨ n = 4 ∨ n = 5 ∨ n = 6 ∨ n = 7 ∨ n = 8 ∨ n = 9 ∨ n = 10 ∨ n = 11 ∨ n = 12 ∨ n = 13 ∨ n = 14 := by omega
    rcases hn with rfl | rfl | rfl | rfl | rfl | rfl | rfl | rfl | rfl | rfl | rfl | rfl | rfl | rfl | rfl
    · exact key 0 (by omega) coins0
    · exact key 1 (by omega) coins1
    · exact key 2 (by omega) coins2
    · exact key 3 (by omega) coins3
    · exact key 4 (by omega) coins4
    · exact key 5 (by omega) coins5
    · exact key 6 (by omega) coins6
    · exact key 7 (by omega) coins7
    · exact key 8 (by omega) coins8
    · exact key 9 (by omega) coins9
    · exact key 10 (by omega) coins10
    · exact key 11 (by omega) coins11
    · exact key 12 (by omega) coins12
    · exact key 13 (by omega) coins13
    · exact key 14 (by omega) coins14
  · refine ⟨60, ?_⟩
    unfold lotdrawertop_TopCoins.f
    rw [alive9]
    simp only [Option.bind_some, if_true]
    by_cases h0 : a < 0
    · rw [if_pos h0]
      rfl
    · rw [if_neg h0, decide_eq_true (by omega)]
      rfl
end Go.Proofs.YtioppgeackgjnaaDoor.Coins
