/- The bits of a Gray word, counted; a run of the loop over the words. -/
import Derived.Test.YtioppgeackgjnaaDoorBt34
namespace Go.Proofs.YtioppgeackgjnaaDoor.Coins
open Go.RowKit Go.Proofs.YtioppgeackgjnaaDoor.Bt Go.Proofs.YtioppgeackgjnaaDoorW.PrintWords Go.Proofs.YtioppgeackgjnaaDoorW.PrintLast
set_option linter.unusedVariables false

def popN : Nat → Nat → Nat
  | 0, _ => 0
  | k + 1, y => y % 2 + popN k (y / 2)
def gp (x : Nat) : Nat := popN 14 (x ^^^ (x >>> 1))
theorem popN_le : ∀ (k n y : Nat), y < 2 ^ n → popN k y ≤ n
  | 0, n, y, _ => Nat.zero_le n
  | k + 1, 0, y, h => by
    have : y = 0 := by simpa using h
    subst this
    have := popN_le k 0 0 (by simp)
    simp only [popN, Nat.zero_mod, Nat.zero_div]
    omega
  | k + 1, n + 1, y, h => by
    have := popN_le k n (y / 2) (by rw [Nat.pow_succ] at h; omega)
    simp only [popN]
    omega
theorem gp_le {n x : Nat} (h : x < 2 ^ n) : gp x ≤ n := by
  refine popN_le 14 n _ (Nat.xor_lt_two_pow h ?_)
  rw [Nat.shiftRight_eq_div_pow]
  exact Nat.lt_of_le_of_lt (Nat.div_le_self _ _) h
def run : Nat → Nat → List Int → List Int
  | 0, _, w => w
  | m + 1, x, w => run m (x + 1) (w.set (gp x) (wrap64 (rd w (gp x : Int) + 1)))
theorem run_length : ∀ (m x : Nat) (w : List Int), (run m x w).length = w.length
  | 0, _, _ => rfl
  | m + 1, x, w => by
    simp only [run]
    rw [run_length m, List.length_set]
theorem run_add : ∀ (a b x : Nat) (w : List Int), run (a + b) x w = run b (x + a) (run a x w)
  | 0, b, x, w => by simp [run]
  | a + 1, b, x, w => by
    rw [show a + 1 + b = (a + b) + 1 by omega]
    simp only [run]
    rw [run_add a b, show x + 1 + a = x + (a + 1) by omega]
theorem wrap_u {x : Nat} (h : x < 1000000) : IntKind.u64.wrap ((x : Int) + 1) = ((x + 1 : Nat) : Int) := by
  have e : ((x : Int) + 1) % 18446744073709551616 = (x : Int) + 1 := by omega
  simp [IntKind.wrap, IntKind.bits, IntKind.signed, e]
def Counts : Prop := ∀ x : Nat, x < 16384 → bits_OnesCount64.f (Go.bits .xor .u64 (x : Int) ((x : Int) / 2)) = some ((gp x : Nat) : Int)
theorem l1_step {k : Nat} {x0 : Int} {s x6 : List Int} {x40 x41 : Int} {res : Bool} {c t : Int} (h1 : x41 < x40) (h2 : gray_Code.f x41 = some c) (h3 : bits_OnesCount64.f c = some t) (h4 : ¬ t > x0) (h5 : 0 ≤ t) (h6 : t < (x6.length : Int))
    (hr : lotdrawertop_TopCoins.l1 k x0 s (x6.set t.toNat (wrap64 ((rd x6 t) + 1))) x40 (IntKind.u64.wrap (x41 + 1)) = some res) : lotdrawertop_TopCoins.l1 (k + 1) x0 s x6 x40 x41 = some res := by
  rw [lotdrawertop_TopCoins.l1, if_pos h1, h2, Option.bind_some, h3, Option.bind_some, if_neg h4, if_pos h5, if_pos h6]
  exact hr
/-- The loop over the words is a run. -/
theorem l1_run (hP : Counts) {n : Nat} (hn : n ≤ 14) (s : List Int) {k : Nat} {res : Bool} : ∀ (m x : Nat) (wd : List Int), x + m = 2 ^ n → wd.length = n + 1 →
    lotdrawertop_TopCoins.l2 k (n : Int) s (run m x wd) (wrap64 ((n : Int) + 1)) 0 = some res → lotdrawertop_TopCoins.l1 (m + 1 + k) (n : Int) s wd ((2 ^ n : Nat) : Int) (x : Int) = some res := by
  have h14 : 2 ^ n ≤ 16384 := Nat.le_trans (Nat.pow_le_pow_right (by omega) hn) (by decide)
  intro m
  induction m with
  | zero =>
    intro x wd hx hl h
    rw [show 0 + 1 + k = k + 1 by omega]
    simp only [lotdrawertop_TopCoins.l1]
    rw [if_neg (by omega)]
    exact h
  | succ m ih =>
    intro x wd hx hl h
    have hg := gp_le (n := n) (x := x) (by omega)
    rw [show m + 1 + 1 + k = (m + 1 + k) + 1 by omega]
    have hr := ih (x + 1) _ (by omega) (by rw [List.length_set]; exact hl) h
    rw [← wrap_u (x := x) (by omega)] at hr
    exact l1_step (c := Go.bits .xor .u64 (x : Int) ((x : Int) / 2)) (t := ((gp x : Nat) : Int)) (by omega) rfl (hP x (by omega)) (by omega) (by omega) (by omega) hr
end Go.Proofs.YtioppgeackgjnaaDoor.Coins
