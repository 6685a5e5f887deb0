/- The rank: no two words are ranked alike; rows that rise by it are told by their members. -/
import Derived.Test.YthhbdampbpndpaaBo1
namespace Go.Proofs.Ythhbdampbpndpaa.Rk
open Go.RowKit Go.Proofs.Ythhbdampbpndpaa.Bo
set_option linter.unusedVariables false
def Word (x : Int) : Prop := 0 ≤ x ∧ x < 18446744073709551616
instance (x : Int) : Decidable (Word x) := by unfold Word; infer_instance
theorem xor_nat (a b : Nat) (ha : a < 18446744073709551616) (hb : b < 18446744073709551616) : Go.bits .xor .u64 (a : Int) (b : Int) = ((a ^^^ b : Nat) : Int) := by
  have hw : (a ^^^ b) < 2 ^ 64 := Nat.xor_lt_two_pow (by omega) (by omega)
  have ha' : a % 2 ^ IntKind.u64.bits = a := Nat.mod_eq_of_lt (by simpa [IntKind.bits] using ha)
  have hb' : b % 2 ^ IntKind.u64.bits = b := Nat.mod_eq_of_lt (by simpa [IntKind.bits] using hb)
  simp only [Go.bits, BitVec.ofInt_natCast, BitVec.toNat_xor, BitVec.toNat_ofNat, ha', hb']
  simp [IntKind.wrap, IntKind.bits, IntKind.signed]
  omega
theorem wrap_nat (a : Nat) : IntKind.u64.wrap (a : Int) = ((a % 18446744073709551616 : Nat) : Int) := by
  simp [IntKind.wrap, IntKind.bits, IntKind.signed]
def sx (a s : Nat) : Nat := a ^^^ (a / 2 ^ s)
theorem sx_lt {a s : Nat} (h : a < 18446744073709551616) : sx a s < 18446744073709551616 := by
  have : a / 2 ^ s ≤ a := Nat.div_le_self _ _
  exact Nat.xor_lt_two_pow (n := 64) (by omega) (by omega)
theorem sx_inj {a b s : Nat} (hs : 1 ≤ s) (h : sx a s = sx b s) : a = b := by
  have hz : (a ^^^ b) = (a ^^^ b) / 2 ^ s := by
    have e : (a ^^^ b) / 2 ^ s = (a / 2 ^ s) ^^^ (b / 2 ^ s) := by
      rw [← Nat.shiftRight_eq_div_pow, ← Nat.shiftRight_eq_div_pow, ← Nat.shiftRight_eq_div_pow, Nat.shiftRight_xor_distrib]
    unfold sx at h
    have h2 : (a ^^^ (a / 2 ^ s)) ^^^ (b ^^^ (b / 2 ^ s)) = 0 := by rw [h, Nat.xor_self]
    have h3 : (a ^^^ b) ^^^ ((a / 2 ^ s) ^^^ (b / 2 ^ s)) = 0 := by
      rw [← h2, Nat.xor_assoc, Nat.xor_assoc, ← Nat.xor_assoc b, Nat.xor_comm b (a / 2 ^ s), Nat.xor_assoc]
    rw [e]
    have h4 := congrArg (fun z => z ^^^ ((a / 2 ^ s) ^^^ (b / 2 ^ s))) h3
    simpa [Nat.xor_assoc] using h4
  have hp : 2 ≤ 2 ^ s := by
    have := Nat.pow_le_pow_right (n := 2) (by decide) hs
    simpa using this
  have h0 : (a ^^^ b) = 0 := by
    rcases Nat.eq_zero_or_pos (a ^^^ b) with h0 | h0
    · exact h0
    · have := Nat.div_lt_self h0 (show 1 < 2 ^ s by omega)
      omega
  have h5 := congrArg (fun z => z ^^^ b) h0
  simpa [Nat.xor_assoc] using h5
theorem mul_inj {a b c d : Nat} (hc : c * d % 18446744073709551616 = 1) (ha : a < 18446744073709551616) (hb : b < 18446744073709551616) (h : a * c % 18446744073709551616 = b * c % 18446744073709551616) : a = b := by
  have e : ∀ x : Nat, x < 18446744073709551616 → (x * c % 18446744073709551616) * d % 18446744073709551616 = x := fun x hx => by
    rw [Nat.mod_mul_mod, Nat.mul_assoc, Nat.mul_mod, hc, Nat.mul_one, Nat.mod_mod, Nat.mod_eq_of_lt hx]
  rw [← e a ha, h, e b hb]
def mixN (x : Nat) : Nat := sx (sx (sx x 30 * 13787848793156543929 % 18446744073709551616) 27 * 10723151780598845931 % 18446744073709551616) 31
theorem mixN_inj {a b : Nat} (ha : a < 18446744073709551616) (hb : b < 18446744073709551616) (h : mixN a = mixN b) : a = b := by
  have h1 := sx_inj (by decide) h
  have h2 := mul_inj (d := 3573116690164977347) (by decide) (sx_lt (Nat.mod_lt _ (by decide))) (sx_lt (Nat.mod_lt _ (by decide))) h1
  have h3 := sx_inj (by decide) h2
  have h4 := mul_inj (d := 10871156337175269513) (by decide) (sx_lt ha) (sx_lt hb) h3
  exact sx_inj (by decide) h4
theorem sx_int (a s : Nat) (d : Int) (hd : d = ((2 ^ s : Nat) : Int)) (ha : a < 18446744073709551616) : Go.bits .xor .u64 (a : Int) ((a : Int) / d) = ((sx a s : Nat) : Int) := by
  have : a / 2 ^ s ≤ a := Nat.div_le_self _ _
  rw [hd, ← Int.natCast_ediv, xor_nat a (a / 2 ^ s) ha (by omega)]
  rfl
theorem mul_int (a c : Nat) (d : Int) (hd : d = (c : Int)) : IntKind.u64.wrap ((a : Int) * d) = ((a * c % 18446744073709551616 : Nat) : Int) := by
  rw [hd, ← Int.natCast_mul, wrap_nat]
theorem mix_some (x : Nat) (hx : x < 18446744073709551616) : bottom_Mix.f (x : Int) = some ((mixN x : Nat) : Int) := by
  unfold bottom_Mix.f
  rw [sx_int x 30 1073741824 (by decide) hx, mul_int _ 13787848793156543929 13787848793156543929 (by decide), sx_int _ 27 134217728 (by decide) (Nat.mod_lt _ (by decide)), mul_int _ 10723151780598845931 10723151780598845931 (by decide), sx_int _ 31 2147483648 (by decide) (Nat.mod_lt _ (by decide))]
  rfl
/-- The rank of a word. -/
def rk (seed x : Int) : Int := ((mixN (x.toNat ^^^ seed.toNat) : Nat) : Int)
theorem rank_some {seed x : Int} (hs : Word seed) (hx : Word x) : bottom_rank.f seed x = some (rk seed x) := by
  obtain ⟨s, rfl⟩ := Int.eq_ofNat_of_zero_le hs.1
  obtain ⟨y, rfl⟩ := Int.eq_ofNat_of_zero_le hx.1
  have h1 : s < 18446744073709551616 := by have := hs.2; omega
  have h2 : y < 18446744073709551616 := by have := hx.2; omega
  unfold bottom_rank.f
  rw [xor_nat y s h2 h1, mix_some _ (Nat.xor_lt_two_pow (n := 64) (by omega) (by omega)), Option.bind_some]
  rfl
theorem rk_inj {seed x y : Int} (hs : Word seed) (hx : Word x) (hy : Word y) (h : rk seed x = rk seed y) : x = y := by
  have hs2 := hs.2
  have hx1 := hx.1
  have hx2 := hx.2
  have hy1 := hy.1
  have hy2 := hy.2
  have hs1 := hs.1
  have h1 : mixN (x.toNat ^^^ seed.toNat) = mixN (y.toNat ^^^ seed.toNat) := by
    unfold rk at h
    omega
  have h2 := mixN_inj (Nat.xor_lt_two_pow (n := 64) (by omega) (by omega)) (Nat.xor_lt_two_pow (n := 64) (by omega) (by omega)) h1
  have h3 := congrArg (fun z => z ^^^ seed.toNat) h2
  have h4 : x.toNat = y.toNat := by simpa [Nat.xor_assoc] using h3
  omega
end Go.Proofs.Ythhbdampbpndpaa.Rk
