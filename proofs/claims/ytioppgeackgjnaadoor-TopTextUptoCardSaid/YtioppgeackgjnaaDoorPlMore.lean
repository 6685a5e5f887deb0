/- bench.Tell: a line for each, told by those ahead of it. -/
import Derived.Test.YtioppgeackgjnaaDoorPlTell
import Derived.Lib.ItoaLen
namespace Go.Proofs.YtioppgeackgjnaaDoor.Txt
open Go.RowKit Go.Proofs.YtioppgeackgjnaaDoor.Bt Go.Proofs.YtioppgeackgjnaaDoorW.PrintWords Go.Proofs.YtioppgeackgjnaaDoorW.PrintLast
set_option linter.unusedVariables false
abbrev Pool := Int × Int × List Int
def addS (p : Pool) (c : S36) : Int × Int × List Int × Int := (pool_Add.f p.1 p.2.1 p.2.2 c.f0 c.f1).getD (0, 0, [], 1)
def itoaB (v : Int) : ByteArray := ⟨(Lib.itoa v).toArray⟩
def lineS (p : Pool) (c : S36) : ByteArray := if (addS p c).2.2.2 = 0 then ⟨#[111, 107]⟩ else (⟨#[101, 114, 114, 111, 114, 32]⟩ : ByteArray) ++ itoaB (addS p c).2.2.2
def nextS (p : Pool) (c : S36) : Pool := if (addS p c).2.2.2 = 0 then ((addS p c).1, (addS p c).2.1, (addS p c).2.2.1) else p
def linesS : Pool → List S36 → List ByteArray
  | _, [] => []
  | p, c :: l => lineS p c :: linesS (nextS p c) l
theorem linesS_length : ∀ (l : List S36) (p : Pool), (linesS p l).length = l.length
  | [], _ => rfl
  | c :: l, p => by simp [linesS, linesS_length l]
theorem linesS_more : ∀ (l m : List S36) (p : Pool), ∃ x, linesS p (l ++ m) = linesS p l ++ x
  | [], m, p => ⟨_, rfl⟩
  | c :: l, m, p => by
    obtain ⟨x, hx⟩ := linesS_more l m (nextS p c)
    exact ⟨x, by rw [List.cons_append, linesS, linesS, hx]; rfl⟩
theorem add_eq {p : Pool} (h : PoolOK p.1 p.2.1 p.2.2) (c : S36) (hc : Fit c.f0) : pool_Add.f p.1 p.2.1 p.2.2 c.f0 c.f1 = some (addS p c) ∧ ((addS p c).2.2.2 = 0 → PoolOK (addS p c).1 (addS p c).2.1 (addS p c).2.2.1) ∧ 0 ≤ (addS p c).2.2.2 ∧ (addS p c).2.2.2 ≤ 4 := by
  obtain ⟨r1, r2, r3, e, h1, h2, h3, h4⟩ := add_total h c.f0 c.f1 hc
  have : addS p c = (r1, r2, r3, e) := by unfold addS; rw [h1]; rfl
  rw [this]
  exact ⟨h1, h2, h3, h4⟩
theorem next_ok {p : Pool} (h : PoolOK p.1 p.2.1 p.2.2) (c : S36) (hc : Fit c.f0) : PoolOK (nextS p c).1 (nextS p c).2.1 (nextS p c).2.2 := by
  obtain ⟨_, h2, _⟩ := add_eq h c hc
  unfold nextS
  split
  · rename_i he
    exact h2 he
  · exact h
theorem itoa_some (v : Int) (h : -9223372036854775808 ≤ v ∧ v ≤ 9223372036854775807) : strconv_Itoa.f v = some (itoaB v) := by
  unfold strconv_Itoa.f
  rw [if_pos h]
  rfl
theorem itoaB_size (v : Int) (h : -9223372036854775808 ≤ v ∧ v ≤ 9223372036854775807) : (itoaB v).size ≤ 21 := by
  have := Lib.itoa_length_le v h.1 h.2
  simpa [itoaB, ByteArray.size] using this
/-- The last line. -/
theorem tell_l1 (has : List Int) (hl : has.length ≤ 400) (hf : ∀ x ∈ has, 0 ≤ x ∧ x ≤ 1099511627776) (out : List ByteArray) (ho : out.length ≤ 8000000000) : ∀ (d k i : Nat) (s : ByteArray), i + d = has.length → d < k → s.size ≤ 100 + 22 * i → ∃ last, bench_Tell.l1 k out s has (has.length : Int) (i : Int) = some (out ++ [last], 0) := by
  intro d
  induction d with
  | zero =>
    intro k i s hi hk hs
    obtain ⟨k, rfl⟩ : ∃ m, k = m + 1 := ⟨k - 1, by omega⟩
    exact ⟨s, by rw [bench_Tell.l1, if_neg (by omega), if_pos (by omega)]⟩
  | succ d ih =>
    intro k i s hi hk hs
    obtain ⟨k, rfl⟩ : ∃ m, k = m + 1 := ⟨k - 1, by omega⟩
    have hlt : i < has.length := by omega
    obtain ⟨f0, f1⟩ := rd_fit hlt hf
    have hz := itoaB_size (rd has (i : Int)) (by omega)
    have hz2 : ((⟨#[32]⟩ : ByteArray) ++ itoaB (rd has (i : Int))).size ≤ 22 := by
      rw [ByteArray.size_append]
      have : (⟨#[32]⟩ : ByteArray).size = 1 := rfl
      omega
    obtain ⟨last, h⟩ := ih k (i + 1) (s ++ ((⟨#[32]⟩ : ByteArray) ++ itoaB (rd has (i : Int)))) (by omega) (by omega) (by rw [ByteArray.size_append]; omega)
    refine ⟨last, ?_⟩
    rw [bench_Tell.l1, if_pos (by omega), if_pos (by omega), if_pos (by omega), itoa_some _ (by omega), Option.bind_some, if_pos (by omega), if_pos (by omega), wrap_ok (by omega) (by omega)]
    exact h
theorem rd_T36_at (done : List S36) (c : S36) (rest : List S36) : rd_T36 (done ++ c :: rest) (done.length : Int) = c := by
  simp [rd_T36]
theorem tell_l0 : ∀ (rest done : List S36) (out : List ByteArray) (p : Pool), PoolOK p.1 p.2.1 p.2.2 → (∀ c ∈ rest, Fit c.f0 ∧ Fit c.f1) → done.length + rest.length ≤ 5000000000 → out.length = done.length →
    ∃ k last, bench_Tell.l0 k out (done ++ rest) ((done.length + rest.length : Nat) : Int) (done.length : Int) p.1 p.2.1 p.2.2 = some (out ++ linesS p rest ++ [last], 0)
  | [], done, out, p, hp, _, hl, ho => by
    have h2 := hp.comes
    obtain ⟨last, h⟩ := tell_l1 p.2.2 (len_le hp) hp.fit out (by simp at hl; omega) p.2.2.length (p.2.2.length + 1) 0 ((⟨#[107, 101, 112, 116, 32]⟩ : ByteArray) ++ itoaB p.2.1) (by omega) (by omega) (by
      have hz := itoaB_size p.2.1 (by omega)
      rw [ByteArray.size_append]
      have : (⟨#[107, 101, 112, 116, 32]⟩ : ByteArray).size = 5 := rfl
      omega)
    have hz := itoaB_size p.2.1 (by omega)
    refine ⟨p.2.2.length + 1 + 1, last, ?_⟩
    rw [bench_Tell.l0, if_neg (by simp), itoa_some _ (by omega), Option.bind_some, if_pos (by omega), linesS, List.append_nil]
    exact h
  | c :: rest, done, out, p, hp, hf, hl, ho => by
    obtain ⟨hc0, hc1⟩ := hf c List.mem_cons_self
    obtain ⟨a1, a2, a3, a4⟩ := add_eq hp c hc0
    have hl' : done.length + (rest.length + 1) ≤ 5000000000 := by simpa using hl
    obtain ⟨k, last, h⟩ := tell_l0 rest (done ++ [c]) (out ++ [lineS p c]) (nextS p c) (next_ok hp c hc0) (fun x hx => hf x (List.mem_cons_of_mem _ hx)) (by simp; omega) (by simp; omega)
    have e1 : (done ++ [c]) ++ rest = done ++ c :: rest := by simp
    have e2 : (((done ++ [c]).length + rest.length : Nat) : Int) = ((done.length + (c :: rest).length : Nat) : Int) := by simp; omega
    have e3 : (((done ++ [c]).length : Nat) : Int) = (done.length : Int) + 1 := by simp
    rw [e1, e2, e3] at h
    refine ⟨k + 1, last, ?_⟩
    rw [bench_Tell.l0, if_pos (by simp; omega), if_pos (by omega), if_pos (by simp; omega), rd_T36_at, a1, Option.bind_some, wrap_ok (by omega) (by omega)]
    have e4 : out ++ linesS p (c :: rest) ++ [last] = out ++ [lineS p c] ++ linesS (nextS p c) rest ++ [last] := by simp [linesS]
    rw [e4]
    by_cases he : (addS p c).2.2.2 = 0
    · have hn : nextS p c = ((addS p c).1, (addS p c).2.1, (addS p c).2.2.1) := by unfold nextS; rw [if_pos he]
      have hline : lineS p c = ⟨#[111, 107]⟩ := by unfold lineS; rw [if_pos he]
      rw [if_pos he, if_pos (by omega)]
      rw [hn, hline] at h
      rw [hn, hline]
      exact h
    · have hn : nextS p c = p := by unfold nextS; rw [if_neg he]
      have hline : lineS p c = (⟨#[101, 114, 114, 111, 114, 32]⟩ : ByteArray) ++ itoaB (addS p c).2.2.2 := by unfold lineS; rw [if_neg he]
      have hz := itoaB_size (addS p c).2.2.2 (by omega)
      rw [if_neg he, itoa_some _ (by omega), Option.bind_some, if_pos (by omega), if_pos (by omega)]
      rw [hn, hline] at h
      rw [hn, hline]
      exact h
end Go.Proofs.YtioppgeackgjnaaDoor.Txt
