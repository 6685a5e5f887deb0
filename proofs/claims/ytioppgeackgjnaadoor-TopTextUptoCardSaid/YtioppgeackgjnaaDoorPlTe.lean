/- bench.Tell at a text that Print wrote: each line, and the last one. -/
import Derived.Test.YtioppgeackgjnaaDoorPlTx
namespace Go.Proofs.YtioppgeackgjnaaDoor.Txt
open Go.RowKit Go.Proofs.YtioppgeackgjnaaDoor.Bt Go.Proofs.YtioppgeackgjnaaDoorW.PrintWords Go.Proofs.YtioppgeackgjnaaDoorW.PrintLast
set_option linter.unusedVariables false
def runS : Pool → List S36 → Pool
  | p, [] => p
  | p, c :: l => runS (nextS p c) l
def more (s : ByteArray) (x : Int) : ByteArray := s ++ ((⟨#[32]⟩ : ByteArray) ++ itoaB x)
def keptB (n : Int) : ByteArray := (⟨#[107, 101, 112, 116, 32]⟩ : ByteArray) ++ itoaB n
def lastS (p : Pool) : ByteArray := p.2.2.foldl more (keptB p.2.1)
theorem tell_l1x (has : List Int) (hl : has.length ≤ 400) (hf : ∀ x ∈ has, 0 ≤ x ∧ x ≤ 1099511627776) (out : List ByteArray) (ho : out.length ≤ 8000000000) : ∀ (d k i : Nat) (s : ByteArray), i + d = has.length → d < k → s.size ≤ 100 + 22 * i → bench_Tell.l1 k out s has (has.length : Int) (i : Int) = some (out ++ [(has.drop i).foldl more s], 0) := by
  intro d
  induction d with
  | zero =>
    intro k i s hi hk hs
    obtain ⟨k, rfl⟩ : ∃ m, k = m + 1 := ⟨k - 1, by omega⟩
    rw [bench_Tell.l1, if_neg (by omega), if_pos (by omega), List.drop_eq_nil_of_le (by omega)]
    rfl
  | succ d ih =>
    intro k i s hi hk hs
    obtain ⟨k, rfl⟩ : ∃ m, k = m + 1 := ⟨k - 1, by omega⟩
    have hlt : i < has.length := by omega
    obtain ⟨f0, f1⟩ := rd_fit hlt hf
    have hz := itoaB_size (rd has (i : Int)) (by omega)
    have hz2 : ((⟨#[32]⟩ : ByteArray) ++ itoaB (rd has (i : Int))).size ≤ 22 := by
      rw [ByteArray.size_append]
      have : (⟨#[32]⟩ : ByteArray).size = 1 := rfl
      omega
    have h := ih k (i + 1) (s ++ ((⟨#[32]⟩ : ByteArray) ++ itoaB (rd has (i : Int)))) (by omega) (by omega) (by rw [ByteArray.size_append]; omega)
    have hd : has.drop i = has[i] :: has.drop (i + 1) := List.drop_eq_getElem_cons hlt
    have hr : rd has (i : Int) = has[i] := by simp [rd, hlt]
    rw [bench_Tell.l1, if_pos (by omega), if_pos (by omega), if_pos (by omega), itoa_some _ (by omega), Option.bind_some, if_pos (by omega), if_pos (by omega), wrap_ok (by omega) (by omega)]
    rw [hd, List.foldl_cons]
    rw [hr] at h
    rw [hr]
    exact h
theorem runS_ok : ∀ (l : List S36) (p : Pool), PoolOK p.1 p.2.1 p.2.2 → (∀ c ∈ l, FitC c) → PoolOK (runS p l).1 (runS p l).2.1 (runS p l).2.2
  | [], _, h, _ => h
  | c :: l, p, h, hf => runS_ok l (nextS p c) (next_ok h c (hf c List.mem_cons_self).1) (fun x hx => hf x (List.mem_cons_of_mem _ hx))
theorem tell_l0x : ∀ (rest done : List S36) (out : List ByteArray) (p : Pool), PoolOK p.1 p.2.1 p.2.2 → (∀ c ∈ rest, FitC c) → done.length + rest.length ≤ 5000000000 → out.length = done.length →
    ∃ k, bench_Tell.l0 k out (done ++ rest) ((done.length + rest.length : Nat) : Int) (done.length : Int) p.1 p.2.1 p.2.2 = some (out ++ linesS p rest ++ [lastS (runS p rest)], 0)
  | [], done, out, p, hp, _, hl, ho => by
    have h2 := hp.comes
    have hz := itoaB_size p.2.1 (by omega)
    have h := tell_l1x p.2.2 (len_le hp) hp.fit out (by simp at hl; omega) p.2.2.length (p.2.2.length + 1) 0 ((⟨#[107, 101, 112, 116, 32]⟩ : ByteArray) ++ itoaB p.2.1) (by omega) (by omega) (by
      rw [ByteArray.size_append]
      have : (⟨#[107, 101, 112, 116, 32]⟩ : ByteArray).size = 5 := rfl
      omega)
    refine ⟨p.2.2.length + 1 + 1, ?_⟩
    rw [bench_Tell.l0, if_neg (by simp), itoa_some _ (by omega), Option.bind_some, if_pos (by omega), linesS, List.append_nil]
    exact h
  | c :: rest, done, out, p, hp, hf, hl, ho => by
    obtain ⟨hc0, hc1⟩ := hf c List.mem_cons_self
    obtain ⟨a1, a2, a3, a4⟩ := add_eq hp c hc0
    have hl' : done.length + (rest.length + 1) ≤ 5000000000 := by simpa using hl
    obtain ⟨k, h⟩ := tell_l0x rest (done ++ [c]) (out ++ [lineS p c]) (nextS p c) (next_ok hp c hc0) (fun x hx => hf x (List.mem_cons_of_mem _ hx)) (by simp; omega) (by simp; omega)
    have e1 : (done ++ [c]) ++ rest = done ++ c :: rest := by simp
    have e2 : (((done ++ [c]).length + rest.length : Nat) : Int) = ((done.length + (c :: rest).length : Nat) : Int) := by simp; omega
    have e3 : (((done ++ [c]).length : Nat) : Int) = (done.length : Int) + 1 := by simp
    rw [e1, e2, e3] at h
    refine ⟨k + 1, ?_⟩
    rw [bench_Tell.l0, if_pos (by simp; omega), if_pos (by omega), if_pos (by simp; omega), rd_T36_at, a1, Option.bind_some, wrap_ok (by omega) (by omega)]
    have e4 : out ++ linesS p (c :: rest) ++ [lastS (runS p (c :: rest))] = out ++ [lineS p c] ++ linesS (nextS p c) rest ++ [lastS (runS (nextS p c) rest)] := by simp [linesS, runS]
    rw [e4]
    by_cases he : (addS p c).2.2.2 = 0
    · have hn : nextS p c = ((addS p c).1, (addS p c).2.1, (addS p c).2.2.1) := by unfold nextS; rw [if_pos he]
      have hline : lineS p c = ⟨#[111, 107]⟩ := by unfold lineS; rw [if_pos he]
      rw [if_pos he, if_pos (by omega)]
      rw [hn, hline] at h
      rw [hn, hline]
      exact h
    · have hn : nextS p c = p := by unfold nextS; rw [if_neg he]
      have hline : lineS p c = (⟨#[101, 114, 114, 111, 114, 32]⟩ : ByteArray) ++ itoaB (addS p c).2.2.2 := by unfold lineS; rw [if_neg he]
      have hz := itoaB_size (addS p c).2.2.2 (by omega)
      rw [if_neg he, itoa_some _ (by omega), Option.bind_some, if_pos (by omega), if_pos (by omega)]
      rw [hn, hline] at h
      rw [hn, hline]
      exact h
theorem addsL_ge : ∀ l : List S36, l.length ≤ (addsL l).length
  | [] => by simp
  | c :: l => by
    have e : addsL (c :: l) = addLine c ++ [10] ++ addsL l := by simp [addsL]
    have := addsL_ge l
    rw [e]; simp; omega
theorem parse_printed (r : Int) (o : List S36) (hr : Fit r) (hf : ∀ c ∈ o, FitC c) (ho : o.length ≤ 1048576) : ∃ k, bench_Parse.f k (T (printL r o)) = some (r, o, 0, 0) := by
  have hlen := printL_len r o hr hf
  have hz : (T (printL r o)).size = (printL r o).length := T_size _
  obtain ⟨k2, h⟩ := parse_all (T (printL r o)) (by omega)
  have hpp : parseS ((T (printL r o)).size + 1) (T (printL r o)).data.toList 0 [] 0 = some (r, o) := by
    rw [T_list]
    refine parse_print r o _ hr hf ?_
    have : o.length + 1 ≤ (printL r o).length := by
      have := addsL_ge o
      unfold printL
      simp
      omega
    omega
  rcases h with ⟨r', o', g1, g2⟩ | ⟨g1, _⟩
  · rw [hpp] at g1
    obtain ⟨rfl, rfl⟩ := Prod.mk.inj (Option.some.inj g1)
    exact ⟨k2, g2⟩
  · rw [hpp] at g1; cases g1
/-- bench.Tell of what Print wrote. -/
theorem tell_printed (r : Int) (o : List S36) (hr : Fit r) (hf : ∀ c ∈ o, FitC c) (ho : o.length ≤ 1048576) :
    ∃ k, (1 ≤ r ∧ r ≤ 400 ∧ bench_Tell.f k (T (printL r o)) = some (linesS (r, 0, []) o ++ [lastS (runS (r, 0, []) o)], 0)) ∨ (pool_New.f r = some (0, 0, [], 2) ∧ bench_Tell.f k (T (printL r o)) = some ([], 2)) := by
  obtain ⟨k1, h1⟩ := parse_printed r o hr hf ho
  by_cases hroom : 1 ≤ r ∧ r ≤ 400
  · have hnew : pool_New.f r = some (r, 0, [], 0) := by
      rcases new_of r with ⟨_, _, h⟩ | h
      · exact h
      · unfold pool_New.f pool_Right.f at h
        rw [if_pos hroom.1, if_pos hroom.2, if_pos (by omega), if_pos (by omega), Option.bind_some] at h
        have : mn r 0 = 0 := by unfold mn; split <;> omega
        rw [this] at h
        simp at h
    obtain ⟨k2, h2⟩ := tell_l0x o [] [] (r, 0, []) (new_ok hroom) hf (by simp; omega) rfl
    refine ⟨k1 + k2, .inl ⟨hroom.1, hroom.2, ?_⟩⟩
    have hk' := at_rounds (bench_Parse.mono (T (printL r o))) (show k1 ≤ k1 + k2 by omega) h1
    have h' := at_rounds (fun k => (bench_Tell.mono_l k).1 _ _ _ _ _ _ _) (show k2 ≤ k1 + k2 by omega) h2
    unfold bench_Tell.f
    rw [hk', Option.bind_some, if_pos rfl, hnew, Option.bind_some, if_pos rfl]
    simpa using h'
  · have hnew : pool_New.f r = some (0, 0, [], 2) := by
      rcases new_of r with ⟨h1, h2, _⟩ | h
      · exact absurd ⟨h1, h2⟩ hroom
      · exact h
    refine ⟨k1, .inr ⟨hnew, ?_⟩⟩
    unfold bench_Tell.f
    rw [h1, Option.bind_some, if_pos rfl, hnew, Option.bind_some, if_neg (by decide)]
theorem fold_more : ∀ (l : List Int) (s : ByteArray), ∃ z, l.foldl more s = s ++ z
  | [], s => ⟨T [], by rw [← T_of s, T_append, List.append_nil]; rfl⟩
  | x :: l, s => by
    obtain ⟨z, h⟩ := fold_more l (more s x)
    refine ⟨((⟨#[32]⟩ : ByteArray) ++ itoaB x) ++ z, ?_⟩
    rw [List.foldl_cons, h]
    unfold more
    rw [← T_of s, ← T_of z, ← T_of ((⟨#[32]⟩ : ByteArray) ++ itoaB x), T_append, T_append, T_append, T_append, List.append_assoc]
theorem last_prefix (p : Pool) : ∃ z, lastS p = keptB p.2.1 ++ z := fold_more _ _
end Go.Proofs.YtioppgeackgjnaaDoor.Txt
