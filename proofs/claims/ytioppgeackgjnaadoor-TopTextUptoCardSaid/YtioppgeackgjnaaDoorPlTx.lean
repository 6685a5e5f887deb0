/- bench.Print, Parse and Tell as functions: what they answer at every input. -/
import Derived.Test.YtioppgeackgjnaaDoorPlPr
namespace Go.Proofs.YtioppgeackgjnaaDoor.Txt
open Go.RowKit Go.Proofs.YtioppgeackgjnaaDoor.Bt Go.Proofs.YtioppgeackgjnaaDoorW.PrintWords Go.Proofs.YtioppgeackgjnaaDoorW.PrintLast
set_option linter.unusedVariables false
theorem T_append (a b : List UInt8) : T a ++ T b = T (a ++ b) := by
  rw [← T_of (T a ++ T b)]
  congr 1
instance (x : Int) : Decidable (Fit x) := by unfold Fit; infer_instance
instance (c : S36) : Decidable (FitC c) := by unfold FitC; infer_instance
theorem itoaB_T (v : Int) : itoaB v = T (Lib.itoa v) := rfl
theorem addLine_T (c : S36) : (((((⟨#[97, 100, 100, 32]⟩ : ByteArray) ++ itoaB c.f0) ++ (⟨#[32]⟩ : ByteArray)) ++ itoaB c.f1) ++ (⟨#[10]⟩ : ByteArray)) = T (addLine c ++ [10]) := by
  have e1 : (⟨#[97, 100, 100, 32]⟩ : ByteArray) = T [97, 100, 100, 32] := rfl
  have e2 : (⟨#[32]⟩ : ByteArray) = T [32] := rfl
  have e3 : (⟨#[10]⟩ : ByteArray) = T [10] := rfl
  rw [e1, e2, e3, itoaB_T, itoaB_T, T_append, T_append, T_append, T_append]
  congr 1
  simp [addLine, wordL, nums]
theorem roomLine_T (r : Int) : (((⟨#[114, 111, 111, 109, 32]⟩ : ByteArray) ++ itoaB r) ++ (⟨#[10]⟩ : ByteArray)) = T (wordL true ++ nums [r] ++ [10]) := by
  have e1 : (⟨#[114, 111, 111, 109, 32]⟩ : ByteArray) = T [114, 111, 111, 109, 32] := rfl
  have e3 : (⟨#[10]⟩ : ByteArray) = T [10] := rfl
  rw [e1, e3, itoaB_T, T_append, T_append]
  congr 1
  simp [wordL, nums]
theorem rd_at (done : List S36) (c : S36) (rest : List S36) : rd_T36 (done ++ c :: rest) (done.length : Int) = c := by simp [rd_T36]
theorem print_l0 : ∀ (rest done : List S36) (x : ByteArray), x.size + 48 * rest.length ≤ 140737488355328 → done.length + rest.length ≤ 5000000000 →
    ∃ k, ((∀ c ∈ rest, FitC c) ∧ bench_Print.l0 k x (done ++ rest) ((done.length + rest.length : Nat) : Int) (done.length : Int) = some (x ++ T (addsL rest), 0)) ∨ ((¬ ∀ c ∈ rest, FitC c) ∧ bench_Print.l0 k x (done ++ rest) ((done.length + rest.length : Nat) : Int) (done.length : Int) = some (⟨#[]⟩, 2))
  | [], done, x, hx, hl => ⟨1, .inl ⟨by simp, by
      rw [bench_Print.l0, if_neg (by simp)]
      have : x ++ T (addsL []) = x := by
        rw [← T_of x, T_append]; simp [addsL]
      rw [this]⟩⟩
  | c :: rest, done, x, hx, hl => by
    have hl' : done.length + (rest.length + 1) ≤ 5000000000 := by simpa using hl
    have hx' : x.size + 48 * (rest.length + 1) ≤ 140737488355328 := by simpa using hx
    have hstart : ∀ k res, bench_Print.j1 k x (done ++ c :: rest) ((done.length + (c :: rest).length : Nat) : Int) (done.length : Int) (!decide (FitC c)) c.f0 c.f1 = some res →
        bench_Print.l0 (k + 1) x (done ++ c :: rest) ((done.length + (c :: rest).length : Nat) : Int) (done.length : Int) = some res := fun k res h => by
      rw [bench_Print.l0, if_pos (by simp; omega), if_pos (by omega), if_pos (by simp; omega), rd_at, fits_eq, Option.bind_some]
      by_cases h0 : Fit c.f0
      · rw [decide_eq_true (show 0 ≤ c.f0 ∧ c.f0 ≤ 1099511627776 from h0), if_pos rfl, fits_eq, Option.bind_some]
        have e : decide (FitC c) = decide (0 ≤ c.f1 ∧ c.f1 ≤ 1099511627776) := by
          by_cases h1 : 0 ≤ c.f1 ∧ c.f1 ≤ 1099511627776
          · rw [decide_eq_true h1, decide_eq_true (show FitC c from ⟨h0, h1⟩)]
          · rw [decide_eq_false h1, decide_eq_false (fun e => h1 e.2)]
        rw [← e]
        exact h
      · rw [decide_eq_false (show ¬ (0 ≤ c.f0 ∧ c.f0 ≤ 1099511627776) from h0), if_neg (by decide)]
        rw [decide_eq_false (fun e => h0 e.1)] at h
        exact h
    by_cases hc : FitC c
    · have b0 := hc.1
      have b1 := hc.2
      unfold Fit at b0 b1
      have z0 := itoaB_size c.f0 (by omega)
      have z1 := itoaB_size c.f1 (by omega)
      have hsz : (T (addLine c ++ [10])).size ≤ 48 := by
        rw [← addLine_T]; simp only [ByteArray.size_append]
        have a1 : (⟨#[97, 100, 100, 32]⟩ : ByteArray).size = 4 := rfl
        have a2 : (⟨#[32]⟩ : ByteArray).size = 1 := rfl
        have a3 : (⟨#[10]⟩ : ByteArray).size = 1 := rfl
        omega
      obtain ⟨k, hk⟩ := print_l0 rest (done ++ [c]) (x ++ T (addLine c ++ [10])) (by rw [ByteArray.size_append]; omega) (by simp; omega)
      have e1 : (done ++ [c]) ++ rest = done ++ c :: rest := by simp
      have e2 : (((done ++ [c]).length + rest.length : Nat) : Int) = ((done.length + (c :: rest).length : Nat) : Int) := by simp; omega
      have e3 : (((done ++ [c]).length : Nat) : Int) = (done.length : Int) + 1 := by simp
      rw [e1, e2, e3] at hk
      have hgo : ∀ res, bench_Print.l0 k (x ++ T (addLine c ++ [10])) (done ++ c :: rest) ((done.length + (c :: rest).length : Nat) : Int) ((done.length : Int) + 1) = some res → bench_Print.l0 (k + 1 + 1) x (done ++ c :: rest) ((done.length + (c :: rest).length : Nat) : Int) (done.length : Int) = some res := fun res h => by
        refine hstart (k + 1) res ?_
        rw [decide_eq_true hc, bench_Print.j1, if_neg (by decide), itoa_some _ (by omega), Option.bind_some, if_pos (by omega), if_pos (by rw [ByteArray.size_append]; have a1 : (⟨#[97, 100, 100, 32]⟩ : ByteArray).size = 4 := rfl; omega), itoa_some _ (by omega), Option.bind_some]
        have a1 : (⟨#[97, 100, 100, 32]⟩ : ByteArray).size = 4 := rfl
        have a2 : (⟨#[32]⟩ : ByteArray).size = 1 := rfl
        rw [if_pos (by simp only [ByteArray.size_append]; omega), if_pos (by simp only [ByteArray.size_append]; omega), addLine_T, if_pos (by omega), wrap_ok (by omega) (by omega)]
        exact h
      have e4 : x ++ T (addsL (c :: rest)) = x ++ T (addLine c ++ [10]) ++ T (addsL rest) := by
        have : addsL (c :: rest) = addLine c ++ [10] ++ addsL rest := by simp [addsL]
        rw [← T_of x, T_append, T_append, T_append, this]
        congr 1
        simp
      rcases hk with ⟨hf, hk⟩ | ⟨hf, hk⟩
      · refine ⟨k + 1 + 1, .inl ⟨fun y hy => ?_, by rw [e4]; exact hgo _ hk⟩⟩
        rcases List.mem_cons.1 hy with rfl | hy
        · exact hc
        · exact hf y hy
      · exact ⟨k + 1 + 1, .inr ⟨fun h => hf (fun y hy => h y (List.mem_cons_of_mem _ hy)), hgo _ hk⟩⟩
    · refine ⟨1 + 1, .inr ⟨fun h => hc (h c List.mem_cons_self), hstart 1 _ ?_⟩⟩
      rw [decide_eq_false hc, bench_Print.j1, if_pos (by decide)]
/-- bench.Print: the text where all is fit, else nothing. -/
theorem print_run (room : Int) (l : List S36) (hl : l.length ≤ 1048576) :
    ∃ k, ((Fit room ∧ ∀ c ∈ l, FitC c) ∧ bench_Print.f k room l = some (T (printL room l), 0)) ∨ (¬ (Fit room ∧ ∀ c ∈ l, FitC c) ∧ bench_Print.f k room l = some (⟨#[]⟩, 2)) := by
  by_cases hr : Fit room
  · have b0 := hr
    unfold Fit at b0
    have z0 := itoaB_size room (by omega)
    have a1 : (⟨#[114, 111, 111, 109, 32]⟩ : ByteArray).size = 5 := rfl
    have a3 : (⟨#[10]⟩ : ByteArray).size = 1 := rfl
    have hsz : (T (wordL true ++ nums [room] ++ [10])).size ≤ 48 := by
      rw [← roomLine_T]; simp only [ByteArray.size_append]; omega
    obtain ⟨k, hk⟩ := print_l0 l [] (T (wordL true ++ nums [room] ++ [10])) (by omega) (by simp; omega)
    have e0 : (⟨#[]⟩ : ByteArray) ++ T (wordL true ++ nums [room] ++ [10]) = T (wordL true ++ nums [room] ++ [10]) := by
      have : (⟨#[]⟩ : ByteArray) = T [] := rfl
      rw [this, T_append]; simp
    have hgo : ∀ res, bench_Print.l0 k (T (wordL true ++ nums [room] ++ [10])) l (l.length : Int) 0 = some res → bench_Print.f k room l = some res := fun res h => by
      unfold bench_Print.f
      rw [fits_eq, Option.bind_some, decide_eq_true (show 0 ≤ room ∧ room ≤ 1099511627776 from hr), if_pos rfl, itoa_some _ (by omega), Option.bind_some, if_pos (by omega), if_pos (by simp only [ByteArray.size_append]; omega), roomLine_T, if_pos (by omega), e0]
      exact h
    simp only [List.nil_append, List.length_nil, Nat.zero_add] at hk
    rcases hk with ⟨hf, hk⟩ | ⟨hf, hk⟩
    · refine ⟨k, .inl ⟨⟨hr, hf⟩, hgo _ ?_⟩⟩
      have e : printL room l = (wordL true ++ nums [room] ++ [10]) ++ addsL l := rfl
      rw [e, ← T_append]
      exact hk
    · exact ⟨k, .inr ⟨fun h => hf h.2, hgo _ hk⟩⟩
  · refine ⟨0, .inr ⟨fun h => hr h.1, ?_⟩⟩
    unfold bench_Print.f
    rw [fits_eq, Option.bind_some, decide_eq_false (show ¬ (0 ≤ room ∧ room ≤ 1099511627776) from hr), if_neg (by decide)]
theorem printL_len (room : Int) (l : List S36) (hr : Fit room) (hf : ∀ c ∈ l, FitC c) : (printL room l).length ≤ 33 * l.length + 30 := by
  have h1 := addsL_len l hf
  have h2 := nums_len [room] (by simp [hr])
  have h3 := word_len true
  unfold printL
  simp only [List.length_append, List.length_singleton] at *
  omega
/-- The loop of Parse with the line that is wrong. -/
theorem parse_run2 : ∀ (n : Nat) (t : List UInt8) (room : Int) (out : List S36) (idx : Nat), t.length < n → t.length < 4294967281 → out.length ≤ idx → idx + t.length ≤ 4300000000 →
    ∃ k i, bench_Parse.l0 k (T t) room out (idx : Int) = some (match parseS n t room out idx with | some p => (p.1, p.2, 0, 0) | none => (0, [], i, 1)) ∧ 0 ≤ i ∧ i ≤ (idx : Int) + (t.count 10 : Nat)
  | 0, _, _, _, _, h, _, _, _ => absurd h (by omega)
  | n + 1, t, room, out, idx, hn, ht, ho, hi => by
    by_cases hc : idx ≠ 0 ∧ t = []
    · refine ⟨2, 0, ?_, by omega, by omega⟩
      obtain ⟨h0, rfl⟩ := hc
      rw [parseS, if_pos ⟨h0, rfl⟩, bench_Parse.l0, if_neg (by omega), T_toList, bench_Parse.j1, if_neg (by decide)]
    · obtain ⟨hl1, hl2⟩ := cutAt_lens t
      obtain ⟨kn, hkn⟩ := numsOf_spec (cutAt 10 t).1 (idx == 0) (by omega)
      have hlen := fun h => (numsOf_len (cutAt 10 t).1 (idx == 0) (by omega) h).1
      have hfirst : ∀ k res, bench_Parse.j1 k (T t) room out (idx : Int) true = some res → bench_Parse.l0 (k + 1) (T t) room out (idx : Int) = some res := fun k res h => by
        rw [bench_Parse.l0]
        by_cases h0 : idx = 0
        · rw [if_pos (by omega)]; exact h
        · have hne : t ≠ [] := fun e => hc ⟨h0, e⟩
          rw [if_neg (by omega), T_toList, show (t != []) = true from bne_iff_ne.2 hne]; exact h
      have hj : ∀ k res, kn ≤ k → bench_Parse.j3 k room out (idx : Int) (T (cutAt 10 t).2.1) (numsOf (cutAt 10 t).1 (idx == 0)).1 (!((cutAt 10 t).2.2 && (numsOf (cutAt 10 t).1 (idx == 0)).2)) = some res → bench_Parse.j1 (k + 2) (T t) room out (idx : Int) true = some res := fun k res hk h => by
        rw [bench_Parse.j1, if_pos rfl, cut_T t ht, Option.bind_some]
        have h2 : ∀ (w : ByteArray) (m : Int), w = word (idx == 0) → m = (many (idx == 0) : Int) → bench_Parse.j2 (k + 1) room out (idx : Int) (T (cutAt 10 t).1) (T (cutAt 10 t).2.1) (cutAt 10 t).2.2 w m = some res := fun w m hw hm => by
          rw [bench_Parse.j2, hw, hm, at_rounds (bench_numbers.mono _ _ _) hk hkn, Option.bind_some]
          cases hq : (cutAt 10 t).2.2 with
          | true => rw [hq] at h; rw [if_pos rfl]; simpa using h
          | false => rw [hq] at h; rw [if_neg (by decide)]; simpa using h
        by_cases h0 : idx = 0
        · rw [if_pos (by omega)]; exact h2 _ _ (by rw [h0]; rfl) (by rw [h0]; rfl)
        · rw [if_neg (by omega)]; exact h2 _ _ (by simp [word, h0]) (by simp [many, h0])
      rw [parseS, if_neg hc]
      by_cases hok : (cutAt 10 t).2.2 = true ∧ (numsOf (cutAt 10 t).1 (idx == 0)).2 = true
      · rw [if_pos hok]
        have hcnt : t.count 10 = (cutAt 10 t).2.1.count 10 + 1 := by
          rcases hq : cutAt 10 t with ⟨a, b, c⟩
          rw [hq] at hok
          obtain rfl : c = true := hok.1
          exact count_cut hq
        have hb : (!((cutAt 10 t).2.2 && (numsOf (cutAt 10 t).1 (idx == 0)).2)) = false := by rw [hok.1, hok.2]; rfl
        rw [hb] at hj
        have hrest := hl2 hok.1
        have hlen := hlen hok.2
        by_cases h0 : idx = 0
        · rw [if_pos h0]
          subst h0
          have ht1 : ((0 : Nat) == 0) = true := rfl
          rw [ht1] at hj hlen
          obtain ⟨k, i, hk, i0, i1⟩ := parse_run2 n (cutAt 10 t).2.1 (rd (numsOf (cutAt 10 t).1 true).1 0) out 1 (by omega) (by omega) (by omega) (by omega)
          refine ⟨k + kn + 1 + 2 + 1, i, hfirst _ _ (hj _ _ (by omega) ?_), i0, by rw [hcnt]; omega⟩
          rw [bench_Parse.j3, if_neg (by decide), if_pos (by omega), if_pos (by rw [hlen]; decide), wrap_ok (by omega) (by omega)]
          exact at_rounds (fun k => (bench_Parse.mono_l k).1 _ _ _ _) (show k ≤ k + kn by omega) hk
        · rw [if_neg h0]
          have ht1 : (idx == 0) = false := beq_eq_false_iff_ne.2 h0
          rw [ht1] at hj hlen
          obtain ⟨k, i, hk, i0, i1⟩ := parse_run2 n (cutAt 10 t).2.1 room (out ++ [(⟨rd (numsOf (cutAt 10 t).1 false).1 0, rd (numsOf (cutAt 10 t).1 false).1 1⟩ : S36)]) (idx + 1) (by omega) (by omega) (by simp; omega) (by omega)
          refine ⟨k + kn + 1 + 2 + 1, i, hfirst _ _ (hj _ _ (by omega) ?_), i0, by rw [hcnt]; omega⟩
          rw [bench_Parse.j3, if_neg (by decide), if_neg (by omega), if_pos (by rw [hlen]; decide), if_pos (by rw [hlen]; decide), if_pos (by omega), wrap_ok (by omega) (by omega)]
          exact at_rounds (fun k => (bench_Parse.mono_l k).1 _ _ _ _) (show k ≤ k + kn by omega) hk
      · rw [if_neg hok]
        have hb : (!((cutAt 10 t).2.2 && (numsOf (cutAt 10 t).1 (idx == 0)).2)) = true := by
          cases h1 : (cutAt 10 t).2.2 <;> cases h2 : (numsOf (cutAt 10 t).1 (idx == 0)).2 <;> simp_all
        rw [hb] at hj
        refine ⟨kn + 1 + 2 + 1, idx, hfirst _ _ (hj _ _ (by omega) ?_), by omega, by omega⟩
        rw [bench_Parse.j3, if_pos rfl]
/-- bench.Parse at a text. -/
theorem parse_all (t : ByteArray) (ht : t.size < 4294967281) :
    ∃ k, (∃ r o, parseS (t.size + 1) t.data.toList 0 [] 0 = some (r, o) ∧ bench_Parse.f k t = some (r, o, 0, 0)) ∨ (parseS (t.size + 1) t.data.toList 0 [] 0 = none ∧ ∃ i : Int, bench_Parse.f k t = some (0, [], i, 1) ∧ 0 ≤ i ∧ i ≤ (t.data.toList.count 10 : Nat)) := by
  have hz := size_list t
  obtain ⟨k, i, hk, i0, i1⟩ := parse_run2 (t.data.toList.length + 1) t.data.toList 0 [] 0 (by omega) (by omega) (by simp) (by omega)
  rw [T_of, hz] at hk
  refine ⟨k, ?_⟩
  cases hp : parseS (t.size + 1) t.data.toList 0 [] 0 with
  | none => rw [hp] at hk; exact .inr ⟨rfl, i, hk, i0, by omega⟩
  | some p => obtain ⟨r, o⟩ := p; rw [hp] at hk; exact .inl ⟨r, o, rfl, hk⟩
end Go.Proofs.YtioppgeackgjnaaDoor.Txt
