/- bench.Parse, told by recursion on the text; with more behind a text that is read is read first. -/
import Derived.Test.YtioppgeackgjnaaDoorPlNum
namespace Go.Proofs.YtioppgeackgjnaaDoor.Txt
open Go.RowKit Go.Proofs.YtioppgeackgjnaaDoor.Bt Go.Proofs.YtioppgeackgjnaaDoorW.PrintWords Go.Proofs.YtioppgeackgjnaaDoorW.PrintLast
set_option linter.unusedVariables false
def T (l : List UInt8) : ByteArray := ⟨l.toArray⟩
theorem T_list (l : List UInt8) : (T l).data.toList = l := by simp [T]
theorem T_of (t : ByteArray) : T t.data.toList = t := by cases t; simp [T]
theorem T_size (l : List UInt8) : (T l).size = l.length := by simp [T, ByteArray.size]
def word (first : Bool) : ByteArray := if first then ⟨#[114, 111, 111, 109]⟩ else ⟨#[97, 100, 100]⟩
def many (first : Bool) : Nat := if first then 1 else 2
noncomputable def numsOf (l : List UInt8) (first : Bool) : List Int × Bool := Classical.epsilon (fun r => ∃ k, bench_numbers.f k (T l) (word first) (many first : Int) = some r)
theorem numsOf_spec (l : List UInt8) (first : Bool) (hl : l.length < 4294967281) : ∃ k, bench_numbers.f k (T l) (word first) (many first : Int) = some (numsOf l first) := by
  obtain ⟨k, r, h, _⟩ := numbers_total (T l) (word first) (many first) (by unfold many; split <;> omega) (by rw [T_size]; exact hl)
  exact Classical.epsilon_spec (p := fun r => ∃ k, bench_numbers.f k (T l) (word first) (many first : Int) = some r) ⟨r, k, h⟩
theorem numsOf_len (l : List UInt8) (first : Bool) (hl : l.length < 4294967281) (h : (numsOf l first).2 = true) : (numsOf l first).1.length = many first ∧ ∀ x ∈ (numsOf l first).1, 0 ≤ x ∧ x ≤ 1099511627776 := by
  obtain ⟨k1, r, h1, h2⟩ := numbers_total (T l) (word first) (many first) (by unfold many; split <;> omega) (by rw [T_size]; exact hl)
  obtain ⟨k2, h3⟩ := numsOf_spec l first hl
  have e1 := at_rounds (bench_numbers.mono _ _ _) (show k1 ≤ k1 + k2 by omega) h1
  have e2 := at_rounds (bench_numbers.mono _ _ _) (show k2 ≤ k1 + k2 by omega) h3
  rw [e1] at e2
  have e3 := Option.some.inj e2
  rw [← e3] at h ⊢
  exact h2 h
/-- What is read of a text: the room and all that come, or nothing. -/
noncomputable def parseS : Nat → List UInt8 → Int → List S36 → Nat → Option (Int × List S36)
  | 0, _, _, _, _ => none
  | n + 1, t, room, out, idx =>
    if idx ≠ 0 ∧ t = [] then some (room, out)
    else if (cutAt 10 t).2.2 = true ∧ (numsOf (cutAt 10 t).1 (idx == 0)).2 = true then
      (if idx = 0 then parseS n (cutAt 10 t).2.1 (rd (numsOf (cutAt 10 t).1 true).1 0) out 1
       else parseS n (cutAt 10 t).2.1 room (out ++ [(⟨rd (numsOf (cutAt 10 t).1 false).1 0, rd (numsOf (cutAt 10 t).1 false).1 1⟩ : S36)]) (idx + 1))
    else none
/-- With more behind: the same room, the same ones first. -/
theorem parseS_later : ∀ (n : Nat) (t : List UInt8) (room : Int) (out : List S36) (idx : Nat) (r : Int) (o : List S36), idx ≠ 0 → parseS n t room out idx = some (r, o) → r = room ∧ ∃ l, o = out ++ l
  | 0, _, _, _, _, _, _, _, h => by simp [parseS] at h
  | n + 1, t, room, out, idx, r, o, hi, h => by
    rw [parseS] at h
    split at h
    · simp only [Option.some.injEq, Prod.mk.injEq] at h
      exact ⟨h.1.symm, [], by rw [List.append_nil]; exact h.2.symm⟩
    · split at h
      · (try rw [if_neg hi] at h)
        obtain ⟨h1, l, h2⟩ := parseS_later n _ _ _ _ _ _ (by omega) h
        exact ⟨h1, _, by rw [h2, List.append_assoc]⟩
      · cases h
theorem parseS_more : ∀ (n n2 : Nat) (t m : List UInt8) (room : Int) (out : List S36) (idx : Nat) (r r2 : Int) (o o2 : List S36), parseS n t room out idx = some (r, o) → parseS n2 (t ++ m) room out idx = some (r2, o2) → r2 = r ∧ ∃ l, o2 = o ++ l
  | 0, _, _, _, _, _, _, _, _, _, _, h, _ => by simp [parseS] at h
  | n + 1, 0, _, _, _, _, _, _, _, _, _, _, h2 => by simp [parseS] at h2
  | n + 1, n2 + 1, t, m, room, out, idx, r, r2, o, o2, h, h2 => by
    rw [parseS] at h
    split at h
    · rename_i hc
      simp only [Option.some.injEq, Prod.mk.injEq] at h
      obtain ⟨rfl, rfl⟩ := h
      rw [hc.2, List.nil_append] at h2
      exact parseS_later _ _ _ _ _ _ _ hc.1 h2
    · rename_i hc
      split at h
      · rename_i hk
        rcases hq : cutAt 10 t with ⟨a, b, c⟩
        rw [hq] at h hk
        obtain rfl : c = true := hk.1
        have hmore := cutAt_more hq m
        rw [parseS, hmore] at h2
        have hne : ¬ (idx ≠ 0 ∧ t ++ m = []) := fun e => hc ⟨e.1, (List.append_eq_nil_iff.1 e.2).1⟩
        rw [if_neg hne] at h2
        simp only at hk h h2
        rw [if_pos hk] at h2
        by_cases h0 : idx = 0
        · rw [if_pos h0] at h h2
          exact parseS_more n n2 _ m _ _ _ _ _ _ _ h h2
        · rw [if_neg h0] at h h2
          exact parseS_more n n2 _ m _ _ _ _ _ _ _ h h2
      · cases h
theorem T_toList (l : List UInt8) : (T l).toList = l := by rw [ByteArray.toList_eq, T_list]
theorem cut_T (t : List UInt8) (ht : t.length < 4294967281) : strings_Cut.f (T t) (⟨#[10]⟩ : ByteArray) = some (T (cutAt 10 t).1, T (cutAt 10 t).2.1, (cutAt 10 t).2.2) := by
  have e : Lib.cut t [10] = cutAt 10 t := cut_one 10 t
  unfold strings_Cut.f
  rw [if_pos (by rw [T_size]; exact ht), T_list]
  show some ((⟨(Lib.cut t [10]).1.toArray⟩ : ByteArray), (⟨(Lib.cut t [10]).2.1.toArray⟩ : ByteArray), (Lib.cut t [10]).2.2) = _
  rw [e]
  rfl
theorem cutAt_lens (t : List UInt8) : (cutAt 10 t).1.length ≤ t.length ∧ ((cutAt 10 t).2.2 = true → (cutAt 10 t).2.1.length < t.length) := by
  obtain ⟨h1, h2⟩ := index_one 10 t
  cases hw : (cutAt 10 t).2.2 with
  | true =>
    obtain ⟨_, a2, _⟩ := h1 hw
    have := congrArg List.length a2
    rw [List.length_append, List.length_cons] at this
    exact ⟨by omega, fun _ => by omega⟩
  | false =>
    obtain ⟨_, a2, _, _⟩ := h2 hw
    exact ⟨by rw [a2]; exact Nat.le_refl _, fun h => by cases h⟩
/-- The loop answers what parseS says. -/
theorem parse_run : ∀ (n : Nat) (t : List UInt8) (room : Int) (out : List S36) (idx : Nat), t.length < n → t.length < 4294967281 → out.length ≤ idx → idx + t.length ≤ 4300000000 →
    ∃ k i, bench_Parse.l0 k (T t) room out (idx : Int) = some (match parseS n t room out idx with | some p => (p.1, p.2, 0, 0) | none => (0, [], i, 1))
  | 0, _, _, _, _, h, _, _, _ => absurd h (by omega)
  | n + 1, t, room, out, idx, hn, ht, ho, hi => by
    by_cases hc : idx ≠ 0 ∧ t = []
    · refine ⟨2, 0, ?_⟩
      obtain ⟨h0, rfl⟩ := hc
      rw [parseS, if_pos ⟨h0, rfl⟩, bench_Parse.l0, if_neg (by omega), T_toList, bench_Parse.j1, if_neg (by decide)]
    · obtain ⟨hl1, hl2⟩ := cutAt_lens t
      obtain ⟨kn, hkn⟩ := numsOf_spec (cutAt 10 t).1 (idx == 0) (by omega)
      have hlen := fun h => (numsOf_len (cutAt 10 t).1 (idx == 0) (by omega) h).1
      have hfirst : ∀ k res, bench_Parse.j1 k (T t) room out (idx : Int) true = some res → bench_Parse.l0 (k + 1) (T t) room out (idx : Int) = some res := fun k res h => by
        rw [bench_Parse.l0]
        by_cases h0 : idx = 0
        · rw [if_pos (by omega)]; exact h
        · have hne : t ≠ [] := fun e => hc ⟨h0, e⟩
          rw [if_neg (by omega), T_toList, show (t != []) = true from bne_iff_ne.2 hne]; exact h
      have hj : ∀ k res, kn ≤ k → bench_Parse.j3 k room out (idx : Int) (T (cutAt 10 t).2.1) (numsOf (cutAt 10 t).1 (idx == 0)).1 (!((cutAt 10 t).2.2 && (numsOf (cutAt 10 t).1 (idx == 0)).2)) = some res → bench_Parse.j1 (k + 2) (T t) room out (idx : Int) true = some res := fun k res hk h => by
        rw [bench_Parse.j1, if_pos rfl, cut_T t ht, Option.bind_some]
        have h2 : ∀ (w : ByteArray) (m : Int), w = word (idx == 0) → m = (many (idx == 0) : Int) → bench_Parse.j2 (k + 1) room out (idx : Int) (T (cutAt 10 t).1) (T (cutAt 10 t).2.1) (cutAt 10 t).2.2 w m = some res := fun w m hw hm => by
          rw [bench_Parse.j2, hw, hm, at_rounds (bench_numbers.mono _ _ _) hk hkn, Option.bind_some]
          cases hq : (cutAt 10 t).2.2 with
          | true => rw [hq] at h; rw [if_pos rfl]; simpa using h
          | false => rw [hq] at h; rw [if_neg (by decide)]; simpa using h
        by_cases h0 : idx = 0
        · rw [if_pos (by omega)]; exact h2 _ _ (by rw [h0]; rfl) (by rw [h0]; rfl)
        · rw [if_neg (by omega)]; exact h2 _ _ (by simp [word, h0]) (by simp [many, h0])
      rw [parseS, if_neg hc]
      by_cases hok : (cutAt 10 t).2.2 = true ∧ (numsOf (cutAt 10 t).1 (idx == 0)).2 = true
      · rw [if_pos hok]
        have hb : (!((cutAt 10 t).2.2 && (numsOf (cutAt 10 t).1 (idx == 0)).2)) = false := by rw [hok.1, hok.2]; rfl
        rw [hb] at hj
        have hrest := hl2 hok.1
        have hlen := hlen hok.2
        by_cases h0 : idx = 0
        · rw [if_pos h0]
          subst h0
          have ht1 : ((0 : Nat) == 0) = true := rfl
          rw [ht1] at hj hlen
          obtain ⟨k, i, hk⟩ := parse_run n (cutAt 10 t).2.1 (rd (numsOf (cutAt 10 t).1 true).1 0) out 1 (by omega) (by omega) (by omega) (by omega)
          refine ⟨k + kn + 1 + 2 + 1, i, hfirst _ _ (hj _ _ (by omega) ?_)⟩
          rw [bench_Parse.j3, if_neg (by decide), if_pos (by omega), if_pos (by rw [hlen]; decide), wrap_ok (by omega) (by omega)]
          exact at_rounds (fun k => (bench_Parse.mono_l k).1 _ _ _ _) (show k ≤ k + kn by omega) hk
        · rw [if_neg h0]
          have ht1 : (idx == 0) = false := beq_eq_false_iff_ne.2 h0
          rw [ht1] at hj hlen
          obtain ⟨k, i, hk⟩ := parse_run n (cutAt 10 t).2.1 room (out ++ [(⟨rd (numsOf (cutAt 10 t).1 false).1 0, rd (numsOf (cutAt 10 t).1 false).1 1⟩ : S36)]) (idx + 1) (by omega) (by omega) (by simp; omega) (by omega)
          refine ⟨k + kn + 1 + 2 + 1, i, hfirst _ _ (hj _ _ (by omega) ?_)⟩
          rw [bench_Parse.j3, if_neg (by decide), if_neg (by omega), if_pos (by rw [hlen]; decide), if_pos (by rw [hlen]; decide), if_pos (by omega), wrap_ok (by omega) (by omega)]
          exact at_rounds (fun k => (bench_Parse.mono_l k).1 _ _ _ _) (show k ≤ k + kn by omega) hk
      · rw [if_neg hok]
        have hb : (!((cutAt 10 t).2.2 && (numsOf (cutAt 10 t).1 (idx == 0)).2)) = true := by
          cases h1 : (cutAt 10 t).2.2 <;> cases h2 : (numsOf (cutAt 10 t).1 (idx == 0)).2 <;> simp_all
        rw [hb] at hj
        refine ⟨kn + 1 + 2 + 1, idx, hfirst _ _ (hj _ _ (by omega) ?_)⟩
        rw [bench_Parse.j3, if_pos rfl]
end Go.Proofs.YtioppgeackgjnaaDoor.Txt
