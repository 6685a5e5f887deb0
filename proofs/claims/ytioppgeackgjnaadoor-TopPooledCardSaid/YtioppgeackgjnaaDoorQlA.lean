/- Texts of lines, numbers, Parse and Tell in plain Lean. -/
import Derived.Test.YtioppgeackgjnaaDoorBt20
import Derived.Lib.IndexLaws
import Derived.Lib.ItoaLen
namespace Go.Proofs.YtioppgeackgjnaaDoor.Txt
open Go.RowKit Go.Proofs.YtioppgeackgjnaaDoor.Bt Go.Proofs.YtioppgeackgjnaaDoorW.PrintWords Go.Proofs.YtioppgeackgjnaaDoorW.PrintLast
set_option linter.unusedVariables false

/-- The text up to the first c, what is behind it, and whether there is one. -/
def cutAt (c : UInt8) : List UInt8 → List UInt8 × List UInt8 × Bool
  | [] => ([], [], false)
  | b :: l => if b = c then ([], l, true) else (b :: (cutAt c l).1, (cutAt c l).2.1, (cutAt c l).2.2)
theorem index_one (c : UInt8) : ∀ s : List UInt8, ((cutAt c s).2.2 = true → Lib.index s [c] = (cutAt c s).1.length ∧ s = (cutAt c s).1 ++ c :: (cutAt c s).2.1 ∧ c ∉ (cutAt c s).1) ∧ ((cutAt c s).2.2 = false → Lib.index s [c] = -1 ∧ (cutAt c s).1 = s ∧ (cutAt c s).2.1 = [] ∧ c ∉ s)
  | [] => ⟨fun h => (by cases h), fun _ => ⟨rfl, rfl, rfl, by simp⟩⟩
  | b :: l => by
    obtain ⟨i1, i2⟩ := index_one c l
    by_cases hb : b = c
    · subst hb
      refine ⟨fun _ => ?_, fun h => ?_⟩
      · simp [cutAt, Lib.index]
      · simp [cutAt] at h
    · have hp : [c].isPrefixOf (b :: l) = false := by
        simp [List.isPrefixOf, Ne.symm hb]
      simp only [cutAt, if_neg hb]
      refine ⟨fun h => ?_, fun h => ?_⟩
      · obtain ⟨a1, a2, a3⟩ := i1 h
        refine ⟨?_, ?_, ?_⟩
        · simp only [Lib.index, hp, Bool.false_eq_true, if_false, a1, List.length_cons]
          rw [if_neg (by first | (simp; done) | (simp; omega))]
          rfl
        · rw [List.cons_append, ← a2]
        · simp [a3, Ne.symm hb]
      · obtain ⟨a1, a2, a3, a4⟩ := i2 h
        refine ⟨?_, by rw [a2], a3, by simp [a4, Ne.symm hb]⟩
        simp only [Lib.index, hp, Bool.false_eq_true, if_false, a1]
        rfl
theorem cut_one (c : UInt8) (s : List UInt8) : Lib.cut s [c] = cutAt c s := by
  obtain ⟨h1, h2⟩ := index_one c s
  unfold Lib.cut
  rcases hw : (cutAt c s) with ⟨l, r, w⟩
  cases w with
  | true =>
    rw [hw] at h1
    obtain ⟨a1, a2, a3⟩ := h1 rfl
    simp only at a1 a2
    rw [a1, if_pos (by omega), Int.toNat_natCast, a2]
    simp
  | false =>
    rw [hw] at h2
    obtain ⟨a1, a2, a3, _⟩ := h2 rfl
    simp only at a2 a3
    rw [a1, if_neg (by omega), a2, a3]
theorem cutAt_line (c : UInt8) : ∀ (l r : List UInt8), c ∉ l → cutAt c (l ++ c :: r) = (l, r, true)
  | [], r, _ => by simp [cutAt]
  | b :: l, r, h => by
    have hb : ¬ b = c := fun e => h (by rw [e]; exact List.mem_cons_self)
    rw [List.cons_append, cutAt, if_neg hb, cutAt_line c l r (fun hm => h (List.mem_cons_of_mem _ hm))]
theorem cutAt_more {c : UInt8} {s l r : List UInt8} (h : cutAt c s = (l, r, true)) (m : List UInt8) : cutAt c (s ++ m) = (l, r ++ m, true) := by
  have h1 := (index_one c s).1 (by rw [h])
  rw [h] at h1
  obtain ⟨_, a2, a3⟩ := h1
  simp only at a2 a3
  rw [a2, List.append_assoc, List.cons_append]
  exact cutAt_line c l (r ++ m) a3
end Go.Proofs.YtioppgeackgjnaaDoor.Txt
namespace Go.Proofs.YtioppgeackgjnaaDoor.Txt
open Go.RowKit Go.Proofs.YtioppgeackgjnaaDoor.Bt Go.Proofs.YtioppgeackgjnaaDoorW.PrintWords Go.Proofs.YtioppgeackgjnaaDoorW.PrintLast
set_option linter.unusedVariables false
theorem wrap_ok {x : Int} (h0 : -1000000000000000000 ≤ x) (h1 : x ≤ 1000000000000000000) : wrap64 x = x := by unfold wrap64; omega
theorem atoi_total (s : ByteArray) (h : s.size ≤ 281474976710656) : ∃ v b, strconv_Atoi.f s = some (v, b) := by
  unfold strconv_Atoi.f
  rw [if_pos h]
  split
  · exact ⟨_, _, rfl⟩
  · exact ⟨_, _, rfl⟩
  · exact ⟨_, _, rfl⟩
theorem fits_eq (v : Int) : bench_fits.f v = some (decide (0 ≤ v ∧ v ≤ 1099511627776)) := by
  unfold bench_fits.f
  by_cases h : v ≥ 0
  · rw [if_pos h]
    congr 1
    by_cases h2 : v ≤ 1099511627776
    · rw [decide_eq_true h2, decide_eq_true ⟨h, h2⟩]
    · rw [decide_eq_false h2, decide_eq_false (fun e => h2 e.2)]
  · rw [if_neg h, decide_eq_false (fun e => h e.1)]
theorem itoa_ok (v : Int) (h : 0 ≤ v ∧ v ≤ 1099511627776) : strconv_Itoa.f v = some ⟨(Lib.itoa v).toArray⟩ := by
  unfold strconv_Itoa.f
  rw [if_pos (by omega)]
theorem numbers_l0 (y : List ByteArray) (hy : ∀ s ∈ y, s.size ≤ 281474976710656) (hl : y.length ≤ 10000000000) : ∀ (d k i : Nat) (out : List Int), i + d = y.length → d < k → out.length = i → (∀ x ∈ out, 0 ≤ x ∧ x ≤ 1099511627776) → ∃ r, bench_numbers.l0 k out y (y.length : Int) (i : Int) = some r ∧ (r.2 = true → r.1.length = y.length ∧ ∀ x ∈ r.1, 0 ≤ x ∧ x ≤ 1099511627776) := by
  intro d
  induction d with
  | zero =>
    intro k i out hi hk ho hx
    obtain ⟨k, rfl⟩ : ∃ m, k = m + 1 := ⟨k - 1, by omega⟩
    refine ⟨(out, true), ?_, fun _ => ⟨by show out.length = _; omega, hx⟩⟩
    rw [bench_numbers.l0, if_neg (by omega)]
  | succ d ih =>
    intro k i out hi hk ho hx
    obtain ⟨k, rfl⟩ : ∃ m, k = m + 1 := ⟨k - 1, by omega⟩
    have hlt : i < y.length := by omega
    have hs : (rdOf ByteArray.empty y (i : Int)).size ≤ 281474976710656 := by
      have : rdOf ByteArray.empty y (i : Int) = y[i] := by simp [rdOf, hlt]
      rw [this]
      exact hy _ (List.getElem_mem hlt)
    obtain ⟨v, b, hv⟩ := atoi_total _ hs
    rw [bench_numbers.l0, if_pos (by omega), if_pos (by omega), if_pos (by omega), hv, Option.bind_some]
    cases b with
    | true => exact ⟨_, if_pos rfl, fun h => by cases h⟩
    | false =>
      rw [if_neg (fun h => by cases h), fits_eq, Option.bind_some]
      by_cases hf : 0 ≤ v ∧ v ≤ 1099511627776
      · rw [decide_eq_true hf, if_pos rfl]
        dsimp only
        rw [itoa_ok v hf, Option.bind_some]
        split
        · rw [if_pos (by omega), wrap_ok (by omega) (by omega)]
          exact ih k (i + 1) _ (by omega) (by omega) (by simp; omega) (fun x hm => by
            rcases List.mem_append.1 hm with hm | hm
            · exact hx x hm
            · rw [List.mem_singleton.1 hm]; exact hf)
        · exact ⟨_, rfl, fun h => by cases h⟩
      · rw [decide_eq_false hf, if_neg (by decide)]
        exact ⟨_, rfl, fun h => by cases h⟩
theorem splitB_sizes (sep : ByteArray) : ∀ (k : Nat) (s : ByteArray), ∀ x ∈ Lib.splitB sep 0 k s, x.size ≤ s.size
  | 0, s, x, h => by
    rw [Lib.splitB_zero] at h
    rw [List.mem_singleton.1 h]
    exact Nat.le_refl _
  | k + 1, s, x, h => by
    unfold Lib.splitB at h
    split at h
    · rw [List.mem_singleton.1 h]
      exact Nat.le_refl _
    · rcases List.mem_cons.1 h with e | e
      · rw [e, ByteArray.size_extract]
        omega
      · have := splitB_sizes sep k _ x e
        rw [ByteArray.size_extract] at this
        omega
theorem j0_yes (k : Nat) (t : List ByteArray) : bench_numbers.j0 (k + 1) t true = some ([], false) := by
  rw [bench_numbers.j0, if_pos rfl]
/-- bench.numbers answers. -/
theorem numbers_total (line word : ByteArray) (many : Nat) (hm : many ≤ 2) (hl : line.size < 4294967281) : ∃ k r, bench_numbers.f k line word (many : Int) = some r ∧ (r.2 = true → r.1.length = many ∧ ∀ x ∈ r.1, 0 ≤ x ∧ x ≤ 1099511627776) := by
  obtain ⟨t, ht⟩ : ∃ t, t = Lib.splitB ⟨#[32]⟩ 0 (Lib.countB line ⟨#[32]⟩) line := ⟨_, rfl⟩
  have hsz : ∀ s ∈ t, s.size ≤ 281474976710656 := fun s hs => by
    rw [ht] at hs
    have := splitB_sizes _ _ _ s hs
    omega
  have hsp : strings_Split.f line ⟨#[32]⟩ = some t := by
    unfold strings_Split.f
    rw [if_pos ⟨hl, by decide⟩, ht]
  by_cases hlen : t.length = many + 1
  · by_cases hw : ((rdOf ByteArray.empty t 0).toList != word.toList) = true
    · refine ⟨1, ([], false), ?_, fun h => by cases h⟩
      unfold bench_numbers.f
      rw [hsp, Option.bind_some, wrap_ok (by omega) (by omega), if_pos (by omega), if_pos (by omega), hw]
      exact j0_yes 0 t
    · obtain ⟨r, hr, hr2⟩ := numbers_l0 (t.drop 1) (fun s hs => hsz s (List.mem_of_mem_drop hs)) (by rw [List.length_drop]; omega) (t.drop 1).length ((t.drop 1).length + 1) 0 [] (by omega) (by omega) rfl (by simp)
      refine ⟨(t.drop 1).length + 1 + 1, r, ?_, fun h => ⟨by rw [(hr2 h).1, List.length_drop]; omega, (hr2 h).2⟩⟩
      unfold bench_numbers.f
      rw [hsp, Option.bind_some, wrap_ok (by omega) (by omega), if_pos (by omega), if_pos (by omega), Bool.eq_false_iff.2 hw, bench_numbers.j0, if_neg (by decide), if_pos (by omega), Option.bind_some]
      exact hr
  · refine ⟨1, ([], false), ?_, fun h => by cases h⟩
    unfold bench_numbers.f
    rw [hsp, Option.bind_some, wrap_ok (by omega) (by omega), if_neg (by omega)]
    exact j0_yes 0 t
end Go.Proofs.YtioppgeackgjnaaDoor.Txt
namespace Go.Proofs.YtioppgeackgjnaaDoor.Txt
open Go.RowKit Go.Proofs.YtioppgeackgjnaaDoor.Bt Go.Proofs.YtioppgeackgjnaaDoorW.PrintWords Go.Proofs.YtioppgeackgjnaaDoorW.PrintLast
set_option linter.unusedVariables false
def T (l : List UInt8) : ByteArray := ⟨l.toArray⟩
theorem T_list (l : List UInt8) : (T l).data.toList = l := by simp [T]
theorem T_of (t : ByteArray) : T t.data.toList = t := by cases t; simp [T]
theorem T_size (l : List UInt8) : (T l).size = l.length := by simp [T, ByteArray.size]
def word (first : Bool) : ByteArray := if first then ⟨#[114, 111, 111, 109]⟩ else ⟨#[97, 100, 100]⟩
def many (first : Bool) : Nat := if first then 1 else 2
noncomputable def numsOf (l : List UInt8) (first : Bool) : List Int × Bool := Classical.epsilon (fun r => ∃ k, bench_numbers.f k (T l) (word first) (many first : Int) = some r)
theorem numsOf_spec (l : List UInt8) (first : Bool) (hl : l.length < 4294967281) : ∃ k, bench_numbers.f k (T l) (word first) (many first : Int) = some (numsOf l first) := by
  obtain ⟨k, r, h, _⟩ := numbers_total (T l) (word first) (many first) (by unfold many; split <;> omega) (by rw [T_size]; exact hl)
  exact Classical.epsilon_spec (p := fun r => ∃ k, bench_numbers.f k (T l) (word first) (many first : Int) = some r) ⟨r, k, h⟩
theorem numsOf_len (l : List UInt8) (first : Bool) (hl : l.length < 4294967281) (h : (numsOf l first).2 = true) : (numsOf l first).1.length = many first ∧ ∀ x ∈ (numsOf l first).1, 0 ≤ x ∧ x ≤ 1099511627776 := by
  obtain ⟨k1, r, h1, h2⟩ := numbers_total (T l) (word first) (many first) (by unfold many; split <;> omega) (by rw [T_size]; exact hl)
  obtain ⟨k2, h3⟩ := numsOf_spec l first hl
  have e1 := at_rounds (bench_numbers.mono _ _ _) (show k1 ≤ k1 + k2 by omega) h1
  have e2 := at_rounds (bench_numbers.mono _ _ _) (show k2 ≤ k1 + k2 by omega) h3
  rw [e1] at e2
  have e3 := Option.some.inj e2
  rw [← e3] at h ⊢
  exact h2 h
/-- What is read of a text: the room and all that come, or nothing. -/
noncomputable def parseS : Nat → List UInt8 → Int → List S36 → Nat → Option (Int × List S36)
  | 0, _, _, _, _ => none
  | n + 1, t, room, out, idx =>
    if idx ≠ 0 ∧ t = [] then some (room, out)
    else if (cutAt 10 t).2.2 = true ∧ (numsOf (cutAt 10 t).1 (idx == 0)).2 = true then
      (if idx = 0 then parseS n (cutAt 10 t).2.1 (rd (numsOf (cutAt 10 t).1 true).1 0) out 1
       else parseS n (cutAt 10 t).2.1 room (out ++ [(⟨rd (numsOf (cutAt 10 t).1 false).1 0, rd (numsOf (cutAt 10 t).1 false).1 1⟩ : S36)]) (idx + 1))
    else none
/-- With more behind: the same room, the same ones first. -/
theorem parseS_later : ∀ (n : Nat) (t : List UInt8) (room : Int) (out : List S36) (idx : Nat) (r : Int) (o : List S36), idx ≠ 0 → parseS n t room out idx = some (r, o) → r = room ∧ ∃ l, o = out ++ l
  | 0, _, _, _, _, _, _, _, h => by simp [parseS] at h
  | n + 1, t, room, out, idx, r, o, hi, h => by
    rw [parseS] at h
    split at h
    · simp only [Option.some.injEq, Prod.mk.injEq] at h
      exact ⟨h.1.symm, [], by rw [List.append_nil]; exact h.2.symm⟩
    · split at h
      · (try rw [if_neg hi] at h)
        obtain ⟨h1, l, h2⟩ := parseS_later n _ _ _ _ _ _ (by omega) h
        exact ⟨h1, _, by rw [h2, List.append_assoc]⟩
      · cases h
theorem parseS_more : ∀ (n n2 : Nat) (t m : List UInt8) (room : Int) (out : List S36) (idx : Nat) (r r2 : Int) (o o2 : List S36), parseS n t room out idx = some (r, o) → parseS n2 (t ++ m) room out idx = some (r2, o2) → r2 = r ∧ ∃ l, o2 = o ++ l
  | 0, _, _, _, _, _, _, _, _, _, _, h, _ => by simp [parseS] at h
  | n + 1, 0, _, _, _, _, _, _, _, _, _, _, h2 => by simp [parseS] at h2
  | n + 1, n2 + 1, t, m, room, out, idx, r, r2, o, o2, h, h2 => by
    rw [parseS] at h
    split at h
    · rename_i hc
      simp only [Option.some.injEq, Prod.mk.injEq] at h
      obtain ⟨rfl, rfl⟩ := h
      rw [hc.2, List.nil_append] at h2
      exact parseS_later _ _ _ _ _ _ _ hc.1 h2
    · rename_i hc
      split at h
      · rename_i hk
        rcases hq : cutAt 10 t with ⟨a, b, c⟩
        rw [hq] at h hk
        obtain rfl : c = true := hk.1
        have hmore := cutAt_more hq m
        rw [parseS, hmore] at h2
        have hne : ¬ (idx ≠ 0 ∧ t ++ m = []) := fun e => hc ⟨e.1, (List.append_eq_nil_iff.1 e.2).1⟩
        rw [if_neg hne] at h2
        simp only at hk h h2
        rw [if_pos hk] at h2
        by_cases h0 : idx = 0
        · rw [if_pos h0] at h h2
          exact parseS_more n n2 _ m _ _ _ _ _ _ _ h h2
        · rw [if_neg h0] at h h2
          exact parseS_more n n2 _ m _ _ _ _ _ _ _ h h2
      · cases h
theorem T_toList (l : List UInt8) : (T l).toList = l := by rw [ByteArray.toList_eq, T_list]
theorem cut_T (t : List UInt8) (ht : t.length < 4294967281) : strings_Cut.f (T t) (⟨#[10]⟩ : ByteArray) = some (T (cutAt 10 t).1, T (cutAt 10 t).2.1, (cutAt 10 t).2.2) := by
  have e : Lib.cut t [10] = cutAt 10 t := cut_one 10 t
  unfold strings_Cut.f
  rw [if_pos (by rw [T_size]; exact ht), T_list]
  show some ((⟨(Lib.cut t [10]).1.toArray⟩ : ByteArray), (⟨(Lib.cut t [10]).2.1.toArray⟩ : ByteArray), (Lib.cut t [10]).2.2) = _
  rw [e]
  rfl
theorem cutAt_lens (t : List UInt8) : (cutAt 10 t).1.length ≤ t.length ∧ ((cutAt 10 t).2.2 = true → (cutAt 10 t).2.1.length < t.length) := by
  obtain ⟨h1, h2⟩ := index_one 10 t
  cases hw : (cutAt 10 t).2.2 with
  | true =>
    obtain ⟨_, a2, _⟩ := h1 hw
    have := congrArg List.length a2
    rw [List.length_append, List.length_cons] at this
    exact ⟨by omega, fun _ => by omega⟩
  | false =>
    obtain ⟨_, a2, _, _⟩ := h2 hw
    exact ⟨by rw [a2]; exact Nat.le_refl _, fun h => by cases h⟩
/-- The loop answers what parseS says. -/
theorem parse_run : ∀ (n : Nat) (t : List UInt8) (room : Int) (out : List S36) (idx : Nat), t.length < n → t.length < 4294967281 → out.length ≤ idx → idx + t.length ≤ 4300000000 →
    ∃ k i, bench_Parse.l0 k (T t) room out (idx : Int) = some (match parseS n t room out idx with | some p => (p.1, p.2, 0, 0) | none => (0, [], i, 1))
  | 0, _, _, _, _, h, _, _, _ => absurd h (by omega)
  | n + 1, t, room, out, idx, hn, ht, ho, hi => by
    by_cases hc : idx ≠ 0 ∧ t = []
    · refine ⟨2, 0, ?_⟩
      obtain ⟨h0, rfl⟩ := hc
      rw [parseS, if_pos ⟨h0, rfl⟩, bench_Parse.l0, if_neg (by omega), T_toList, bench_Parse.j1, if_neg (by decide)]
    · obtain ⟨hl1, hl2⟩ := cutAt_lens t
      obtain ⟨kn, hkn⟩ := numsOf_spec (cutAt 10 t).1 (idx == 0) (by omega)
      have hlen := fun h => (numsOf_len (cutAt 10 t).1 (idx == 0) (by omega) h).1
      have hfirst : ∀ k res, bench_Parse.j1 k (T t) room out (idx : Int) true = some res → bench_Parse.l0 (k + 1) (T t) room out (idx : Int) = some res := fun k res h => by
        rw [bench_Parse.l0]
        by_cases h0 : idx = 0
        · rw [if_pos (by omega)]; exact h
        · have hne : t ≠ [] := fun e => hc ⟨h0, e⟩
          rw [if_neg (by omega), T_toList, show (t != []) = true from bne_iff_ne.2 hne]; exact h
      have hj : ∀ k res, kn ≤ k → bench_Parse.j3 k room out (idx : Int) (T (cutAt 10 t).2.1) (numsOf (cutAt 10 t).1 (idx == 0)).1 (!((cutAt 10 t).2.2 && (numsOf (cutAt 10 t).1 (idx == 0)).2)) = some res → bench_Parse.j1 (k + 2) (T t) room out (idx : Int) true = some res := fun k res hk h => by
        rw [bench_Parse.j1, if_pos rfl, cut_T t ht, Option.bind_some]
        have h2 : ∀ (w : ByteArray) (m : Int), w = word (idx == 0) → m = (many (idx == 0) : Int) → bench_Parse.j2 (k + 1) room out (idx : Int) (T (cutAt 10 t).1) (T (cutAt 10 t).2.1) (cutAt 10 t).2.2 w m = some res := fun w m hw hm => by
          rw [bench_Parse.j2, hw, hm, at_rounds (bench_numbers.mono _ _ _) hk hkn, Option.bind_some]
          cases hq : (cutAt 10 t).2.2 with
          | true => rw [hq] at h; rw [if_pos rfl]; simpa using h
          | false => rw [hq] at h; rw [if_neg (by decide)]; simpa using h
        by_cases h0 : idx = 0
        · rw [if_pos (by omega)]; exact h2 _ _ (by rw [h0]; rfl) (by rw [h0]; rfl)
        · rw [if_neg (by omega)]; exact h2 _ _ (by simp [word, h0]) (by simp [many, h0])
      rw [parseS, if_neg hc]
      by_cases hok : (cutAt 10 t).2.2 = true ∧ (numsOf (cutAt 10 t).1 (idx == 0)).2 = true
      · rw [if_pos hok]
        have hb : (!((cutAt 10 t).2.2 && (numsOf (cutAt 10 t).1 (idx == 0)).2)) = false := by rw [hok.1, hok.2]; rfl
        rw [hb] at hj
        have hrest := hl2 hok.1
        have hlen := hlen hok.2
        by_cases h0 : idx = 0
        · rw [if_pos h0]
          subst h0
          have ht1 : ((0 : Nat) == 0) = true := rfl
          rw [ht1] at hj hlen
          obtain ⟨k, i, hk⟩ := parse_run n (cutAt 10 t).2.1 (rd (numsOf (cutAt 10 t).1 true).1 0) out 1 (by omega) (by omega) (by omega) (by omega)
          refine ⟨k + kn + 1 + 2 + 1, i, hfirst _ _ (hj _ _ (by omega) ?_)⟩
          rw [bench_Parse.j3, if_neg (by decide), if_pos (by omega), if_pos (by rw [hlen]; decide), wrap_ok (by omega) (by omega)]
          exact at_rounds (fun k => (bench_Parse.mono_l k).1 _ _ _ _) (show k ≤ k + kn by omega) hk
        · rw [if_neg h0]
          have ht1 : (idx == 0) = false := beq_eq_false_iff_ne.2 h0
          rw [ht1] at hj hlen
          obtain ⟨k, i, hk⟩ := parse_run n (cutAt 10 t).2.1 room (out ++ [(⟨rd (numsOf (cutAt 10 t).1 false).1 0, rd (numsOf (cutAt 10 t).1 false).1 1⟩ : S36)]) (idx + 1) (by omega) (by omega) (by simp; omega) (by omega)
          refine ⟨k + kn + 1 + 2 + 1, i, hfirst _ _ (hj _ _ (by omega) ?_)⟩
          rw [bench_Parse.j3, if_neg (by decide), if_neg (by omega), if_pos (by rw [hlen]; decide), if_pos (by rw [hlen]; decide), if_pos (by omega), wrap_ok (by omega) (by omega)]
          exact at_rounds (fun k => (bench_Parse.mono_l k).1 _ _ _ _) (show k ≤ k + kn by omega) hk
      · rw [if_neg hok]
        have hb : (!((cutAt 10 t).2.2 && (numsOf (cutAt 10 t).1 (idx == 0)).2)) = true := by
          cases h1 : (cutAt 10 t).2.2 <;> cases h2 : (numsOf (cutAt 10 t).1 (idx == 0)).2 <;> simp_all
        rw [hb] at hj
        refine ⟨kn + 1 + 2 + 1, idx, hfirst _ _ (hj _ _ (by omega) ?_)⟩
        rw [bench_Parse.j3, if_pos rfl]
end Go.Proofs.YtioppgeackgjnaaDoor.Txt
namespace Go.Proofs.YtioppgeackgjnaaDoor.Txt
open Go.RowKit Go.Proofs.YtioppgeackgjnaaDoor.Bt Go.Proofs.YtioppgeackgjnaaDoorW.PrintWords Go.Proofs.YtioppgeackgjnaaDoorW.PrintLast
set_option linter.unusedVariables false
theorem count_cut {t a b : List UInt8} (h : cutAt 10 t = (a, b, true)) : t.count 10 = b.count 10 + 1 := by
  have h1 := (index_one 10 t).1 (by rw [h])
  rw [h] at h1
  obtain ⟨_, a2, a3⟩ := h1
  simp only at a2 a3
  rw [a2, List.count_append, List.count_cons_self, List.count_eq_zero_of_not_mem a3]
  omega
theorem parseS_count : ∀ (n : Nat) (t : List UInt8) (room : Int) (out : List S36) (idx : Nat) (r : Int) (o : List S36), parseS n t room out idx = some (r, o) → o.length + (if idx = 0 then 1 else 0) = out.length + t.count 10
  | 0, _, _, _, _, _, _, h => by simp [parseS] at h
  | n + 1, t, room, out, idx, r, o, h => by
    rw [parseS] at h
    by_cases hc : idx ≠ 0 ∧ t = []
    · rw [if_pos hc] at h
      simp only [Option.some.injEq, Prod.mk.injEq] at h
      obtain ⟨rfl, rfl⟩ := h
      rw [hc.2, if_neg hc.1]
      simp
    · rw [if_neg hc] at h
      by_cases hk : (cutAt 10 t).2.2 = true ∧ (numsOf (cutAt 10 t).1 (idx == 0)).2 = true
      · rw [if_pos hk] at h
        rcases hq : cutAt 10 t with ⟨a, b, c⟩
        rw [hq] at h hk
        obtain rfl : c = true := hk.1
        have hcnt := count_cut hq
        by_cases h0 : idx = 0
        · rw [if_pos h0] at h
          have := parseS_count n _ _ _ _ _ _ h
          rw [if_pos h0]
          simp at this
          omega
        · rw [if_neg h0] at h
          have := parseS_count n _ _ _ _ _ _ h
          rw [if_neg h0]
          simp at this
          omega
      · rw [if_neg hk] at h
        cases h
def Fit (x : Int) : Prop := 0 ≤ x ∧ x ≤ 1099511627776
theorem rd_fit {l : List Int} {i : Nat} (hi : i < l.length) (h : ∀ x ∈ l, 0 ≤ x ∧ x ≤ 1099511627776) : Fit (rd l (i : Int)) := by
  have : rd l (i : Int) = l[i] := by simp [rd, hi]
  rw [this]
  exact h _ (List.getElem_mem hi)
theorem parseS_fit : ∀ (n : Nat) (t : List UInt8) (room : Int) (out : List S36) (idx : Nat) (r : Int) (o : List S36), t.length < 4294967281 → (∀ c ∈ out, Fit c.f0 ∧ Fit c.f1) → parseS n t room out idx = some (r, o) → ∀ c ∈ o, Fit c.f0 ∧ Fit c.f1
  | 0, _, _, _, _, _, _, _, _, h => by simp [parseS] at h
  | n + 1, t, room, out, idx, r, o, ht, ho, h => by
    rw [parseS] at h
    by_cases hc : idx ≠ 0 ∧ t = []
    · rw [if_pos hc] at h
      simp only [Option.some.injEq, Prod.mk.injEq] at h
      obtain ⟨rfl, rfl⟩ := h
      exact ho
    · rw [if_neg hc] at h
      by_cases hk : (cutAt 10 t).2.2 = true ∧ (numsOf (cutAt 10 t).1 (idx == 0)).2 = true
      · rw [if_pos hk] at h
        obtain ⟨hl1, hl2⟩ := cutAt_lens t
        have hl2 := hl2 hk.1
        by_cases h0 : idx = 0
        · rw [if_pos h0] at h
          exact parseS_fit n _ _ _ _ _ _ (by omega) ho h
        · rw [if_neg h0] at h
          have hb : (idx == 0) = false := beq_eq_false_iff_ne.2 h0
          rw [hb] at hk
          obtain ⟨n1, n2⟩ := numsOf_len (cutAt 10 t).1 false (by omega) hk.2
          refine parseS_fit n _ _ _ _ _ _ (by omega) (fun c hm => ?_) h
          rcases List.mem_append.1 hm with hm | hm
          · exact ho c hm
          · rw [List.mem_singleton.1 hm]
            exact ⟨rd_fit (i := 0) (by rw [n1]; decide) n2, rd_fit (i := 1) (by rw [n1]; decide) n2⟩
      · rw [if_neg hk] at h
        cases h
/-! ### the pool -/
structure PoolOK (room came : Int) (has : List Int) : Prop where
  rooms : 1 ≤ room ∧ room ≤ 400
  comes : 0 ≤ came ∧ came ≤ 1099511627776
  len : (has.length : Int) = mn room came
  fit : ∀ x ∈ has, 0 ≤ x ∧ x ≤ 1099511627776
theorem right_ok {room came : Int} {has : List Int} (h : PoolOK room came has) : pool_Right.f room came has = some true := by
  unfold pool_Right.f
  rw [if_pos h.rooms.1, if_pos h.rooms.2, if_pos h.comes.1, if_pos h.comes.2, h.len]
  simp
theorem clone_ok {l : List Int} (h : l.length ≤ 1000) : slices_Clone_int_int.f l = some l := by
  unfold slices_Clone_int_int.f
  rw [Option.bind_some, if_pos (by simp; omega)]
  simp
theorem len_le {room came : Int} {has : List Int} (h : PoolOK room came has) : has.length ≤ 400 := by
  have h1 := h.len
  have h2 := h.rooms
  unfold mn at h1
  split at h1 <;> omega
/-- pool.Add answers; a pool that it hands back without error is one. -/
theorem add_total {room came : Int} {has : List Int} (h : PoolOK room came has) (x d : Int) (hx : 0 ≤ x ∧ x ≤ 1099511627776) : ∃ r1 r2 r3 e, pool_Add.f room came has x d = some (r1, r2, r3, e) ∧ (e = 0 → PoolOK r1 r2 r3) ∧ 0 ≤ e ∧ e ≤ 4 := by
  have hl := len_le h
  have hlen := h.len
  have hr := h.rooms
  have hc := h.comes
  unfold pool_Add.f
  rw [right_ok h, Option.bind_some, if_pos rfl]
  by_cases c1 : came = 1099511627776
  · rw [if_pos c1]; exact ⟨_, _, _, _, rfl, fun h => absurd h (by decide), by omega, by omega⟩
  rw [if_neg c1]
  by_cases c2 : d < 0
  · rw [if_pos c2]; exact ⟨_, _, _, _, rfl, fun h => absurd h (by decide), by omega, by omega⟩
  rw [if_neg c2]
  by_cases c3 : d > came
  · rw [if_pos c3]; exact ⟨_, _, _, _, rfl, fun h => absurd h (by decide), by omega, by omega⟩
  rw [if_neg c3, clone_ok (by omega), Option.bind_some, wrap_ok (by omega) (by omega)]
  unfold mn at hlen
  by_cases c4 : (has.length : Int) < room
  · rw [if_pos c4, if_pos (by omega)]
    refine ⟨_, _, _, _, rfl, fun _ => ⟨hr, by omega, ?_, ?_⟩, by omega, by omega⟩
    · unfold mn
      rw [List.length_append]
      split at hlen <;> split <;> simp <;> omega
    · intro y hy
      rcases List.mem_append.1 hy with hy | hy
      · exact h.fit y hy
      · rw [List.mem_singleton.1 hy]; exact hx
  · rw [if_neg c4]
    by_cases c5 : d < room
    · rw [if_pos c5, if_pos (by omega), if_pos (by split at hlen <;> omega)]
      refine ⟨_, _, _, _, rfl, fun _ => ⟨hr, by omega, ?_, ?_⟩, by omega, by omega⟩
      · unfold mn
        rw [List.length_set]
        split at hlen <;> split <;> omega
      · intro y hy
        rcases List.mem_or_eq_of_mem_set hy with hy | hy
        · exact h.fit y hy
        · rw [hy]; exact hx
    · rw [if_neg c5]
      refine ⟨_, _, _, _, rfl, fun _ => ⟨hr, by omega, ?_, h.fit⟩, by omega, by omega⟩
      unfold mn
      split at hlen <;> split <;> omega
end Go.Proofs.YtioppgeackgjnaaDoor.Txt
namespace Go.Proofs.YtioppgeackgjnaaDoor.Txt
open Go.RowKit Go.Proofs.YtioppgeackgjnaaDoor.Bt Go.Proofs.YtioppgeackgjnaaDoorW.PrintWords Go.Proofs.YtioppgeackgjnaaDoorW.PrintLast
set_option linter.unusedVariables false
abbrev Pool := Int × Int × List Int
def addS (p : Pool) (c : S36) : Int × Int × List Int × Int := (pool_Add.f p.1 p.2.1 p.2.2 c.f0 c.f1).getD (0, 0, [], 1)
def itoaB (v : Int) : ByteArray := ⟨(Lib.itoa v).toArray⟩
def lineS (p : Pool) (c : S36) : ByteArray := if (addS p c).2.2.2 = 0 then ⟨#[111, 107]⟩ else (⟨#[101, 114, 114, 111, 114, 32]⟩ : ByteArray) ++ itoaB (addS p c).2.2.2
def nextS (p : Pool) (c : S36) : Pool := if (addS p c).2.2.2 = 0 then ((addS p c).1, (addS p c).2.1, (addS p c).2.2.1) else p
def linesS : Pool → List S36 → List ByteArray
  | _, [] => []
  | p, c :: l => lineS p c :: linesS (nextS p c) l
theorem linesS_length : ∀ (l : List S36) (p : Pool), (linesS p l).length = l.length
  | [], _ => rfl
  | c :: l, p => by simp [linesS, linesS_length l]
theorem linesS_more : ∀ (l m : List S36) (p : Pool), ∃ x, linesS p (l ++ m) = linesS p l ++ x
  | [], m, p => ⟨_, rfl⟩
  | c :: l, m, p => by
    obtain ⟨x, hx⟩ := linesS_more l m (nextS p c)
    exact ⟨x, by rw [List.cons_append, linesS, linesS, hx]; rfl⟩
theorem add_eq {p : Pool} (h : PoolOK p.1 p.2.1 p.2.2) (c : S36) (hc : Fit c.f0) : pool_Add.f p.1 p.2.1 p.2.2 c.f0 c.f1 = some (addS p c) ∧ ((addS p c).2.2.2 = 0 → PoolOK (addS p c).1 (addS p c).2.1 (addS p c).2.2.1) ∧ 0 ≤ (addS p c).2.2.2 ∧ (addS p c).2.2.2 ≤ 4 := by
  obtain ⟨r1, r2, r3, e, h1, h2, h3, h4⟩ := add_total h c.f0 c.f1 hc
  have : addS p c = (r1, r2, r3, e) := by unfold addS; rw [h1]; rfl
  rw [this]
  exact ⟨h1, h2, h3, h4⟩
theorem next_ok {p : Pool} (h : PoolOK p.1 p.2.1 p.2.2) (c : S36) (hc : Fit c.f0) : PoolOK (nextS p c).1 (nextS p c).2.1 (nextS p c).2.2 := by
  obtain ⟨_, h2, _⟩ := add_eq h c hc
  unfold nextS
  split
  · rename_i he
    exact h2 he
  · exact h
theorem itoa_some (v : Int) (h : -9223372036854775808 ≤ v ∧ v ≤ 9223372036854775807) : strconv_Itoa.f v = some (itoaB v) := by
  unfold strconv_Itoa.f
  rw [if_pos h]
  rfl
theorem itoaB_size (v : Int) (h : -9223372036854775808 ≤ v ∧ v ≤ 9223372036854775807) : (itoaB v).size ≤ 21 := by
  have := Lib.itoa_length_le v h.1 h.2
  simpa [itoaB, ByteArray.size] using this
/-- The last line. -/
theorem tell_l1 (has : List Int) (hl : has.length ≤ 400) (hf : ∀ x ∈ has, 0 ≤ x ∧ x ≤ 1099511627776) (out : List ByteArray) (ho : out.length ≤ 8000000000) : ∀ (d k i : Nat) (s : ByteArray), i + d = has.length → d < k → s.size ≤ 100 + 22 * i → ∃ last, bench_Tell.l1 k out s has (has.length : Int) (i : Int) = some (out ++ [last], 0) := by
  intro d
  induction d with
  | zero =>
    intro k i s hi hk hs
    obtain ⟨k, rfl⟩ : ∃ m, k = m + 1 := ⟨k - 1, by omega⟩
    exact ⟨s, by rw [bench_Tell.l1, if_neg (by omega), if_pos (by omega)]⟩
  | succ d ih =>
    intro k i s hi hk hs
    obtain ⟨k, rfl⟩ : ∃ m, k = m + 1 := ⟨k - 1, by omega⟩
    have hlt : i < has.length := by omega
    obtain ⟨f0, f1⟩ := rd_fit hlt hf
    have hz := itoaB_size (rd has (i : Int)) (by omega)
    have hz2 : ((⟨#[32]⟩ : ByteArray) ++ itoaB (rd has (i : Int))).size ≤ 22 := by
      rw [ByteArray.size_append]
      have : (⟨#[32]⟩ : ByteArray).size = 1 := rfl
      omega
    obtain ⟨last, h⟩ := ih k (i + 1) (s ++ ((⟨#[32]⟩ : ByteArray) ++ itoaB (rd has (i : Int)))) (by omega) (by omega) (by rw [ByteArray.size_append]; omega)
    refine ⟨last, ?_⟩
    rw [bench_Tell.l1, if_pos (by omega), if_pos (by omega), if_pos (by omega), itoa_some _ (by omega), Option.bind_some, if_pos (by omega), if_pos (by omega), wrap_ok (by omega) (by omega)]
    exact h
theorem rd_T36_at (done : List S36) (c : S36) (rest : List S36) : rd_T36 (done ++ c :: rest) (done.length : Int) = c := by
  simp [rd_T36]
theorem tell_l0 : ∀ (rest done : List S36) (out : List ByteArray) (p : Pool), PoolOK p.1 p.2.1 p.2.2 → (∀ c ∈ rest, Fit c.f0 ∧ Fit c.f1) → done.length + rest.length ≤ 5000000000 → out.length = done.length →
    ∃ k last, bench_Tell.l0 k out (done ++ rest) ((done.length + rest.length : Nat) : Int) (done.length : Int) p.1 p.2.1 p.2.2 = some (out ++ linesS p rest ++ [last], 0)
  | [], done, out, p, hp, _, hl, ho => by
    have h2 := hp.comes
    obtain ⟨last, h⟩ := tell_l1 p.2.2 (len_le hp) hp.fit out (by simp at hl; omega) p.2.2.length (p.2.2.length + 1) 0 ((⟨#[107, 101, 112, 116, 32]⟩ : ByteArray) ++ itoaB p.2.1) (by omega) (by omega) (by
      have hz := itoaB_size p.2.1 (by omega)
      rw [ByteArray.size_append]
      have : (⟨#[107, 101, 112, 116, 32]⟩ : ByteArray).size = 5 := rfl
      omega)
    have hz := itoaB_size p.2.1 (by omega)
    refine ⟨p.2.2.length + 1 + 1, last, ?_⟩
    rw [bench_Tell.l0, if_neg (by simp), itoa_some _ (by omega), Option.bind_some, if_pos (by omega), linesS, List.append_nil]
    exact h
  | c :: rest, done, out, p, hp, hf, hl, ho => by
    obtain ⟨hc0, hc1⟩ := hf c List.mem_cons_self
    obtain ⟨a1, a2, a3, a4⟩ := add_eq hp c hc0
    have hl' : done.length + (rest.length + 1) ≤ 5000000000 := by simpa using hl
    obtain ⟨k, last, h⟩ := tell_l0 rest (done ++ [c]) (out ++ [lineS p c]) (nextS p c) (next_ok hp c hc0) (fun x hx => hf x (List.mem_cons_of_mem _ hx)) (by simp; omega) (by simp; omega)
    have e1 : (done ++ [c]) ++ rest = done ++ c :: rest := by simp
    have e2 : (((done ++ [c]).length + rest.length : Nat) : Int) = ((done.length + (c :: rest).length : Nat) : Int) := by simp; omega
    have e3 : (((done ++ [c]).length : Nat) : Int) = (done.length : Int) + 1 := by simp
    rw [e1, e2, e3] at h
    refine ⟨k + 1, last, ?_⟩
    rw [bench_Tell.l0, if_pos (by simp; omega), if_pos (by omega), if_pos (by simp; omega), rd_T36_at, a1, Option.bind_some, wrap_ok (by omega) (by omega)]
    have e4 : out ++ linesS p (c :: rest) ++ [last] = out ++ [lineS p c] ++ linesS (nextS p c) rest ++ [last] := by simp [linesS]
    rw [e4]
    by_cases he : (addS p c).2.2.2 = 0
    · have hn : nextS p c = ((addS p c).1, (addS p c).2.1, (addS p c).2.2.1) := by unfold nextS; rw [if_pos he]
      have hline : lineS p c = ⟨#[111, 107]⟩ := by unfold lineS; rw [if_pos he]
      rw [if_pos he, if_pos (by omega)]
      rw [hn, hline] at h
      rw [hn, hline]
      exact h
    · have hn : nextS p c = p := by unfold nextS; rw [if_neg he]
      have hline : lineS p c = (⟨#[101, 114, 114, 111, 114, 32]⟩ : ByteArray) ++ itoaB (addS p c).2.2.2 := by unfold lineS; rw [if_neg he]
      have hz := itoaB_size (addS p c).2.2.2 (by omega)
      rw [if_neg he, itoa_some _ (by omega), Option.bind_some, if_pos (by omega), if_pos (by omega)]
      rw [hn, hline] at h
      rw [hn, hline]
      exact h
end Go.Proofs.YtioppgeackgjnaaDoor.Txt
namespace Go.Proofs.YtioppgeackgjnaaDoor.Txt
open Go.RowKit Go.Proofs.YtioppgeackgjnaaDoor.Bt Go.Proofs.YtioppgeackgjnaaDoorW.PrintWords Go.Proofs.YtioppgeackgjnaaDoorW.PrintLast
set_option linter.unusedVariables false
theorem size_list (t : ByteArray) : t.data.toList.length = t.size := by rw [Array.length_toList]; rfl
theorem new_of (r : Int) : (1 ≤ r ∧ r ≤ 400 ∧ pool_New.f r = some (r, 0, [], 0)) ∨ pool_New.f r = some (0, 0, [], 2) := by
  unfold pool_New.f pool_Right.f
  by_cases h1 : r ≥ 1
  · by_cases h2 : r ≤ 400
    · left
      refine ⟨h1, h2, ?_⟩
      rw [if_pos h1, if_pos h2, if_pos (by omega), if_pos (by omega), Option.bind_some]
      have : mn r 0 = 0 := by unfold mn; split <;> omega
      rw [this]
      rfl
    · right
      rw [if_pos h1, if_neg h2]
      rfl
  · right
    rw [if_neg h1]
    rfl
theorem new_ok {r : Int} (h : 1 ≤ r ∧ r ≤ 400) : PoolOK r 0 [] := ⟨h, by omega, by unfold mn; split <;> simp <;> omega, by simp⟩
theorem tell_run (t : ByteArray) (ht : t.size < 4294967281) : ∃ k, ∃ res : List ByteArray × Int, bench_Tell.f k t = some res ∧ (res.2 ≠ 0 → res.1 = []) ∧ (res.2 = 0 → ∃ n r o last, parseS n t.data.toList 0 [] 0 = some (r, o) ∧ res.1 = linesS (r, 0, []) o ++ [last]) := by
  have hz := size_list t
  obtain ⟨k, i, hk⟩ := parse_run (t.data.toList.length + 1) t.data.toList 0 [] 0 (by omega) (by omega) (by simp) (by omega)
  rw [T_of] at hk
  cases hp : parseS (t.data.toList.length + 1) t.data.toList 0 [] 0 with
  | none =>
    rw [hp] at hk
    refine ⟨k, ([], 1), ?_, fun _ => rfl, fun h => absurd h (by decide)⟩
    unfold bench_Tell.f bench_Parse.f
    rw [show ((0 : Nat) : Int) = 0 from rfl] at hk
    rw [hk, Option.bind_some, if_neg (show ¬ (1 : Int) = 0 by decide)]
  | some p =>
    obtain ⟨r, o⟩ := p
    rw [hp] at hk
    rcases new_of r with ⟨h1, h2, h3⟩ | h3
    · have hfit := parseS_fit _ _ _ _ _ _ _ (by omega) (by simp) hp
      have hcnt := parseS_count _ _ _ _ _ _ _ hp
      have hle : t.data.toList.count 10 ≤ t.data.toList.length := List.count_le_length
      obtain ⟨k2, last, h⟩ := tell_l0 o [] [] (r, 0, []) (new_ok ⟨h1, h2⟩) hfit (by rw [if_pos rfl] at hcnt; show 0 + o.length ≤ _; simp only [List.length_nil] at hcnt; omega) rfl
      refine ⟨k + k2, (linesS (r, 0, []) o ++ [last], 0), ?_, fun h => absurd rfl h, fun _ => ⟨_, r, o, last, hp, rfl⟩⟩
      have hk' := at_rounds (bench_Parse.mono t) (show k ≤ k + k2 by omega) (show bench_Parse.f k t = some (r, o, 0, 0) from hk)
      have h' := at_rounds (fun k => (bench_Tell.mono_l k).1 _ _ _ _ _ _ _) (show k2 ≤ k + k2 by omega) h
      unfold bench_Tell.f
      rw [hk', Option.bind_some, if_pos rfl, h3, Option.bind_some, if_pos rfl]
      simpa using h'
    · refine ⟨k, ([], 2), ?_, fun _ => rfl, fun h => absurd h (by decide)⟩
      unfold bench_Tell.f
      rw [show bench_Parse.f k t = some (r, o, 0, 0) from hk, Option.bind_some, if_pos rfl, h3, Option.bind_some, if_neg (by decide)]
theorem equal_self (l : List ByteArray) (hl : l.length ≤ 4000000000) : ∃ k, slices_Equal_string_string.f k l l = some true := by
  have : ∀ (d k i : Nat), i + d = l.length → d < k → slices_Equal_string_string.l0 k l l (l.length : Int) (i : Int) = some true := by
    intro d
    induction d with
    | zero =>
      intro k i hi hk
      obtain ⟨k, rfl⟩ : ∃ m, k = m + 1 := ⟨k - 1, by omega⟩
      rw [slices_Equal_string_string.l0, if_neg (by omega)]
    | succ d ih =>
      intro k i hi hk
      obtain ⟨k, rfl⟩ : ∃ m, k = m + 1 := ⟨k - 1, by omega⟩
      rw [slices_Equal_string_string.l0, if_pos (by omega), if_pos (by omega), if_pos (by omega), if_pos (by omega), if_pos rfl, wrap_ok (by omega) (by omega)]
      exact ih k (i + 1) (by omega) (by omega)
  refine ⟨l.length + 1, ?_⟩
  unfold slices_Equal_string_string.f
  rw [if_pos rfl]
  exact this l.length _ 0 (by omega) (by omega)
end Go.Proofs.YtioppgeackgjnaaDoor.Txt
