/- bench.numbers: it reads what is written so, and nothing else. -/
import Derived.Test.YtioppgeackgjnaaDoorPlDec
namespace Go.Proofs.YtioppgeackgjnaaDoor.Txt
open Go.RowKit Go.Proofs.YtioppgeackgjnaaDoor.Bt Go.Proofs.YtioppgeackgjnaaDoorW.PrintWords Go.Proofs.YtioppgeackgjnaaDoorW.PrintLast
set_option linter.unusedVariables false
theorem toList_inj {a b : ByteArray} (h : a.toList = b.toList) : a = b := by
  rw [← T_of a, ← T_of b, ← ByteArray.toList_eq, ← ByteArray.toList_eq, h]
theorem numbers_l0x (y : List ByteArray) (hy : ∀ s ∈ y, s.size ≤ 281474976710656) (hl : y.length ≤ 10000000000) : ∀ (d k i : Nat) (out : List Int), i + d = y.length → d < k → out.length = i →
    ∃ r, bench_numbers.l0 k out y (y.length : Int) (i : Int) = some r ∧ (r.2 = true → ∃ vs, (∀ v ∈ vs, Fit v) ∧ y.drop i = vs.map itoaB ∧ r.1 = out ++ vs) ∧ (∀ vs, (∀ v ∈ vs, Fit v) → y.drop i = vs.map itoaB → r = (out ++ vs, true)) := by
  intro d
  induction d with
  | zero =>
    intro k i out hi hk ho
    obtain ⟨k, rfl⟩ : ∃ m, k = m + 1 := ⟨k - 1, by omega⟩
    have hd : y.drop i = [] := List.drop_eq_nil_of_le (by omega)
    refine ⟨(out, true), ?_, fun _ => ⟨[], by simp, by rw [hd]; rfl, by simp⟩, fun vs _ h => ?_⟩
    · rw [bench_numbers.l0, if_neg (by omega)]
    · rw [hd] at h
      have : vs = [] := by cases vs <;> simp at h ⊢
      rw [this, List.append_nil]
  | succ d ih =>
    intro k i out hi hk ho
    obtain ⟨k, rfl⟩ : ∃ m, k = m + 1 := ⟨k - 1, by omega⟩
    have hlt : i < y.length := by omega
    have hrd : rdOf ByteArray.empty y (i : Int) = y[i] := by simp [rdOf, hlt]
    have hdrop : y.drop i = y[i] :: y.drop (i + 1) := List.drop_eq_getElem_cons hlt
    obtain ⟨v, b, hv⟩ := atoi_total y[i] (hy _ (List.getElem_mem hlt))
    have hback : ∀ vs, (∀ v ∈ vs, Fit v) → y.drop i = vs.map itoaB → ∃ vs', vs = v :: vs' ∧ b = false ∧ Fit v ∧ y[i] = itoaB v ∧ y.drop (i + 1) = vs'.map itoaB := by
      intro vs hf h
      rw [hdrop] at h
      cases vs with
      | nil => cases h
      | cons v0 vs =>
        rw [List.map_cons] at h
        injection h with h1 h2
        have hf0 := hf v0 List.mem_cons_self
        rw [h1, atoi_itoaB hf0] at hv
        obtain ⟨rfl, rfl⟩ := Prod.mk.inj (Option.some.inj hv)
        exact ⟨vs, rfl, rfl, hf0, h1, h2⟩
    rw [bench_numbers.l0, if_pos (by omega), if_pos (by omega), if_pos (by omega), hrd, hv, Option.bind_some]
    cases b with
    | true =>
      refine ⟨_, if_pos rfl, fun h => (by cases h), fun vs hf h => ?_⟩
      obtain ⟨_, _, h, _⟩ := hback vs hf h
      cases h
    | false =>
      rw [if_neg (fun h => by cases h), fits_eq, Option.bind_some]
      by_cases hf : 0 ≤ v ∧ v ≤ 1099511627776
      · rw [decide_eq_true hf, if_pos rfl]
        dsimp only
        rw [itoa_ok v hf, Option.bind_some]
        by_cases he : (⟨(Lib.itoa v).toArray⟩ : ByteArray).toList = y[i].toList
        · rw [if_pos he, if_pos (by omega), wrap_ok (by omega) (by omega)]
          have he' : y[i] = itoaB v := (toList_inj he).symm
          obtain ⟨r, h1, h2, h3⟩ := ih k (i + 1) (out ++ [v]) (by omega) (by omega) (by simp; omega)
          refine ⟨r, h1, fun hr => ?_, fun vs hfs h => ?_⟩
          · obtain ⟨vs, g1, g2, g3⟩ := h2 hr
            refine ⟨v :: vs, fun x hx => ?_, ?_, by rw [g3]; simp⟩
            · rcases List.mem_cons.1 hx with rfl | hx
              · exact hf
              · exact g1 x hx
            · rw [hdrop, g2, he', List.map_cons]
          · obtain ⟨vs', rfl, _, _, _, g⟩ := hback vs hfs h
            rw [h3 vs' (fun x hx => hfs x (List.mem_cons_of_mem _ hx)) g]
            simp
        · rw [if_neg he]
          refine ⟨_, rfl, fun h => (by cases h), fun vs hfs h => ?_⟩
          obtain ⟨_, _, _, _, g, _⟩ := hback vs hfs h
          exact absurd (by rw [g]; rfl) he
      · rw [decide_eq_false hf, if_neg (by decide)]
        refine ⟨_, rfl, fun h => (by cases h), fun vs hfs h => ?_⟩
        obtain ⟨_, _, _, g, _⟩ := hback vs hfs h
        exact absurd g hf
/-- What a line says: its word and so many numbers. -/
theorem numbers_spec (l w : List UInt8) (many : Nat) (hm : many ≤ 2) (hw : (32 : UInt8) ∉ w) (hl : l.length < 4294967281) :
    ∃ k r, bench_numbers.f k (T l) (T w) (many : Int) = some r ∧ (r.2 = true → r.1.length = many ∧ (∀ v ∈ r.1, Fit v) ∧ l = w ++ nums r.1) ∧ (∀ vs, vs.length = many → (∀ v ∈ vs, Fit v) → l = w ++ nums vs → r = (vs, true)) := by
  obtain ⟨t, ht⟩ : ∃ t, t = Lib.splitB ⟨#[32]⟩ 0 (Lib.countB (T l) ⟨#[32]⟩) (T l) := ⟨_, rfl⟩
  have hsz : ∀ s ∈ t, s.size ≤ 281474976710656 := fun s hs => by
    rw [ht] at hs
    have := splitB_sizes _ _ _ s hs
    rw [T_size] at this
    omega
  have hsp : strings_Split.f (T l) ⟨#[32]⟩ = some t := by
    unfold strings_Split.f
    rw [if_pos ⟨by rw [T_size]; exact hl, by decide⟩, ht]
  have hiff : ∀ vs, (∀ v ∈ vs, Fit v) → (t = T w :: vs.map itoaB ↔ l = w ++ nums vs) := fun vs hf => by rw [ht]; exact split_iff l w vs hw hf
  by_cases hlen : t.length = many + 1
  · by_cases hword : ((rdOf ByteArray.empty t 0).toList != (T w).toList) = true
    · refine ⟨1, ([], false), ?_, fun h => (by cases h), fun vs hv hf h => ?_⟩
      · unfold bench_numbers.f
        rw [hsp, Option.bind_some, wrap_ok (by omega) (by omega), if_pos (by omega), if_pos (by omega), hword]
        exact j0_yes 0 t
      · have := (hiff vs hf).2 h
        rw [this] at hword
        simp [rdOf] at hword
    · obtain ⟨r, hr, h2, h3⟩ := numbers_l0x (t.drop 1) (fun s hs => hsz s (List.mem_of_mem_drop hs)) (by rw [List.length_drop]; omega) (t.drop 1).length ((t.drop 1).length + 1) 0 [] (by omega) (by omega) rfl
      have hhead : t = T w :: t.drop 1 := by
        cases t with
        | nil => simp at hlen
        | cons a t =>
          have : a.toList = (T w).toList := by
            have h : ((rdOf ByteArray.empty (a :: t) 0).toList != (T w).toList) = false := Bool.eq_false_iff.2 hword
            have h' := bne_eq_false_iff_eq.1 h
            simpa [rdOf] using h'
          rw [toList_inj this]
          rfl
      rw [List.drop_zero] at h2 h3
      refine ⟨(t.drop 1).length + 1 + 1, r, ?_, fun h => ?_, fun vs hv hf h => ?_⟩
      · unfold bench_numbers.f
        rw [hsp, Option.bind_some, wrap_ok (by omega) (by omega), if_pos (by omega), if_pos (by omega), Bool.eq_false_iff.2 hword, bench_numbers.j0, if_neg (by decide), if_pos (by omega), Option.bind_some]
        exact hr
      · obtain ⟨vs, g1, g2, g3⟩ := h2 h
        rw [List.nil_append] at g3
        subst g3
        refine ⟨?_, g1, (hiff _ g1).1 (by rw [← g2]; exact hhead)⟩
        have := congrArg List.length g2
        rw [List.length_map, List.length_drop] at this
        omega
      · have := (hiff vs hf).2 h
        exact h3 vs hf (by rw [this]; rfl)
  · refine ⟨1, ([], false), ?_, fun h => (by cases h), fun vs hv hf h => ?_⟩
    · unfold bench_numbers.f
      rw [hsp, Option.bind_some, wrap_ok (by omega) (by omega), if_neg (by omega)]
      exact j0_yes 0 t
    · have := (hiff vs hf).2 h
      rw [this] at hlen
      simp at hlen
      omega
def wordL (first : Bool) : List UInt8 := if first then [114, 111, 111, 109] else [97, 100, 100]
theorem word_T (first : Bool) : word first = T (wordL first) := by cases first <;> rfl
theorem numsOf_iff (l : List UInt8) (first : Bool) (hl : l.length < 4294967281) :
    ((numsOf l first).2 = true → (numsOf l first).1.length = many first ∧ (∀ v ∈ (numsOf l first).1, Fit v) ∧ l = wordL first ++ nums (numsOf l first).1) ∧
    (∀ vs, vs.length = many first → (∀ v ∈ vs, Fit v) → l = wordL first ++ nums vs → numsOf l first = (vs, true)) := by
  obtain ⟨k1, r, h1, h2, h3⟩ := numbers_spec l (wordL first) (many first) (by unfold many; split <;> omega) (by cases first <;> decide) hl
  obtain ⟨k2, h4⟩ := numsOf_spec l first hl
  rw [word_T] at h4
  have e1 := at_rounds (bench_numbers.mono _ _ _) (show k1 ≤ k1 + k2 by omega) h1
  have e2 := at_rounds (bench_numbers.mono _ _ _) (show k2 ≤ k1 + k2 by omega) h4
  rw [e1] at e2
  have e3 := Option.some.inj e2
  rw [← e3]
  exact ⟨h2, h3⟩
end Go.Proofs.YtioppgeackgjnaaDoor.Txt
