/- What bench.Print writes bench.Parse reads; what Parse reads is what Print writes of it. -/
import Derived.Test.YtioppgeackgjnaaDoorPlNm
import Derived.Test.YtioppgeackgjnaaDoorHaP
namespace Go.Proofs.YtioppgeackgjnaaDoor.Txt
open Go.RowKit Go.Proofs.YtioppgeackgjnaaDoor.Bt Go.Proofs.YtioppgeackgjnaaDoorW.PrintWords Go.Proofs.YtioppgeackgjnaaDoorW.PrintLast
set_option linter.unusedVariables false
def addLine (c : S36) : List UInt8 := wordL false ++ nums [c.f0, c.f1]
def addsL (l : List S36) : List UInt8 := l.flatMap fun c => addLine c ++ [10]
def printL (room : Int) (l : List S36) : List UInt8 := wordL true ++ nums [room] ++ [10] ++ addsL l
def FitC (c : S36) : Prop := Fit c.f0 ∧ Fit c.f1
theorem nums_no : ∀ (vs : List Int), (∀ v ∈ vs, Fit v) → (10 : UInt8) ∉ nums vs
  | [], _ => by simp [nums]
  | v :: vs, hf => by
    have e : nums (v :: vs) = 32 :: (Lib.itoa v ++ nums vs) := by simp [nums]
    rw [e]
    have h1 := itoa_no (hf v List.mem_cons_self) 10 (by decide)
    have h2 := nums_no vs (fun x hx => hf x (List.mem_cons_of_mem _ hx))
    simp [h1, h2]
theorem word_no (f : Bool) : (10 : UInt8) ∉ wordL f := by cases f <;> decide
theorem line_no (f : Bool) {vs : List Int} (hf : ∀ v ∈ vs, Fit v) : (10 : UInt8) ∉ wordL f ++ nums vs := by
  have h1 := word_no f
  have h2 := nums_no vs hf
  simp [h1, h2]
theorem nums_len : ∀ (vs : List Int), (∀ v ∈ vs, Fit v) → (nums vs).length ≤ 14 * vs.length
  | [], _ => by simp [nums]
  | v :: vs, hf => by
    have e : nums (v :: vs) = 32 :: (Lib.itoa v ++ nums vs) := by simp [nums]
    rw [e]
    have h1 := itoa_fit_length (hf v List.mem_cons_self)
    have h2 := nums_len vs (fun x hx => hf x (List.mem_cons_of_mem _ hx))
    simp
    omega
theorem word_len (f : Bool) : (wordL f).length ≤ 4 := by cases f <;> decide
theorem addLine_len {c : S36} (h : FitC c) : (addLine c).length ≤ 32 := by
  have h1 := nums_len [c.f0, c.f1] (by simp [h.1, h.2])
  have h2 := word_len false
  unfold addLine
  rw [List.length_append]
  simp at h1
  omega
theorem addsL_len : ∀ (l : List S36), (∀ c ∈ l, FitC c) → (addsL l).length ≤ 33 * l.length
  | [], _ => by simp [addsL]
  | c :: l, h => by
    have e : addsL (c :: l) = addLine c ++ [10] ++ addsL l := by simp [addsL]
    have h1 := addLine_len (h c List.mem_cons_self)
    have h2 := addsL_len l (fun x hx => h x (List.mem_cons_of_mem _ hx))
    rw [e]
    simp
    omega
theorem numsOf_room {r : Int} (h : Fit r) : numsOf (wordL true ++ nums [r]) true = ([r], true) := by
  have hl := nums_len [r] (by simp [h])
  have hw := word_len true
  exact (numsOf_iff _ true (by rw [List.length_append]; simp at hl; omega)).2 [r] rfl (by simp [h]) rfl
theorem numsOf_add {c : S36} (h : FitC c) : numsOf (addLine c) false = ([c.f0, c.f1], true) :=
  (numsOf_iff _ false (by have := addLine_len h; omega)).2 [c.f0, c.f1] rfl (by simp [h.1, h.2]) rfl
/-- What is written is read. -/
theorem parse_adds : ∀ (l : List S36) (n : Nat) (room : Int) (out : List S36) (idx : Nat), (∀ c ∈ l, FitC c) → l.length < n → idx ≠ 0 → parseS n (addsL l) room out idx = some (room, out ++ l)
  | [], n, room, out, idx, _, hn, hi => by
    obtain ⟨n, rfl⟩ : ∃ m, n = m + 1 := ⟨n - 1, by simp at hn; omega⟩
    rw [parseS, if_pos ⟨hi, rfl⟩, List.append_nil]
  | c :: l, n, room, out, idx, hf, hn, hi => by
    obtain ⟨n, rfl⟩ : ∃ m, n = m + 1 := ⟨n - 1, by simp at hn; omega⟩
    have hc := hf c List.mem_cons_self
    have e : addsL (c :: l) = addLine c ++ 10 :: addsL l := by simp [addsL]
    have hcut : cutAt 10 (addsL (c :: l)) = (addLine c, addsL l, true) := by
      rw [e]; exact cutAt_line 10 _ _ (line_no false (by simp [hc.1, hc.2]))
    have hb : (idx == 0) = false := beq_eq_false_iff_ne.2 hi
    rw [parseS, hcut, if_neg (by rw [e]; simp), hb]
    simp only [numsOf_add hc]
    rw [if_pos ⟨trivial, trivial⟩, if_neg hi]
    have := parse_adds l n room (out ++ [c]) (idx + 1) (fun x hx => hf x (List.mem_cons_of_mem _ hx)) (by simp at hn; omega) (by omega)
    rw [List.append_assoc] at this
    exact this
theorem parse_print (room : Int) (l : List S36) (n : Nat) (hr : Fit room) (hf : ∀ c ∈ l, FitC c) (hn : l.length + 1 < n) : parseS n (printL room l) 0 [] 0 = some (room, l) := by
  obtain ⟨n, rfl⟩ : ∃ m, n = m + 1 := ⟨n - 1, by omega⟩
  have e : printL room l = (wordL true ++ nums [room]) ++ 10 :: addsL l := by simp [printL]
  have hcut : cutAt 10 (printL room l) = (wordL true ++ nums [room], addsL l, true) := by
    rw [e]; exact cutAt_line 10 _ _ (line_no true (by simp [hr]))
  rw [parseS, hcut, if_neg (by simp), show ((0 : Nat) == 0) = true from rfl]
  simp only [numsOf_room hr]
  rw [if_pos ⟨trivial, trivial⟩, if_pos trivial]
  exact parse_adds l n room [] 1 hf (by omega) (by omega)
/-- What is read is what is written of it. -/
theorem read_adds : ∀ (n : Nat) (t : List UInt8) (room : Int) (out : List S36) (idx : Nat) (r : Int) (o : List S36), idx ≠ 0 → t.length < 4294967281 → parseS n t room out idx = some (r, o) → r = room ∧ ∃ l, o = out ++ l ∧ t = addsL l ∧ ∀ c ∈ l, FitC c
  | 0, _, _, _, _, _, _, _, _, h => by simp [parseS] at h
  | n + 1, t, room, out, idx, r, o, hi, ht, h => by
    rw [parseS] at h
    by_cases hc : idx ≠ 0 ∧ t = []
    · rw [if_pos hc] at h
      simp only [Option.some.injEq, Prod.mk.injEq] at h
      obtain ⟨rfl, rfl⟩ := h
      exact ⟨rfl, [], by simp, by rw [hc.2]; rfl, by simp⟩
    · rw [if_neg hc] at h
      have hb : (idx == 0) = false := beq_eq_false_iff_ne.2 hi
      rw [hb] at h
      by_cases hk : (cutAt 10 t).2.2 = true ∧ (numsOf (cutAt 10 t).1 false).2 = true
      · rw [if_pos hk, if_neg hi] at h
        obtain ⟨hl1, hl2⟩ := cutAt_lens t
        have hl2 := hl2 hk.1
        obtain ⟨g1, g2, g3⟩ := (numsOf_iff (cutAt 10 t).1 false (by omega)).1 hk.2
        obtain ⟨rfl, l, rfl, ht2, hf⟩ := read_adds n _ _ _ _ _ _ (by omega) (by omega) h
        obtain ⟨x, y, hxy⟩ : ∃ x y, (numsOf (cutAt 10 t).1 false).1 = [x, y] := by
          match hq : (numsOf (cutAt 10 t).1 false).1, g1 with
          | [x, y], _ => exact ⟨x, y, rfl⟩
          | [], g1 => simp [many] at g1
          | [_], g1 => simp [many] at g1
          | _ :: _ :: _ :: _, g1 => simp [many] at g1
        rw [hxy] at g2 g3
        refine ⟨rfl, (⟨x, y⟩ : S36) :: l, ?_, ?_, ?_⟩
        · rw [hxy]; simp [rd]
        · have hsplit := ((index_one 10 t).1 hk.1).2.1
          have e : addsL ((⟨x, y⟩ : S36) :: l) = addLine ⟨x, y⟩ ++ 10 :: addsL l := by simp [addsL]
          rw [e, ← ht2]
          rw [g3] at hsplit
          exact hsplit
        · intro c hc
          rcases List.mem_cons.1 hc with rfl | hc
          · exact ⟨g2 x (by simp), g2 y (by simp)⟩
          · exact hf c hc
      · rw [if_neg hk] at h
        cases h
theorem read_print (n : Nat) (t : List UInt8) (r : Int) (o : List S36) (ht : t.length < 4294967281) (h : parseS n t 0 [] 0 = some (r, o)) : t = printL r o ∧ Fit r ∧ ∀ c ∈ o, FitC c := by
  cases n with
  | zero => simp [parseS] at h
  | succ n =>
    rw [parseS, if_neg (by simp), show ((0 : Nat) == 0) = true from rfl] at h
    by_cases hk : (cutAt 10 t).2.2 = true ∧ (numsOf (cutAt 10 t).1 true).2 = true
    · rw [if_pos hk, if_pos rfl] at h
      obtain ⟨hl1, hl2⟩ := cutAt_lens t
      have hl2 := hl2 hk.1
      obtain ⟨g1, g2, g3⟩ := (numsOf_iff (cutAt 10 t).1 true (by omega)).1 hk.2
      obtain ⟨rfl, l, ho, ht2, hf⟩ := read_adds n _ _ _ _ _ _ (by omega) (by omega) h
      rw [List.nil_append] at ho
      subst ho
      obtain ⟨x, hx⟩ : ∃ x, (numsOf (cutAt 10 t).1 true).1 = [x] := by
        match hq : (numsOf (cutAt 10 t).1 true).1, g1 with
        | [x], _ => exact ⟨x, rfl⟩
        | [], g1 => simp [many] at g1
        | _ :: _ :: _, g1 => simp [many] at g1
      rw [hx] at g2 g3
      have hrd : rd (numsOf (cutAt 10 t).1 true).1 0 = x := by rw [hx]; rfl
      rw [hrd]
      refine ⟨?_, g2 x (by simp), hf⟩
      have hsplit := ((index_one 10 t).1 hk.1).2.1
      have e : printL x o = (wordL true ++ nums [x]) ++ 10 :: addsL o := by simp [printL]
      rw [e, ← ht2]
      rw [g3] at hsplit
      exact hsplit
    · rw [if_neg hk] at h
      cases h
end Go.Proofs.YtioppgeackgjnaaDoor.Txt
