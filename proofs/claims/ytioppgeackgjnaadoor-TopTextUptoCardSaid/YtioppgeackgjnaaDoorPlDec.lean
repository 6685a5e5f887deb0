/- Numbers written and read; a line parted at its spaces. -/
import Derived.Test.YtioppgeackgjnaaDoorPlRun
import Derived.Lib.AtoiTie
import Derived.Lib.ItoaNum
import Derived.Lib.SplitLaws
namespace Go.Proofs.YtioppgeackgjnaaDoor.Txt
open Go.RowKit Go.Proofs.YtioppgeackgjnaaDoor.Bt Go.Proofs.YtioppgeackgjnaaDoorW.PrintWords Go.Proofs.YtioppgeackgjnaaDoorW.PrintLast
set_option linter.unusedVariables false
theorem digitVal_of (d : Nat) (h : d < 10) : Lib.digitVal (UInt8.ofNat (48 + d)) = some d := by
  have e : (UInt8.ofNat (48 + d)).toNat = 48 + d := by simp; omega
  unfold Lib.digitVal
  rw [e, if_pos (by omega)]
  congr 1
  omega
theorem decFrom_append : ∀ (l m : List UInt8) (acc n : Nat), Lib.decFrom acc l = some n → Lib.decFrom acc (l ++ m) = Lib.decFrom n m
  | [], m, acc, n, h => by
    simp only [Lib.decFrom, Option.some.injEq] at h
    rw [h, List.nil_append]
  | b :: l, m, acc, n, h => by
    rw [List.cons_append, Lib.decFrom]
    rw [Lib.decFrom] at h
    cases hd : Lib.digitVal b with
    | none => rw [hd] at h; cases h
    | some d =>
      rw [hd] at h
      exact decFrom_append l m _ n h
theorem decDigits_reads (u : Nat) : Lib.decFrom 0 (Lib.decDigits u) = some u ∧ Lib.decDigits u ≠ [] ∧ ∀ b ∈ Lib.decDigits u, 48 ≤ b.toNat ∧ b.toNat ≤ 57 := by
  induction u using Nat.strongRecOn with
  | _ u ih =>
    rw [Lib.decDigits]
    by_cases h : u < 10
    · rw [dif_pos h]
      refine ⟨?_, by simp, ?_⟩
      · simp only [Lib.decFrom, digitVal_of u h]
        congr 1
        omega
      · intro b hb
        rw [List.mem_singleton.1 hb]
        have e : (UInt8.ofNat (48 + u)).toNat = 48 + u := by simp; omega
        omega
    · rw [dif_neg h]
      obtain ⟨i1, i2, i3⟩ := ih (u / 10) (by omega)
      refine ⟨?_, by simp, ?_⟩
      · rw [decFrom_append _ _ _ _ i1]
        simp only [Lib.decFrom, digitVal_of (u % 10) (by omega)]
        congr 1
        omega
      · intro b hb
        rcases List.mem_append.1 hb with hb | hb
        · exact i3 b hb
        · rw [List.mem_singleton.1 hb]
          have e : (UInt8.ofNat (48 + u % 10)).toNat = 48 + u % 10 := by simp; omega
          omega
theorem itoa_nat {v : Int} (h : 0 ≤ v) : Lib.itoa v = Lib.decDigits v.toNat := by
  unfold Lib.itoa
  rw [if_neg (by omega)]
theorem itoa_fit_length {v : Int} (h : Fit v) : (Lib.itoa v).length ≤ 13 := by
  rw [itoa_nat h.1, Lib.decDigits_length]
  have hb : v.toNat < 10 ^ 13 := by have := h.2; omega
  rcases Nat.lt_or_ge 13 (Lib.nDigits v.toNat) with hlt | hge
  · exfalso
    have : ∀ k u, 10 ^ k > u → 1 ≤ k → Lib.nDigits u ≤ k := by
      intro k
      induction k with
      | zero => intro u _ h; omega
      | succ k ih =>
        intro u hu _
        by_cases h10 : u < 10
        · rw [Lib.nDigits_small h10]; omega
        · rw [Lib.nDigits_big h10]
          have hk : 1 ≤ k := by
            rcases Nat.eq_zero_or_pos k with rfl | hk
            · simp at hu; omega
            · exact hk
          have := ih (u / 10) (by rw [Nat.pow_succ] at hu; omega) hk
          omega
    have := this 13 v.toNat hb (by omega)
    omega
  · exact hge
theorem itoa_chars {v : Int} (h : Fit v) : ∀ b ∈ Lib.itoa v, 48 ≤ b.toNat ∧ b.toNat ≤ 57 := by
  rw [itoa_nat h.1]
  exact (decDigits_reads _).2.2
theorem itoa_no {v : Int} (h : Fit v) (c : UInt8) (hc : c.toNat < 48) : c ∉ Lib.itoa v := fun hm => by
  have := (itoa_chars h c hm).1
  omega
theorem atoi_itoa {v : Int} (h : Fit v) : Lib.atoiAll (Lib.itoa v) = .ok v := by
  have hl := itoa_fit_length h
  rw [Lib.atoiAll_short _ (by omega), itoa_nat h.1]
  obtain ⟨h1, h2, h3⟩ := decDigits_reads v.toNat
  have e : Lib.atoi (Lib.decDigits v.toNat) = some v := by
    cases hd : Lib.decDigits v.toNat with
    | nil => exact absurd hd h2
    | cons b r =>
      rw [hd] at h1 h3
      have hb := h3 b List.mem_cons_self
      unfold Lib.atoi
      have n1 : (b == 45) = false := by
        rw [beq_eq_false_iff_ne]; rintro rfl; simp at hb
      have n2 : (b == 43) = false := by
        rw [beq_eq_false_iff_ne]; rintro rfl; simp at hb
      simp only [n1, n2, Bool.false_eq_true, if_false]
      unfold Lib.decNat
      simp only [List.isEmpty_cons, Bool.false_eq_true, if_false, h1, Option.map_some, Option.some.injEq]
      have := h.1
      omega
  rw [e]
  rfl
theorem atoi_itoaB {v : Int} (h : Fit v) : strconv_Atoi.f (itoaB v) = some (v, false) := by
  unfold strconv_Atoi.f
  rw [if_pos (by have := itoaB_size v (by have := h.1; have := h.2; omega); omega)]
  have : (itoaB v).data.toList = Lib.itoa v := by simp [itoaB]
  rw [this, atoi_itoa h]
/-! ### a text parted at a byte -/
theorem index_miss {c : UInt8} {s : List UInt8} (h : c ∉ s) : Lib.index s [c] = -1 := by
  obtain ⟨h1, h2⟩ := index_one c s
  cases hw : (cutAt c s).2.2 with
  | true =>
    obtain ⟨_, a2, _⟩ := h1 hw
    exact absurd (by rw [a2]; simp) h
  | false => exact (h2 hw).1
theorem index_hit {c : UInt8} {p r : List UInt8} (h : c ∉ p) : Lib.index (p ++ c :: r) [c] = p.length := by
  obtain ⟨h1, _⟩ := index_one c (p ++ c :: r)
  have e := cutAt_line c p r h
  have := (h1 (by rw [e])).1
  rw [e] at this
  exact this
theorem splitK_hit {c : UInt8} {p r : List UInt8} (k : Nat) (h : c ∉ p) : Lib.splitK [c] 0 (k + 1) (p ++ c :: r) = p :: Lib.splitK [c] 0 k r := by
  have hi := index_hit (r := r) h
  rw [Lib.splitK, if_neg (by rw [hi]; simp), hi]
  simp only [Int.toNat_natCast, Nat.add_zero, List.length_singleton]
  rw [List.take_left' rfl]
  congr 2
  rw [← List.drop_drop, List.drop_left' rfl]
  rfl
theorem splitK_miss {c : UInt8} {s : List UInt8} (k : Nat) (h : c ∉ s) : Lib.splitK [c] 0 k s = [s] := by
  cases k with
  | zero => rfl
  | succ k => rw [Lib.splitK, if_pos (by rw [index_miss h]; rfl)]
/-- The pieces, joined. -/
def joinL (c : UInt8) : List (List UInt8) → List UInt8
  | [] => []
  | [p] => p
  | p :: q => p ++ c :: joinL c q
theorem splitK_ne (c : UInt8) (k : Nat) (s : List UInt8) : Lib.splitK [c] 0 k s ≠ [] := by
  cases k with
  | zero => simp [Lib.splitK]
  | succ k => rw [Lib.splitK]; split <;> simp
theorem joinL_cons (c : UInt8) (p : List UInt8) {q : List (List UInt8)} (h : q ≠ []) : joinL c (p :: q) = p ++ c :: joinL c q := by
  cases q with
  | nil => exact absurd rfl h
  | cons a q => rfl
theorem splitK_join (c : UInt8) : ∀ (k : Nat) (s : List UInt8), joinL c (Lib.splitK [c] 0 k s) = s
  | 0, s => rfl
  | k + 1, s => by
    obtain ⟨h1, h2⟩ := index_one c s
    cases hw : (cutAt c s).2.2 with
    | true =>
      obtain ⟨_, a2, a3⟩ := h1 hw
      rw [a2, splitK_hit k a3, joinL_cons c _ (splitK_ne c k _), splitK_join c k]
    | false =>
      rw [splitK_miss _ (h2 hw).2.2.2]
      rfl
/-- What follows the word: a space and a number, so often. -/
def nums (vs : List Int) : List UInt8 := vs.flatMap fun v => 32 :: Lib.itoa v
theorem splitK_line : ∀ (vs : List Int) (w : List UInt8), (32 : UInt8) ∉ w → (∀ v ∈ vs, Fit v) → Lib.splitK [32] 0 vs.length (w ++ nums vs) = w :: vs.map Lib.itoa
  | [], w, hw, _ => by simp [nums, Lib.splitK]
  | v :: vs, w, hw, hf => by
    have e : w ++ nums (v :: vs) = w ++ 32 :: (Lib.itoa v ++ nums vs) := by simp [nums]
    rw [e, List.length_cons, splitK_hit _ hw, splitK_line vs (Lib.itoa v) (itoa_no (hf v List.mem_cons_self) 32 (by decide)) (fun x hx => hf x (List.mem_cons_of_mem _ hx))]
    rfl
theorem nums_count : ∀ (vs : List Int), (∀ v ∈ vs, Fit v) → (nums vs).count 32 = vs.length
  | [], _ => rfl
  | v :: vs, hf => by
    have e : nums (v :: vs) = 32 :: (Lib.itoa v ++ nums vs) := by simp [nums]
    rw [e, List.count_cons_self, List.count_append, List.count_eq_zero_of_not_mem (itoa_no (hf v List.mem_cons_self) 32 (by decide)), nums_count vs (fun x hx => hf x (List.mem_cons_of_mem _ hx))]
    simp
theorem joinL_line : ∀ (vs : List Int) (w : List UInt8), joinL 32 (w :: vs.map Lib.itoa) = w ++ nums vs
  | [], w => by simp [joinL, nums]
  | v :: vs, w => by
    rw [List.map_cons, joinL_cons _ _ (by simp), joinL_line vs]
    simp [nums]
/-- strings.Split at a space: the word and the numbers, and no other line has these pieces. -/
theorem split_iff (l w : List UInt8) (vs : List Int) (hw : (32 : UInt8) ∉ w) (hf : ∀ v ∈ vs, Fit v) :
    Lib.splitB ⟨#[32]⟩ 0 (Lib.countB (T l) ⟨#[32]⟩) (T l) = T w :: vs.map itoaB ↔ l = w ++ nums vs := by
  have hd := Lib.splitB_data ⟨#[32]⟩ 0 (Lib.countB (T l) ⟨#[32]⟩) (T l)
  rw [T_list] at hd
  constructor
  · intro h
    rw [h] at hd
    have e : (T w :: vs.map itoaB).map (fun x => x.data.toList) = w :: vs.map Lib.itoa := by
      rw [List.map_cons, T_list, List.map_map]
      congr 1
    rw [e] at hd
    have hj := splitK_join 32 (Lib.countB (T l) ⟨#[32]⟩) l
    have hd' : w :: vs.map Lib.itoa = Lib.splitK [32] 0 (Lib.countB (T l) ⟨#[32]⟩) l := hd
    rw [← hd', joinL_line] at hj
    exact hj.symm
  · rintro rfl
    have hc : Lib.countB (T (w ++ nums vs)) ⟨#[32]⟩ = vs.length := by
      have : Lib.countB (T (w ++ nums vs)) ⟨#[32]⟩ = Lib.count (w ++ nums vs) [32] := by unfold Lib.countB; rw [T_list]
      rw [this, Lib.count_one, List.count_append, List.count_eq_zero_of_not_mem hw, nums_count vs hf]
      simp
    rw [hc] at hd ⊢
    have hs := splitK_line vs w hw hf
    have hd' : (Lib.splitB ⟨#[32]⟩ 0 vs.length (T (w ++ nums vs))).map (fun x => x.data.toList) = w :: vs.map Lib.itoa := hd.trans hs
    have : ∀ (a b : List ByteArray), a.map (fun x => x.data.toList) = b.map (fun x => x.data.toList) → a = b := by
      intro a
      induction a with
      | nil => intro b h; cases b <;> simp at h ⊢
      | cons x a ih =>
        intro b h
        cases b with
        | nil => simp at h
        | cons y b =>
          rw [List.map_cons, List.map_cons] at h
          injection h with h1 h2
          rw [ih b h2, ← T_of x, ← T_of y, h1]
    refine this _ _ ?_
    rw [hd', List.map_cons, T_list, List.map_map]
    congr 1
end Go.Proofs.YtioppgeackgjnaaDoor.Txt
