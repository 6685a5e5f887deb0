/- Print, Parse and Tell in plain Lean. -/
import Derived.Test.YtioppgeackgjnaaDoorQlA
import Derived.Lib.AtoiTie
import Derived.Lib.ItoaNum
import Derived.Lib.SplitLaws
import Derived.Test.YtioppgeackgjnaaDoorHaP
namespace Go.Proofs.YtioppgeackgjnaaDoor.Txt
open Go.RowKit Go.Proofs.YtioppgeackgjnaaDoor.Bt Go.Proofs.YtioppgeackgjnaaDoorW.PrintWords Go.Proofs.YtioppgeackgjnaaDoorW.PrintLast
set_option linter.unusedVariables false
theorem digitVal_of (d : Nat) (h : d < 10) : Lib.digitVal (UInt8.ofNat (48 + d)) = some d := by
  have e : (UInt8.ofNat (48 + d)).toNat = 48 + d := by simp; omega
  unfold Lib.digitVal
  rw [e, if_pos (by omega)]
  congr 1
  omega
theorem decFrom_append : ∀ (l m : List UInt8) (acc n : Nat), Lib.decFrom acc l = some n → Lib.decFrom acc (l ++ m) = Lib.decFrom n m
  | [], m, acc, n, h => by
    simp only [Lib.decFrom, Option.some.injEq] at h
    rw [h, List.nil_append]
  | b :: l, m, acc, n, h => by
    rw [List.cons_append, Lib.decFrom]
    rw [Lib.decFrom] at h
    cases hd : Lib.digitVal b with
    | none => rw [hd] at h; cases h
    | some d =>
      rw [hd] at h
      exact decFrom_append l m _ n h
theorem decDigits_reads (u : Nat) : Lib.decFrom 0 (Lib.decDigits u) = some u ∧ Lib.decDigits u ≠ [] ∧ ∀ b ∈ Lib.decDigits u, 48 ≤ b.toNat ∧ b.toNat ≤ 57 := by
  induction u using Nat.strongRecOn with
  | _ u ih =>
    rw [Lib.decDigits]
    by_cases h : u < 10
    · rw [dif_pos h]
      refine ⟨?_, by simp, ?_⟩
      · simp only [Lib.decFrom, digitVal_of u h]
        congr 1
        omega
      · intro b hb
        rw [List.mem_singleton.1 hb]
        have e : (UInt8.ofNat (48 + u)).toNat = 48 + u := by simp; omega
        omega
    · rw [dif_neg h]
      obtain ⟨i1, i2, i3⟩ := ih (u / 10) (by omega)
      refine ⟨?_, by simp, ?_⟩
      · rw [decFrom_append _ _ _ _ i1]
        simp only [Lib.decFrom, digitVal_of (u % 10) (by omega)]
        congr 1
        omega
      · intro b hb
        rcases List.mem_append.1 hb with hb | hb
        · exact i3 b hb
        · rw [List.mem_singleton.1 hb]
          have e : (UInt8.ofNat (48 + u % 10)).toNat = 48 + u % 10 := by simp; omega
          omega
theorem itoa_nat {v : Int} (h : 0 ≤ v) : Lib.itoa v = Lib.decDigits v.toNat := by
  unfold Lib.itoa
  rw [if_neg (by omega)]
theorem itoa_fit_length {v : Int} (h : Fit v) : (Lib.itoa v).length ≤ 13 := by
  rw [itoa_nat h.1, Lib.decDigits_length]
  have hb : v.toNat < 10 ^ 13 := by have := h.2; omega
  rcases Nat.lt_or_ge 13 (Lib.nDigits v.toNat) with hlt | hge
  · exfalso
    have : ∀ k u, 10 ^ k > u → 1 ≤ k → Lib.nDigits u ≤ k := by
      intro k
      induction k with
      | zero => intro u _ h; omega
      | succ k ih =>
        intro u hu _
        by_cases h10 : u < 10
        · rw [Lib.nDigits_small h10]; omega
        · rw [Lib.nDigits_big h10]
          have hk : 1 ≤ k := by
            rcases Nat.eq_zero_or_pos k with rfl | hk
            · simp at hu; omega
            · exact hk
          have := ih (u / 10) (by rw [Nat.pow_succ] at hu; omega) hk
          omega
    have := this 13 v.toNat hb (by omega)
    omega
  · exact hge
theorem itoa_chars {v : Int} (h : Fit v) : ∀ b ∈ Lib.itoa v, 48 ≤ b.toNat ∧ b.toNat ≤ 57 := by
  rw [itoa_nat h.1]
  exact (decDigits_reads _).2.2
theorem itoa_no {v : Int} (h : Fit v) (c : UInt8) (hc : c.toNat < 48) : c ∉ Lib.itoa v := fun hm => by
  have := (itoa_chars h c hm).1
  omega
theorem atoi_itoa {v : Int} (h : Fit v) : Lib.atoiAll (Lib.itoa v) = .ok v := by
  have hl := itoa_fit_length h
  rw [Lib.atoiAll_short _ (by omega), itoa_nat h.1]
  obtain ⟨h1, h2, h3⟩ := decDigits_reads v.toNat
  have e : Lib.atoi (Lib.decDigits v.toNat) = some v := by
    cases hd : Lib.decDigits v.toNat with
    | nil => exact absurd hd h2
    | cons b r =>
      rw [hd] at h1 h3
      have hb := h3 b List.mem_cons_self
      unfold Lib.atoi
      have n1 : (b == 45) = false := by
        rw [beq_eq_false_iff_ne]; rintro rfl; simp at hb
      have n2 : (b == 43) = false := by
        rw [beq_eq_false_iff_ne]; rintro rfl; simp at hb
      simp only [n1, n2, Bool.false_eq_true, if_false]
      unfold Lib.decNat
      simp only [List.isEmpty_cons, Bool.false_eq_true, if_false, h1, Option.map_some, Option.some.injEq]
      have := h.1
      omega
  rw [e]
  rfl
theorem atoi_itoaB {v : Int} (h : Fit v) : strconv_Atoi.f (itoaB v) = some (v, false) := by
  unfold strconv_Atoi.f
  rw [if_pos (by have := itoaB_size v (by have := h.1; have := h.2; omega); omega)]
  have : (itoaB v).data.toList = Lib.itoa v := by simp [itoaB]
  rw [this, atoi_itoa h]
/-! ### a text parted at a byte -/
theorem index_miss {c : UInt8} {s : List UInt8} (h : c ∉ s) : Lib.index s [c] = -1 := by
  obtain ⟨h1, h2⟩ := index_one c s
  cases hw : (cutAt c s).2.2 with
  | true =>
    obtain ⟨_, a2, _⟩ := h1 hw
    exact absurd (by rw [a2]; simp) h
  | false => exact (h2 hw).1
theorem index_hit {c : UInt8} {p r : List UInt8} (h : c ∉ p) : Lib.index (p ++ c :: r) [c] = p.length := by
  obtain ⟨h1, _⟩ := index_one c (p ++ c :: r)
  have e := cutAt_line c p r h
  have := (h1 (by rw [e])).1
  rw [e] at this
  exact this
theorem splitK_hit {c : UInt8} {p r : List UInt8} (k : Nat) (h : c ∉ p) : Lib.splitK [c] 0 (k + 1) (p ++ c :: r) = p :: Lib.splitK [c] 0 k r := by
  have hi := index_hit (r := r) h
  rw [Lib.splitK, if_neg (by rw [hi]; simp), hi]
  simp only [Int.toNat_natCast, Nat.add_zero, List.length_singleton]
  rw [List.take_left' rfl]
  congr 2
  rw [← List.drop_drop, List.drop_left' rfl]
  rfl
theorem splitK_miss {c : UInt8} {s : List UInt8} (k : Nat) (h : c ∉ s) : Lib.splitK [c] 0 k s = [s] := by
  cases k with
  | zero => rfl
  | succ k => rw [Lib.splitK, if_pos (by rw [index_miss h]; rfl)]
/-- The pieces, joined. -/
def joinL (c : UInt8) : List (List UInt8) → List UInt8
  | [] => []
  | [p] => p
  | p :: q => p ++ c :: joinL c q
theorem splitK_ne (c : UInt8) (k : Nat) (s : List UInt8) : Lib.splitK [c] 0 k s ≠ [] := by
  cases k with
  | zero => simp [Lib.splitK]
  | succ k => rw [Lib.splitK]; split <;> simp
theorem joinL_cons (c : UInt8) (p : List UInt8) {q : List (List UInt8)} (h : q ≠ []) : joinL c (p :: q) = p ++ c :: joinL c q := by
  cases q with
  | nil => exact absurd rfl h
  | cons a q => rfl
theorem splitK_join (c : UInt8) : ∀ (k : Nat) (s : List UInt8), joinL c (Lib.splitK [c] 0 k s) = s
  | 0, s => rfl
  | k + 1, s => by
    obtain ⟨h1, h2⟩ := index_one c s
    cases hw : (cutAt c s).2.2 with
    | true =>
      obtain ⟨_, a2, a3⟩ := h1 hw
      rw [a2, splitK_hit k a3, joinL_cons c _ (splitK_ne c k _), splitK_join c k]
    | false =>
      rw [splitK_miss _ (h2 hw).2.2.2]
      rfl
/-- What follows the word: a space and a number, so often. -/
def nums (vs : List Int) : List UInt8 := vs.flatMap fun v => 32 :: Lib.itoa v
theorem splitK_line : ∀ (vs : List Int) (w : List UInt8), (32 : UInt8) ∉ w → (∀ v ∈ vs, Fit v) → Lib.splitK [32] 0 vs.length (w ++ nums vs) = w :: vs.map Lib.itoa
  | [], w, hw, _ => by simp [nums, Lib.splitK]
  | v :: vs, w, hw, hf => by
    have e : w ++ nums (v :: vs) = w ++ 32 :: (Lib.itoa v ++ nums vs) := by simp [nums]
    rw [e, List.length_cons, splitK_hit _ hw, splitK_line vs (Lib.itoa v) (itoa_no (hf v List.mem_cons_self) 32 (by decide)) (fun x hx => hf x (List.mem_cons_of_mem _ hx))]
    rfl
theorem nums_count : ∀ (vs : List Int), (∀ v ∈ vs, Fit v) → (nums vs).count 32 = vs.length
  | [], _ => rfl
  | v :: vs, hf => by
    have e : nums (v :: vs) = 32 :: (Lib.itoa v ++ nums vs) := by simp [nums]
    rw [e, List.count_cons_self, List.count_append, List.count_eq_zero_of_not_mem (itoa_no (hf v List.mem_cons_self) 32 (by decide)), nums_count vs (fun x hx => hf x (List.mem_cons_of_mem _ hx))]
    simp
theorem joinL_line : ∀ (vs : List Int) (w : List UInt8), joinL 32 (w :: vs.map Lib.itoa) = w ++ nums vs
  | [], w => by simp [joinL, nums]
  | v :: vs, w => by
    rw [List.map_cons, joinL_cons _ _ (by simp), joinL_line vs]
    simp [nums]
/-- strings.Split at a space: the word and the numbers, and no other line has these pieces. -/
theorem split_iff (l w : List UInt8) (vs : List Int) (hw : (32 : UInt8) ∉ w) (hf : ∀ v ∈ vs, Fit v) :
    Lib.splitB ⟨#[32]⟩ 0 (Lib.countB (T l) ⟨#[32]⟩) (T l) = T w :: vs.map itoaB ↔ l = w ++ nums vs := by
  have hd := Lib.splitB_data ⟨#[32]⟩ 0 (Lib.countB (T l) ⟨#[32]⟩) (T l)
  rw [T_list] at hd
  constructor
  · intro h
    rw [h] at hd
    have e : (T w :: vs.map itoaB).map (fun x => x.data.toList) = w :: vs.map Lib.itoa := by
      rw [List.map_cons, T_list, List.map_map]
      congr 1
    rw [e] at hd
    have hj := splitK_join 32 (Lib.countB (T l) ⟨#[32]⟩) l
    have hd' : w :: vs.map Lib.itoa = Lib.splitK [32] 0 (Lib.countB (T l) ⟨#[32]⟩) l := hd
    rw [← hd', joinL_line] at hj
    exact hj.symm
  · rintro rfl
    have hc : Lib.countB (T (w ++ nums vs)) ⟨#[32]⟩ = vs.length := by
      have : Lib.countB (T (w ++ nums vs)) ⟨#[32]⟩ = Lib.count (w ++ nums vs) [32] := by unfold Lib.countB; rw [T_list]
      rw [this, Lib.count_one, List.count_append, List.count_eq_zero_of_not_mem hw, nums_count vs hf]
      simp
    rw [hc] at hd ⊢
    have hs := splitK_line vs w hw hf
    have hd' : (Lib.splitB ⟨#[32]⟩ 0 vs.length (T (w ++ nums vs))).map (fun x => x.data.toList) = w :: vs.map Lib.itoa := hd.trans hs
    have : ∀ (a b : List ByteArray), a.map (fun x => x.data.toList) = b.map (fun x => x.data.toList) → a = b := by
      intro a
      induction a with
      | nil => intro b h; cases b <;> simp at h ⊢
      | cons x a ih =>
        intro b h
        cases b with
        | nil => simp at h
        | cons y b =>
          rw [List.map_cons, List.map_cons] at h
          injection h with h1 h2
          rw [ih b h2, ← T_of x, ← T_of y, h1]
    refine this _ _ ?_
    rw [hd', List.map_cons, T_list, List.map_map]
    congr 1
end Go.Proofs.YtioppgeackgjnaaDoor.Txt
namespace Go.Proofs.YtioppgeackgjnaaDoor.Txt
open Go.RowKit Go.Proofs.YtioppgeackgjnaaDoor.Bt Go.Proofs.YtioppgeackgjnaaDoorW.PrintWords Go.Proofs.YtioppgeackgjnaaDoorW.PrintLast
set_option linter.unusedVariables false
theorem toList_inj {a b : ByteArray} (h : a.toList = b.toList) : a = b := by
  rw [← T_of a, ← T_of b, ← ByteArray.toList_eq, ← ByteArray.toList_eq, h]
theorem numbers_l0x (y : List ByteArray) (hy : ∀ s ∈ y, s.size ≤ 281474976710656) (hl : y.length ≤ 10000000000) : ∀ (d k i : Nat) (out : List Int), i + d = y.length → d < k → out.length = i →
    ∃ r, bench_numbers.l0 k out y (y.length : Int) (i : Int) = some r ∧ (r.2 = true → ∃ vs, (∀ v ∈ vs, Fit v) ∧ y.drop i = vs.map itoaB ∧ r.1 = out ++ vs) ∧ (∀ vs, (∀ v ∈ vs, Fit v) → y.drop i = vs.map itoaB → r = (out ++ vs, true)) := by
  intro d
  induction d with
  | zero =>
    intro k i out hi hk ho
    obtain ⟨k, rfl⟩ : ∃ m, k = m + 1 := ⟨k - 1, by omega⟩
    have hd : y.drop i = [] := List.drop_eq_nil_of_le (by omega)
    refine ⟨(out, true), ?_, fun _ => ⟨[], by simp, by rw [hd]; rfl, by simp⟩, fun vs _ h => ?_⟩
    · rw [bench_numbers.l0, if_neg (by omega)]
    · rw [hd] at h
      have : vs = [] := by cases vs <;> simp at h ⊢
      rw [this, List.append_nil]
  | succ d ih =>
    intro k i out hi hk ho
    obtain ⟨k, rfl⟩ : ∃ m, k = m + 1 := ⟨k - 1, by omega⟩
    have hlt : i < y.length := by omega
    have hrd : rdOf ByteArray.empty y (i : Int) = y[i] := by simp [rdOf, hlt]
    have hdrop : y.drop i = y[i] :: y.drop (i + 1) := List.drop_eq_getElem_cons hlt
    obtain ⟨v, b, hv⟩ := atoi_total y[i] (hy _ (List.getElem_mem hlt))
    have hback : ∀ vs, (∀ v ∈ vs, Fit v) → y.drop i = vs.map itoaB → ∃ vs', vs = v :: vs' ∧ b = false ∧ Fit v ∧ y[i] = itoaB v ∧ y.drop (i + 1) = vs'.map itoaB := by
      intro vs hf h
      rw [hdrop] at h
      cases vs with
      | nil => cases h
      | cons v0 vs =>
        rw [List.map_cons] at h
        injection h with h1 h2
        have hf0 := hf v0 List.mem_cons_self
        rw [h1, atoi_itoaB hf0] at hv
        obtain ⟨rfl, rfl⟩ := Prod.mk.inj (Option.some.inj hv)
        exact ⟨vs, rfl, rfl, hf0, h1, h2⟩
    rw [bench_numbers.l0, if_pos (by omega), if_pos (by omega), if_pos (by omega), hrd, hv, Option.bind_some]
    cases b with
    | true =>
      refine ⟨_, if_pos rfl, fun h => (by cases h), fun vs hf h => ?_⟩
      obtain ⟨_, _, h, _⟩ := hback vs hf h
      cases h
    | false =>
      rw [if_neg (fun h => by cases h), fits_eq, Option.bind_some]
      by_cases hf : 0 ≤ v ∧ v ≤ 1099511627776
      · rw [decide_eq_true hf, if_pos rfl]
        dsimp only
        rw [itoa_ok v hf, Option.bind_some]
        by_cases he : (⟨(Lib.itoa v).toArray⟩ : ByteArray).toList = y[i].toList
        · rw [if_pos he, if_pos (by omega), wrap_ok (by omega) (by omega)]
          have he' : y[i] = itoaB v := (toList_inj he).symm
          obtain ⟨r, h1, h2, h3⟩ := ih k (i + 1) (out ++ [v]) (by omega) (by omega) (by simp; omega)
          refine ⟨r, h1, fun hr => ?_, fun vs hfs h => ?_⟩
          · obtain ⟨vs, g1, g2, g3⟩ := h2 hr
            refine ⟨v :: vs, fun x hx => ?_, ?_, by rw [g3]; simp⟩
            · rcases List.mem_cons.1 hx with rfl | hx
              · exact hf
              · exact g1 x hx
            · rw [hdrop, g2, he', List.map_cons]
          · obtain ⟨vs', rfl, _, _, _, g⟩ := hback vs hfs h
            rw [h3 vs' (fun x hx => hfs x (List.mem_cons_of_mem _ hx)) g]
            simp
        · rw [if_neg he]
          refine ⟨_, rfl, fun h => (by cases h), fun vs hfs h => ?_⟩
          obtain ⟨_, _, _, _, g, _⟩ := hback vs hfs h
          exact absurd (by rw [g]; rfl) he
      · rw [decide_eq_false hf, if_neg (by decide)]
        refine ⟨_, rfl, fun h => (by cases h), fun vs hfs h => ?_⟩
        obtain ⟨_, _, _, g, _⟩ := hback vs hfs h
        exact absurd g hf
/-- What a line says: its word and so many numbers. -/
theorem numbers_spec (l w : List UInt8) (many : Nat) (hm : many ≤ 2) (hw : (32 : UInt8) ∉ w) (hl : l.length < 4294967281) :
    ∃ k r, bench_numbers.f k (T l) (T w) (many : Int) = some r ∧ (r.2 = true → r.1.length = many ∧ (∀ v ∈ r.1, Fit v) ∧ l = w ++ nums r.1) ∧ (∀ vs, vs.length = many → (∀ v ∈ vs, Fit v) → l = w ++ nums vs → r = (vs, true)) := by
  obtain ⟨t, ht⟩ : ∃ t, t = Lib.splitB ⟨#[32]⟩ 0 (Lib.countB (T l) ⟨#[32]⟩) (T l) := ⟨_, rfl⟩
  have hsz : ∀ s ∈ t, s.size ≤ 281474976710656 := fun s hs => by
    rw [ht] at hs
    have := splitB_sizes _ _ _ s hs
    rw [T_size] at this
    omega
  have hsp : strings_Split.f (T l) ⟨#[32]⟩ = some t := by
    unfold strings_Split.f
    rw [if_pos ⟨by rw [T_size]; exact hl, by decide⟩, ht]
  have hiff : ∀ vs, (∀ v ∈ vs, Fit v) → (t = T w :: vs.map itoaB ↔ l = w ++ nums vs) := fun vs hf => by rw [ht]; exact split_iff l w vs hw hf
  by_cases hlen : t.length = many + 1
  · by_cases hword : ((rdOf ByteArray.empty t 0).toList != (T w).toList) = true
    · refine ⟨1, ([], false), ?_, fun h => (by cases h), fun vs hv hf h => ?_⟩
      · unfold bench_numbers.f
        rw [hsp, Option.bind_some, wrap_ok (by omega) (by omega), if_pos (by omega), if_pos (by omega), hword]
        exact j0_yes 0 t
      · have := (hiff vs hf).2 h
        rw [this] at hword
        simp [rdOf] at hword
    · obtain ⟨r, hr, h2, h3⟩ := numbers_l0x (t.drop 1) (fun s hs => hsz s (List.mem_of_mem_drop hs)) (by rw [List.length_drop]; omega) (t.drop 1).length ((t.drop 1).length + 1) 0 [] (by omega) (by omega) rfl
      have hhead : t = T w :: t.drop 1 := by
        cases t with
        | nil => simp at hlen
        | cons a t =>
          have : a.toList = (T w).toList := by
            have h : ((rdOf ByteArray.empty (a :: t) 0).toList != (T w).toList) = false := Bool.eq_false_iff.2 hword
            have h' := bne_eq_false_iff_eq.1 h
            simpa [rdOf] using h'
          rw [toList_inj this]
          rfl
      rw [List.drop_zero] at h2 h3
      refine ⟨(t.drop 1).length + 1 + 1, r, ?_, fun h => ?_, fun vs hv hf h => ?_⟩
      · unfold bench_numbers.f
        rw [hsp, Option.bind_some, wrap_ok (by omega) (by omega), if_pos (by omega), if_pos (by omega), Bool.eq_false_iff.2 hword, bench_numbers.j0, if_neg (by decide), if_pos (by omega), Option.bind_some]
        exact hr
      · obtain ⟨vs, g1, g2, g3⟩ := h2 h
        rw [List.nil_append] at g3
        subst g3
        refine ⟨?_, g1, (hiff _ g1).1 (by rw [← g2]; exact hhead)⟩
        have := congrArg List.length g2
        rw [List.length_map, List.length_drop] at this
        omega
      · have := (hiff vs hf).2 h
        exact h3 vs hf (by rw [this]; rfl)
  · refine ⟨1, ([], false), ?_, fun h => (by cases h), fun vs hv hf h => ?_⟩
    · unfold bench_numbers.f
      rw [hsp, Option.bind_some, wrap_ok (by omega) (by omega), if_neg (by omega)]
      exact j0_yes 0 t
    · have := (hiff vs hf).2 h
      rw [this] at hlen
      simp at hlen
      omega
def wordL (first : Bool) : List UInt8 := if first then [114, 111, 111, 109] else [97, 100, 100]
theorem word_T (first : Bool) : word first = T (wordL first) := by cases first <;> rfl
theorem numsOf_iff (l : List UInt8) (first : Bool) (hl : l.length < 4294967281) :
    ((numsOf l first).2 = true → (numsOf l first).1.length = many first ∧ (∀ v ∈ (numsOf l first).1, Fit v) ∧ l = wordL first ++ nums (numsOf l first).1) ∧
    (∀ vs, vs.length = many first → (∀ v ∈ vs, Fit v) → l = wordL first ++ nums vs → numsOf l first = (vs, true)) := by
  obtain ⟨k1, r, h1, h2, h3⟩ := numbers_spec l (wordL first) (many first) (by unfold many; split <;> omega) (by cases first <;> decide) hl
  obtain ⟨k2, h4⟩ := numsOf_spec l first hl
  rw [word_T] at h4
  have e1 := at_rounds (bench_numbers.mono _ _ _) (show k1 ≤ k1 + k2 by omega) h1
  have e2 := at_rounds (bench_numbers.mono _ _ _) (show k2 ≤ k1 + k2 by omega) h4
  rw [e1] at e2
  have e3 := Option.some.inj e2
  rw [← e3]
  exact ⟨h2, h3⟩
end Go.Proofs.YtioppgeackgjnaaDoor.Txt
namespace Go.Proofs.YtioppgeackgjnaaDoor.Txt
open Go.RowKit Go.Proofs.YtioppgeackgjnaaDoor.Bt Go.Proofs.YtioppgeackgjnaaDoorW.PrintWords Go.Proofs.YtioppgeackgjnaaDoorW.PrintLast
set_option linter.unusedVariables false
def addLine (c : S36) : List UInt8 := wordL false ++ nums [c.f0, c.f1]
def addsL (l : List S36) : List UInt8 := l.flatMap fun c => addLine c ++ [10]
def printL (room : Int) (l : List S36) : List UInt8 := wordL true ++ nums [room] ++ [10] ++ addsL l
def FitC (c : S36) : Prop := Fit c.f0 ∧ Fit c.f1
theorem nums_no : ∀ (vs : List Int), (∀ v ∈ vs, Fit v) → (10 : UInt8) ∉ nums vs
  | [], _ => by simp [nums]
  | v :: vs, hf => by
    have e : nums (v :: vs) = 32 :: (Lib.itoa v ++ nums vs) := by simp [nums]
    rw [e]
    have h1 := itoa_no (hf v List.mem_cons_self) 10 (by decide)
    have h2 := nums_no vs (fun x hx => hf x (List.mem_cons_of_mem _ hx))
    simp [h1, h2]
theorem word_no (f : Bool) : (10 : UInt8) ∉ wordL f := by cases f <;> decide
theorem line_no (f : Bool) {vs : List Int} (hf : ∀ v ∈ vs, Fit v) : (10 : UInt8) ∉ wordL f ++ nums vs := by
  have h1 := word_no f
  have h2 := nums_no vs hf
  simp [h1, h2]
theorem nums_len : ∀ (vs : List Int), (∀ v ∈ vs, Fit v) → (nums vs).length ≤ 14 * vs.length
  | [], _ => by simp [nums]
  | v :: vs, hf => by
    have e : nums (v :: vs) = 32 :: (Lib.itoa v ++ nums vs) := by simp [nums]
    rw [e]
    have h1 := itoa_fit_length (hf v List.mem_cons_self)
    have h2 := nums_len vs (fun x hx => hf x (List.mem_cons_of_mem _ hx))
    simp
    omega
theorem word_len (f : Bool) : (wordL f).length ≤ 4 := by cases f <;> decide
theorem addLine_len {c : S36} (h : FitC c) : (addLine c).length ≤ 32 := by
  have h1 := nums_len [c.f0, c.f1] (by simp [h.1, h.2])
  have h2 := word_len false
  unfold addLine
  rw [List.length_append]
  simp at h1
  omega
theorem addsL_len : ∀ (l : List S36), (∀ c ∈ l, FitC c) → (addsL l).length ≤ 33 * l.length
  | [], _ => by simp [addsL]
  | c :: l, h => by
    have e : addsL (c :: l) = addLine c ++ [10] ++ addsL l := by simp [addsL]
    have h1 := addLine_len (h c List.mem_cons_self)
    have h2 := addsL_len l (fun x hx => h x (List.mem_cons_of_mem _ hx))
    rw [e]
    simp
    omega
theorem numsOf_room {r : Int} (h : Fit r) : numsOf (wordL true ++ nums [r]) true = ([r], true) := by
  have hl := nums_len [r] (by simp [h])
  have hw := word_len true
  exact (numsOf_iff _ true (by rw [List.length_append]; simp at hl; omega)).2 [r] rfl (by simp [h]) rfl
theorem numsOf_add {c : S36} (h : FitC c) : numsOf (addLine c) false = ([c.f0, c.f1], true) :=
  (numsOf_iff _ false (by have := addLine_len h; omega)).2 [c.f0, c.f1] rfl (by simp [h.1, h.2]) rfl
/-- What is written is read. -/
theorem parse_adds : ∀ (l : List S36) (n : Nat) (room : Int) (out : List S36) (idx : Nat), (∀ c ∈ l, FitC c) → l.length < n → idx ≠ 0 → parseS n (addsL l) room out idx = some (room, out ++ l)
  | [], n, room, out, idx, _, hn, hi => by
    obtain ⟨n, rfl⟩ : ∃ m, n = m + 1 := ⟨n - 1, by simp at hn; omega⟩
    rw [parseS, if_pos ⟨hi, rfl⟩, List.append_nil]
  | c :: l, n, room, out, idx, hf, hn, hi => by
    obtain ⟨n, rfl⟩ : ∃ m, n = m + 1 := ⟨n - 1, by simp at hn; omega⟩
    have hc := hf c List.mem_cons_self
    have e : addsL (c :: l) = addLine c ++ 10 :: addsL l := by simp [addsL]
    have hcut : cutAt 10 (addsL (c :: l)) = (addLine c, addsL l, true) := by
      rw [e]; exact cutAt_line 10 _ _ (line_no false (by simp [hc.1, hc.2]))
    have hb : (idx == 0) = false := beq_eq_false_iff_ne.2 hi
    rw [parseS, hcut, if_neg (by rw [e]; simp), hb]
    simp only [numsOf_add hc]
    rw [if_pos ⟨trivial, trivial⟩, if_neg hi]
    have := parse_adds l n room (out ++ [c]) (idx + 1) (fun x hx => hf x (List.mem_cons_of_mem _ hx)) (by simp at hn; omega) (by omega)
    rw [List.append_assoc] at this
    exact this
theorem parse_print (room : Int) (l : List S36) (n : Nat) (hr : Fit room) (hf : ∀ c ∈ l, FitC c) (hn : l.length + 1 < n) : parseS n (printL room l) 0 [] 0 = some (room, l) := by
  obtain ⟨n, rfl⟩ : ∃ m, n = m + 1 := ⟨n - 1, by omega⟩
  have e : printL room l = (wordL true ++ nums [room]) ++ 10 :: addsL l := by simp [printL]
  have hcut : cutAt 10 (printL room l) = (wordL true ++ nums [room], addsL l, true) := by
    rw [e]; exact cutAt_line 10 _ _ (line_no true (by simp [hr]))
  rw [parseS, hcut, if_neg (by simp), show ((0 : Nat) == 0) = true from rfl]
  simp only [numsOf_room hr]
  rw [if_pos ⟨trivial, trivial⟩, if_pos trivial]
  exact parse_adds l n room [] 1 hf (by omega) (by omega)
/-- What is read is what is written of it. -/
theorem read_adds : ∀ (n : Nat) (t : List UInt8) (room : Int) (out : List S36) (idx : Nat) (r : Int) (o : List S36), idx ≠ 0 → t.length < 4294967281 → parseS n t room out idx = some (r, o) → r = room ∧ ∃ l, o = out ++ l ∧ t = addsL l ∧ ∀ c ∈ l, FitC c
  | 0, _, _, _, _, _, _, _, _, h => by simp [parseS] at h
  | n + 1, t, room, out, idx, r, o, hi, ht, h => by
    rw [parseS] at h
    by_cases hc : idx ≠ 0 ∧ t = []
    · rw [if_pos hc] at h
      simp only [Option.some.injEq, Prod.mk.injEq] at h
      obtain ⟨rfl, rfl⟩ := h
      exact ⟨rfl, [], by simp, by rw [hc.2]; rfl, by simp⟩
    · rw [if_neg hc] at h
      have hb : (idx == 0) = false := beq_eq_false_iff_ne.2 hi
      rw [hb] at h
      by_cases hk : (cutAt 10 t).2.2 = true ∧ (numsOf (cutAt 10 t).1 false).2 = true
      · rw [if_pos hk, if_neg hi] at h
        obtain ⟨hl1, hl2⟩ := cutAt_lens t
        have hl2 := hl2 hk.1
        obtain ⟨g1, g2, g3⟩ := (numsOf_iff (cutAt 10 t).1 false (by omega)).1 hk.2
        obtain ⟨rfl, l, rfl, ht2, hf⟩ := read_adds n _ _ _ _ _ _ (by omega) (by omega) h
        obtain ⟨x, y, hxy⟩ : ∃ x y, (numsOf (cutAt 10 t).1 false).1 = [x, y] := by
          match hq : (numsOf (cutAt 10 t).1 false).1, g1 with
          | [x, y], _ => exact ⟨x, y, rfl⟩
          | [], g1 => simp [many] at g1
          | [_], g1 => simp [many] at g1
          | _ :: _ :: _ :: _, g1 => simp [many] at g1
        rw [hxy] at g2 g3
        refine ⟨rfl, (⟨x, y⟩ : S36) :: l, ?_, ?_, ?_⟩
        · rw [hxy]; simp [rd]
        · have hsplit := ((index_one 10 t).1 hk.1).2.1
          have e : addsL ((⟨x, y⟩ : S36) :: l) = addLine ⟨x, y⟩ ++ 10 :: addsL l := by simp [addsL]
          rw [e, ← ht2]
          rw [g3] at hsplit
          exact hsplit
        · intro c hc
          rcases List.mem_cons.1 hc with rfl | hc
          · exact ⟨g2 x (by simp), g2 y (by simp)⟩
          · exact hf c hc
      · rw [if_neg hk] at h
        cases h
theorem read_print (n : Nat) (t : List UInt8) (r : Int) (o : List S36) (ht : t.length < 4294967281) (h : parseS n t 0 [] 0 = some (r, o)) : t = printL r o ∧ Fit r ∧ ∀ c ∈ o, FitC c := by
  cases n with
  | zero => simp [parseS] at h
  | succ n =>
    rw [parseS, if_neg (by simp), show ((0 : Nat) == 0) = true from rfl] at h
    by_cases hk : (cutAt 10 t).2.2 = true ∧ (numsOf (cutAt 10 t).1 true).2 = true
    · rw [if_pos hk, if_pos rfl] at h
      obtain ⟨hl1, hl2⟩ := cutAt_lens t
      have hl2 := hl2 hk.1
      obtain ⟨g1, g2, g3⟩ := (numsOf_iff (cutAt 10 t).1 true (by omega)).1 hk.2
      obtain ⟨rfl, l, ho, ht2, hf⟩ := read_adds n _ _ _ _ _ _ (by omega) (by omega) h
      rw [List.nil_append] at ho
      subst ho
      obtain ⟨x, hx⟩ : ∃ x, (numsOf (cutAt 10 t).1 true).1 = [x] := by
        match hq : (numsOf (cutAt 10 t).1 true).1, g1 with
        | [x], _ => exact ⟨x, rfl⟩
        | [], g1 => simp [many] at g1
        | _ :: _ :: _, g1 => simp [many] at g1
      rw [hx] at g2 g3
      have hrd : rd (numsOf (cutAt 10 t).1 true).1 0 = x := by rw [hx]; rfl
      rw [hrd]
      refine ⟨?_, g2 x (by simp), hf⟩
      have hsplit := ((index_one 10 t).1 hk.1).2.1
      have e : printL x o = (wordL true ++ nums [x]) ++ 10 :: addsL o := by simp [printL]
      rw [e, ← ht2]
      rw [g3] at hsplit
      exact hsplit
    · rw [if_neg hk] at h
      cases h
end Go.Proofs.YtioppgeackgjnaaDoor.Txt
namespace Go.Proofs.YtioppgeackgjnaaDoor.Txt
open Go.RowKit Go.Proofs.YtioppgeackgjnaaDoor.Bt Go.Proofs.YtioppgeackgjnaaDoorW.PrintWords Go.Proofs.YtioppgeackgjnaaDoorW.PrintLast
set_option linter.unusedVariables false
theorem T_append (a b : List UInt8) : T a ++ T b = T (a ++ b) := by
  rw [← T_of (T a ++ T b)]
  congr 1
instance (x : Int) : Decidable (Fit x) := by unfold Fit; infer_instance
instance (c : S36) : Decidable (FitC c) := by unfold FitC; infer_instance
theorem itoaB_T (v : Int) : itoaB v = T (Lib.itoa v) := rfl
theorem addLine_T (c : S36) : (((((⟨#[97, 100, 100, 32]⟩ : ByteArray) ++ itoaB c.f0) ++ (⟨#[32]⟩ : ByteArray)) ++ itoaB c.f1) ++ (⟨#[10]⟩ : ByteArray)) = T (addLine c ++ [10]) := by
  have e1 : (⟨#[97, 100, 100, 32]⟩ : ByteArray) = T [97, 100, 100, 32] := rfl
  have e2 : (⟨#[32]⟩ : ByteArray) = T [32] := rfl
  have e3 : (⟨#[10]⟩ : ByteArray) = T [10] := rfl
  rw [e1, e2, e3, itoaB_T, itoaB_T, T_append, T_append, T_append, T_append]
  congr 1
  simp [addLine, wordL, nums]
theorem roomLine_T (r : Int) : (((⟨#[114, 111, 111, 109, 32]⟩ : ByteArray) ++ itoaB r) ++ (⟨#[10]⟩ : ByteArray)) = T (wordL true ++ nums [r] ++ [10]) := by
  have e1 : (⟨#[114, 111, 111, 109, 32]⟩ : ByteArray) = T [114, 111, 111, 109, 32] := rfl
  have e3 : (⟨#[10]⟩ : ByteArray) = T [10] := rfl
  rw [e1, e3, itoaB_T, T_append, T_append]
  congr 1
  simp [wordL, nums]
theorem rd_at (done : List S36) (c : S36) (rest : List S36) : rd_T36 (done ++ c :: rest) (done.length : Int) = c := by simp [rd_T36]
theorem print_l0 : ∀ (rest done : List S36) (x : ByteArray), x.size + 48 * rest.length ≤ 140737488355328 → done.length + rest.length ≤ 5000000000 →
    ∃ k, ((∀ c ∈ rest, FitC c) ∧ bench_Print.l0 k x (done ++ rest) ((done.length + rest.length : Nat) : Int) (done.length : Int) = some (x ++ T (addsL rest), 0)) ∨ ((¬ ∀ c ∈ rest, FitC c) ∧ bench_Print.l0 k x (done ++ rest) ((done.length + rest.length : Nat) : Int) (done.length : Int) = some (⟨#[]⟩, 2))
  | [], done, x, hx, hl => ⟨1, .inl ⟨by simp, by
      rw [bench_Print.l0, if_neg (by simp)]
      have : x ++ T (addsL []) = x := by
        rw [← T_of x, T_append]; simp [addsL]
      rw [this]⟩⟩
  | c :: rest, done, x, hx, hl => by
    have hl' : done.length + (rest.length + 1) ≤ 5000000000 := by simpa using hl
    have hx' : x.size + 48 * (rest.length + 1) ≤ 140737488355328 := by simpa using hx
    have hstart : ∀ k res, bench_Print.j1 k x (done ++ c :: rest) ((done.length + (c :: rest).length : Nat) : Int) (done.length : Int) (!decide (FitC c)) c.f0 c.f1 = some res →
        bench_Print.l0 (k + 1) x (done ++ c :: rest) ((done.length + (c :: rest).length : Nat) : Int) (done.length : Int) = some res := fun k res h => by
      rw [bench_Print.l0, if_pos (by simp; omega), if_pos (by omega), if_pos (by simp; omega), rd_at, fits_eq, Option.bind_some]
      by_cases h0 : Fit c.f0
      · rw [decide_eq_true (show 0 ≤ c.f0 ∧ c.f0 ≤ 1099511627776 from h0), if_pos rfl, fits_eq, Option.bind_some]
        have e : decide (FitC c) = decide (0 ≤ c.f1 ∧ c.f1 ≤ 1099511627776) := by
          by_cases h1 : 0 ≤ c.f1 ∧ c.f1 ≤ 1099511627776
          · rw [decide_eq_true h1, decide_eq_true (show FitC c from ⟨h0, h1⟩)]
          · rw [decide_eq_false h1, decide_eq_false (fun e => h1 e.2)]
        rw [← e]
        exact h
      · rw [decide_eq_false (show ¬ (0 ≤ c.f0 ∧ c.f0 ≤ 1099511627776) from h0), if_neg (by decide)]
        rw [decide_eq_false (fun e => h0 e.1)] at h
        exact h
    by_cases hc : FitC c
    · have b0 := hc.1
      have b1 := hc.2
      unfold Fit at b0 b1
      have z0 := itoaB_size c.f0 (by omega)
      have z1 := itoaB_size c.f1 (by omega)
      have hsz : (T (addLine c ++ [10])).size ≤ 48 := by
        rw [← addLine_T]; simp only [ByteArray.size_append]
        have a1 : (⟨#[97, 100, 100, 32]⟩ : ByteArray).size = 4 := rfl
        have a2 : (⟨#[32]⟩ : ByteArray).size = 1 := rfl
        have a3 : (⟨#[10]⟩ : ByteArray).size = 1 := rfl
        omega
      obtain ⟨k, hk⟩ := print_l0 rest (done ++ [c]) (x ++ T (addLine c ++ [10])) (by rw [ByteArray.size_append]; omega) (by simp; omega)
      have e1 : (done ++ [c]) ++ rest = done ++ c :: rest := by simp
      have e2 : (((done ++ [c]).length + rest.length : Nat) : Int) = ((done.length + (c :: rest).length : Nat) : Int) := by simp; omega
      have e3 : (((done ++ [c]).length : Nat) : Int) = (done.length : Int) + 1 := by simp
      rw [e1, e2, e3] at hk
      have hgo : ∀ res, bench_Print.l0 k (x ++ T (addLine c ++ [10])) (done ++ c :: rest) ((done.length + (c :: rest).length : Nat) : Int) ((done.length : Int) + 1) = some res → bench_Print.l0 (k + 1 + 1) x (done ++ c :: rest) ((done.length + (c :: rest).length : Nat) : Int) (done.length : Int) = some res := fun res h => by
        refine hstart (k + 1) res ?_
        rw [decide_eq_true hc, bench_Print.j1, if_neg (by decide), itoa_some _ (by omega), Option.bind_some, if_pos (by omega), if_pos (by rw [ByteArray.size_append]; have a1 : (⟨#[97, 100, 100, 32]⟩ : ByteArray).size = 4 := rfl; omega), itoa_some _ (by omega), Option.bind_some]
        have a1 : (⟨#[97, 100, 100, 32]⟩ : ByteArray).size = 4 := rfl
        have a2 : (⟨#[32]⟩ : ByteArray).size = 1 := rfl
        rw [if_pos (by simp only [ByteArray.size_append]; omega), if_pos (by simp only [ByteArray.size_append]; omega), addLine_T, if_pos (by omega), wrap_ok (by omega) (by omega)]
        exact h
      have e4 : x ++ T (addsL (c :: rest)) = x ++ T (addLine c ++ [10]) ++ T (addsL rest) := by
        have : addsL (c :: rest) = addLine c ++ [10] ++ addsL rest := by simp [addsL]
        rw [← T_of x, T_append, T_append, T_append, this]
        congr 1
        simp
      rcases hk with ⟨hf, hk⟩ | ⟨hf, hk⟩
      · refine ⟨k + 1 + 1, .inl ⟨fun y hy => ?_, by rw [e4]; exact hgo _ hk⟩⟩
        rcases List.mem_cons.1 hy with rfl | hy
        · exact hc
        · exact hf y hy
      · exact ⟨k + 1 + 1, .inr ⟨fun h => hf (fun y hy => h y (List.mem_cons_of_mem _ hy)), hgo _ hk⟩⟩
    · refine ⟨1 + 1, .inr ⟨fun h => hc (h c List.mem_cons_self), hstart 1 _ ?_⟩⟩
      rw [decide_eq_false hc, bench_Print.j1, if_pos (by decide)]
/-- bench.Print: the text where all is fit, else nothing. -/
theorem print_run (room : Int) (l : List S36) (hl : l.length ≤ 1048576) :
    ∃ k, ((Fit room ∧ ∀ c ∈ l, FitC c) ∧ bench_Print.f k room l = some (T (printL room l), 0)) ∨ (¬ (Fit room ∧ ∀ c ∈ l, FitC c) ∧ bench_Print.f k room l = some (⟨#[]⟩, 2)) := by
  by_cases hr : Fit room
  · have b0 := hr
    unfold Fit at b0
    have z0 := itoaB_size room (by omega)
    have a1 : (⟨#[114, 111, 111, 109, 32]⟩ : ByteArray).size = 5 := rfl
    have a3 : (⟨#[10]⟩ : ByteArray).size = 1 := rfl
    have hsz : (T (wordL true ++ nums [room] ++ [10])).size ≤ 48 := by
      rw [← roomLine_T]; simp only [ByteArray.size_append]; omega
    obtain ⟨k, hk⟩ := print_l0 l [] (T (wordL true ++ nums [room] ++ [10])) (by omega) (by simp; omega)
    have e0 : (⟨#[]⟩ : ByteArray) ++ T (wordL true ++ nums [room] ++ [10]) = T (wordL true ++ nums [room] ++ [10]) := by
      have : (⟨#[]⟩ : ByteArray) = T [] := rfl
      rw [this, T_append]; simp
    have hgo : ∀ res, bench_Print.l0 k (T (wordL true ++ nums [room] ++ [10])) l (l.length : Int) 0 = some res → bench_Print.f k room l = some res := fun res h => by
      unfold bench_Print.f
      rw [fits_eq, Option.bind_some, decide_eq_true (show 0 ≤ room ∧ room ≤ 1099511627776 from hr), if_pos rfl, itoa_some _ (by omega), Option.bind_some, if_pos (by omega), if_pos (by simp only [ByteArray.size_append]; omega), roomLine_T, if_pos (by omega), e0]
      exact h
    simp only [List.nil_append, List.length_nil, Nat.zero_add] at hk
    rcases hk with ⟨hf, hk⟩ | ⟨hf, hk⟩
    · refine ⟨k, .inl ⟨⟨hr, hf⟩, hgo _ ?_⟩⟩
      have e : printL room l = (wordL true ++ nums [room] ++ [10]) ++ addsL l := rfl
      rw [e, ← T_append]
      exact hk
    · exact ⟨k, .inr ⟨fun h => hf h.2, hgo _ hk⟩⟩
  · refine ⟨0, .inr ⟨fun h => hr h.1, ?_⟩⟩
    unfold bench_Print.f
    rw [fits_eq, Option.bind_some, decide_eq_false (show ¬ (0 ≤ room ∧ room ≤ 1099511627776) from hr), if_neg (by decide)]
theorem printL_len (room : Int) (l : List S36) (hr : Fit room) (hf : ∀ c ∈ l, FitC c) : (printL room l).length ≤ 33 * l.length + 30 := by
  have h1 := addsL_len l hf
  have h2 := nums_len [room] (by simp [hr])
  have h3 := word_len true
  unfold printL
  simp only [List.length_append, List.length_singleton] at *
  omega
/-- The loop of Parse with the line that is wrong. -/
theorem parse_run2 : ∀ (n : Nat) (t : List UInt8) (room : Int) (out : List S36) (idx : Nat), t.length < n → t.length < 4294967281 → out.length ≤ idx → idx + t.length ≤ 4300000000 →
    ∃ k i, bench_Parse.l0 k (T t) room out (idx : Int) = some (match parseS n t room out idx with | some p => (p.1, p.2, 0, 0) | none => (0, [], i, 1)) ∧ 0 ≤ i ∧ i ≤ (idx : Int) + (t.count 10 : Nat)
  | 0, _, _, _, _, h, _, _, _ => absurd h (by omega)
  | n + 1, t, room, out, idx, hn, ht, ho, hi => by
    by_cases hc : idx ≠ 0 ∧ t = []
    · refine ⟨2, 0, ?_, by omega, by omega⟩
      obtain ⟨h0, rfl⟩ := hc
      rw [parseS, if_pos ⟨h0, rfl⟩, bench_Parse.l0, if_neg (by omega), T_toList, bench_Parse.j1, if_neg (by decide)]
    · obtain ⟨hl1, hl2⟩ := cutAt_lens t
      obtain ⟨kn, hkn⟩ := numsOf_spec (cutAt 10 t).1 (idx == 0) (by omega)
      have hlen := fun h => (numsOf_len (cutAt 10 t).1 (idx == 0) (by omega) h).1
      have hfirst : ∀ k res, bench_Parse.j1 k (T t) room out (idx : Int) true = some res → bench_Parse.l0 (k + 1) (T t) room out (idx : Int) = some res := fun k res h => by
        rw [bench_Parse.l0]
        by_cases h0 : idx = 0
        · rw [if_pos (by omega)]; exact h
        · have hne : t ≠ [] := fun e => hc ⟨h0, e⟩
          rw [if_neg (by omega), T_toList, show (t != []) = true from bne_iff_ne.2 hne]; exact h
      have hj : ∀ k res, kn ≤ k → bench_Parse.j3 k room out (idx : Int) (T (cutAt 10 t).2.1) (numsOf (cutAt 10 t).1 (idx == 0)).1 (!((cutAt 10 t).2.2 && (numsOf (cutAt 10 t).1 (idx == 0)).2)) = some res → bench_Parse.j1 (k + 2) (T t) room out (idx : Int) true = some res := fun k res hk h => by
        rw [bench_Parse.j1, if_pos rfl, cut_T t ht, Option.bind_some]
        have h2 : ∀ (w : ByteArray) (m : Int), w = word (idx == 0) → m = (many (idx == 0) : Int) → bench_Parse.j2 (k + 1) room out (idx : Int) (T (cutAt 10 t).1) (T (cutAt 10 t).2.1) (cutAt 10 t).2.2 w m = some res := fun w m hw hm => by
          rw [bench_Parse.j2, hw, hm, at_rounds (bench_numbers.mono _ _ _) hk hkn, Option.bind_some]
          cases hq : (cutAt 10 t).2.2 with
          | true => rw [hq] at h; rw [if_pos rfl]; simpa using h
          | false => rw [hq] at h; rw [if_neg (by decide)]; simpa using h
        by_cases h0 : idx = 0
        · rw [if_pos (by omega)]; exact h2 _ _ (by rw [h0]; rfl) (by rw [h0]; rfl)
        · rw [if_neg (by omega)]; exact h2 _ _ (by simp [word, h0]) (by simp [many, h0])
      rw [parseS, if_neg hc]
      by_cases hok : (cutAt 10 t).2.2 = true ∧ (numsOf (cutAt 10 t).1 (idx == 0)).2 = true
      · rw [if_pos hok]
        have hcnt : t.count 10 = (cutAt 10 t).2.1.count 10 + 1 := by
          rcases hq : cutAt 10 t with ⟨a, b, c⟩
          rw [hq] at hok
          obtain rfl : c = true := hok.1
          exact count_cut hq
        have hb : (!((cutAt 10 t).2.2 && (numsOf (cutAt 10 t).1 (idx == 0)).2)) = false := by rw [hok.1, hok.2]; rfl
        rw [hb] at hj
        have hrest := hl2 hok.1
        have hlen := hlen hok.2
        by_cases h0 : idx = 0
        · rw [if_pos h0]
          subst h0
          have ht1 : ((0 : Nat) == 0) = true := rfl
          rw [ht1] at hj hlen
          obtain ⟨k, i, hk, i0, i1⟩ := parse_run2 n (cutAt 10 t).2.1 (rd (numsOf (cutAt 10 t).1 true).1 0) out 1 (by omega) (by omega) (by omega) (by omega)
          refine ⟨k + kn + 1 + 2 + 1, i, hfirst _ _ (hj _ _ (by omega) ?_), i0, by rw [hcnt]; omega⟩
          rw [bench_Parse.j3, if_neg (by decide), if_pos (by omega), if_pos (by rw [hlen]; decide), wrap_ok (by omega) (by omega)]
          exact at_rounds (fun k => (bench_Parse.mono_l k).1 _ _ _ _) (show k ≤ k + kn by omega) hk
        · rw [if_neg h0]
          have ht1 : (idx == 0) = false := beq_eq_false_iff_ne.2 h0
          rw [ht1] at hj hlen
          obtain ⟨k, i, hk, i0, i1⟩ := parse_run2 n (cutAt 10 t).2.1 room (out ++ [(⟨rd (numsOf (cutAt 10 t).1 false).1 0, rd (numsOf (cutAt 10 t).1 false).1 1⟩ : S36)]) (idx + 1) (by omega) (by omega) (by simp; omega) (by omega)
          refine ⟨k + kn + 1 + 2 + 1, i, hfirst _ _ (hj _ _ (by omega) ?_), i0, by rw [hcnt]; omega⟩
          rw [bench_Parse.j3, if_neg (by decide), if_neg (by omega), if_pos (by rw [hlen]; decide), if_pos (by rw [hlen]; decide), if_pos (by omega), wrap_ok (by omega) (by omega)]
          exact at_rounds (fun k => (bench_Parse.mono_l k).1 _ _ _ _) (show k ≤ k + kn by omega) hk
      · rw [if_neg hok]
        have hb : (!((cutAt 10 t).2.2 && (numsOf (cutAt 10 t).1 (idx == 0)).2)) = true := by
          cases h1 : (cutAt 10 t).2.2 <;> cases h2 : (numsOf (cutAt 10 t).1 (idx == 0)).2 <;> simp_all
        rw [hb] at hj
        refine ⟨kn + 1 + 2 + 1, idx, hfirst _ _ (hj _ _ (by omega) ?_), by omega, by omega⟩
        rw [bench_Parse.j3, if_pos rfl]
/-- bench.Parse at a text. -/
theorem parse_all (t : ByteArray) (ht : t.size < 4294967281) :
    ∃ k, (∃ r o, parseS (t.size + 1) t.data.toList 0 [] 0 = some (r, o) ∧ bench_Parse.f k t = some (r, o, 0, 0)) ∨ (parseS (t.size + 1) t.data.toList 0 [] 0 = none ∧ ∃ i : Int, bench_Parse.f k t = some (0, [], i, 1) ∧ 0 ≤ i ∧ i ≤ (t.data.toList.count 10 : Nat)) := by
  have hz := size_list t
  obtain ⟨k, i, hk, i0, i1⟩ := parse_run2 (t.data.toList.length + 1) t.data.toList 0 [] 0 (by omega) (by omega) (by simp) (by omega)
  rw [T_of, hz] at hk
  refine ⟨k, ?_⟩
  cases hp : parseS (t.size + 1) t.data.toList 0 [] 0 with
  | none => rw [hp] at hk; exact .inr ⟨rfl, i, hk, i0, by omega⟩
  | some p => obtain ⟨r, o⟩ := p; rw [hp] at hk; exact .inl ⟨r, o, rfl, hk⟩
end Go.Proofs.YtioppgeackgjnaaDoor.Txt
namespace Go.Proofs.YtioppgeackgjnaaDoor.Txt
open Go.RowKit Go.Proofs.YtioppgeackgjnaaDoor.Bt Go.Proofs.YtioppgeackgjnaaDoorW.PrintWords Go.Proofs.YtioppgeackgjnaaDoorW.PrintLast
set_option linter.unusedVariables false
def runS : Pool → List S36 → Pool
  | p, [] => p
  | p, c :: l => runS (nextS p c) l
def more (s : ByteArray) (x : Int) : ByteArray := s ++ ((⟨#[32]⟩ : ByteArray) ++ itoaB x)
def keptB (n : Int) : ByteArray := (⟨#[107, 101, 112, 116, 32]⟩ : ByteArray) ++ itoaB n
def lastS (p : Pool) : ByteArray := p.2.2.foldl more (keptB p.2.1)
theorem tell_l1x (has : List Int) (hl : has.length ≤ 400) (hf : ∀ x ∈ has, 0 ≤ x ∧ x ≤ 1099511627776) (out : List ByteArray) (ho : out.length ≤ 8000000000) : ∀ (d k i : Nat) (s : ByteArray), i + d = has.length → d < k → s.size ≤ 100 + 22 * i → bench_Tell.l1 k out s has (has.length : Int) (i : Int) = some (out ++ [(has.drop i).foldl more s], 0) := by
  intro d
  induction d with
  | zero =>
    intro k i s hi hk hs
    obtain ⟨k, rfl⟩ : ∃ m, k = m + 1 := ⟨k - 1, by omega⟩
    rw [bench_Tell.l1, if_neg (by omega), if_pos (by omega), List.drop_eq_nil_of_le (by omega)]
    rfl
  | succ d ih =>
    intro k i s hi hk hs
    obtain ⟨k, rfl⟩ : ∃ m, k = m + 1 := ⟨k - 1, by omega⟩
    have hlt : i < has.length := by omega
    obtain ⟨f0, f1⟩ := rd_fit hlt hf
    have hz := itoaB_size (rd has (i : Int)) (by omega)
    have hz2 : ((⟨#[32]⟩ : ByteArray) ++ itoaB (rd has (i : Int))).size ≤ 22 := by
      rw [ByteArray.size_append]
      have : (⟨#[32]⟩ : ByteArray).size = 1 := rfl
      omega
    have h := ih k (i + 1) (s ++ ((⟨#[32]⟩ : ByteArray) ++ itoaB (rd has (i : Int)))) (by omega) (by omega) (by rw [ByteArray.size_append]; omega)
    have hd : has.drop i = has[i] :: has.drop (i + 1) := List.drop_eq_getElem_cons hlt
    have hr : rd has (i : Int) = has[i] := by simp [rd, hlt]
    rw [bench_Tell.l1, if_pos (by omega), if_pos (by omega), if_pos (by omega), itoa_some _ (by omega), Option.bind_some, if_pos (by omega), if_pos (by omega), wrap_ok (by omega) (by omega)]
    rw [hd, List.foldl_cons]
    rw [hr] at h
    rw [hr]
    exact h
theorem runS_ok : ∀ (l : List S36) (p : Pool), PoolOK p.1 p.2.1 p.2.2 → (∀ c ∈ l, FitC c) → PoolOK (runS p l).1 (runS p l).2.1 (runS p l).2.2
  | [], _, h, _ => h
  | c :: l, p, h, hf => runS_ok l (nextS p c) (next_ok h c (hf c List.mem_cons_self).1) (fun x hx => hf x (List.mem_cons_of_mem _ hx))
theorem tell_l0x : ∀ (rest done : List S36) (out : List ByteArray) (p : Pool), PoolOK p.1 p.2.1 p.2.2 → (∀ c ∈ rest, FitC c) → done.length + rest.length ≤ 5000000000 → out.length = done.length →
    ∃ k, bench_Tell.l0 k out (done ++ rest) ((done.length + rest.length : Nat) : Int) (done.length : Int) p.1 p.2.1 p.2.2 = some (out ++ linesS p rest ++ [lastS (runS p rest)], 0)
  | [], done, out, p, hp, _, hl, ho => by
    have h2 := hp.comes
    have hz := itoaB_size p.2.1 (by omega)
    have h := tell_l1x p.2.2 (len_le hp) hp.fit out (by simp at hl; omega) p.2.2.length (p.2.2.length + 1) 0 ((⟨#[107, 101, 112, 116, 32]⟩ : ByteArray) ++ itoaB p.2.1) (by omega) (by omega) (by
      rw [ByteArray.size_append]
      have : (⟨#[107, 101, 112, 116, 32]⟩ : ByteArray).size = 5 := rfl
      omega)
    refine ⟨p.2.2.length + 1 + 1, ?_⟩
    rw [bench_Tell.l0, if_neg (by simp), itoa_some _ (by omega), Option.bind_some, if_pos (by omega), linesS, List.append_nil]
    exact h
  | c :: rest, done, out, p, hp, hf, hl, ho => by
    obtain ⟨hc0, hc1⟩ := hf c List.mem_cons_self
    obtain ⟨a1, a2, a3, a4⟩ := add_eq hp c hc0
    have hl' : done.length + (rest.length + 1) ≤ 5000000000 := by simpa using hl
    obtain ⟨k, h⟩ := tell_l0x rest (done ++ [c]) (out ++ [lineS p c]) (nextS p c) (next_ok hp c hc0) (fun x hx => hf x (List.mem_cons_of_mem _ hx)) (by simp; omega) (by simp; omega)
    have e1 : (done ++ [c]) ++ rest = done ++ c :: rest := by simp
    have e2 : (((done ++ [c]).length + rest.length : Nat) : Int) = ((done.length + (c :: rest).length : Nat) : Int) := by simp; omega
    have e3 : (((done ++ [c]).length : Nat) : Int) = (done.length : Int) + 1 := by simp
    rw [e1, e2, e3] at h
    refine ⟨k + 1, ?_⟩
    rw [bench_Tell.l0, if_pos (by simp; omega), if_pos (by omega), if_pos (by simp; omega), rd_T36_at, a1, Option.bind_some, wrap_ok (by omega) (by omega)]
    have e4 : out ++ linesS p (c :: rest) ++ [lastS (runS p (c :: rest))] = out ++ [lineS p c] ++ linesS (nextS p c) rest ++ [lastS (runS (nextS p c) rest)] := by simp [linesS, runS]
    rw [e4]
    by_cases he : (addS p c).2.2.2 = 0
    · have hn : nextS p c = ((addS p c).1, (addS p c).2.1, (addS p c).2.2.1) := by unfold nextS; rw [if_pos he]
      have hline : lineS p c = ⟨#[111, 107]⟩ := by unfold lineS; rw [if_pos he]
      rw [if_pos he, if_pos (by omega)]
      rw [hn, hline] at h
      rw [hn, hline]
      exact h
    · have hn : nextS p c = p := by unfold nextS; rw [if_neg he]
      have hline : lineS p c = (⟨#[101, 114, 114, 111, 114, 32]⟩ : ByteArray) ++ itoaB (addS p c).2.2.2 := by unfold lineS; rw [if_neg he]
      have hz := itoaB_size (addS p c).2.2.2 (by omega)
      rw [if_neg he, itoa_some _ (by omega), Option.bind_some, if_pos (by omega), if_pos (by omega)]
      rw [hn, hline] at h
      rw [hn, hline]
      exact h
theorem addsL_ge : ∀ l : List S36, l.length ≤ (addsL l).length
  | [] => by simp
  | c :: l => by
    have e : addsL (c :: l) = addLine c ++ [10] ++ addsL l := by simp [addsL]
    have := addsL_ge l
    rw [e]; simp; omega
theorem parse_printed (r : Int) (o : List S36) (hr : Fit r) (hf : ∀ c ∈ o, FitC c) (ho : o.length ≤ 1048576) : ∃ k, bench_Parse.f k (T (printL r o)) = some (r, o, 0, 0) := by
  have hlen := printL_len r o hr hf
  have hz : (T (printL r o)).size = (printL r o).length := T_size _
  obtain ⟨k2, h⟩ := parse_all (T (printL r o)) (by omega)
  have hpp : parseS ((T (printL r o)).size + 1) (T (printL r o)).data.toList 0 [] 0 = some (r, o) := by
    rw [T_list]
    refine parse_print r o _ hr hf ?_
    have : o.length + 1 ≤ (printL r o).length := by
      have := addsL_ge o
      unfold printL
      simp
      omega
    omega
  rcases h with ⟨r', o', g1, g2⟩ | ⟨g1, _⟩
  · rw [hpp] at g1
    obtain ⟨rfl, rfl⟩ := Prod.mk.inj (Option.some.inj g1)
    exact ⟨k2, g2⟩
  · rw [hpp] at g1; cases g1
/-- bench.Tell of what Print wrote. -/
theorem tell_printed (r : Int) (o : List S36) (hr : Fit r) (hf : ∀ c ∈ o, FitC c) (ho : o.length ≤ 1048576) :
    ∃ k, (1 ≤ r ∧ r ≤ 400 ∧ bench_Tell.f k (T (printL r o)) = some (linesS (r, 0, []) o ++ [lastS (runS (r, 0, []) o)], 0)) ∨ (pool_New.f r = some (0, 0, [], 2) ∧ bench_Tell.f k (T (printL r o)) = some ([], 2)) := by
  obtain ⟨k1, h1⟩ := parse_printed r o hr hf ho
  by_cases hroom : 1 ≤ r ∧ r ≤ 400
  · have hnew : pool_New.f r = some (r, 0, [], 0) := by
      rcases new_of r with ⟨_, _, h⟩ | h
      · exact h
      · unfold pool_New.f pool_Right.f at h
        rw [if_pos hroom.1, if_pos hroom.2, if_pos (by omega), if_pos (by omega), Option.bind_some] at h
        have : mn r 0 = 0 := by unfold mn; split <;> omega
        rw [this] at h
        simp at h
    obtain ⟨k2, h2⟩ := tell_l0x o [] [] (r, 0, []) (new_ok hroom) hf (by simp; omega) rfl
    refine ⟨k1 + k2, .inl ⟨hroom.1, hroom.2, ?_⟩⟩
    have hk' := at_rounds (bench_Parse.mono (T (printL r o))) (show k1 ≤ k1 + k2 by omega) h1
    have h' := at_rounds (fun k => (bench_Tell.mono_l k).1 _ _ _ _ _ _ _) (show k2 ≤ k1 + k2 by omega) h2
    unfold bench_Tell.f
    rw [hk', Option.bind_some, if_pos rfl, hnew, Option.bind_some, if_pos rfl]
    simpa using h'
  · have hnew : pool_New.f r = some (0, 0, [], 2) := by
      rcases new_of r with ⟨h1, h2, _⟩ | h
      · exact absurd ⟨h1, h2⟩ hroom
      · exact h
    refine ⟨k1, .inr ⟨hnew, ?_⟩⟩
    unfold bench_Tell.f
    rw [h1, Option.bind_some, if_pos rfl, hnew, Option.bind_some, if_neg (by decide)]
theorem fold_more : ∀ (l : List Int) (s : ByteArray), ∃ z, l.foldl more s = s ++ z
  | [], s => ⟨T [], by rw [← T_of s, T_append, List.append_nil]; rfl⟩
  | x :: l, s => by
    obtain ⟨z, h⟩ := fold_more l (more s x)
    refine ⟨((⟨#[32]⟩ : ByteArray) ++ itoaB x) ++ z, ?_⟩
    rw [List.foldl_cons, h]
    unfold more
    rw [← T_of s, ← T_of z, ← T_of ((⟨#[32]⟩ : ByteArray) ++ itoaB x), T_append, T_append, T_append, T_append, List.append_assoc]
theorem last_prefix (p : Pool) : ∃ z, lastS p = keptB p.2.1 ++ z := fold_more _ _
end Go.Proofs.YtioppgeackgjnaaDoor.Txt
