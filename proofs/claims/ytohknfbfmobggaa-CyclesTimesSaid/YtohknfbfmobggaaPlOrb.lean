/- Plain facts on permutations of the numbers below n: orbits, how many there are, what a swap of two places does to them, parity. No program in sight. -/
namespace Go.Proofs.Ytohknfbfmobggaa.Orb

/-! ### lists without repeats -/
theorem nodup_le_of_subset : ∀ {l1 l2 : List Nat}, l1.Nodup → (∀ x ∈ l1, x ∈ l2) → l1.length ≤ l2.length
  | [], l2, _, _ => Nat.zero_le _
  | a :: l1, l2, h, hs => by
    obtain ⟨ha, hn⟩ := List.nodup_cons.1 h
    have h1 : a ∈ l2 := hs a List.mem_cons_self
    have h2 : l1.length ≤ (l2.erase a).length := nodup_le_of_subset hn (fun x hx => by
      have hne : x ≠ a := fun e => ha (e ▸ hx)
      exact (List.mem_erase_of_ne hne).2 (hs x (List.mem_cons_of_mem _ hx)))
    rw [List.length_erase_of_mem h1] at h2
    have h3 : 0 < l2.length := List.length_pos_of_mem h1
    simp only [List.length_cons]
    omega
theorem nodup_le (n : Nat) (l : List Nat) (h : l.Nodup) (hb : ∀ x ∈ l, x < n) : l.length ≤ n := by
  have := nodup_le_of_subset (l2 := List.range n) h (fun x hx => List.mem_range.2 (hb x hx))
  simpa using this
theorem length_eq_of_same {l1 l2 : List Nat} (h1 : l1.Nodup) (h2 : l2.Nodup) (h : ∀ x, x ∈ l1 ↔ x ∈ l2) : l1.length = l2.length :=
  Nat.le_antisymm (nodup_le_of_subset h1 (fun x hx => (h x).1 hx)) (nodup_le_of_subset h2 (fun x hx => (h x).2 hx))
/-- Two strictly rising lists with the same members are one. -/
theorem sorted_ext : ∀ {l1 l2 : List Nat}, l1.Pairwise (· < ·) → l2.Pairwise (· < ·) → (∀ x, x ∈ l1 ↔ x ∈ l2) → l1 = l2
  | [], [], _, _, _ => rfl
  | [], b :: l2, _, _, h => absurd ((h b).2 List.mem_cons_self) (by simp)
  | a :: l1, [], _, _, h => absurd ((h a).1 List.mem_cons_self) (by simp)
  | a :: l1, b :: l2, h1, h2, h => by
    obtain ⟨ha, h1'⟩ := List.pairwise_cons.1 h1
    obtain ⟨hb, h2'⟩ := List.pairwise_cons.1 h2
    have hab : a = b := by
      rcases List.mem_cons.1 ((h a).1 List.mem_cons_self) with e | e
      · exact e
      · rcases List.mem_cons.1 ((h b).2 List.mem_cons_self) with e' | e'
        · exact e'.symm
        · have := hb a e
          have := ha b e'
          omega
    subst hab
    congr 1
    apply sorted_ext h1' h2'
    intro x
    constructor
    · intro hx
      rcases List.mem_cons.1 ((h x).1 (List.mem_cons_of_mem _ hx)) with e | e
      · subst e
        exact absurd (ha x hx) (Nat.lt_irrefl _)
      · exact e
    · intro hx
      rcases List.mem_cons.1 ((h x).2 (List.mem_cons_of_mem _ hx)) with e | e
      · subst e
        exact absurd (hb x hx) (Nat.lt_irrefl _)
      · exact e

/-! ### iterates and orbits -/
def it (f : Nat → Nat) : Nat → Nat → Nat
  | 0, x => x
  | m + 1, x => f (it f m x)
theorem it_add (f : Nat → Nat) (a : Nat) : ∀ (b x : Nat), it f (a + b) x = it f a (it f b x) := by
  induction a with
  | zero => intro b x; simp [it]
  | succ a ih => intro b x; rw [show a + 1 + b = (a + b) + 1 by omega]; simp [it, ih]
theorem it_succ' (f : Nat → Nat) (m x : Nat) : it f (m + 1) x = it f m (f x) := by
  rw [it_add]; rfl

structure PermOn (n : Nat) (f : Nat → Nat) : Prop where
  lt : ∀ x, x < n → f x < n
  inj : ∀ x y, x < n → y < n → f x = f y → x = y

section
variable {n : Nat} {f : Nat → Nat}
theorem it_lt (h : PermOn n f) (m : Nat) {x : Nat} (hx : x < n) : it f m x < n := by
  induction m with
  | zero => exact hx
  | succ m ih => exact h.lt _ ih
theorem it_inj (h : PermOn n f) (m : Nat) : ∀ {x y : Nat}, x < n → y < n → it f m x = it f m y → x = y := by
  induction m with
  | zero => intro x y _ _ e; exact e
  | succ m ih => intro x y hx hy e; exact ih hx hy (h.inj _ _ (it_lt h m hx) (it_lt h m hy) e)
theorem back (h : PermOn n f) {x : Nat} (hx : x < n) : ∃ L, 0 < L ∧ L ≤ n ∧ it f L x = x := by
  have hex : ∃ a b, a < b ∧ b ≤ n ∧ it f a x = it f b x := by
    by_cases hc : ∃ a b, a < b ∧ b ≤ n ∧ it f a x = it f b x
    · exact hc
    · exfalso
      have hnd : ((List.range (n + 1)).map (fun m => it f m x)).Nodup := by
        rw [List.Nodup, List.pairwise_map]
        refine List.Pairwise.imp_of_mem ?_ List.pairwise_lt_range
        intro a b ha hb hab e
        exact hc ⟨a, b, hab, by have := List.mem_range.1 hb; omega, e⟩
      have := nodup_le n _ hnd (by
        intro y hy
        obtain ⟨m, _, rfl⟩ := List.mem_map.1 hy
        exact it_lt h m hx)
      simp at this
      omega
  obtain ⟨a, b, hab, hb, e⟩ := hex
  refine ⟨b - a, by omega, by omega, ?_⟩
  have : it f a (it f (b - a) x) = it f a x := by rw [← it_add, show a + (b - a) = b by omega, e]
  exact it_inj h a (it_lt h _ hx) hx this
theorem it_mul {L x : Nat} (e : it f L x = x) : ∀ k, it f (k * L) x = x := by
  intro k
  induction k with
  | zero => simp [it]
  | succ k ih => rw [Nat.succ_mul, it_add, e, ih]
theorem it_mod {L x : Nat} (e : it f L x = x) (m : Nat) : it f m x = it f (m % L) x := by
  have h2 : m = m % L + (m / L) * L := by rw [Nat.mul_comm]; exact (Nat.mod_add_div m L).symm
  have : it f m x = it f (m % L + (m / L) * L) x := by rw [← h2]
  rw [this, it_add, it_mul e]
theorem onto (h : PermOn n f) {y : Nat} (hy : y < n) : ∃ x, x < n ∧ f x = y := by
  obtain ⟨L, hL, _, e⟩ := back h hy
  obtain ⟨m, rfl⟩ : ∃ m, L = m + 1 := ⟨L - 1, by omega⟩
  exact ⟨it f m y, it_lt h m hy, e⟩

def R (f : Nat → Nat) (x y : Nat) : Prop := ∃ m, it f m x = y
theorem R_refl (x : Nat) : R f x x := ⟨0, rfl⟩
theorem R_trans {x y z : Nat} (h1 : R f x y) (h2 : R f y z) : R f x z := by
  obtain ⟨a, rfl⟩ := h1
  obtain ⟨b, rfl⟩ := h2
  exact ⟨b + a, it_add f b a x⟩
theorem R_step (x : Nat) : R f x (f x) := ⟨1, rfl⟩
theorem R_next {x y : Nat} (h : R f x y) : R f x (f y) := R_trans h (R_step y)
theorem R_lt (h : PermOn n f) {x y : Nat} (hx : x < n) (hr : R f x y) : y < n := by
  obtain ⟨m, rfl⟩ := hr
  exact it_lt h m hx
theorem R_symm (h : PermOn n f) {x y : Nat} (hx : x < n) (hr : R f x y) : R f y x := by
  obtain ⟨m, rfl⟩ := hr
  obtain ⟨L, hL, _, e⟩ := back h hx
  refine ⟨L * (m + 1) - m, ?_⟩
  rw [← it_add, show L * (m + 1) - m + m = (m + 1) * L by
    have : m + 1 ≤ L * (m + 1) := Nat.le_mul_of_pos_left _ hL
    rw [Nat.mul_comm (m + 1) L]; omega]
  exact it_mul e _

/-- The least one of its orbit. -/
def Min (n : Nat) (f : Nat → Nat) (k : Nat) : Prop := ∀ y, y < n → R f k y → k ≤ y
noncomputable def minB (n : Nat) (f : Nat → Nat) (k : Nat) : Bool := @decide (Min n f k) (Classical.propDecidable _)
theorem minB_iff (n : Nat) (f : Nat → Nat) (k : Nat) : minB n f k = true ↔ Min n f k := by
  unfold minB
  exact @decide_eq_true_iff (Min n f k) (Classical.propDecidable _)
noncomputable def cnt (n : Nat) (f : Nat → Nat) : Nat := (List.range n).countP (minB n f)
end

/-! ### a count with one less -/
theorem countP_one_less (p q : Nat → Bool) (b : Nat) : ∀ (l : List Nat), l.Nodup → b ∈ l → q b = true → p b = false → (∀ x ∈ l, x ≠ b → p x = q x) → l.countP p + 1 = l.countP q
  | [], _, hb, _, _, _ => absurd hb (by simp)
  | a :: l, hn, hb, hq, hp, h => by
    obtain ⟨ha, hn'⟩ := List.nodup_cons.1 hn
    rcases List.mem_cons.1 hb with e | e
    · subst e
      have hsame : l.countP p = l.countP q := List.countP_congr (fun x hx => by
        have hne : x ≠ b := fun e => ha (e ▸ hx)
        rw [h x (List.mem_cons_of_mem _ hx) hne])
      rw [List.countP_cons, List.countP_cons, hq, hp, hsame]
      simp
    · have hne : a ≠ b := fun e' => ha (e' ▸ e)
      have ih := countP_one_less p q b l hn' e hq hp (fun x hx hx' => h x (List.mem_cons_of_mem _ hx) hx')
      rw [List.countP_cons, List.countP_cons, h a List.mem_cons_self hne]
      omega

section
variable {n : Nat} {f s : Nat → Nat}
/-- The least one of an orbit. -/
theorem min_of {x : Nat} (hx : x < n) : ∃ a, a < n ∧ R f x a ∧ Min n f a := by
  have key : ∀ (d x : Nat), x ≤ d → x < n → ∃ a, a < n ∧ R f x a ∧ Min n f a := by
    intro d
    induction d with
    | zero =>
      intro x hd hx
      exact ⟨x, hx, R_refl x, fun y _ _ => by omega⟩
    | succ d ih =>
      intro x hd hx
      by_cases hm : Min n f x
      · exact ⟨x, hx, R_refl x, hm⟩
      · have : ∃ y, y < n ∧ R f x y ∧ y < x := by
          by_cases hc : ∃ y, y < n ∧ R f x y ∧ y < x
          · exact hc
          · exact absurd (fun y hy hr => by
              by_cases hlt : y < x
              · exact absurd ⟨y, hy, hr, hlt⟩ hc
              · omega) hm
        obtain ⟨y, hy, hr, hlt⟩ := this
        obtain ⟨a, ha, hra, hma⟩ := ih y (by omega) hy
        exact ⟨a, ha, R_trans hr hra, hma⟩
  exact key x x (Nat.le_refl _) hx

/-- Two orbits that become one. -/
theorem merge (hs : PermOn n s) {i j : Nat} (hi : i < n) (hj : j < n) (hno : ¬ R s i j) (E : Nat → Nat → Prop) (hfR : ∀ x y, x < n → (E x y ↔ R s x y ∨ (R s x i ∧ R s j y) ∨ (R s x j ∧ R s i y))) (hE : ∀ x y, x < n → (R f x y ↔ E x y)) : cnt n f + 1 = cnt n s := by
  obtain ⟨a, ha, hia, hma⟩ := min_of (f := s) hi
  obtain ⟨b, hb, hjb, hmb⟩ := min_of (f := s) hj
  have hai := R_symm hs hi hia
  have hbj := R_symm hs hj hjb
  have hji : ¬ R s j i := fun e => hno (R_symm hs hj e)
  have hab : a ≠ b := by
    rintro rfl
    exact hno (R_trans hia hbj)
  have main : ∀ (i j a b : Nat), i < n → j < n → a < n → b < n → R s i a → R s j b → R s a i → R s b j → Min n s a → Min n s b → ¬ R s i j → ¬ R s j i → a < b → (∀ x y, x < n → (R f x y ↔ R s x y ∨ (R s x i ∧ R s j y) ∨ (R s x j ∧ R s i y))) → cnt n f + 1 = cnt n s := by
    intro i j a b hi hj ha hb hia hjb hai hbj hma hmb hno hji hlt hf
    unfold cnt
    apply countP_one_less _ _ b _ List.nodup_range (List.mem_range.2 hb)
    · exact (minB_iff _ _ _).2 hmb
    · rw [Bool.eq_false_iff]
      intro hm0
      have hm := (minB_iff _ _ _).1 hm0
      have := hm a ha ((hf b a hb).2 (Or.inr (Or.inr ⟨hbj, hia⟩)))
      omega
    · intro x hx hxb
      have hxn := List.mem_range.1 hx
      rw [Bool.eq_iff_iff, minB_iff, minB_iff]
      constructor
      · intro hm y hy hr
        exact hm y hy ((hf x y hxn).2 (Or.inl hr))
      · intro hm y hy hr
        rcases (hf x y hxn).1 hr with h1 | ⟨h1, h2⟩ | ⟨h1, h2⟩
        · exact hm y hy h1
        · have h3 : x ≤ a := hm a ha (R_trans h1 hia)
          have h4 : b ≤ y := hmb y hy (R_trans hbj h2)
          omega
        · have h3 : x ≤ b := hm b hb (R_trans h1 hjb)
          have h4 : b ≤ x := hmb x hxn (R_symm hs hxn (R_trans h1 hjb))
          omega
  have hf : ∀ x y, x < n → (R f x y ↔ R s x y ∨ (R s x i ∧ R s j y) ∨ (R s x j ∧ R s i y)) := fun x y hx => (hE x y hx).trans (hfR x y hx)
  rcases Nat.lt_or_gt_of_ne hab with hlt | hgt
  · exact main i j a b hi hj ha hb hia hjb hai hbj hma hmb hno hji hlt hf
  · refine main j i b a hj hi hb ha hjb hia hbj hai hmb hma hji hno hgt (fun x y hx => ?_)
    rw [hf x y hx]
    constructor
    · rintro (h | h | h)
      · exact Or.inl h
      · exact Or.inr (Or.inr h)
      · exact Or.inr (Or.inl h)
    · rintro (h | h | h)
      · exact Or.inl h
      · exact Or.inr (Or.inr h)
      · exact Or.inr (Or.inl h)

/-- s is f behind a swap of the places i, j. -/
structure Swap (f s : Nat → Nat) (i j : Nat) : Prop where
  si : s i = f j
  sj : s j = f i
  so : ∀ x, x ≠ i → x ≠ j → s x = f x
theorem Swap.symm {i j : Nat} (h : Swap f s i j) : Swap s f i j := ⟨h.sj.symm, h.si.symm, fun x h1 h2 => (h.so x h1 h2).symm⟩

/-- A least m > 0 with a property. -/
theorem least {p : Nat → Prop} {L : Nat} (hL : 0 < L) (hp : p L) : ∃ m, 0 < m ∧ m ≤ L ∧ p m ∧ ∀ k, 0 < k → k < m → ¬ p k := by
  have key : ∀ d L, L ≤ d → 0 < L → p L → ∃ m, 0 < m ∧ m ≤ L ∧ p m ∧ ∀ k, 0 < k → k < m → ¬ p k := by
    intro d
    induction d with
    | zero => intro L h1 h2; omega
    | succ d ih =>
      intro L h1 h2 h3
      by_cases hc : ∃ k, 0 < k ∧ k < L ∧ p k
      · obtain ⟨k, h4, h5, h6⟩ := hc
        obtain ⟨m, h7, h8, h9⟩ := ih k (by omega) h4 h6
        exact ⟨m, h7, by omega, h9⟩
      · exact ⟨L, h2, Nat.le_refl _, h3, fun k h4 h5 h6 => hc ⟨k, h4, h5, h6⟩⟩
  exact key L L (Nat.le_refl _) hL hp

theorem apart_joins (hf : PermOn n f) (hs : PermOn n s) {i j : Nat} (hi : i < n) (hj : j < n) (hsw : Swap f s i j) (hno : ¬ R s i j) : R f i j := by
  obtain ⟨L0, h1, _, h2⟩ := back hs hi
  obtain ⟨L, hL, _, e, hmin⟩ := least (p := fun m => it s m i = i) h1 h2
  have key : ∀ m, m < L → it f (m + 1) j = it s (m + 1) i := by
    intro m
    induction m with
    | zero => intro _; exact hsw.si.symm
    | succ m ih =>
      intro hm
      show f (it f (m + 1) j) = s (it s (m + 1) i)
      rw [ih (by omega)]
      refine (hsw.so _ (fun e' => hmin (m + 1) (by omega) hm e') (fun e' => hno ⟨m + 1, e'⟩)).symm
  obtain ⟨L, rfl⟩ : ∃ m, L = m + 1 := ⟨L - 1, by omega⟩
  have := key L (by omega)
  rw [e] at this
  exact R_symm hf hj ⟨L + 1, this⟩

theorem joined_apart (hf : PermOn n f) (hs : PermOn n s) {i j : Nat} (hi : i < n) (hij : i ≠ j) (hsw : Swap f s i j) (hr : R f i j) : ¬ R s i j := by
  intro hrs
  obtain ⟨L0, h1, _, h2⟩ := back hf hi
  obtain ⟨a, ha, _, hpa, hmin⟩ := least (p := fun m => it f m i = i ∨ it f m i = j) h1 (Or.inl h2)
  rcases hpa with e | e
  · obtain ⟨m, hm⟩ := hr
    rw [it_mod e] at hm
    rcases Nat.eq_zero_or_pos (m % a) with h0 | h0
    · rw [h0] at hm
      exact hij hm
    · exact hmin (m % a) h0 (Nat.mod_lt _ ha) (Or.inr hm)
  · have key : ∀ m, m < a → it s (m + 1) j = it f (m + 1) i := by
      intro m
      induction m with
      | zero => intro _; exact hsw.sj
      | succ m ih =>
        intro hm
        show s (it s (m + 1) j) = f (it f (m + 1) i)
        rw [ih (by omega)]
        have := hmin (m + 1) (by omega) hm
        exact hsw.so _ (fun e' => this (Or.inl e')) (fun e' => this (Or.inr e'))
    have e2 : it s a j = j := by
      obtain ⟨a', rfl⟩ : ∃ m, a = m + 1 := ⟨a - 1, by omega⟩
      rw [key a' (by omega), e]
    obtain ⟨m, hm⟩ := R_symm hs hi hrs
    rw [it_mod e2] at hm
    rcases Nat.eq_zero_or_pos (m % a) with h0 | h0
    · rw [h0] at hm
      exact hij hm.symm
    · have h5 := Nat.mod_lt m ha
      have h6 := key (m % a - 1) (by omega)
      rw [show m % a - 1 + 1 = m % a by omega, hm] at h6
      exact hmin (m % a) h0 h5 (Or.inl h6.symm)

theorem joins_cnt (hf : PermOn n f) (hs : PermOn n s) {i j : Nat} (hi : i < n) (hj : j < n) (hsw : Swap f s i j) (hno : ¬ R s i j) : cnt n f + 1 = cnt n s := by
  have hij := apart_joins hf hs hi hj hsw hno
  have hji := R_symm hf hi hij
  have hno' : ¬ R s j i := fun e => hno (R_symm hs hj e)
  refine merge hs hi hj hno (fun x y => R f x y) (fun x y hx => ?_) (fun x y hx => Iff.rfl)
  have stepR : ∀ z, R f z (s z) := by
    intro z
    by_cases h1 : z = i
    · subst h1
      rw [hsw.si]
      exact R_next hij
    · by_cases h2 : z = j
      · subst h2
        rw [hsw.sj]
        exact R_next hji
      · rw [hsw.so z h1 h2]
        exact R_step z
  have sub : ∀ x y, R s x y → R f x y := by
    rintro x y ⟨m, rfl⟩
    induction m with
    | zero => exact R_refl x
    | succ m ih => exact R_trans ih (stepR _)
  constructor
  · rintro ⟨m, rfl⟩
    induction m with
    | zero => exact Or.inl (R_refl x)
    | succ m ih =>
      rw [show it f (m + 1) x = f (it f m x) from rfl]
      generalize it f m x = z at ih
      show R s x (f z) ∨ (R s x i ∧ R s j (f z)) ∨ (R s x j ∧ R s i (f z))
      by_cases h1 : z = i
      · subst h1
        rw [← hsw.sj]
        rcases ih with h | ⟨h, h'⟩ | ⟨h, h'⟩
        · exact Or.inr (Or.inl ⟨h, R_step j⟩)
        · exact absurd h' hno'
        · exact Or.inl (R_next h)
      · by_cases h2 : z = j
        · subst h2
          rw [← hsw.si]
          rcases ih with h | ⟨h, h'⟩ | ⟨h, h'⟩
          · exact Or.inr (Or.inr ⟨h, R_step i⟩)
          · exact Or.inl (R_next h)
          · exact absurd h' hno
        · rw [← hsw.so z h1 h2]
          rcases ih with h | ⟨h, h'⟩ | ⟨h, h'⟩
          · exact Or.inl (R_next h)
          · exact Or.inr (Or.inl ⟨h, R_next h'⟩)
          · exact Or.inr (Or.inr ⟨h, R_next h'⟩)
  · rintro (h | ⟨h, h'⟩ | ⟨h, h'⟩)
    · exact sub _ _ h
    · exact R_trans (sub _ _ h) (R_trans hij (sub _ _ h'))
    · exact R_trans (sub _ _ h) (R_trans hji (sub _ _ h'))

/-- A SWAP OF TWO PLACES joins two orbits, or parts one. -/
theorem swap_cnt (hf : PermOn n f) (hs : PermOn n s) {i j : Nat} (hi : i < n) (hj : j < n) (hij : i ≠ j) (hsw : Swap f s i j) : cnt n f + 1 = cnt n s ∨ cnt n s + 1 = cnt n f := by
  by_cases h : R s i j
  · right
    exact joins_cnt hs hf hi hj hsw.symm (fun h2 => joined_apart hf hs hi hij hsw h2 h)
  · left
    exact joins_cnt hf hs hi hj hsw h
theorem cnt_le : cnt n f ≤ n := by
  have h := List.countP_le_length (p := minB n f) (l := List.range n)
  rw [List.length_range] at h
  exact h
theorem R_congr (h : ∀ x, x < n → f x = s x) (hf : PermOn n f) {x y : Nat} (hx : x < n) : R f x y ↔ R s x y := by
  have key : ∀ m, it f m x = it s m x := by
    intro m
    induction m with
    | zero => rfl
    | succ m ih =>
      show f (it f m x) = s (it s m x)
      rw [← ih]
      exact h _ (it_lt hf m hx)
  constructor
  · rintro ⟨m, rfl⟩; exact ⟨m, (key m).symm⟩
  · rintro ⟨m, rfl⟩; exact ⟨m, key m⟩
theorem cnt_congr (h : ∀ x, x < n → f x = s x) (hf : PermOn n f) : cnt n f = cnt n s := by
  unfold cnt
  apply List.countP_congr
  intro x hx
  have hxn := List.mem_range.1 hx
  have : Min n f x ↔ Min n s x := ⟨fun hm y hy hr => hm y hy ((R_congr h hf hxn).2 hr), fun hm y hy hr => hm y hy ((R_congr h hf hxn).1 hr)⟩
  rw [minB_iff, minB_iff, this]
theorem cnt_id (h : ∀ x, x < n → f x = x) : cnt n f = n := by
  have key : ∀ m x, x < n → it f m x = x := by
    intro m
    induction m with
    | zero => intro x _; rfl
    | succ m ih => intro x hx; show f (it f m x) = x; rw [ih x hx, h x hx]
  unfold cnt
  have : (List.range n).countP (minB n f) = (List.range n).length := by
    rw [List.countP_eq_length]
    intro x hx
    have hxn := List.mem_range.1 hx
    rw [minB_iff]
    rintro y _ ⟨m, rfl⟩
    rw [key m x hxn]
    exact Nat.le_refl _
  rw [List.length_range] at this
  exact this
end

/-- PARITY IS MULTIPLICATIVE. -/
theorem parity {n : Nat} {q : Nat → Nat} (hq : PermOn n q) : ∀ (k : Nat) (p : Nat → Nat), PermOn n p → k ≤ n → (∀ x, k ≤ x → x < n → p x = x) →
    (n - cnt n (fun x => q (p x))) % 2 = ((n - cnt n q) + (n - cnt n p)) % 2 := by
  have comp : ∀ p, PermOn n p → PermOn n (fun x => q (p x)) := fun p hp => ⟨fun x hx => hq.lt _ (hp.lt x hx), fun x y hx hy e => hp.inj x y hx hy (hq.inj _ _ (hp.lt x hx) (hp.lt y hy) e)⟩
  intro k
  induction k with
  | zero =>
    intro p hp _ hfix
    have h1 : cnt n (fun x => q (p x)) = cnt n q := cnt_congr (fun x hx => by rw [hfix x (Nat.zero_le _) hx]) (comp p hp)
    have h2 : cnt n p = n := cnt_id (fun x hx => hfix x (Nat.zero_le _) hx)
    rw [h1, h2]
    simp
  | succ k ih =>
    intro p hp hk hfix
    by_cases hpk : p k = k
    · exact ih p hp (by omega) (fun x h1 h2 => by
        rcases Nat.eq_or_lt_of_le h1 with e | e
        · rw [← e]; exact hpk
        · exact hfix x e h2)
    · obtain ⟨i, hi, hpi⟩ := onto hp (show k < n by omega)
      have hik : i ≠ k := fun e => hpk (e ▸ hpi)
      have hsw : Swap p (fun x => if x = i then p k else if x = k then p i else p x) i k := by
        refine ⟨by simp, ?_, fun x h1 h2 => ?_⟩
        · show (if k = i then p k else if k = k then p i else p k) = p i
          rw [if_neg (fun e => hik e.symm), if_pos rfl]
        · show (if x = i then p k else if x = k then p i else p x) = p x
          rw [if_neg h1, if_neg h2]
      obtain ⟨p', hp'⟩ : ∃ p', p' = (fun x => if x = i then p k else if x = k then p i else p x) := ⟨_, rfl⟩
      rw [← hp'] at hsw
      have hpp : PermOn n p' := by
        have val : ∀ x, p' x = p (if x = i then k else if x = k then i else x) := by
          intro x
          rw [hp']
          show (if x = i then p k else if x = k then p i else p x) = _
          split
          · rfl
          · split <;> rfl
        have tau : ∀ x, x < n → (if x = i then k else if x = k then i else x) < n := by
          intro x hx
          split
          · omega
          · split <;> omega
        refine ⟨fun x hx => by rw [val]; exact hp.lt _ (tau x hx), fun x y hx hy e => ?_⟩
        rw [val, val] at e
        have e2 := hp.inj _ _ (tau x hx) (tau y hy) e
        split at e2 <;> split at e2 <;> (try split at e2) <;> (try split at e2) <;> omega
      have h1 := swap_cnt hp hpp hi (show k < n by omega) hik hsw
      have hsw2 : Swap (fun x => q (p x)) (fun x => q (p' x)) i k := ⟨by show q (p' i) = q (p k); rw [hsw.si], by show q (p' k) = q (p i); rw [hsw.sj], fun x a b => by show q (p' x) = q (p x); rw [hsw.so x a b]⟩
      have h2 := swap_cnt (comp p hp) (comp p' hpp) hi (show k < n by omega) hik hsw2
      have h3 := ih p' hpp (by omega) (fun x a b => by
        rcases Nat.eq_or_lt_of_le a with e | e
        · rw [← e, hsw.sj, hpi]
        · have hxi : x ≠ i := by
            rintro rfl
            have := hfix x e b
            omega
          rw [hsw.so x hxi (by omega)]
          exact hfix x e b)
      have l1 := cnt_le (n := n) (f := p)
      have l2 := cnt_le (n := n) (f := p')
      have l3 := cnt_le (n := n) (f := fun x => q (p x))
      have l4 := cnt_le (n := n) (f := fun x => q (p' x))
      have l5 := cnt_le (n := n) (f := q)
      omega
end Go.Proofs.Ytohknfbfmobggaa.Orb
