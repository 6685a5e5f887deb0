/- What perm.Right and cycles.Of answer: a list is an order, and its rounds are the orbits of its least ones. -/
import Derived.Test.YtohknfbfmobggaaCy2
import Derived.Test.YtohknfbfmobggaaPlOrb
namespace Go.Proofs.Ytohknfbfmobggaa.Pl
open Go.RowKit Go.Proofs.Ytohknfbfmobggaa.Cy Go.Proofs.Ytohknfbfmobggaa.Orb Go.Proofs.YtohknfbfmobggaaW.PrintWords Go.Proofs.YtohknfbfmobggaaW.PrintLast

theorem wrap_succ {i : Int} (h0 : 0 ≤ i) (h1 : i < 1000000000) : wrap64 (i + 1) = i + 1 := by unfold wrap64; omega
theorem rd_get (p : List Int) (i : Nat) (h : i < p.length) : rd p (i : Int) = p[i] := by
  unfold rd
  rw [Int.toNat_natCast, List.getD_eq_getElem?_getD, List.getElem?_eq_getElem h]
  rfl

/-- A list that has each number from 0 on just once, of at most 20. -/
structure IsPerm (p : List Int) : Prop where
  len : p.length ≤ 20
  rng : ∀ x ∈ p, 0 ≤ x ∧ x < (p.length : Int)
  nd : p.Nodup
theorem isPerm_iff (p : List Int) : IsPerm p ↔ p.length ≤ 20 ∧ (∀ x ∈ p, 0 ≤ x ∧ x < (p.length : Int)) ∧ p.Nodup := ⟨fun h => ⟨h.len, h.rng, h.nd⟩, fun h => ⟨h.1, h.2.1, h.2.2⟩⟩
instance (p : List Int) : Decidable (IsPerm p) := decidable_of_iff _ (isPerm_iff p).symm

theorem nodup_ne {p : List Int} (h : p.Nodup) {i j : Nat} (hi : i < p.length) (hj : j < p.length) (hij : i < j) : p[i] ≠ p[j] := List.pairwise_iff_getElem.1 h i j hi hj hij
theorem mem_take {p : List Int} {i : Nat} {x : Int} (h : x ∈ p.take i) : ∃ j, j < i ∧ ∃ hj : j < p.length, p[j] = x := by
  obtain ⟨j, hj, e⟩ := List.mem_iff_getElem.1 h
  rw [List.length_take] at hj
  rw [List.getElem_take] at e
  exact ⟨j, by omega, by omega, e⟩
theorem take_snoc (p : List Int) (i : Nat) (h : i < p.length) : p.take (i + 1) = p.take i ++ [p[i]] := List.take_succ_eq_append_getElem h

theorem right_l0 (p : List Int) (hn : p.length ≤ 20) : ∀ (d k i : Nat) (had : List Bool), i + d = p.length → d < k → had.length = p.length → (∀ j, j < p.length → (had.getD j false = true ↔ (j : Int) ∈ p.take i)) →
    (∀ x ∈ p.take i, 0 ≤ x ∧ x < (p.length : Int)) → (p.take i).Nodup → perm_Right.l0 k p had p (p.length : Int) (i : Int) = some (decide (IsPerm p)) := by
  intro d
  induction d with
  | zero =>
    intro k i had hi hk hl hh hr hd
    obtain ⟨k, rfl⟩ : ∃ m, k = m + 1 := ⟨k - 1, by omega⟩
    simp only [perm_Right.l0]
    rw [if_neg (by omega), List.take_of_length_le (by omega)] at *
    rw [decide_eq_true (⟨hn, hr, hd⟩ : IsPerm p)]
  | succ d ih =>
    intro k i had hi hk hl hh hr hd
    obtain ⟨k, rfl⟩ : ∃ m, k = m + 1 := ⟨k - 1, by omega⟩
    have hlt : i < p.length := by omega
    simp only [perm_Right.l0]
    rw [if_pos (by omega), if_pos (by omega), if_pos (by omega), rd_get p i hlt]
    have hmem : p[i] ∈ p := List.getElem_mem hlt
    by_cases h0 : p[i] < 0
    · rw [if_pos h0, decide_eq_false (fun hp => by have := hp.rng _ hmem; omega)]
    · rw [if_neg h0]
      by_cases h1 : p[i] ≥ (p.length : Int)
      · rw [if_pos h1, decide_eq_false (fun hp => by have := hp.rng _ hmem; omega)]
      · rw [if_neg h1, if_pos (by omega), if_pos (by omega)]
        obtain ⟨x, hx⟩ := Int.eq_ofNat_of_zero_le (show 0 ≤ p[i] by omega)
        have hxl : x < p.length := by omega
        have hrd : rdOf false had p[i] = had.getD x false := by unfold rdOf; rw [hx, Int.toNat_natCast]
        rw [hrd]
        by_cases hb : had.getD x false = true
        · rw [if_pos hb]
          have hm := (hh x hxl).1 hb
          rw [← hx] at hm
          obtain ⟨j, hj, hjl, e⟩ := mem_take hm
          rw [decide_eq_false (fun hp => nodup_ne hp.nd hjl hlt hj e)]
        · rw [if_neg hb, wrap_succ (by omega) (by omega), hx, Int.toNat_natCast]
          have hnm : p[i] ∉ p.take i := fun hm => hb ((hh x hxl).2 (hx ▸ hm))
          have := ih k (i + 1) (had.set x true) (by omega) (by omega) (by simpa using hl) ?_ ?_ ?_
          · exact this
          · intro j hj
            rw [take_snoc p i hlt, List.mem_append, List.mem_singleton]
            by_cases hjx : j = x
            · subst hjx
              simp [List.getD_eq_getElem?_getD, hl, hj, hx]
            · have h5 : (had.set x true).getD j false = had.getD j false := by
                simp only [List.getD_eq_getElem?_getD, List.getElem?_set]
                rw [if_neg (fun e => hjx e.symm)]
              rw [h5, hh j hj]
              constructor
              · exact Or.inl
              · rintro (h | h)
                · exact h
                · exact absurd (show j = x by omega) hjx
          · intro y hy
            rw [take_snoc p i hlt, List.mem_append, List.mem_singleton] at hy
            rcases hy with h | h
            · exact hr y h
            · subst h; omega
          · rw [take_snoc p i hlt]
            rw [List.nodup_append]
            refine ⟨hd, by simp, ?_⟩
            intro a ha b hb' e
            rw [List.mem_singleton] at hb'
            subst hb'
            exact hnm (e ▸ ha)

theorem right_spec (p : List Int) (k : Nat) (hk : p.length < k) : perm_Right.f k p = some (decide (IsPerm p)) := by
  unfold perm_Right.f
  by_cases h : (p.length : Int) > 20
  · rw [if_pos h, decide_eq_false (fun hp => by have := hp.len; omega)]
  · rw [if_neg h, if_pos (by omega), if_pos (by omega), Int.toNat_natCast]
    have := right_l0 p (by omega) p.length k 0 (List.replicate p.length false) (by omega) hk (by simp) (fun j hj => by simp [List.getD_eq_getElem?_getD, hj]) (by simp) (by simp)
    exact this

/-! ### the function of a list; its rounds -/
def F (p : List Int) (x : Nat) : Nat := (rd p (x : Int)).toNat
theorem rd_F {p : List Int} (hp : IsPerm p) {x : Nat} (hx : x < p.length) : rd p (x : Int) = (F p x : Int) := by
  unfold F
  rw [rd_get p x hx]
  have := hp.rng _ (List.getElem_mem hx)
  omega
theorem permOn {p : List Int} (hp : IsPerm p) : PermOn p.length (F p) := by
  constructor
  · intro x hx
    have h1 := rd_F hp hx
    rw [rd_get p x hx] at h1
    have := hp.rng _ (List.getElem_mem hx)
    omega
  · intro x y hx hy e
    have h1 := rd_F hp hx
    have h2 := rd_F hp hy
    rw [e, ← h2, rd_get p x hx, rd_get p y hy] at h1
    rcases Nat.lt_trichotomy x y with h | h | h
    · exact absurd h1 (nodup_ne hp.nd hx hy h)
    · exact h
    · exact absurd h1.symm (nodup_ne hp.nd hy hx h)

/-- How long the round of x is. -/
noncomputable def per (f : Nat → Nat) (x : Nat) : Nat := Classical.epsilon (fun L => 0 < L ∧ it f L x = x ∧ ∀ k, 0 < k → k < L → it f k x ≠ x)
theorem per_spec {n : Nat} {f : Nat → Nat} (h : PermOn n f) {x : Nat} (hx : x < n) : 0 < per f x ∧ it f (per f x) x = x ∧ ∀ k, 0 < k → k < per f x → it f k x ≠ x := by
  obtain ⟨L0, h1, _, h2⟩ := back h hx
  obtain ⟨L, h3, _, h4, h5⟩ := least (p := fun m => it f m x = x) h1 h2
  exact Classical.epsilon_spec (p := fun L => 0 < L ∧ it f L x = x ∧ ∀ k, 0 < k → k < L → it f k x ≠ x) ⟨L, h3, h4, h5⟩
theorem per_inj {n : Nat} {f : Nat → Nat} (h : PermOn n f) {x : Nat} (hx : x < n) {a b : Nat} (ha : a < per f x) (hb : b < per f x) (e : it f a x = it f b x) : a = b := by
  have key : ∀ a b, a < b → b < per f x → it f a x ≠ it f b x := by
    intro a b hab hb e
    have h1 : it f a (it f (b - a) x) = it f a x := by rw [← it_add, show a + (b - a) = b by omega, e]
    exact (per_spec h hx).2.2 (b - a) (by omega) (by omega) (it_inj h a (it_lt h _ hx) hx h1)
  rcases Nat.lt_trichotomy a b with h1 | h1 | h1
  · exact absurd e (key a b h1 hb)
  · exact h1
  · exact absurd e.symm (key b a h1 ha)
theorem per_le {n : Nat} {f : Nat → Nat} (h : PermOn n f) {x : Nat} (hx : x < n) : per f x ≤ n := by
  have := nodup_le n ((List.range (per f x)).map (fun m => it f m x)) (by
    rw [List.Nodup, List.pairwise_map]
    refine List.Pairwise.imp_of_mem ?_ List.pairwise_lt_range
    intro a b ha hb hab e
    have := per_inj h hx (List.mem_range.1 ha) (List.mem_range.1 hb) e
    omega) (by
    intro y hy
    obtain ⟨m, _, rfl⟩ := List.mem_map.1 hy
    exact it_lt h m hx)
  simpa using this
theorem R_iff_per {n : Nat} {f : Nat → Nat} (h : PermOn n f) {x y : Nat} (hx : x < n) : R f x y ↔ ∃ m, m < per f x ∧ it f m x = y := by
  constructor
  · rintro ⟨m, rfl⟩
    obtain ⟨h1, h2, _⟩ := per_spec h hx
    exact ⟨m % per f x, Nat.mod_lt _ h1, (it_mod h2 m).symm⟩
  · rintro ⟨m, _, e⟩
    exact ⟨m, e⟩

def rnd (p : List Int) (x L : Nat) : List Int := (List.range L).map (fun m => ((it (F p) m x : Nat) : Int))
theorem rnd_succ (p : List Int) (x L : Nat) : rnd p x (L + 1) = rnd p x L ++ [((it (F p) L x : Nat) : Int)] := by
  unfold rnd
  rw [List.range_succ, List.map_append]
  rfl
theorem rnd_length (p : List Int) (x L : Nat) : (rnd p x L).length = L := by simp [rnd]
noncomputable def round (p : List Int) (x : Nat) : List Int := rnd p x (per (F p) x)
noncomputable def mins (p : List Int) (i : Nat) : List Nat := (List.range i).filter (minB p.length (F p))
noncomputable def ofSpec (p : List Int) : List (List Int) := (mins p p.length).map (round p)
theorem mins_le (p : List Int) (i : Nat) : (mins p i).length ≤ i := by
  have := List.length_filter_le (minB p.length (F p)) (List.range i)
  simpa [mins] using this

/-- What has been had when all below i are done: who has a least one below i. -/
def Had (p : List Int) (i j : Nat) : Prop := ∃ a, a < i ∧ Min p.length (F p) a ∧ R (F p) a j
theorem had_next_no {p : List Int} {i j : Nat} (hm : ¬ Min p.length (F p) i) : Had p (i + 1) j ↔ Had p i j := by
  constructor
  · rintro ⟨a, h1, h2, h3⟩
    rcases Nat.lt_succ_iff_lt_or_eq.1 h1 with h | h
    · exact ⟨a, h, h2, h3⟩
    · subst h
      exact absurd h2 hm
  · rintro ⟨a, h1, h2, h3⟩
    exact ⟨a, by omega, h2, h3⟩
theorem had_next_yes {p : List Int} {i j : Nat} (hm : Min p.length (F p) i) : Had p (i + 1) j ↔ Had p i j ∨ R (F p) i j := by
  constructor
  · rintro ⟨a, h1, h2, h3⟩
    rcases Nat.lt_succ_iff_lt_or_eq.1 h1 with h | h
    · exact Or.inl ⟨a, h, h2, h3⟩
    · subst h
      exact Or.inr h3
  · rintro (⟨a, h1, h2, h3⟩ | h)
    · exact ⟨a, by omega, h2, h3⟩
    · exact ⟨i, by omega, hm, h⟩
theorem had_self {p : List Int} (hp : IsPerm p) {i : Nat} (hi : i < p.length) : Had p i i ↔ ¬ Min p.length (F p) i := by
  constructor
  · rintro ⟨a, h1, _, h3⟩ hm
    have := hm a (by omega) (R_symm (permOn hp) (by omega) h3)
    omega
  · intro hm
    obtain ⟨a, h1, h2, h3⟩ := min_of (f := F p) hi
    have h4 : a ≤ i := h3 i hi (R_symm (permOn hp) hi h2)
    rcases Nat.eq_or_lt_of_le h4 with e | e
    · subst e
      exact absurd h3 hm
    · exact ⟨a, e, h3, R_symm (permOn hp) hi h2⟩
theorem not_had {p : List Int} (hp : IsPerm p) {i j : Nat} (hi : i < p.length) (hm : Min p.length (F p) i) (hr : R (F p) i j) : ¬ Had p i j := by
  rintro ⟨a, h1, _, h3⟩
  have ha : a < p.length := by omega
  have hj := R_lt (permOn hp) hi hr
  have h4 : R (F p) i a := R_trans hr (R_symm (permOn hp) ha h3)
  have := hm a ha h4
  omega

/-- The inner loop: from m elements on it goes round, and then on. -/
theorem of_l1 {p : List Int} (hp : IsPerm p) {i : Nat} (hi : i < p.length) (hm : Min p.length (F p) i) (out : List (List Int)) (hout : out.length ≤ 20) {res : List (List Int) × Int}
    (next : ∀ had : List Bool, had.length = p.length → (∀ j, j < p.length → (had.getD j false = true ↔ Had p (i + 1) j)) → ∃ k, cycles_Of.l0 k p had (out ++ [round p i]) (p.length : Int) ((i : Int) + 1) = some res) :
    ∀ (d m : Nat) (had : List Bool), m + d = per (F p) i → had.length = p.length → (∀ j, j < p.length → (had.getD j false = true ↔ Had p i j ∨ ∃ a, a < m ∧ it (F p) a i = j)) →
      ∃ k, cycles_Of.l1 k p had out (rnd p i m) ((it (F p) m i : Nat) : Int) (p.length : Int) (i : Int) = some res := by
  have hpo := permOn hp
  obtain ⟨hper, hback, _⟩ := per_spec hpo hi
  have hple := per_le hpo hi
  have hlen := hp.len
  intro d
  induction d with
  | zero =>
    intro m had hd hl hh
    have hmm : m = per (F p) i := by omega
    subst hmm
    obtain ⟨k, hk⟩ := next had hl (fun j hj => by
      rw [hh j hj, had_next_yes hm, R_iff_per hpo hi])
    refine ⟨k + 1, ?_⟩
    simp only [cycles_Of.l1]
    have hb : rdOf false had ((it (F p) (per (F p) i) i : Nat) : Int) = true := by
      unfold rdOf
      rw [Int.toNat_natCast]
      refine (hh _ (it_lt hpo _ hi)).2 (Or.inr ⟨0, hper, ?_⟩)
      rw [hback]
      rfl
    have hlt := it_lt hpo (per (F p) i) hi
    rw [if_pos (by omega), if_pos (by omega), if_pos hb, rnd_length, if_pos (by omega), if_pos (by omega), wrap_succ (by omega) (by omega)]
    exact hk
  | succ d ih =>
    intro m had hd hl hh
    have hmlt : m < per (F p) i := by omega
    have hlt := it_lt hpo m hi
    have hb : ¬ rdOf false had ((it (F p) m i : Nat) : Int) = true := by
      unfold rdOf
      rw [Int.toNat_natCast, hh _ hlt]
      rintro (h | ⟨a, ha, e⟩)
      · exact not_had hp hi hm ⟨m, rfl⟩ h
      · have := per_inj hpo hi (by omega) hmlt e
        omega
    obtain ⟨k, hk⟩ := ih (m + 1) (had.set (it (F p) m i) true) (by omega) (by simpa using hl) (fun j hj => by
      by_cases hjx : j = it (F p) m i
      · subst hjx
        simp only [List.getD_eq_getElem?_getD, List.getElem?_set, if_pos, hl, hj]
        simp only [Option.getD_some, true_iff]
        exact Or.inr ⟨m, by omega, rfl⟩
      · have h5 : (had.set (it (F p) m i) true).getD j false = had.getD j false := by
          simp only [List.getD_eq_getElem?_getD, List.getElem?_set]
          rw [if_neg (fun e => hjx e.symm)]
        rw [h5, hh j hj]
        constructor
        · rintro (h | ⟨a, ha, e⟩)
          · exact Or.inl h
          · exact Or.inr ⟨a, by omega, e⟩
        · rintro (h | ⟨a, ha, e⟩)
          · exact Or.inl h
          · rcases Nat.lt_succ_iff_lt_or_eq.1 ha with h | h
            · exact Or.inr ⟨a, h, e⟩
            · subst h
              exact absurd e.symm hjx)
    refine ⟨k + 1, ?_⟩
    simp only [cycles_Of.l1]
    rw [if_pos (by omega), if_pos (by omega), if_neg hb, rnd_length, if_pos (by omega), if_pos (by omega), rd_F hp hlt, Int.toNat_natCast, ← rnd_succ]
    exact hk

theorem of_l0 {p : List Int} (hp : IsPerm p) : ∀ (d i : Nat) (had : List Bool), i + d = p.length → had.length = p.length → (∀ j, j < p.length → (had.getD j false = true ↔ Had p i j)) →
    ∃ k, cycles_Of.l0 k p had ((mins p i).map (round p)) (p.length : Int) (i : Int) = some (ofSpec p, 0) := by
  have hpo := permOn hp
  have hlen := hp.len
  intro d
  induction d with
  | zero =>
    intro i had hd hl hh
    have : i = p.length := by omega
    subst this
    exact ⟨1, by simp only [cycles_Of.l0]; rw [if_neg (by omega)]; rfl⟩
  | succ d ih =>
    intro i had hd hl hh
    have hi : i < p.length := by omega
    have hml := mins_le p i
    have e0 : rdOf false had (i : Int) = had.getD i false := by unfold rdOf; rw [Int.toNat_natCast]
    by_cases hm : Min p.length (F p) i
    · have hb : minB p.length (F p) i = true := (minB_iff _ _ _).2 hm
      have hmins : mins p (i + 1) = mins p i ++ [i] := by
        unfold mins
        rw [List.range_succ, List.filter_append]
        simp [hb]
      obtain ⟨k, hk⟩ := of_l1 hp hi hm ((mins p i).map (round p)) (by simp; omega) (res := (ofSpec p, 0)) (fun had' h1 h2 => by
        obtain ⟨k, hk⟩ := ih (i + 1) had' (by omega) h1 h2
        refine ⟨k, ?_⟩
        rw [hmins, List.map_append] at hk
        exact hk) (per (F p) i) 0 had (by omega) hl (fun j hj => by
          rw [hh j hj]
          constructor
          · exact Or.inl
          · rintro (h | ⟨a, ha, _⟩)
            · exact h
            · omega)
      refine ⟨k + 1, ?_⟩
      simp only [cycles_Of.l0]
      rw [if_pos (by omega)]
      exact hk
    · have hb : minB p.length (F p) i = false := by rw [Bool.eq_false_iff]; exact fun h => hm ((minB_iff _ _ _).1 h)
      have hmins : mins p (i + 1) = mins p i := by
        unfold mins
        rw [List.range_succ, List.filter_append]
        simp [hb]
      obtain ⟨k, hk⟩ := ih (i + 1) had (by omega) hl (fun j hj => by rw [hh j hj, had_next_no hm])
      refine ⟨k + 2, ?_⟩
      simp only [cycles_Of.l0, cycles_Of.l1]
      rw [if_pos (by omega), if_pos (by omega), if_pos (by omega), e0, if_pos ((hh i hi).2 ((had_self hp hi).2 hm)), if_neg (by simp), wrap_succ (by omega) (by omega)]
      rw [hmins] at hk
      exact hk

/-- cycles.Of at an order. -/
theorem of_yes {p : List Int} (hp : IsPerm p) : ∃ k, cycles_Of.f k p = some (ofSpec p, 0) := by
  obtain ⟨k, hk⟩ := of_l0 hp p.length 0 (List.replicate p.length false) (by omega) (by simp) (fun j hj => by
    simp only [List.getD_eq_getElem?_getD, List.getElem?_replicate, hj, if_true, Option.getD_some, Bool.false_eq_true, false_iff]
    rintro ⟨a, h, _⟩
    omega)
  refine ⟨max k (p.length + 1), ?_⟩
  unfold cycles_Of.f
  rw [right_spec p _ (by omega), decide_eq_true hp]
  simp only [Option.bind_some, if_true]
  rw [if_pos (by omega), if_pos (by have := hp.len; omega), Int.toNat_natCast]
  exact at_rounds (fun k => (cycles_Of.mono_l k).1 _ _ _ _ _) (Nat.le_max_left _ _) hk
theorem of_no {p : List Int} (hp : ¬ IsPerm p) : ∃ k, cycles_Of.f k p = some ([], 1) := by
  refine ⟨p.length + 1, ?_⟩
  unfold cycles_Of.f
  rw [right_spec p _ (by omega), decide_eq_false hp]
  rfl
theorem ofSpec_length (p : List Int) : (ofSpec p).length = cnt p.length (F p) := by
  unfold ofSpec mins cnt
  rw [List.length_map, List.countP_eq_length_filter]
end Go.Proofs.Ytohknfbfmobggaa.Pl
