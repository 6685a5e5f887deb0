/- An order is its rounds: a list of rows that tells where each number goes; the rows that begin with their greatest, rising. -/
import Derived.Test.YtohknfbfmobggaaPlOf
import Derived.Test.YtohknfbfmobggaaHaF
namespace Go.Proofs.Ytohknfbfmobggaa.Gd
open Go.RowKit Go.Proofs.Ytohknfbfmobggaa.Cy Go.Proofs.Ytohknfbfmobggaa.Pl Go.Proofs.Ytohknfbfmobggaa.Orb Go.Proofs.YtohknfbfmobggaaW.PrintWords Go.Proofs.YtohknfbfmobggaaW.PrintLast

theorem isPerm_of {s : List Int} (h20 : s.length ≤ 20) (hr : ∀ x, x < s.length → 0 ≤ rd s (x : Int) ∧ rd s (x : Int) < s.length) (hi : ∀ x y, x < s.length → y < s.length → rd s (x : Int) = rd s (y : Int) → x = y) : IsPerm s := by
  refine ⟨h20, fun z hz => ?_, ?_⟩
  · obtain ⟨j, hj, rfl⟩ := List.mem_iff_getElem.1 hz
    have := hr j hj
    rwa [rd_get s j hj] at this
  · rw [List.Nodup, List.pairwise_iff_getElem]
    intro i j hi' hj hij e
    have := hi i j hi' hj (by rw [rd_get s i hi', rd_get s j hj, e])
    omega
theorem _root_.Go.Proofs.Ytohknfbfmobggaa.Pl.IsPerm.mem_iff {p : List Int} (h : IsPerm p) (x : Int) : x ∈ p ↔ 0 ≤ x ∧ x < (p.length : Int) := by
  refine ⟨h.rng x, fun ⟨h0, h1⟩ => ?_⟩
  obtain ⟨y, hy, e⟩ := onto (permOn h) (y := x.toNat) (by omega)
  have h2 := rd_F h hy
  rw [e, rd_get p y hy] at h2
  have : p[y] = x := by omega
  rw [← this]
  exact List.getElem_mem hy
theorem isPerm_perm {p q : List Int} (h : IsPerm p) (hpq : q.Perm p) : IsPerm q :=
  ⟨by rw [hpq.length_eq]; exact h.len, fun x hx => by rw [hpq.length_eq]; exact h.rng x (hpq.mem_iff.1 hx), hpq.nodup_iff.2 h.nd⟩

/-- p sends each number of the row to the one behind it, the last to the first. -/
def Nx (p : List Int) (r : List Int) : Prop := ∀ k (h : k < r.length), rd p r[k] = r[(k + 1) % r.length]'(Nat.mod_lt _ (by omega))
def Rel (S : List (List Int)) (p : List Int) : Prop := ∀ r ∈ S, Nx p r
structure HeadRow (r : List Int) : Prop where
  ne : r ≠ []
  le : ∀ x ∈ r, x ≤ hdOf r
structure Good (S : List (List Int)) (p : List Int) : Prop where
  perm : IsPerm S.flatten
  len : p.length = S.flatten.length
  rel : Rel S p
  head : ∀ r ∈ S, HeadRow r
  rise : (S.map hdOf).Pairwise (· < ·)

theorem hdOf_cons (a : Int) (l : List Int) : hdOf (a :: l) = a := rfl
theorem hdOf_get {r : List Int} (h : 0 < r.length) : hdOf r = r[0] := by
  cases r with
  | nil => simp at h
  | cons a l => rfl
theorem hdOf_mem {r : List Int} (h : r ≠ []) : hdOf r ∈ r := by
  cases r with
  | nil => exact absurd rfl h
  | cons a l => exact List.mem_cons_self

theorem in_row {S : List (List Int)} (hS : IsPerm S.flatten) {x : Int} (h0 : 0 ≤ x) (h1 : x < (S.flatten.length : Int)) : ∃ r ∈ S, ∃ k, ∃ h : k < r.length, r[k] = x := by
  obtain ⟨r, hr, hx⟩ := List.mem_flatten.1 ((hS.mem_iff x).2 ⟨h0, h1⟩)
  obtain ⟨k, hk, e⟩ := List.mem_iff_getElem.1 hx
  exact ⟨r, hr, k, hk, e⟩

theorem rel_unique {S : List (List Int)} {p q : List Int} (hS : IsPerm S.flatten) (hp : p.length = S.flatten.length) (hq : q.length = S.flatten.length) (h1 : Rel S p) (h2 : Rel S q) : p = q := by
  apply List.ext_getElem (by omega)
  intro i hi hi'
  obtain ⟨r, hr, k, hk, e⟩ := in_row hS (x := (i : Int)) (by omega) (by omega)
  rw [← rd_get p i hi, ← rd_get q i hi', ← e, h1 r hr k hk, h2 r hr k hk]

theorem same_row {S : List (List Int)} (hS : S.flatten.Nodup) {r r' : List Int} (hr : r ∈ S) (hr' : r' ∈ S) {x : Int} (hx : x ∈ r) (hx' : x ∈ r') : r = r' := by
  have hS := List.pairwise_flatten.1 hS
  obtain ⟨i, hi, rfl⟩ := List.mem_iff_getElem.1 hr
  obtain ⟨j, hj, rfl⟩ := List.mem_iff_getElem.1 hr'
  have key := List.pairwise_iff_getElem.1 hS.2
  rcases Nat.lt_trichotomy i j with h | h | h
  · exact absurd rfl (key i j hi hj h x hx x hx')
  · subst h; rfl
  · exact absurd rfl (key j i hj hi h x hx' x hx)
theorem row_nodup {S : List (List Int)} (hS : S.flatten.Nodup) {r : List Int} (hr : r ∈ S) : r.Nodup := by
  have hS := List.pairwise_flatten.1 hS
  exact hS.1 r hr
theorem nodup_get {r : List Int} (h : r.Nodup) {i j : Nat} (hi : i < r.length) (hj : j < r.length) (e : r[i] = r[j]) : i = j := by
  rcases Nat.lt_trichotomy i j with h' | h' | h'
  · exact absurd e (nodup_ne h hi hj h')
  · exact h'
  · exact absurd e.symm (nodup_ne h hj hi h')
theorem next_inj {n a b : Nat} (ha : a < n) (hb : b < n) (e : (a + 1) % n = (b + 1) % n) : a = b := by
  by_cases h1 : a + 1 = n
  · by_cases h2 : b + 1 = n
    · omega
    · rw [h1, Nat.mod_self, Nat.mod_eq_of_lt (by omega)] at e; omega
  · by_cases h2 : b + 1 = n
    · rw [h2, Nat.mod_self, Nat.mod_eq_of_lt (by omega)] at e; omega
    · rw [Nat.mod_eq_of_lt (by omega), Nat.mod_eq_of_lt (by omega)] at e; omega

theorem rel_perm {S : List (List Int)} {q : List Int} (hS : IsPerm S.flatten) (hq : q.length = S.flatten.length) (h : Rel S q) : IsPerm q := by
  refine isPerm_of (by rw [hq]; exact hS.len) (fun x hx => ?_) (fun x y hx hy e => ?_)
  · obtain ⟨r, hr, k, hk, e⟩ := in_row hS (x := (x : Int)) (by omega) (by omega)
    rw [← e, h r hr k hk, hq]
    exact hS.rng _ (List.mem_flatten.2 ⟨r, hr, List.getElem_mem _⟩)
  · obtain ⟨r, hr, k, hk, ek⟩ := in_row hS (x := (x : Int)) (by omega) (by omega)
    obtain ⟨r', hr', k', hk', ek'⟩ := in_row hS (x := (y : Int)) (by omega) (by omega)
    rw [← ek, ← ek', h r hr k hk, h r' hr' k' hk'] at e
    obtain rfl : r = r' := same_row hS.nd hr hr' (x := r[(k + 1) % r.length]'(Nat.mod_lt _ (by omega))) (List.getElem_mem _) (by rw [e]; exact List.getElem_mem _)
    have := nodup_get (row_nodup hS.nd hr) _ _ e
    have := next_inj hk hk' this
    subst this
    omega

/-! ### a row is a round -/
theorem row_it {p r : List Int} (hp : IsPerm p) (hr : ∀ x ∈ r, 0 ≤ x ∧ x < (p.length : Int)) (h : Nx p r) : ∀ k (hk : k < r.length), ((it (F p) k (hdOf r).toNat : Nat) : Int) = r[k]
  | 0, hk => by
    have h0 := hr r[0] (List.getElem_mem hk)
    have e := hdOf_get hk
    show (((hdOf r).toNat : Nat) : Int) = _
    rw [e]
    omega
  | k + 1, hk => by
    have ih := row_it hp hr h k (by omega)
    have h0 := hr r[k] (List.getElem_mem (by omega))
    have hn := h k (by omega)
    rw [← ih, rd_F hp (by omega)] at hn
    show ((F p (it (F p) k (hdOf r).toNat) : Nat) : Int) = _
    rw [hn]
    congr 1
    exact Nat.mod_eq_of_lt hk
theorem row_back {p r : List Int} (hp : IsPerm p) (hr : ∀ x ∈ r, 0 ≤ x ∧ x < (p.length : Int)) (h : Nx p r) (hne : r ≠ []) : it (F p) r.length (hdOf r).toNat = (hdOf r).toNat := by
  have hl : 0 < r.length := List.length_pos_iff.2 hne
  obtain ⟨m, hm⟩ : ∃ m, r.length = m + 1 := ⟨r.length - 1, by omega⟩
  have ih := row_it hp hr h m (by omega)
  have h0 := hr r[m] (List.getElem_mem (by omega))
  have hn := h m (by omega)
  rw [← ih, rd_F hp (by omega)] at hn
  have e := hdOf_get hl
  have e2 : r[(m + 1) % r.length]'(Nat.mod_lt _ (by omega)) = r[0] := by
    congr 1
    rw [hm, Nat.mod_self]
  rw [e2, ← e] at hn
  rw [hm]
  show F p (it (F p) m (hdOf r).toNat) = _
  omega
theorem row_rnd {p r : List Int} (hp : IsPerm p) (hr : ∀ x ∈ r, 0 ≤ x ∧ x < (p.length : Int)) (h : Nx p r) (hne : r ≠ []) (hnd : r.Nodup) : r = rnd p (hdOf r).toNat (per (F p) (hdOf r).toNat) := by
  have hl : 0 < r.length := List.length_pos_iff.2 hne
  have hh := hr _ (hdOf_mem hne)
  have hlt : (hdOf r).toNat < p.length := by omega
  obtain ⟨p1, p2, p3⟩ := per_spec (permOn hp) hlt
  have hb := row_back hp hr h hne
  have e : per (F p) (hdOf r).toNat = r.length := by
    rcases Nat.lt_trichotomy (per (F p) (hdOf r).toNat) r.length with h' | h' | h'
    · have h1 := row_it hp hr h _ h'
      have h2 := row_it hp hr h 0 hl
      rw [p2] at h1
      have := nodup_get hnd h' hl (by rw [← h1, ← h2]; rfl)
      omega
    · exact h'
    · exact absurd hb (p3 _ hl h')
  rw [e]
  apply List.ext_getElem (by rw [rnd_length])
  intro i hi hi'
  rw [← row_it hp hr h i hi]
  simp [rnd]
theorem sorted_ext_int : ∀ {l1 l2 : List Int}, l1.Pairwise (· < ·) → l2.Pairwise (· < ·) → (∀ x, x ∈ l1 ↔ x ∈ l2) → l1 = l2
  | [], [], _, _, _ => rfl
  | [], b :: l2, _, _, h => absurd ((h b).2 List.mem_cons_self) (by simp)
  | a :: l1, [], _, _, h => absurd ((h a).1 List.mem_cons_self) (by simp)
  | a :: l1, b :: l2, h1, h2, h => by
    obtain ⟨ha, h1'⟩ := List.pairwise_cons.1 h1
    obtain ⟨hb, h2'⟩ := List.pairwise_cons.1 h2
    have hab : a = b := by
      rcases List.mem_cons.1 ((h a).1 List.mem_cons_self) with e | e
      · exact e
      · rcases List.mem_cons.1 ((h b).2 List.mem_cons_self) with e' | e'
        · exact e'.symm
        · have := hb a e
          have := ha b e'
          omega
    subst hab
    congr 1
    apply sorted_ext_int h1' h2'
    intro x
    constructor
    · intro hx
      rcases List.mem_cons.1 ((h x).1 (List.mem_cons_of_mem _ hx)) with e | e
      · subst e
        exact absurd (ha x hx) (Int.lt_irrefl _)
      · exact e
    · intro hx
      rcases List.mem_cons.1 ((h x).2 (List.mem_cons_of_mem _ hx)) with e | e
      · subst e
        exact absurd (hb x hx) (Int.lt_irrefl _)
      · exact e
theorem Good.isPerm {S : List (List Int)} {p : List Int} (g : Good S p) : IsPerm p := rel_perm g.perm g.len g.rel
theorem Good.rng {S : List (List Int)} {p : List Int} (g : Good S p) {r : List Int} (hr : r ∈ S) : ∀ x ∈ r, 0 ≤ x ∧ x < (p.length : Int) := fun x hx => by
  rw [g.len]
  exact g.perm.rng x (List.mem_flatten.2 ⟨r, hr, hx⟩)
theorem Good.heads {S : List (List Int)} {p : List Int} (g : Good S p) (h : Int) : h ∈ S.map hdOf ↔ (0 ≤ h ∧ h < (p.length : Int)) ∧ ∀ y, R (F p) h.toNat y → (y : Int) ≤ h := by
  have hp := g.isPerm
  constructor
  · intro hm
    obtain ⟨r, hr, rfl⟩ := List.mem_map.1 hm
    have hd := g.head r hr
    have hl : 0 < r.length := List.length_pos_iff.2 hd.ne
    refine ⟨g.rng hr _ (hdOf_mem hd.ne), ?_⟩
    rintro y ⟨m, rfl⟩
    rw [it_mod (row_back hp (g.rng hr) (g.rel r hr) hd.ne) m, row_it hp (g.rng hr) (g.rel r hr) _ (Nat.mod_lt _ hl)]
    exact hd.le _ (List.getElem_mem _)
  · rintro ⟨hh, hy⟩
    obtain ⟨r, hr, k, hk, e⟩ := in_row g.perm hh.1 (by rw [← g.len]; exact hh.2)
    have hd := g.head r hr
    have hrr : R (F p) (hdOf r).toNat h.toNat := ⟨k, by
      have := row_it hp (g.rng hr) (g.rel r hr) k hk
      omega⟩
    have h0 := g.rng hr _ (hdOf_mem hd.ne)
    have h1 := hy _ (R_symm (permOn hp) (by omega) hrr)
    have h2 := hd.le h (by rw [← e]; exact List.getElem_mem _)
    have : h = hdOf r := by omega
    rw [this]
    exact List.mem_map.2 ⟨r, hr, rfl⟩
theorem map_self {α β : Type} (S : List α) (hd : α → β) (g : β → α) (h : ∀ r ∈ S, r = g (hd r)) : S = (S.map hd).map g := by
  induction S with
  | nil => rfl
  | cons a l ih =>
    simp only [List.map_cons]
    rw [← h a List.mem_cons_self, ← ih (fun r hr => h r (List.mem_cons_of_mem _ hr))]
theorem good_unique {S S' : List (List Int)} {p : List Int} (g : Good S p) (g' : Good S' p) : S = S' := by
  have hp := g.isPerm
  have key : ∀ {T : List (List Int)}, Good T p → T = (T.map hdOf).map (fun h => rnd p h.toNat (per (F p) h.toNat)) := fun {T} gT =>
    map_self T hdOf _ (fun r hr => row_rnd hp (gT.rng hr) (gT.rel r hr) (gT.head r hr).ne (row_nodup gT.perm.nd hr))
  have hh : S.map hdOf = S'.map hdOf := sorted_ext_int g.rise g'.rise (fun x => by rw [g.heads, g'.heads])
  rw [key g, key g', hh]

/-! ### where a greater one comes than all ahead a row begins -/
theorem flat_step {r r' a T : List Int} {S1 : List (List Int)} (hr : r ≠ []) (h1 : ∀ s ∈ S1, HeadRow s) (hri : (hdOf r :: S1.map hdOf).Pairwise (· < ·)) (e : r' = r ++ a) (hr' : HeadRow r') (e2 : S1.flatten = a ++ T) : a = [] := by
  cases a with
  | nil => rfl
  | cons b a' =>
    exfalso
    cases S1 with
    | nil => simp at e2
    | cons s S2 =>
      have hs := h1 s List.mem_cons_self
      cases s with
      | nil => exact hs.ne rfl
      | cons c s' =>
        rw [List.flatten_cons, List.cons_append, List.cons_append] at e2
        have hcb : c = b := (List.cons.inj e2).1
        have h3 := (List.pairwise_cons.1 hri).1 (hdOf (c :: s')) (List.mem_map.2 ⟨_, List.mem_cons_self, rfl⟩)
        have h4 := hr'.le b (by rw [e]; simp)
        have h5 : hdOf r' = hdOf r := by
          rw [e]
          cases r with
          | nil => exact absurd rfl hr
          | cons x y => rfl
        rw [h5, ← hcb] at h4
        rw [hdOf_cons] at h3
        omega
theorem flat_unique : ∀ {S S' : List (List Int)}, (∀ r ∈ S, HeadRow r) → (∀ r ∈ S', HeadRow r) → (S.map hdOf).Pairwise (· < ·) → (S'.map hdOf).Pairwise (· < ·) → S.flatten = S'.flatten → S = S'
  | [], [], _, _, _, _, _ => rfl
  | [], r' :: S', _, h', _, _, e => by
    have := (h' r' List.mem_cons_self).ne
    simp only [List.flatten_nil, List.flatten_cons] at e
    exact absurd (List.append_eq_nil_iff.1 e.symm).1 this
  | r :: S, [], h, _, _, _, e => by
    have := (h r List.mem_cons_self).ne
    simp only [List.flatten_nil, List.flatten_cons] at e
    exact absurd (List.append_eq_nil_iff.1 e).1 this
  | r :: S, r' :: S', h, h', hr, hr', e => by
    simp only [List.flatten_cons] at e
    have c1 := h r List.mem_cons_self
    have c2 := h' r' List.mem_cons_self
    have d1 := fun s hs => h s (List.mem_cons_of_mem _ hs)
    have d2 := fun s hs => h' s (List.mem_cons_of_mem _ hs)
    have key : r = r' ∧ S.flatten = S'.flatten := by
      rcases List.append_eq_append_iff.1 e with ⟨a, e1, e2⟩ | ⟨a, e1, e2⟩
      · have := flat_step c1.ne d1 hr e1 c2 e2
        subst this
        simp at e1 e2
        exact ⟨e1.symm, e2⟩
      · have := flat_step c2.ne d2 hr' e1 c1 e2
        subst this
        simp at e1 e2
        exact ⟨e1, e2.symm⟩
    obtain ⟨rfl, e3⟩ := key
    rw [flat_unique d1 d2 (List.pairwise_cons.1 hr).2 (List.pairwise_cons.1 hr').2 e3]
end Go.Proofs.Ytohknfbfmobggaa.Gd
