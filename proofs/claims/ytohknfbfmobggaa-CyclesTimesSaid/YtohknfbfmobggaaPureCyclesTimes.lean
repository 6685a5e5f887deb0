/- CyclesTimes: the least common multiple of the rounds' lengths; an order and its undoing have rounds of the same lengths. For every input. -/
import Derived.Test.YtohknfbfmobggaaCy21
import Derived.Test.YtohknfbfmobggaaPlGood
namespace Go.Proofs.Ytohknfbfmobggaa.Pure
open Go.RowKit Go.Proofs.Ytohknfbfmobggaa.Cy Go.Proofs.Ytohknfbfmobggaa.Pl Go.Proofs.Ytohknfbfmobggaa.Orb Go.Proofs.Ytohknfbfmobggaa.Gd Go.Proofs.YtohknfbfmobggaaW.PrintWords Go.Proofs.YtohknfbfmobggaaW.PrintLast
set_option linter.unusedVariables false

theorem alive23T : lotdrawerkeep_alive23.f 50 = some true := by decide +kernel
theorem wrap_ok {x : Int} (h0 : -1000000000 ≤ x) (h1 : x ≤ 1000000000) : wrap64 x = x := by unfold wrap64; omega
theorem wrap_nat (m : Nat) (h : m ≤ 1048576) : wrap64 (m : Int) = (m : Int) := wrap_ok (by omega) (by omega)
theorem rd_L2_get (S : List (List Int)) (i : Nat) (h : i < S.length) : rd_L2 S (i : Int) = S[i] := by simp [rd_L2, h]
theorem rd_set {o : List Int} {x : Nat} (v : Int) (hx : x < o.length) (y : Nat) : rd (o.set x v) (y : Int) = if y = x then v else rd o (y : Int) := by
  by_cases h : y = x
  · subst h; simp [rd, hx]
  · rw [if_neg h]
    simp [rd, Ne.symm h]

/-! ### the least common multiple of a list -/
def lcmL (l : List Nat) : Nat := l.foldr Nat.lcm 1
theorem lcmL_dvd {l : List Nat} {a : Nat} (h : a ∈ l) : a ∣ lcmL l := by
  induction l with
  | nil => cases h
  | cons b l ih =>
    rcases List.mem_cons.1 h with e | e
    · subst e
      exact Nat.dvd_lcm_left _ _
    · exact Nat.dvd_trans (ih e) (Nat.dvd_lcm_right _ _)
theorem lcmL_least {l : List Nat} {m : Nat} (h : ∀ a ∈ l, a ∣ m) : lcmL l ∣ m := by
  induction l with
  | nil => exact Nat.one_dvd m
  | cons b l ih => exact Nat.lcm_dvd (h b List.mem_cons_self) (ih fun a ha => h a (List.mem_cons_of_mem _ ha))
theorem lcmL_pos {l : List Nat} (h : ∀ a ∈ l, 0 < a) : 0 < lcmL l := by
  induction l with
  | nil => exact Nat.one_pos
  | cons b l ih => exact Nat.lcm_pos (h b List.mem_cons_self) (ih fun a ha => h a (List.mem_cons_of_mem _ ha))
theorem lcmL_snoc (l : List Nat) (a : Nat) : lcmL (l ++ [a]) = Nat.lcm (lcmL l) a := by
  induction l with
  | nil => simp [lcmL, Nat.lcm_comm]
  | cons b l ih =>
    show Nat.lcm b (lcmL (l ++ [a])) = Nat.lcm (Nat.lcm b (lcmL l)) a
    rw [ih, Nat.lcm_assoc]
theorem lcm_le_mul (a b : Nat) : Nat.lcm a b ≤ a * b := Nat.div_le_self _ _

/-! ### Times -/
theorem gcd_l1 {x6 : Int} {row : List Int} {S : List (List Int)} {len i : Int} {res : Int × Int} : ∀ (b a : Nat), 0 < Nat.gcd a b → (∃ k, cycles_Times.l0 k (wrap64 ((wrap64 (Int.tdiv x6 (Nat.gcd a b : Nat))) * (row.length : Int))) S len (wrap64 (i + 1)) = some res) →
    ∃ k, cycles_Times.l1 k x6 row (a : Int) (b : Int) S len i = some res := by
  intro b
  induction b using Nat.strongRecOn with
  | ind b ih =>
    intro a hg h
    by_cases hb : b = 0
    · subst hb
      rw [Nat.gcd_zero_right] at hg h
      obtain ⟨k, hk⟩ := h
      refine ⟨k + 1, ?_⟩
      simp only [cycles_Times.l1]
      rw [if_neg (by omega), if_neg (by omega)]
      exact hk
    · have hlt : a % b < b := Nat.mod_lt _ (by omega)
      have e : Nat.gcd b (a % b) = Nat.gcd a b := by
        rw [Nat.gcd_comm b (a % b), ← Nat.gcd_rec b a, Nat.gcd_comm]
      obtain ⟨k, hk⟩ := ih (a % b) hlt b (by rw [e]; exact hg) (by rw [e]; exact h)
      refine ⟨k + 1, ?_⟩
      simp only [cycles_Times.l1]
      have e2 : Int.tmod (a : Int) (b : Int) = ((a % b : Nat) : Int) := by
        rw [Int.tmod_eq_emod_of_nonneg (by omega)]
        rfl
      rw [if_pos (by omega), if_neg (by omega), e2]
      exact hk
theorem flat_take_le (S : List (List Int)) (i : Nat) : (S.take i).flatten.length ≤ S.flatten.length := by
  have : S.flatten = (S.take i).flatten ++ (S.drop i).flatten := by rw [← List.flatten_append, List.take_append_drop]
  rw [this, List.length_append]
  omega
theorem sum_take (S : List (List Int)) (i : Nat) (h : i < S.length) : (S.take (i + 1)).flatten.length = (S.take i).flatten.length + S[i].length := by
  rw [List.take_succ_eq_append_getElem h, List.flatten_append, List.length_append]
  simp
def lens (S : List (List Int)) : List Nat := S.map List.length
theorem lens_take (S : List (List Int)) (i : Nat) (h : i < S.length) : lens (S.take (i + 1)) = lens (S.take i) ++ [S[i].length] := by
  rw [List.take_succ_eq_append_getElem h]
  unfold lens
  rw [List.map_append]
  rfl
theorem lcm_bound (S : List (List Int)) : ∀ i, i ≤ S.length → lcmL (lens (S.take i)) ≤ 2 ^ (S.take i).flatten.length
  | 0, _ => by simp [lens, lcmL]
  | i + 1, h => by
    rw [lens_take S i h, lcmL_snoc, sum_take S i h, Nat.pow_add]
    exact Nat.le_trans (lcm_le_mul _ _) (Nat.mul_le_mul (lcm_bound S i (by omega)) (Nat.le_of_lt Nat.lt_two_pow_self))
theorem times_l0 {S : List (List Int)} (hS : S.flatten.length ≤ 20) (hlen : S.length ≤ 500) (hne : ∀ r ∈ S, r ≠ []) : ∀ (d i : Nat), i + d = S.length → ∃ k, cycles_Times.l0 k (lcmL (lens (S.take i)) : Nat) S (S.length : Int) (i : Int) = some (((lcmL (lens S) : Nat) : Int), 0) := by
  intro d
  induction d with
  | zero =>
    intro i hi
    refine ⟨1, ?_⟩
    simp only [cycles_Times.l0]
    rw [if_neg (by omega), List.take_of_length_le (by omega)]
  | succ d ih =>
    intro i hi
    have hi' : i < S.length := by omega
    have hr : 0 < S[i].length := List.length_pos_iff.2 (hne _ (List.getElem_mem hi'))
    have hpos : 0 < lcmL (lens (S.take i)) := lcmL_pos fun a ha => by
      obtain ⟨r, hr, rfl⟩ := List.mem_map.1 ha
      exact List.length_pos_iff.2 (hne r (List.mem_of_mem_take hr))
    have hb1 : ∀ j, j ≤ S.length → lcmL (lens (S.take j)) ≤ 1048576 := fun j hj => Nat.le_trans (lcm_bound S j hj) (by
      have := flat_take_le S j
      exact Nat.le_trans (Nat.pow_le_pow_right (by omega) (show (S.take j).flatten.length ≤ 20 by omega)) (by decide))
    have hb2 := hb1 i (by omega)
    have hb3 := hb1 (i + 1) (by omega)
    obtain ⟨k, hk⟩ := ih (i + 1) (by omega)
    have hgp : 0 < Nat.gcd (lcmL (lens (S.take i))) S[i].length := Nat.gcd_pos_of_pos_left _ hpos
    have e0 : lcmL (lens (S.take i)) / Nat.gcd (lcmL (lens (S.take i))) S[i].length * S[i].length = lcmL (lens (S.take (i + 1))) := by
      rw [lens_take S i hi', lcmL_snoc, Nat.div_mul_right_comm (Nat.gcd_dvd_left _ _)]
      rfl
    have e1 : Int.tdiv ((lcmL (lens (S.take i)) : Nat) : Int) ((Nat.gcd (lcmL (lens (S.take i))) S[i].length : Nat) : Int) = ((lcmL (lens (S.take i)) / Nat.gcd (lcmL (lens (S.take i))) S[i].length : Nat) : Int) := by
      rw [Int.tdiv_eq_ediv_of_nonneg (by omega)]
      rfl
    have hdl : lcmL (lens (S.take i)) / Nat.gcd (lcmL (lens (S.take i))) S[i].length ≤ 1048576 := Nat.le_trans (Nat.div_le_self _ _) hb2
    have e2 : wrap64 (wrap64 (Int.tdiv ((lcmL (lens (S.take i)) : Nat) : Int) ((Nat.gcd (lcmL (lens (S.take i))) S[i].length : Nat) : Int)) * (S[i].length : Int)) = ((lcmL (lens (S.take (i + 1))) : Nat) : Int) := by
      have e3 : wrap64 ((lcmL (lens (S.take i)) / Nat.gcd (lcmL (lens (S.take i))) S[i].length : Nat) : Int) = ((lcmL (lens (S.take i)) / Nat.gcd (lcmL (lens (S.take i))) S[i].length : Nat) : Int) := wrap_nat _ hdl
      rw [e1, e3, ← Int.natCast_mul, e0, wrap_nat _ hb3]
    obtain ⟨k2, hk2⟩ := gcd_l1 (x6 := ((lcmL (lens (S.take i)) : Nat) : Int)) (row := S[i]) (S := S) (len := (S.length : Int)) (i := (i : Int)) (res := (((lcmL (lens S) : Nat) : Int), 0)) S[i].length (lcmL (lens (S.take i))) hgp ⟨k, by
      rw [e2, wrap_ok (by omega) (by omega)]
      exact hk⟩
    refine ⟨k2 + 1, ?_⟩
    simp only [cycles_Times.l0]
    rw [if_pos (by omega), if_pos (by omega), if_pos (by omega), rd_L2_get S i hi']
    exact hk2

/-! ### the rounds of an order -/
theorem of_rows {p : List Int} {r : List Int} (hr : r ∈ ofSpec p) : ∃ x, x < p.length ∧ Min p.length (F p) x ∧ r = rnd p x (per (F p) x) := by
  obtain ⟨x, hx, rfl⟩ := List.mem_map.1 hr
  obtain ⟨h1, h2⟩ := List.mem_filter.1 hx
  exact ⟨x, List.mem_range.1 h1, (minB_iff _ _ _).1 h2, rfl⟩
theorem of_ne {p : List Int} (hp : IsPerm p) : ∀ r ∈ ofSpec p, r ≠ [] := fun r hr => by
  obtain ⟨x, hx, _, rfl⟩ := of_rows hr
  have h1 := (per_spec (permOn hp) hx).1
  intro e
  have := congrArg List.length e
  rw [rnd_length] at this
  simp at this
  omega
theorem mem_rnd {p : List Int} {x L : Nat} {z : Int} : z ∈ rnd p x L ↔ ∃ m, m < L ∧ ((it (F p) m x : Nat) : Int) = z := by
  simp [rnd]
theorem of_flat_le {p : List Int} (hp : IsPerm p) : (ofSpec p).flatten.length ≤ p.length := by
  have hpo := permOn hp
  have hnd : (ofSpec p).flatten.Nodup := by
    rw [List.Nodup, List.pairwise_flatten]
    constructor
    · intro r hr
      obtain ⟨x, hx, _, rfl⟩ := of_rows hr
      rw [List.pairwise_iff_getElem]
      intro i j hi hj hij e
      simp only [rnd, List.getElem_map, List.getElem_range, List.length_map, List.length_range] at hi hj e
      have := per_inj hpo hx hi hj (by omega)
      omega
    · unfold ofSpec
      rw [List.pairwise_map]
      have h1 : (mins p p.length).Pairwise (· < ·) := List.Pairwise.filter _ List.pairwise_lt_range
      have h2 : ∀ a ∈ mins p p.length, a < p.length ∧ Min p.length (F p) a := fun a ha => by
        obtain ⟨h1, h2⟩ := List.mem_filter.1 ha
        exact ⟨List.mem_range.1 h1, (minB_iff _ _ _).1 h2⟩
      refine h1.imp_of_mem (fun {a b} ha hb hab => ?_)
      rintro x hx y hy rfl
      obtain ⟨m1, _, e1⟩ := mem_rnd.1 hx
      obtain ⟨m2, _, e2⟩ := mem_rnd.1 hy
      have hA := h2 a ha
      have hB := h2 b hb
      have r1 : R (F p) b (it (F p) m1 a) := ⟨m2, by omega⟩
      have r2 : R (F p) b a := R_trans r1 (R_symm hpo hA.1 ⟨m1, rfl⟩)
      have := hB.2 a hA.1 r2
      omega
  have hnat : ((ofSpec p).flatten.map Int.toNat).Nodup := by
    rw [List.Nodup, List.pairwise_map]
    refine hnd.imp_of_mem (fun {a b} ha hb hab e => hab ?_)
    obtain ⟨r, hr, ha⟩ := List.mem_flatten.1 ha
    obtain ⟨r', hr', hb⟩ := List.mem_flatten.1 hb
    obtain ⟨x, hx, _, rfl⟩ := of_rows hr
    obtain ⟨x', hx', _, rfl⟩ := of_rows hr'
    obtain ⟨m, _, rfl⟩ := mem_rnd.1 ha
    obtain ⟨m', _, rfl⟩ := mem_rnd.1 hb
    omega
  have := nodup_le p.length _ hnat (fun y hy => by
    obtain ⟨z, hz, rfl⟩ := List.mem_map.1 hy
    obtain ⟨r, hr, hz⟩ := List.mem_flatten.1 hz
    obtain ⟨x, hx, _, rfl⟩ := of_rows hr
    obtain ⟨m, _, rfl⟩ := mem_rnd.1 hz
    have := it_lt hpo m hx
    omega)
  rw [List.length_map] at this
  exact this
theorem times_yes {p : List Int} (hp : IsPerm p) : ∃ k, cycles_Times.f k p = some (((lcmL (lens (ofSpec p)) : Nat) : Int), 0) := by
  obtain ⟨k1, h1⟩ := of_yes hp
  have hl := ofSpec_length p
  have hc := cnt_le (n := p.length) (f := F p)
  have h20 := hp.len
  have hf := of_flat_le hp
  obtain ⟨k2, h2⟩ := times_l0 (S := ofSpec p) (by omega) (by omega) (of_ne hp) (ofSpec p).length 0 (by omega)
  refine ⟨k1 + k2, ?_⟩
  unfold cycles_Times.f
  rw [at_rounds (cycles_Of.mono p) (show k1 ≤ k1 + k2 by omega) h1]
  simp only [Option.bind_some, if_true]
  exact at_rounds (fun k => (cycles_Times.mono_l k).1 _ _ _ _) (show k2 ≤ k1 + k2 by omega) h2
theorem times_no {p : List Int} (hp : ¬ IsPerm p) : ∃ k, cycles_Times.f k p = some (0, 1) := by
  obtain ⟨k, hk⟩ := of_no hp
  refine ⟨k, ?_⟩
  unfold cycles_Times.f
  rw [hk]
  rfl

/-! ### undone -/
theorem back_l0 {p : List Int} (hp : IsPerm p) : ∀ (d k i : Nat) (o : List Int), i + d = p.length → d < k → o.length = p.length → (∀ j (h : j < p.length), j < i → rd o p[j] = (j : Int)) →
    ∃ q : List Int, perm_Back.l0 k o p (p.length : Int) (i : Int) = some (q, 0) ∧ q.length = p.length ∧ ∀ j (h : j < p.length), rd q p[j] = (j : Int) := by
  have h20 := hp.len
  intro d
  induction d with
  | zero =>
    intro k i o hd hk hl hj
    obtain ⟨k, rfl⟩ : ∃ m, k = m + 1 := ⟨k - 1, by omega⟩
    refine ⟨o, ?_, hl, fun j h => hj j h (by omega)⟩
    simp only [perm_Back.l0]
    rw [if_neg (by omega)]
  | succ d ih =>
    intro k i o hd hk hl hj
    obtain ⟨k, rfl⟩ : ∃ m, k = m + 1 := ⟨k - 1, by omega⟩
    have hi : i < p.length := by omega
    have hr := hp.rng p[i] (List.getElem_mem hi)
    simp only [perm_Back.l0]
    rw [if_pos (by omega), if_pos (by omega), if_pos (by omega), rd_get p i hi, if_pos (by omega), if_pos (by omega), wrap_ok (by omega) (by omega)]
    obtain ⟨x, hx⟩ := Int.eq_ofNat_of_zero_le hr.1
    refine ih k (i + 1) _ (by omega) (by omega) (by simpa using hl) (fun j h hji => ?_)
    rw [hx, Int.toNat_natCast]
    obtain ⟨y, hy⟩ := Int.eq_ofNat_of_zero_le (hp.rng p[j] (List.getElem_mem h)).1
    have hyl := (hp.rng p[j] (List.getElem_mem h)).2
    rw [hy, rd_set _ (by omega)]
    by_cases e : y = x
    · rw [if_pos e]
      have : j = i := nodup_get hp.nd h hi (by rw [hx, hy, e])
      omega
    · rw [if_neg e, ← hy]
      refine hj j h ?_
      rcases Nat.lt_or_ge j i with h' | h'
      · exact h'
      · have : j = i := by omega
        subst this
        rw [hy] at hx
        exact absurd (Int.ofNat.inj hx) e
theorem back_yes {p : List Int} (hp : IsPerm p) : ∃ k q, perm_Back.f k p = some (q, 0) ∧ q.length = p.length ∧ ∀ j (h : j < p.length), rd q p[j] = (j : Int) := by
  have h20 := hp.len
  obtain ⟨q, h1, h2, h3⟩ := back_l0 hp p.length (p.length + 1) 0 (List.replicate p.length 0) (by omega) (by omega) (by simp) (fun j _ h => absurd h (by omega))
  refine ⟨p.length + 1, q, ?_, h2, h3⟩
  unfold perm_Back.f
  rw [right_spec p _ (by omega)]
  simp only [Option.bind_some]
  rw [decide_eq_true hp, if_pos rfl, if_pos (by omega), if_pos (by omega), Int.toNat_natCast]
  exact h1
theorem undone {p q : List Int} (hp : IsPerm p) (hl : q.length = p.length) (h : ∀ j (h : j < p.length), rd q p[j] = (j : Int)) : IsPerm q ∧ (∀ x, x < p.length → F q (F p x) = x) ∧ (∀ x, x < p.length → F p (F q x) = x) := by
  have hpo := permOn hp
  have key : ∀ x, x < p.length → rd q ((F p x : Nat) : Int) = (x : Int) := fun x hx => by
    rw [← rd_F hp hx, rd_get p x hx]
    exact h x hx
  have k1 : ∀ x, x < p.length → F q (F p x) = x := fun x hx => by
    show (rd q ((F p x : Nat) : Int)).toNat = x
    rw [key x hx, Int.toNat_natCast]
  have hq : IsPerm q := by
    refine isPerm_of (by rw [hl]; exact hp.len) (fun x hx => ?_) (fun x y hx hy e => ?_)
    · obtain ⟨j, hj, rfl⟩ := onto hpo (y := x) (by omega)
      rw [key j hj]
      omega
    · obtain ⟨j, hj, rfl⟩ := onto hpo (y := x) (by omega)
      obtain ⟨j', hj', rfl⟩ := onto hpo (y := y) (by omega)
      rw [key j hj, key j' hj'] at e
      rw [Int.ofNat.inj e]
  refine ⟨hq, k1, fun x hx => ?_⟩
  obtain ⟨j, hj, rfl⟩ := onto hpo hx
  rw [k1 j hj]
theorem it_undo {n : Nat} {f g : Nat → Nat} (hf : PermOn n f) (h : ∀ x, x < n → g (f x) = x) : ∀ (k x : Nat), x < n → it g k (it f k x) = x
  | 0, _, _ => rfl
  | k + 1, x, hx => by
    have h1 := it_lt hf k hx
    rw [it_succ' g k]
    show it g k (g (f (it f k x))) = x
    rw [h _ h1]
    exact it_undo hf h k x hx
theorem it_fix {n : Nat} {f g : Nat → Nat} (hf : PermOn n f) (h : ∀ x, x < n → g (f x) = x) {k x : Nat} (hx : x < n) (e : it f k x = x) : it g k x = x := by
  have := it_undo hf h k x hx
  rwa [e] at this
theorem per_same {n : Nat} {f g : Nat → Nat} (hf : PermOn n f) (hg : PermOn n g) (h1 : ∀ x, x < n → g (f x) = x) (h2 : ∀ x, x < n → f (g x) = x) {x : Nat} (hx : x < n) : per f x = per g x := by
  have e : ∀ k, it f k x = x ↔ it g k x = x := fun k => ⟨it_fix hf h1 hx, it_fix hg h2 hx⟩
  obtain ⟨a1, a2, a3⟩ := per_spec hf hx
  obtain ⟨b1, b2, b3⟩ := per_spec hg hx
  rcases Nat.lt_trichotomy (per f x) (per g x) with h | h | h
  · exact absurd ((e _).1 a2) (b3 _ a1 h)
  · exact h
  · exact absurd ((e _).2 b2) (a3 _ b1 h)
theorem R_undo {n : Nat} {f g : Nat → Nat} (hf : PermOn n f) (hg : PermOn n g) (h1 : ∀ x, x < n → g (f x) = x) {x y : Nat} (hx : x < n) (h : R f x y) : R g x y := by
  obtain ⟨k, rfl⟩ := h
  have hy := it_lt hf k hx
  exact R_symm hg hy ⟨k, it_undo hf h1 k x hx⟩
theorem lens_same {p q : List Int} (hp : IsPerm p) (hq : IsPerm q) (hl : q.length = p.length) (h1 : ∀ x, x < p.length → F q (F p x) = x) (h2 : ∀ x, x < p.length → F p (F q x) = x) : lens (ofSpec q) = lens (ofSpec p) := by
  have fp := permOn hp
  have fq := permOn hq
  rw [hl] at fq
  have hm : mins q q.length = mins p p.length := by
    unfold mins
    rw [hl]
    apply List.filter_congr
    intro x hx
    have hx' := List.mem_range.1 hx
    rw [Bool.eq_iff_iff, minB_iff, minB_iff]
    exact ⟨fun h y hy hr => h y hy (R_undo fp fq h1 hx' hr), fun h y hy hr => h y hy (R_undo fq fp h2 hx' hr)⟩
  unfold lens ofSpec
  rw [hm, List.map_map, List.map_map]
  apply List.map_congr_left
  intro x hx
  have hx' := List.mem_range.1 (List.mem_filter.1 hx).1
  show (round q x).length = (round p x).length
  simp only [round, rnd_length]
  exact (per_same fp fq h1 h2 hx').symm

/-! ### the law -/
theorem index_l0 {S : List (List Int)} (hS : S.length ≤ 500) (hne : ∀ r ∈ S, r ≠ []) (d : Nat) : ∀ (m k i : Nat), i + m = S.length → m < k → ∃ t : Int, slices_IndexFunc_int_int.l0 k S (d : Int) (S.length : Int) (i : Int) = some t ∧ (0 ≤ t ↔ ∃ r ∈ S.drop i, d % r.length ≠ 0) := by
  intro m
  induction m with
  | zero =>
    intro k i hi hk
    obtain ⟨k, rfl⟩ : ∃ m, k = m + 1 := ⟨k - 1, by omega⟩
    refine ⟨-1, ?_, ?_⟩
    · simp only [slices_IndexFunc_int_int.l0]
      rw [if_neg (by omega)]
    · rw [List.drop_of_length_le (by omega)]
      simp
  | succ m ih =>
    intro k i hi hk
    obtain ⟨k, rfl⟩ : ∃ m, k = m + 1 := ⟨k - 1, by omega⟩
    have hi' : i < S.length := by omega
    have hr : 0 < S[i].length := List.length_pos_iff.2 (hne _ (List.getElem_mem hi'))
    have e : Int.tmod (d : Int) (S[i].length : Int) = ((d % S[i].length : Nat) : Int) := by
      rw [Int.tmod_eq_emod_of_nonneg (by omega)]
      rfl
    obtain ⟨t, ht, hti⟩ := ih k (i + 1) (by omega) (by omega)
    rw [List.drop_eq_getElem_cons hi']
    simp only [slices_IndexFunc_int_int.l0]
    rw [if_pos (by omega), if_pos (by omega), if_pos (by omega), rd_L2_get S i hi']
    unfold times_cl.f
    rw [if_neg (by omega), e]
    simp only [Option.bind_some]
    by_cases c : d % S[i].length = 0
    · have : ((((d % S[i].length : Nat) : Int) != 0) = false) := by rw [c]; rfl
      rw [this, if_neg (by decide), wrap_ok (by omega) (by omega)]
      refine ⟨t, ht, hti.trans ⟨fun ⟨r, hr, h⟩ => ⟨r, List.mem_cons_of_mem _ hr, h⟩, fun ⟨r, hr, h⟩ => ?_⟩⟩
      rcases List.mem_cons.1 hr with e' | e'
      · subst e'
        exact absurd c h
      · exact ⟨r, e', h⟩
    · have : ((((d % S[i].length : Nat) : Int) != 0) = true) := by rw [bne_iff_ne]; omega
      rw [this, if_pos rfl]
      refine ⟨(i : Int), rfl, ?_⟩
      refine ⟨fun _ => ⟨S[i], List.mem_cons_self, c⟩, fun _ => by omega⟩
theorem contains_yes {S : List (List Int)} (hS : S.length ≤ 500) (hne : ∀ r ∈ S, r ≠ []) (d k : Nat) (hk : S.length < k) (h : ∃ r ∈ S, d % r.length ≠ 0) : slices_ContainsFunc_int_int.f k S (d : Int) = some true := by
  obtain ⟨t, ht, hti⟩ := index_l0 hS hne d S.length k 0 (by omega) hk
  unfold slices_ContainsFunc_int_int.f slices_IndexFunc_int_int.f
  have : slices_IndexFunc_int_int.l0 k S (d : Int) (S.length : Int) 0 = some t := ht
  rw [this]
  simp only [Option.bind_some]
  rw [decide_eq_true (hti.2 (by simpa using h))]
theorem loop1 {n : Nat} {S : List (List Int)} (hn : n ≤ 1048576) (hn0 : 0 < n) (hS : S.length ≤ 500) (hne : ∀ r ∈ S, r ≠ []) (hno : ∀ d, 0 < d → d < n → ∃ r ∈ S, d % r.length ≠ 0) : ∀ (m k d : Nat), d + m = n → 0 < d → m + S.length + 1 < k → lotdrawerkeep_CyclesTimes.l1 k (n : Int) S (d : Int) = some true := by
  intro m
  induction m with
  | zero =>
    intro k d hd h0 hk
    obtain ⟨k, rfl⟩ : ∃ m, k = m + 1 := ⟨k - 1, by omega⟩
    simp only [lotdrawerkeep_CyclesTimes.l1]
    rw [if_neg (by omega)]
  | succ m ih =>
    intro k d hd h0 hk
    obtain ⟨k, rfl⟩ : ∃ m, k = m + 1 := ⟨k - 1, by omega⟩
    have next := ih k (d + 1) (by omega) (by omega) (by omega)
    simp only [lotdrawerkeep_CyclesTimes.l1]
    rw [if_pos (by omega), if_neg (by omega), wrap_ok (by omega) (by omega)]
    split
    · rw [contains_yes hS hne d k (by omega) (hno d h0 (by omega))]
      simp only [Option.bind_some, if_true]
      exact next
    · exact next
theorem loop0 {n : Nat} {S : List (List Int)} (hS : S.length ≤ 500) (hne : ∀ r ∈ S, r ≠ []) (hdv : ∀ r ∈ S, r.length ∣ n) {k : Nat} (hk : lotdrawerkeep_CyclesTimes.l1 k (n : Int) S 1 = some true) : ∀ (m i : Nat), i + m = S.length → lotdrawerkeep_CyclesTimes.l0 (m + 1 + k) (n : Int) S S (S.length : Int) (i : Int) = some true := by
  intro m
  induction m with
  | zero =>
    intro i hi
    rw [show 0 + 1 + k = k + 1 by omega]
    simp only [lotdrawerkeep_CyclesTimes.l0]
    rw [if_neg (by omega)]
    exact hk
  | succ m ih =>
    intro i hi
    have hi' : i < S.length := by omega
    have hr : 0 < S[i].length := List.length_pos_iff.2 (hne _ (List.getElem_mem hi'))
    have hd := hdv _ (List.getElem_mem hi')
    rw [show m + 1 + 1 + k = (m + 1 + k) + 1 by omega]
    simp only [lotdrawerkeep_CyclesTimes.l0]
    have e : Int.tmod (n : Int) (S[i].length : Int) = 0 := by
      rw [Int.tmod_eq_emod_of_nonneg (by omega)]
      exact Int.emod_eq_zero_of_dvd (Int.natCast_dvd_natCast.2 hd)
    rw [if_pos (by omega), if_pos (by omega), if_pos (by omega), rd_L2_get S i hi', if_neg (by omega), if_pos e, wrap_ok (by omega) (by omega)]
    exact ih (i + 1) (by omega)
theorem CyclesTimes : lotdrawerkeep_CyclesTimes.Pure := by
  intro p _ _ _
  by_cases hp : IsPerm p
  · have h20 := hp.len
    obtain ⟨k1, h1⟩ := times_yes hp
    obtain ⟨k2, h2⟩ := of_yes hp
    obtain ⟨k3, q, h3, hl, hq⟩ := back_yes hp
    obtain ⟨hqp, u1, u2⟩ := undone hp hl hq
    obtain ⟨k4, h4⟩ := times_yes hqp
    rw [lens_same hp hqp hl u1 u2] at h4
    have hS := ofSpec_length p
    have hc := cnt_le (n := p.length) (f := F p)
    have hne := of_ne hp
    obtain ⟨n, hn⟩ : ∃ n, n = lcmL (lens (ofSpec p)) := ⟨_, rfl⟩
    rw [← hn] at h1 h4
    have hn0 : 0 < n := by
      rw [hn]
      refine lcmL_pos fun a ha => ?_
      obtain ⟨r, hr, rfl⟩ := List.mem_map.1 ha
      exact List.length_pos_iff.2 (hne r hr)
    have hnb : n ≤ 1048576 := by
      have hb := lcm_bound (ofSpec p) (ofSpec p).length (Nat.le_refl _)
      rw [List.take_of_length_le (Nat.le_refl _), ← hn] at hb
      have := of_flat_le hp
      exact Nat.le_trans hb (Nat.le_trans (Nat.pow_le_pow_right (by omega) (show (ofSpec p).flatten.length ≤ 20 by omega)) (by decide))
    have hdv : ∀ r ∈ ofSpec p, r.length ∣ n := fun r hr => by
      rw [hn]
      exact lcmL_dvd (List.mem_map.2 ⟨r, hr, rfl⟩)
    have hno : ∀ d, 0 < d → d < n → ∃ r ∈ ofSpec p, d % r.length ≠ 0 := fun d hd0 hdn => by
      refine Classical.byContradiction fun hno => ?_
      have hall : lcmL (lens (ofSpec p)) ∣ d := lcmL_least fun a ha => by
        obtain ⟨r, hr, rfl⟩ := List.mem_map.1 ha
        refine Nat.dvd_of_mod_eq_zero ?_
        refine Classical.byContradiction fun h => hno ⟨r, hr, h⟩
      rw [← hn] at hall
      have := Nat.le_of_dvd hd0 hall
      omega
    have hl1 := loop1 hnb hn0 (by omega) hne hno (n - 1) (n + (ofSpec p).length + 2) 1 (by omega) (by omega) (by omega)
    have hl0 := loop0 (by omega) hne hdv hl1 (ofSpec p).length 0 (by omega)
    obtain ⟨K, hK⟩ : ∃ K, K = k1 + k2 + k3 + k4 + ((ofSpec p).length + 1 + (n + (ofSpec p).length + 2)) + 51 := ⟨_, rfl⟩
    refine ⟨K, ?_⟩
    unfold lotdrawerkeep_CyclesTimes.f
    rw [at_rounds lotdrawerkeep_alive23.mono (show 50 ≤ K by omega) alive23T]
    simp only [Option.bind_some, if_true]
    rw [at_rounds (cycles_Times.mono _) (show k1 ≤ K by omega) h1]
    simp only [Option.bind_some, if_true]
    rw [at_rounds (cycles_Of.mono _) (show k2 ≤ K by omega) h2]
    simp only [Option.bind_some]
    rw [at_rounds (perm_Back.mono _) (show k3 ≤ K by omega) h3]
    simp only [Option.bind_some]
    rw [at_rounds (cycles_Times.mono _) (show k4 ≤ K by omega) h4]
    simp only [Option.bind_some, if_true]
    rw [decide_eq_false (by omega)]
    obtain ⟨K', rfl⟩ : ∃ m, K = m + 1 := ⟨K - 1, by omega⟩
    simp only [lotdrawerkeep_CyclesTimes.j0]
    rw [if_neg (by decide)]
    exact at_rounds (fun k => (lotdrawerkeep_CyclesTimes.mono_l k).2.1 _ _ _ _ _) (show (ofSpec p).length + 1 + (n + (ofSpec p).length + 2) ≤ K' by omega) hl0
  · obtain ⟨k1, h1⟩ := times_no hp
    refine ⟨k1 + 50, ?_⟩
    unfold lotdrawerkeep_CyclesTimes.f
    rw [at_rounds lotdrawerkeep_alive23.mono (show 50 ≤ k1 + 50 by omega) alive23T]
    simp only [Option.bind_some, if_true]
    rw [at_rounds (cycles_Times.mono _) (show k1 ≤ k1 + 50 by omega) h1]
    rfl
end Go.Proofs.Ytohknfbfmobggaa.Pure
