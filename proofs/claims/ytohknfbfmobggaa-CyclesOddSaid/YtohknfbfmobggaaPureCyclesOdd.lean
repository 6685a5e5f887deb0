/- CyclesOdd: parity is multiplicative; a swap of two places turns it, and joins or parts rounds. For every input. -/
import Derived.Test.YtohknfbfmobggaaCy13
import Derived.Test.YtohknfbfmobggaaPlOf
namespace Go.Proofs.Ytohknfbfmobggaa.Pure
open Go.RowKit Go.Proofs.Ytohknfbfmobggaa.Cy Go.Proofs.Ytohknfbfmobggaa.Pl Go.Proofs.Ytohknfbfmobggaa.Orb Go.Proofs.YtohknfbfmobggaaW.PrintWords Go.Proofs.YtohknfbfmobggaaW.PrintLast

theorem alive23 : lotdrawerkeep_alive23.f 50 = some true := by decide +kernel

theorem wrap_small {x : Int} (h0 : -1000000000 ≤ x) (h1 : x ≤ 1000000000) : wrap64 x = x := by unfold wrap64; omega
theorem odd_yes {p : List Int} (hp : IsPerm p) : ∃ k, cycles_Odd.f k p = some (decide ((p.length - cnt p.length (F p)) % 2 = 1), 0) := by
  obtain ⟨k, hk⟩ := of_yes hp
  refine ⟨k, ?_⟩
  unfold cycles_Odd.f
  rw [hk]
  simp only [Option.bind_some]
  have h1 := ofSpec_length p
  have h2 := cnt_le (n := p.length) (f := F p)
  have h3 := hp.len
  rw [h1, wrap_small (by omega) (by omega)]
  have h4 : Int.tmod ((p.length : Int) - (cnt p.length (F p) : Nat)) 2 = (((p.length - cnt p.length (F p)) % 2 : Nat) : Int) := by
    rw [Int.tmod_eq_emod_of_nonneg (by omega)]
    omega
  rw [h4]
  by_cases h : (p.length - cnt p.length (F p)) % 2 = 1
  · rw [if_neg (by omega), decide_eq_true h]
    rfl
  · rw [if_pos (by omega), decide_eq_false h]
theorem odd_aux (X : Int) : (if Int.tmod X 2 = 0 then (some (false, (1 : Int))) else (some (((1 : Int) == 0), (1 : Int)))) = some (false, 1) := by
  split
  · rfl
  · rfl
theorem odd_no {p : List Int} (hp : ¬ IsPerm p) : ∃ k, cycles_Odd.f k p = some (false, 1) := by
  obtain ⟨k, hk⟩ := of_no hp
  refine ⟨k, ?_⟩
  unfold cycles_Odd.f
  rw [hk, Option.bind_some]
  exact odd_aux _

/-! ### perm.Then -/
def comp (p q : List Int) : List Int := p.map (fun x => rd q x)
theorem comp_length (p q : List Int) : (comp p q).length = p.length := by simp [comp]
theorem then_l0 {p q : List Int} (hp : IsPerm p) (hl : q.length = p.length) : ∀ (d k i : Nat), i + d = p.length → d < k →
    perm_Then.l0 k p q ((comp p q).take i ++ List.replicate (p.length - i) 0) (p.length : Int) (i : Int) = some (comp p q, 0) := by
  have hlen := hp.len
  intro d
  induction d with
  | zero =>
    intro k i hi hk
    obtain ⟨k, rfl⟩ : ∃ m, k = m + 1 := ⟨k - 1, by omega⟩
    simp only [perm_Then.l0]
    rw [if_neg (by omega), List.take_of_length_le (by rw [comp_length]; omega), show p.length - i = 0 by omega]
    simp
  | succ d ih =>
    intro k i hi hk
    obtain ⟨k, rfl⟩ : ∃ m, k = m + 1 := ⟨k - 1, by omega⟩
    have hlt : i < p.length := by omega
    have hr := hp.rng _ (List.getElem_mem hlt)
    have htl : ((comp p q).take i).length = i := by rw [List.length_take, comp_length]; omega
    simp only [perm_Then.l0]
    rw [if_pos (by omega), if_pos (by omega), if_pos (by omega), rd_get p i hlt, if_pos (by omega), if_pos (by omega), if_pos (by rw [List.length_append, htl, List.length_replicate]; omega), wrap_succ (by omega) (by omega), Int.toNat_natCast]
    have e : ((comp p q).take i ++ List.replicate (p.length - i) 0).set i (rd q p[i]) = (comp p q).take (i + 1) ++ List.replicate (p.length - (i + 1)) 0 := by
      rw [List.set_append_right _ _ (by omega), htl, Nat.sub_self, show p.length - i = (p.length - (i + 1)) + 1 by omega, List.replicate_succ, List.set_cons_zero, List.take_succ_eq_append_getElem (by rw [comp_length]; exact hlt), List.append_assoc]
      simp [comp]
    rw [e]
    exact ih k (i + 1) (by omega) (by omega)
theorem then_yes {p q : List Int} (hp : IsPerm p) (hq : IsPerm q) (hl : q.length = p.length) : ∃ k, perm_Then.f k p q = some (comp p q, 0) := by
  refine ⟨p.length + q.length + 2, ?_⟩
  unfold perm_Then.f
  rw [right_spec p _ (by omega), right_spec q _ (by omega)]
  simp only [Option.bind_some]
  rw [decide_eq_true hp, if_pos rfl, decide_eq_true hq, if_pos rfl]
  simp only [perm_Then.j0]
  rw [if_neg (by simp [hl]), if_pos (by omega), if_pos (by have := hp.len; omega), Int.toNat_natCast]
  simp only [Option.bind_some, List.length_replicate]
  have := then_l0 hp hl p.length (p.length + q.length + 1) 0 (by omega) (by omega)
  simpa using this
theorem then_no {p q : List Int} (h : ¬ (IsPerm p ∧ IsPerm q ∧ q.length = p.length)) : ∃ k, perm_Then.f k p q = some ([], 1) := by
  refine ⟨p.length + q.length + 2, ?_⟩
  have j0t : ∀ x, x = true → perm_Then.j0 (p.length + q.length + 2) p q x = some ([], 1) := by
    rintro x rfl
    simp only [perm_Then.j0]
    rfl
  unfold perm_Then.f
  rw [right_spec p _ (by omega), right_spec q _ (by omega)]
  simp only [Option.bind_some]
  by_cases hp : IsPerm p
  · rw [decide_eq_true hp, if_pos rfl]
    by_cases hq : IsPerm q
    · rw [decide_eq_true hq, if_pos rfl]
      exact j0t _ (by
        rw [bne_iff_ne]
        intro e
        exact h ⟨hp, hq, by omega⟩)
    · rw [decide_eq_false hq, if_neg (by decide)]
      exact j0t _ rfl
  · rw [decide_eq_false hp, if_neg (by decide)]
    exact j0t _ rfl
theorem then_spec (p q : List Int) : ∃ k t, perm_Then.f k p q = some t ∧ ((IsPerm p ∧ IsPerm q ∧ q.length = p.length → t = (comp p q, 0)) ∧ (¬ (IsPerm p ∧ IsPerm q ∧ q.length = p.length) → t = ([], 1))) := by
  by_cases h : IsPerm p ∧ IsPerm q ∧ q.length = p.length
  · obtain ⟨k, hk⟩ := then_yes h.1 h.2.1 h.2.2
    exact ⟨k, _, hk, fun _ => rfl, fun h' => absurd h h'⟩
  · obtain ⟨k, hk⟩ := then_no h
    exact ⟨k, _, hk, fun h' => absurd h' h, fun _ => rfl⟩
theorem rd_comp {p q : List Int} {x : Nat} (hx : x < p.length) : rd (comp p q) (x : Int) = rd q (rd p (x : Int)) := by
  rw [rd_get _ x (by rw [comp_length]; exact hx), rd_get p x hx]
  simp [comp]
theorem F_comp {p q : List Int} (hp : IsPerm p) {x : Nat} (hx : x < p.length) : F (comp p q) x = F q (F p x) := by
  show (rd (comp p q) (x : Int)).toNat = (rd q ((F p x : Nat) : Int)).toNat
  rw [rd_comp hx, rd_F hp hx]

/-! ### a list whose function is a permutation -/
theorem isPerm_of {s : List Int} (h20 : s.length ≤ 20) (hr : ∀ x, x < s.length → 0 ≤ rd s (x : Int) ∧ rd s (x : Int) < s.length) (hi : ∀ x y, x < s.length → y < s.length → rd s (x : Int) = rd s (y : Int) → x = y) : IsPerm s := by
  refine ⟨h20, fun z hz => ?_, ?_⟩
  · obtain ⟨j, hj, rfl⟩ := List.mem_iff_getElem.1 hz
    have := hr j hj
    rwa [rd_get s j hj] at this
  · rw [List.Nodup, List.pairwise_iff_getElem]
    intro i j hi' hj hij e
    have := hi i j hi' hj (by rw [rd_get s i hi', rd_get s j hj, e])
    omega
theorem comp_isPerm {p q : List Int} (hp : IsPerm p) (hq : IsPerm q) (hl : q.length = p.length) : IsPerm (comp p q) := by
  have pp := permOn hp
  have pq := permOn hq
  have key : ∀ x, x < p.length → rd (comp p q) (x : Int) = ((F q (F p x) : Nat) : Int) := fun x hx => by
    rw [rd_comp hx, rd_F hp hx, rd_F hq (by rw [hl]; exact pp.lt x hx)]
  refine isPerm_of (by rw [comp_length]; exact hp.len) (fun x hx => ?_) (fun x y hx hy e => ?_)
  · rw [comp_length] at hx ⊢
    rw [key x hx]
    have := pq.lt (F p x) (by rw [hl]; exact pp.lt x hx)
    omega
  · rw [comp_length] at hx hy
    rw [key x hx, key y hy] at e
    have h1 := pp.lt x hx
    have h2 := pp.lt y hy
    exact pp.inj x y hx hy (pq.inj _ _ (by omega) (by omega) (by omega))

def swapped (p : List Int) (i j : Nat) : List Int := (p.set i (rd p (j : Int))).set j (rd p (i : Int))
theorem rd_swapped {p : List Int} {i j x : Nat} (hi : i < p.length) (hj : j < p.length) (hx : x < p.length) : rd (swapped p i j) (x : Int) = if x = j then rd p (i : Int) else if x = i then rd p (j : Int) else rd p (x : Int) := by
  rw [rd_get _ x (by simp [swapped]; exact hx), rd_get p x hx]
  unfold swapped
  rw [List.getElem_set]
  by_cases h1 : x = j
  · subst h1; simp
  · rw [if_neg (fun e => h1 e.symm), if_neg h1, List.getElem_set]
    by_cases h2 : x = i
    · subst h2; simp
    · rw [if_neg (fun e => h2 e.symm), if_neg h2]
theorem swapped_spec {p : List Int} (hp : IsPerm p) {i j : Nat} (hi : i < p.length) (hj : j < p.length) (hij : i ≠ j) : IsPerm (swapped p i j) ∧ Swap (F p) (F (swapped p i j)) i j := by
  have hl : (swapped p i j).length = p.length := by simp [swapped]
  have pp := permOn hp
  refine ⟨isPerm_of (by rw [hl]; exact hp.len) (fun x hx => ?_) (fun x y hx hy e => ?_), ?_, ?_, ?_⟩
  · rw [hl] at hx ⊢
    rw [rd_swapped hi hj hx]
    have h1 := rd_F hp hi
    have h2 := rd_F hp hj
    have h3 := rd_F hp hx
    have := pp.lt i hi
    have := pp.lt j hj
    have := pp.lt x hx
    split
    · omega
    · split <;> omega
  · rw [hl] at hx hy
    rw [rd_swapped hi hj hx, rd_swapped hi hj hy] at e
    have inj : ∀ a b, a < p.length → b < p.length → rd p (a : Int) = rd p (b : Int) → a = b := fun a b ha hb e => pp.inj a b ha hb (by show (rd p (a : Int)).toNat = (rd p (b : Int)).toNat; rw [e])
    split at e
    · split at e
      · omega
      · split at e
        · have := inj _ _ hi hj e; omega
        · have := inj _ _ hi hy e; omega
    · split at e
      · split at e
        · have := inj _ _ hj hi e; omega
        · split at e
          · omega
          · have := inj _ _ hj hy e; omega
      · split at e
        · have := inj _ _ hx hi e; omega
        · split at e
          · have := inj _ _ hx hj e; omega
          · exact inj _ _ hx hy e
  · show (rd (swapped p i j) (i : Int)).toNat = (rd p (j : Int)).toNat
    rw [rd_swapped hi hj hi, if_neg hij, if_pos rfl]
  · show (rd (swapped p i j) (j : Int)).toNat = (rd p (i : Int)).toNat
    rw [rd_swapped hi hj hj, if_pos rfl]
  · intro x h1 h2
    by_cases hx : x < p.length
    · show (rd (swapped p i j) (x : Int)).toNat = (rd p (x : Int)).toNat
      rw [rd_swapped hi hj hx, if_neg h2, if_neg h1]
    · show (rd (swapped p i j) (x : Int)).toNat = (rd p (x : Int)).toNat
      unfold rd
      rw [Int.toNat_natCast, List.getD_eq_getElem?_getD, List.getD_eq_getElem?_getD, List.getElem?_eq_none (by rw [hl]; omega), List.getElem?_eq_none (by omega)]

/-- The law's last part. -/
theorem j2_true {p : List Int} (hp : IsPerm p) {i j : Nat} (hi : i < p.length) (hj : j < p.length) (hij : i ≠ j) : ∃ k, lotdrawerkeep_CyclesOdd.j2 k p (i : Int) (j : Int) (decide ((p.length - cnt p.length (F p)) % 2 = 1)) false = some true := by
  obtain ⟨hs, hsw⟩ := swapped_spec hp hi hj hij
  have hl : (swapped p i j).length = p.length := by simp [swapped]
  obtain ⟨k1, h1⟩ := odd_yes hs
  obtain ⟨k2, h2⟩ := of_yes hp
  obtain ⟨k3, h3⟩ := of_yes hs
  have pp := permOn hp
  have ps := permOn hs
  rw [hl] at ps
  have hc := swap_cnt pp ps hi hj hij hsw
  have c1 := cnt_le (n := p.length) (f := F p)
  have c2 := cnt_le (n := p.length) (f := F (swapped p i j))
  have h20 := hp.len
  refine ⟨(k1 + k2 + k3) + 1, ?_⟩
  have g1 := at_rounds (cycles_Odd.mono _) (show k1 ≤ k1 + k2 + k3 by omega) h1
  have g2 := at_rounds (cycles_Of.mono _) (show k2 ≤ k1 + k2 + k3 by omega) h2
  have g3 := at_rounds (cycles_Of.mono _) (show k3 ≤ k1 + k2 + k3 by omega) h3
  simp only [lotdrawerkeep_CyclesOdd.j2]
  have hcl : slices_Clone_int_int.f p = some p := by
    unfold slices_Clone_int_int.f
    simp only [Option.bind_some, List.length_nil, List.nil_append]
    rw [if_pos (by omega)]
  rw [if_neg (by decide), hcl]
  simp only [Option.bind_some]
  rw [if_pos (by omega), if_pos (by omega), if_pos (by omega), if_pos (by omega), Int.toNat_natCast, Int.toNat_natCast]
  change (cycles_Odd.f (k1 + k2 + k3) (swapped p i j)).bind _ = some true
  rw [g1]
  simp only [Option.bind_some]
  rw [g2]
  simp only [Option.bind_some]
  change (cycles_Of.f (k1 + k2 + k3) (swapped p i j)).bind _ = some true
  rw [g3]
  simp only [Option.bind_some, if_true]
  rw [hl, ofSpec_length p, ofSpec_length (swapped p i j), hl]
  rcases hc with hc | hc
  · rw [if_pos (by
      rw [bne_iff_ne, ne_eq, decide_eq_decide]
      omega), wrap_small (by omega) (by omega), if_neg (by omega), show ((cnt p.length (F p) : Nat) : Int) - (cnt p.length (F (swapped p i j)) : Nat) = -1 by omega]
    rfl
  · rw [if_pos (by
      rw [bne_iff_ne, ne_eq, decide_eq_decide]
      omega), wrap_small (by omega) (by omega), if_pos (by omega)]

theorem CyclesOdd : lotdrawerkeep_CyclesOdd.Pure := by
  intro p q a b _ _ _ _ _ _ _ _
  have run : ∀ {ea eb : Bool × Int} {t : List Int × Int} {k0 : Nat}, cycles_Odd.f k0 p = some ea → cycles_Odd.f k0 q = some eb → perm_Then.f k0 p q = some t → 50 ≤ k0 →
      (∃ k, (if ea.2 = 0 then (if eb.2 = 0 then lotdrawerkeep_CyclesOdd.j0 k p a b ea.1 eb.1 t.1 (t.2 != 0) else lotdrawerkeep_CyclesOdd.j0 k p a b ea.1 eb.1 t.1 true) else lotdrawerkeep_CyclesOdd.j0 k p a b ea.1 eb.1 t.1 true) = some true) → ∃ k, lotdrawerkeep_CyclesOdd.f k p q a b = some true := by
    intro ea eb t k0 h1 h2 h3 h4 ⟨k, hk⟩
    refine ⟨k0 + k, ?_⟩
    unfold lotdrawerkeep_CyclesOdd.f
    rw [at_rounds lotdrawerkeep_alive23.mono (show 50 ≤ k0 + k by omega) alive23]
    simp only [Option.bind_some, if_true]
    rw [at_rounds (cycles_Odd.mono p) (show k0 ≤ k0 + k by omega) h1]
    simp only [Option.bind_some]
    rw [at_rounds (cycles_Odd.mono q) (show k0 ≤ k0 + k by omega) h2]
    simp only [Option.bind_some]
    rw [at_rounds (perm_Then.mono p q) (show k0 ≤ k0 + k by omega) h3]
    simp only [Option.bind_some]
    refine at_rounds (g := fun k => if ea.2 = 0 then (if eb.2 = 0 then lotdrawerkeep_CyclesOdd.j0 k p a b ea.1 eb.1 t.1 (t.2 != 0) else lotdrawerkeep_CyclesOdd.j0 k p a b ea.1 eb.1 t.1 true) else lotdrawerkeep_CyclesOdd.j0 k p a b ea.1 eb.1 t.1 true) (fun k => ?_) (show k ≤ k0 + k by omega) hk
    exact LeO.ite (LeO.ite ((lotdrawerkeep_CyclesOdd.mono_l k).1 _ _ _ _ _ _ _) ((lotdrawerkeep_CyclesOdd.mono_l k).1 _ _ _ _ _ _ _)) ((lotdrawerkeep_CyclesOdd.mono_l k).1 _ _ _ _ _ _ _)
  have j0t : ∀ x y z, lotdrawerkeep_CyclesOdd.j0 1 p a b x y z true = some true := fun x y z => rfl
  obtain ⟨k3, tt, h3, hty, htn⟩ := then_spec p q
  have oddp : ∃ k ea, cycles_Odd.f k p = some ea ∧ ((IsPerm p ∧ ea = (decide ((p.length - cnt p.length (F p)) % 2 = 1), 0)) ∨ (¬ IsPerm p ∧ ea = (false, 1))) := by
    by_cases hp : IsPerm p
    · obtain ⟨k, hk⟩ := odd_yes hp
      exact ⟨k, _, hk, Or.inl ⟨hp, rfl⟩⟩
    · obtain ⟨k, hk⟩ := odd_no hp
      exact ⟨k, _, hk, Or.inr ⟨hp, rfl⟩⟩
  have oddq : ∃ k ea, cycles_Odd.f k q = some ea ∧ ((IsPerm q ∧ ea = (decide ((q.length - cnt q.length (F q)) % 2 = 1), 0)) ∨ (¬ IsPerm q ∧ ea = (false, 1))) := by
    by_cases hp : IsPerm q
    · obtain ⟨k, hk⟩ := odd_yes hp
      exact ⟨k, _, hk, Or.inl ⟨hp, rfl⟩⟩
    · obtain ⟨k, hk⟩ := odd_no hp
      exact ⟨k, _, hk, Or.inr ⟨hp, rfl⟩⟩
  obtain ⟨k1, ea, h1, hea⟩ := oddp
  obtain ⟨k2, eb, h2, heb⟩ := oddq
  refine run (k0 := k1 + k2 + k3 + 50) (at_rounds (cycles_Odd.mono p) (by omega) h1) (at_rounds (cycles_Odd.mono q) (by omega) h2) (at_rounds (perm_Then.mono p q) (by omega) h3) (by omega) ?_
  rcases hea with ⟨hp, rfl⟩ | ⟨hp, rfl⟩
  · rcases heb with ⟨hq, rfl⟩ | ⟨hq, rfl⟩
    · by_cases hl : q.length = p.length
      · obtain rfl := hty ⟨hp, hq, hl⟩
        simp only [if_true]
        have hcp := comp_isPerm hp hq hl
        obtain ⟨k4, h4⟩ := odd_yes hcp
        have h20 := hp.len
        have hpar : (p.length - cnt p.length (F (comp p q))) % 2 = ((q.length - cnt q.length (F q)) + (p.length - cnt p.length (F p))) % 2 := by
          have pq := permOn hq
          rw [hl] at pq ⊢
          have h5 := parity pq p.length (F p) (permOn hp) (Nat.le_refl _) (fun x h1 h2 => by omega)
          rw [← h5]
          have pc := permOn hcp
          rw [comp_length] at pc
          rw [cnt_congr (fun x hx => F_comp hp hx) pc]
        have hx : (decide (((comp p q).length - cnt (comp p q).length (F (comp p q))) % 2 = 1) != (decide ((p.length - cnt p.length (F p)) % 2 = 1) != decide ((q.length - cnt q.length (F q)) % 2 = 1))) = false := by
          rw [comp_length]
          by_cases e1 : (p.length - cnt p.length (F p)) % 2 = 1 <;> by_cases e2 : (q.length - cnt q.length (F q)) % 2 = 1
          · rw [decide_eq_true e1, decide_eq_true e2, decide_eq_false (by omega)]; rfl
          · rw [decide_eq_true e1, decide_eq_false e2, decide_eq_true (by omega)]; rfl
          · rw [decide_eq_false e1, decide_eq_true e2, decide_eq_true (by omega)]; rfl
          · rw [decide_eq_false e1, decide_eq_false e2, decide_eq_false (by omega)]; rfl
        have j1ok : ∃ k, lotdrawerkeep_CyclesOdd.j1 k p a b (decide ((p.length - cnt p.length (F p)) % 2 = 1)) false = some true := by
          have j2t : ∀ x, lotdrawerkeep_CyclesOdd.j2 1 p a b x true = some true := fun x => rfl
          by_cases c1 : a < 0
          · exact ⟨2, by simp only [lotdrawerkeep_CyclesOdd.j1]; rw [if_neg (by decide), if_pos c1]; exact j2t _⟩
          by_cases c2 : b < 0
          · exact ⟨2, by simp only [lotdrawerkeep_CyclesOdd.j1]; rw [if_neg (by decide), if_neg c1, if_pos c2]; exact j2t _⟩
          by_cases c3 : a ≥ (p.length : Int)
          · exact ⟨2, by simp only [lotdrawerkeep_CyclesOdd.j1]; rw [if_neg (by decide), if_neg c1, if_neg c2, if_pos c3]; exact j2t _⟩
          by_cases c4 : b ≥ (p.length : Int)
          · exact ⟨2, by simp only [lotdrawerkeep_CyclesOdd.j1]; rw [if_neg (by decide), if_neg c1, if_neg c2, if_neg c3, if_pos c4]; exact j2t _⟩
          by_cases c5 : a = b
          · exact ⟨2, by simp only [lotdrawerkeep_CyclesOdd.j1]; rw [if_neg (by decide), if_neg c1, if_neg c2, if_neg c3, if_neg c4, beq_iff_eq.2 c5]; exact j2t _⟩
          obtain ⟨i, rfl⟩ := Int.eq_ofNat_of_zero_le (show 0 ≤ a by omega)
          obtain ⟨j, rfl⟩ := Int.eq_ofNat_of_zero_le (show 0 ≤ b by omega)
          obtain ⟨k, hk⟩ := j2_true hp (i := i) (j := j) (by omega) (by omega) (by omega)
          exact ⟨k + 1, by simp only [lotdrawerkeep_CyclesOdd.j1]; rw [if_neg (by decide), if_neg c1, if_neg c2, if_neg c3, if_neg c4, beq_eq_false_iff_ne.2 c5]; exact hk⟩
        obtain ⟨k5, h5⟩ := j1ok
        refine ⟨k4 + k5 + 1, ?_⟩
        simp only [lotdrawerkeep_CyclesOdd.j0]
        rw [if_neg (by decide), at_rounds (cycles_Odd.mono _) (show k4 ≤ k4 + k5 by omega) h4]
        simp only [Option.bind_some, if_true]
        rw [hx]
        exact at_rounds (fun k => (lotdrawerkeep_CyclesOdd.mono_l k).2.1 _ _ _ _ _) (show k5 ≤ k4 + k5 by omega) h5
      · obtain rfl := htn (fun h => hl h.2.2)
        refine ⟨1, ?_⟩
        simp only [if_true]
        exact j0t _ _ _
    · refine ⟨1, ?_⟩
      simp only [if_true]
      rw [if_neg (by decide)]
      exact j0t _ _ _
  · refine ⟨1, ?_⟩
    rw [if_neg (by decide)]
    exact j0t _ _ _
end Go.Proofs.Ytohknfbfmobggaa.Pure
