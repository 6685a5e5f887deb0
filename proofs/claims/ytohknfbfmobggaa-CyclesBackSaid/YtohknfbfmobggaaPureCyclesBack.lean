/- CyclesBack: an order is its rounds, and what is written in a row is read again. For every input. -/
import Derived.Test.YtohknfbfmobggaaCy20
import Derived.Test.YtohknfbfmobggaaPlGood
namespace Go.Proofs.Ytohknfbfmobggaa.Pure
open Go.RowKit Go.Proofs.Ytohknfbfmobggaa.Cy Go.Proofs.Ytohknfbfmobggaa.Pl Go.Proofs.Ytohknfbfmobggaa.Orb Go.Proofs.Ytohknfbfmobggaa.Gd Go.Proofs.YtohknfbfmobggaaW.PrintWords Go.Proofs.YtohknfbfmobggaaW.PrintLast

set_option linter.unusedVariables false
theorem alive23B : lotdrawerkeep_alive23.f 50 = some true := by decide +kernel
theorem wrap_ok {x : Int} (h0 : -1000000000 ≤ x) (h1 : x ≤ 1000000000) : wrap64 x = x := by unfold wrap64; omega
theorem rd_L2_get (S : List (List Int)) (i : Nat) (h : i < S.length) : rd_L2 S (i : Int) = S[i] := by simp [rd_L2, h]
theorem rd_set {o : List Int} {x : Nat} (v : Int) (hx : x < o.length) (y : Nat) : rd (o.set x v) (y : Int) = if y = x then v else rd o (y : Int) := by
  by_cases h : y = x
  · subst h; simp [rd, hx]
  · rw [if_neg h]
    simp [rd, Ne.symm h]

/-! ### Back -/
theorem back_l2 {n : Nat} {S : List (List Int)} {r : List Int} (i : Nat) (_hn : n ≤ 20) (hrn : r.length ≤ 20) (hnd : r.Nodup) (hrng : ∀ x ∈ r, 0 ≤ x ∧ x < (n : Int)) (o0 : List Int) (ho0 : ∀ x ∈ r, rd o0 x = -1) {res : List Int × Int}
    (next : ∀ o : List Int, o.length = n → Nx o r → (∀ x : Int, 0 ≤ x → x ∉ r → rd o x = rd o0 x) → ∃ k, cycles_Back.l1 k (n : Int) o S (S.length : Int) ((i : Int) + 1) = some res) (hi : i < 1000) :
    ∀ (d m : Nat) (o : List Int), m + d = r.length → o.length = n → (∀ j (h : j < r.length), j < m → rd o r[j] = r[(j + 1) % r.length]'(Nat.mod_lt _ (by omega))) → (∀ x : Int, 0 ≤ x → x ∉ r.take m → rd o x = rd o0 x) →
      ∃ k, cycles_Back.l2 k (n : Int) o r S (S.length : Int) (i : Int) r (r.length : Int) (m : Int) = some res := by
  intro d
  induction d with
  | zero =>
    intro m o hd hl hj hx
    obtain ⟨k, hk⟩ := next o hl (fun j h => hj j h (by omega)) (fun x h0 hx' => hx x h0 (fun hm => hx' (List.mem_of_mem_take hm)))
    refine ⟨k + 1, ?_⟩
    simp only [cycles_Back.l2]
    rw [if_neg (by omega), wrap_ok (by omega) (by omega)]
    exact hk
  | succ d ih =>
    intro m o hd hl hj hx
    have hm : m < r.length := by omega
    have hr := hrng r[m] (List.getElem_mem hm)
    obtain ⟨x, hxe⟩ := Int.eq_ofNat_of_zero_le hr.1
    have hnt : r[m] ∉ r.take m := by
      intro h
      obtain ⟨j, hj1, hj2, e⟩ := mem_take h
      exact nodup_ne hnd hj2 hm hj1 e
    have hlt : (m + 1) % r.length < r.length := Nat.mod_lt _ (by omega)
    obtain ⟨k, hk⟩ := ih (m + 1) (o.set x (r[(m + 1) % r.length]'hlt)) (by omega) (by simpa using hl) (fun j h hjm => by
        have hrj := hrng r[j] (List.getElem_mem h)
        obtain ⟨y, hye⟩ := Int.eq_ofNat_of_zero_le hrj.1
        rw [hye, rd_set _ (by omega)]
        by_cases e : y = x
        · rw [if_pos e]
          have : j = m := nodup_get hnd h hm (by rw [hye, hxe, e])
          subst this
          rfl
        · rw [if_neg e, ← hye]
          refine hj j h ?_
          rcases Nat.lt_or_ge j m with h' | h'
          · exact h'
          · have : j = m := by omega
            subst this
            rw [hye] at hxe
            exact absurd (Int.ofNat.inj hxe) e) (fun y hy0 hy => by
        obtain ⟨y', rfl⟩ := Int.eq_ofNat_of_zero_le hy0
        have e2 : r.take (m + 1) = r.take m ++ [r[m]] := take_snoc r m hm
        rw [e2] at hy
        rw [rd_set _ (by omega)]
        by_cases e : y' = x
        · subst e
          exact absurd (List.mem_append_right _ (by rw [hxe]; exact List.mem_singleton.2 rfl)) hy
        · rw [if_neg e]
          exact hx _ hy0 (fun h => hy (List.mem_append_left _ h)))
    refine ⟨k + 1, ?_⟩
    simp only [cycles_Back.l2]
    have e1 : rd o r[m] = -1 := by rw [hx _ hr.1 hnt]; exact ho0 _ (List.getElem_mem hm)
    have e3 : Int.tmod ((m : Int) + 1) (r.length : Int) = (((m + 1) % r.length : Nat) : Int) := by
      rw [Int.tmod_eq_emod_of_nonneg (by omega)]
      push_cast
      rfl
    have e4 : rd r (((m + 1) % r.length : Nat) : Int) = r[(m + 1) % r.length]'hlt := rd_get r _ hlt
    rw [if_pos (by omega), if_pos (by omega), if_pos (by omega), rd_get r m hm, if_neg (by omega), if_neg (by omega), if_pos (by omega), if_pos (by omega), e1, if_neg (by omega), if_neg (by omega), wrap_ok (by omega) (by omega), e3, if_pos (by omega), if_pos (by omega), e4, hxe, Int.toNat_natCast]
    exact hk
theorem back_l1 {n : Nat} {S : List (List Int)} (hS : IsPerm S.flatten) (hn : n = S.flatten.length) (hlen : S.length ≤ 500) {res : List Int × Int}
    (last : ∀ o : List Int, o.length = n → Rel S o → ∃ k, ((perm_Right.f k o).bind fun t257 => (if t257 = true then (some (o, (0 : Int))) else (some (([] : List Int), (1 : Int))))) = some res) :
    ∀ (d i : Nat) (o : List Int), i + d = S.length → o.length = n → (∀ r ∈ S.take i, Nx o r) → (∀ r ∈ S.drop i, ∀ x ∈ r, rd o x = -1) → ∃ k, cycles_Back.l1 k (n : Int) o S (S.length : Int) (i : Int) = some res := by
  have h20 := hS.len
  intro d
  induction d with
  | zero =>
    intro i o hd hl h1 h2
    obtain ⟨k, hk⟩ := last o hl (fun r hr => h1 r (by rw [List.take_of_length_le (by omega)]; exact hr))
    refine ⟨k + 1, ?_⟩
    simp only [cycles_Back.l1]
    rw [if_neg (by omega)]
    exact hk
  | succ d ih =>
    intro i o hd hl h1 h2
    have hi : i < S.length := by omega
    have hmem : S[i] ∈ S := List.getElem_mem hi
    have hnd := row_nodup hS.nd hmem
    have hrng : ∀ x ∈ S[i], 0 ≤ x ∧ x < (n : Int) := fun x hx => by rw [hn]; exact hS.rng x (List.mem_flatten.2 ⟨_, hmem, hx⟩)
    have hrl : S[i].length ≤ 20 := by
      have := (List.sublist_flatten_of_mem hmem).length_le
      omega
    have hpw := List.pairwise_iff_getElem.1 (List.pairwise_flatten.1 hS.nd).2
    obtain ⟨k, hk⟩ := back_l2 (S := S) i (by omega) hrl hnd hrng o (h2 _ (by rw [List.drop_eq_getElem_cons hi]; exact List.mem_cons_self)) (res := res) (fun o' hl' hN hk' => by
        refine ih (i + 1) o' (by omega) hl' (fun r hr => ?_) (fun r hr x hx => ?_)
        · rw [List.take_succ_eq_append_getElem hi] at hr
          rcases List.mem_append.1 hr with hr | hr
          · have hN0 := h1 r hr
            obtain ⟨j, hj, e⟩ := List.mem_iff_getElem.1 hr
            rw [List.length_take] at hj
            rw [List.getElem_take] at e
            intro c hc
            have hcm : r[c] ∈ r := List.getElem_mem hc
            have hmr : r ∈ S := List.mem_of_mem_take hr
            have := hS.rng _ (List.mem_flatten.2 ⟨_, hmr, hcm⟩)
            rw [hk' r[c] this.1 (fun hm => by
              have h5 := hpw j i (by omega) hi (by omega) r[c] (by rw [e]; exact hcm) r[c] hm
              exact h5 rfl)]
            exact hN0 c hc
          · rw [List.mem_singleton.1 hr]
            exact hN
        · have hr' : r ∈ S.drop i := List.mem_of_mem_drop (i := 1) (by rw [List.drop_drop]; exact hr)
          obtain ⟨j, hj, e⟩ := List.mem_iff_getElem.1 hr
          rw [List.length_drop] at hj
          rw [List.getElem_drop] at e
          have hmr : r ∈ S := List.mem_of_mem_drop hr
          have := hS.rng _ (List.mem_flatten.2 ⟨_, hmr, hx⟩)
          rw [hk' x this.1 (fun hm => by
            have h5 := hpw i (i + 1 + j) hi (by omega) (by omega) x hm x (by rw [e]; exact hx)
            exact h5 rfl)]
          exact h2 r hr' x hx) (by omega) S[i].length 0 o (by omega) hl (fun j _ h => absurd h (by omega)) (fun _ _ _ => rfl)
    refine ⟨k + 1, ?_⟩
    simp only [cycles_Back.l1]
    rw [if_pos (by omega), if_pos (by omega), if_pos (by omega), rd_L2_get S i hi]
    exact hk
theorem sum_take (S : List (List Int)) (i : Nat) (h : i < S.length) : (S.take (i + 1)).flatten.length = (S.take i).flatten.length + S[i].length := by
  rw [List.take_succ_eq_append_getElem h, List.flatten_append, List.length_append]
  simp
theorem flat_take_le (S : List (List Int)) (i : Nat) : (S.take i).flatten.length ≤ S.flatten.length := by
  have : S.flatten = (S.take i).flatten ++ (S.drop i).flatten := by rw [← List.flatten_append, List.take_append_drop]
  rw [this, List.length_append]
  omega
theorem back_l0 (S : List (List Int)) (hS : S.flatten.length ≤ 20) (hlen : S.length ≤ 500) (k : Nat) {res : List Int × Int} (hk : cycles_Back.l1 k (S.flatten.length : Int) (List.replicate S.flatten.length (-1)) S (S.length : Int) 0 = some res) :
    ∀ (d i : Nat), i + d = S.length → cycles_Back.l0 (d + 1 + k) S ((S.take i).flatten.length : Int) S (S.length : Int) (i : Int) = some res := by
  intro d
  induction d with
  | zero =>
    intro i hi
    rw [show 0 + 1 + k = k + 1 by omega]
    simp only [cycles_Back.l0]
    rw [if_neg (by omega), List.take_of_length_le (by omega), if_neg (by omega)]
    have : slices_Repeat_int_int.f (([(-1)] : List Int)) (S.flatten.length : Int) = some (List.replicate S.flatten.length (-1)) := by
      unfold slices_Repeat_int_int.f
      rw [if_pos ⟨rfl, by omega, by omega⟩, Int.toNat_natCast]
      rfl
    rw [this]
    exact hk
  | succ d ih =>
    intro i hi
    have hi' : i < S.length := by omega
    have h1 := flat_take_le S (i + 1)
    have h2 := sum_take S i hi'
    rw [show d + 1 + 1 + k = (d + 1 + k) + 1 by omega]
    simp only [cycles_Back.l0]
    rw [if_pos (by omega), if_pos (by omega), if_pos (by omega), rd_L2_get S i hi', wrap_ok (by omega) (by omega), wrap_ok (by omega) (by omega)]
    have := ih (i + 1) (by omega)
    rw [h2] at this
    exact this
theorem rd_rep (n : Nat) (x : Int) (h0 : 0 ≤ x) (h : x < (n : Int)) : rd (List.replicate n (-1)) x = -1 := by
  obtain ⟨y, rfl⟩ := Int.eq_ofNat_of_zero_le h0
  rw [rd_get _ y (by simp; omega)]
  simp
/-- Back gives the order whose rounds they are. -/
theorem back_spec {S : List (List Int)} (hS : IsPerm S.flatten) (hlen : S.length ≤ 500) : ∃ k q, cycles_Back.f k S = some (q, 0) ∧ q.length = S.flatten.length ∧ Rel S q := by
  have h20 := hS.len
  have key : ∃ q : List Int, q.length = S.flatten.length ∧ Rel S q := by
    refine Classical.byContradiction fun hno => ?_
    obtain ⟨k, hk⟩ := back_l1 hS rfl hlen (res := ([], 7)) (fun o hl hr => absurd ⟨o, hl, hr⟩ hno) S.length 0 (List.replicate S.flatten.length (-1)) (by omega) (by simp) (by simp) (fun r hr x hx => by
      have := hS.rng x (List.mem_flatten.2 ⟨r, by simpa using hr, hx⟩)
      exact rd_rep _ _ this.1 this.2)
    obtain ⟨k2, hk2⟩ := back_l1 hS rfl hlen (res := ([], 8)) (fun o hl hr => absurd ⟨o, hl, hr⟩ hno) S.length 0 (List.replicate S.flatten.length (-1)) (by omega) (by simp) (by simp) (fun r hr x hx => by
      have := hS.rng x (List.mem_flatten.2 ⟨r, by simpa using hr, hx⟩)
      exact rd_rep _ _ this.1 this.2)
    have e1 := at_rounds (fun k => (cycles_Back.mono_l k).2.1 (S.flatten.length : Int) (List.replicate S.flatten.length (-1)) S (S.length : Int) 0) (show k ≤ k + k2 by omega) hk
    have e2 := at_rounds (fun k => (cycles_Back.mono_l k).2.1 (S.flatten.length : Int) (List.replicate S.flatten.length (-1)) S (S.length : Int) 0) (show k2 ≤ k + k2 by omega) hk2
    rw [e1] at e2
    simp at e2
  obtain ⟨q, hq, hr⟩ := key
  obtain ⟨k, hk⟩ := back_l1 hS rfl hlen (res := (q, 0)) (fun o hl hr' => by
    obtain rfl := rel_unique hS hl hq hr' hr
    refine ⟨o.length + 1, ?_⟩
    rw [right_spec o _ (by omega)]
    simp only [Option.bind_some]
    rw [decide_eq_true (rel_perm hS hl hr'), if_pos rfl]) S.length 0 (List.replicate S.flatten.length (-1)) (by omega) (by simp) (by simp) (fun r hr x hx => by
      have := hS.rng x (List.mem_flatten.2 ⟨r, by simpa using hr, hx⟩)
      exact rd_rep _ _ this.1 this.2)
  exact ⟨_, q, back_l0 S h20 hlen k hk S.length 0 (by omega), hq, hr⟩

/-! ### Round -/
structure Lies (T : List (List Int)) (most : Int) : Prop where
  head : ∀ r ∈ T, HeadRow r
  rise : (T.map hdOf).Pairwise (· < ·)
  all : ∀ r ∈ T, hdOf r ≤ most
  last : T = [] ∨ ∃ T0 r0, T = T0 ++ [r0] ∧ hdOf r0 = most
theorem round_l0 {p : List Int} (hp : IsPerm p) : ∀ (d i : Nat) (T : List (List Int)) (most : Int), i + d = p.length → T.flatten = p.take i → T.length ≤ i → Lies T most → -1 ≤ most → (T = [] → most = -1) →
    ∃ S, S.flatten = p ∧ (∀ r ∈ S, HeadRow r) ∧ (S.map hdOf).Pairwise (· < ·) ∧ S.length ≤ p.length ∧ ∀ kb q e, cycles_Back.f kb S = some (q, e) → ∃ k, cycles_Round.l0 k T most p (p.length : Int) (i : Int) = some (q, e) := by
  have h20 := hp.len
  intro d
  induction d with
  | zero =>
    intro i T most hd hf hl hL _ _
    refine ⟨T, by rw [hf, List.take_of_length_le (by omega)], hL.head, hL.rise, by omega, fun kb q e h => ⟨kb + 1, ?_⟩⟩
    simp only [cycles_Round.l0]
    rw [if_neg (by omega), h]
    rfl
  | succ d ih =>
    intro i T most hd hf hl hL hm hT
    have hi : i < p.length := by omega
    have hx := hp.rng p[i] (List.getElem_mem hi)
    by_cases c : p[i] > most
    · obtain ⟨S, h1, h2, h3, h4, h5⟩ := ih (i + 1) (T ++ [[p[i]]]) p[i] (by omega) (by rw [List.flatten_append, hf, take_snoc p i hi]; simp) (by simp; omega) ⟨fun r hr => by
          rcases List.mem_append.1 hr with hr | hr
          · exact hL.head r hr
          · rw [List.mem_singleton.1 hr]
            exact ⟨by simp, fun x hx => by rw [List.mem_singleton.1 hx, hdOf_cons]; exact Int.le_refl _⟩,
          by
            rw [List.map_append, List.pairwise_append]
            refine ⟨hL.rise, by simp, fun a ha b hb => ?_⟩
            obtain ⟨r, hr, rfl⟩ := List.mem_map.1 ha
            have := hL.all r hr
            simp only [List.map_cons, List.map_nil, hdOf_cons, List.mem_singleton] at hb
            omega,
          fun r hr => by
            rcases List.mem_append.1 hr with hr | hr
            · have := hL.all r hr
              omega
            · rw [List.mem_singleton.1 hr, hdOf_cons]
              exact Int.le_refl _,
          Or.inr ⟨T, _, rfl, rfl⟩⟩ (by omega) (by simp)
      refine ⟨S, h1, h2, h3, h4, fun kb q e hb => ?_⟩
      obtain ⟨k, hk⟩ := h5 kb q e hb
      refine ⟨k + 1, ?_⟩
      simp only [cycles_Round.l0]
      have e1 : wrap64 (((T ++ [[]] : List (List Int)).length : Int) - 1) = (T.length : Int) := by
        rw [wrap_ok (by simp only [List.length_append, List.length_cons, List.length_nil]; omega) (by simp only [List.length_append, List.length_cons, List.length_nil]; omega)]
        simp
      have e2 : rd_L2 (T ++ [[]] : List (List Int)) (T.length : Int) = [] := by rw [rd_L2_get _ _ (by simp)]; simp
      rw [if_pos (by omega), if_pos (by omega), if_pos (by omega), rd_get p i hi, if_pos c, if_pos (by omega)]
      simp only [Option.bind_some]
      rw [e1, if_pos (by omega), if_pos (by simp; omega), e2, if_pos (by simp), Int.toNat_natCast, wrap_ok (by omega) (by omega)]
      have e3 : (T ++ [[]] : List (List Int)).set T.length ([] ++ [p[i]]) = T ++ [[p[i]]] := by
        rw [List.set_append_right _ _ (Nat.le_refl _)]
        simp
      rw [e3]
      exact hk
    · have hne : T ≠ [] := fun e => by
        have := hT e
        omega
      rcases hL.last with e | ⟨T0, r0, rfl, hr0⟩
      · exact absurd e hne
      have hr0h := hL.head r0 (by simp)
      have hhd : hdOf (r0 ++ [p[i]]) = hdOf r0 := by
        cases r0 with
        | nil => exact absurd rfl hr0h.ne
        | cons a l => rfl
      obtain ⟨S, h1, h2, h3, h4, h5⟩ := ih (i + 1) (T0 ++ [r0 ++ [p[i]]]) most (by omega) (by
          rw [take_snoc p i hi, ← hf]; simp) (by simp at hl ⊢; omega) ⟨fun r hr => by
          rcases List.mem_append.1 hr with hr | hr
          · exact hL.head r (List.mem_append_left _ hr)
          · rw [List.mem_singleton.1 hr]
            refine ⟨by simp, fun x hx => ?_⟩
            rw [hhd]
            rcases List.mem_append.1 hx with hx | hx
            · exact hr0h.le x hx
            · rw [List.mem_singleton.1 hx]
              omega,
          by
            have := hL.rise
            rw [List.map_append] at this ⊢
            simpa [hhd] using this,
          fun r hr => by
            rcases List.mem_append.1 hr with hr | hr
            · exact hL.all r (List.mem_append_left _ hr)
            · rw [List.mem_singleton.1 hr, hhd]
              omega,
          Or.inr ⟨T0, _, rfl, by rw [hhd]; exact hr0⟩⟩ hm (by simp)
      refine ⟨S, h1, h2, h3, h4, fun kb q e hb => ?_⟩
      obtain ⟨k, hk⟩ := h5 kb q e hb
      refine ⟨k + 1, ?_⟩
      simp only [cycles_Round.l0]
      have hl' : T0.length + 1 ≤ i := by simpa using hl
      have e1 : wrap64 (((T0 ++ [r0] : List (List Int)).length : Int) - 1) = (T0.length : Int) := by
        rw [wrap_ok (by simp only [List.length_append, List.length_cons, List.length_nil]; omega) (by simp only [List.length_append, List.length_cons, List.length_nil]; omega)]
        simp
      have e2 : rd_L2 (T0 ++ [r0] : List (List Int)) (T0.length : Int) = r0 := by rw [rd_L2_get _ _ (by simp)]; simp
      have hrl : r0.length ≤ 20 := by
        have h6 : r0.length ≤ (p.take i).length := by
          rw [← hf]
          exact (List.sublist_flatten_of_mem (by simp)).length_le
        rw [List.length_take] at h6
        omega
      rw [if_pos (by omega), if_pos (by omega), if_pos (by omega), rd_get p i hi, if_neg c]
      rw [e1, if_pos (by omega), if_pos (by simp; omega), e2, if_pos (by omega), Int.toNat_natCast, wrap_ok (by omega) (by omega)]
      have e3 : (T0 ++ [r0] : List (List Int)).set T0.length (r0 ++ [p[i]]) = T0 ++ [r0 ++ [p[i]]] := by
        rw [List.set_append_right _ _ (Nat.le_refl _)]
        simp
      rw [e3]
      exact hk
theorem round_spec {p : List Int} (hp : IsPerm p) : ∃ (S : List (List Int)) (q : List Int) (k : Nat), S.flatten = p ∧ Gd.Good S q ∧ cycles_Round.f k p = some (q, 0) := by
  have h20 := hp.len
  obtain ⟨S, h1, h2, h3, h4, h5⟩ := round_l0 hp p.length 0 [] (-1) (by omega) (by simp) (by simp) ⟨by simp, by simp, by simp, Or.inl rfl⟩ (by omega) (fun _ => rfl)
  have hS : IsPerm S.flatten := by rw [h1]; exact hp
  obtain ⟨kb, q, hb, hq, hr⟩ := back_spec hS (by omega)
  obtain ⟨k, hk⟩ := h5 kb q 0 hb
  refine ⟨S, q, k + p.length + 1, h1, ⟨hS, hq, hr, h2, h3⟩, ?_⟩
  unfold cycles_Round.f
  rw [right_spec p _ (by omega)]
  simp only [Option.bind_some]
  rw [decide_eq_true hp, if_pos rfl]
  exact at_rounds (fun k => cycles_Round.mono_l k _ _ _ _ _) (show k ≤ k + p.length + 1 by omega) hk

/-! ### the rounds of an order -/
theorem mem_rnd {p : List Int} {x L : Nat} {z : Int} : z ∈ rnd p x L ↔ ∃ m, m < L ∧ ((it (F p) m x : Nat) : Int) = z := by
  simp [rnd]
theorem rnd_nx {p : List Int} (hp : IsPerm p) {x L : Nat} (hx : x < p.length) (hb : it (F p) L x = x) : Nx p (rnd p x L) := by
  intro k hk
  have hk' : k < L := by simpa [rnd] using hk
  have hL : 0 < L := by omega
  have e1 : (rnd p x L)[k] = ((it (F p) k x : Nat) : Int) := by simp [rnd]
  rw [e1, rd_F hp (it_lt (permOn hp) k hx)]
  simp only [rnd, List.getElem_map, List.getElem_range, List.length_map, List.length_range]
  rw [← it_mod hb (k + 1)]
  rfl
theorem of_rows {p : List Int} (hp : IsPerm p) {r : List Int} (hr : r ∈ ofSpec p) : ∃ x, x < p.length ∧ Min p.length (F p) x ∧ r = rnd p x (per (F p) x) := by
  obtain ⟨x, hx, rfl⟩ := List.mem_map.1 hr
  obtain ⟨h1, h2⟩ := List.mem_filter.1 hx
  exact ⟨x, List.mem_range.1 h1, (minB_iff _ _ _).1 h2, rfl⟩
theorem of_flat_mem {p : List Int} (hp : IsPerm p) (z : Int) : z ∈ (ofSpec p).flatten ↔ 0 ≤ z ∧ z < (p.length : Int) := by
  have hpo := permOn hp
  constructor
  · intro hz
    obtain ⟨r, hr, hz⟩ := List.mem_flatten.1 hz
    obtain ⟨x, hx, _, rfl⟩ := of_rows hp hr
    obtain ⟨m, _, rfl⟩ := mem_rnd.1 hz
    have := it_lt hpo m hx
    omega
  · rintro ⟨h0, h1⟩
    obtain ⟨y, rfl⟩ := Int.eq_ofNat_of_zero_le h0
    have hy : y < p.length := by omega
    obtain ⟨a, ha, hya, hmin⟩ := min_of (f := F p) hy
    have hay := R_symm hpo hy hya
    obtain ⟨m, hm, e⟩ := (R_iff_per hpo ha).1 hay
    refine List.mem_flatten.2 ⟨rnd p a (per (F p) a), List.mem_map.2 ⟨a, List.mem_filter.2 ⟨List.mem_range.2 ha, (minB_iff _ _ _).2 hmin⟩, rfl⟩, mem_rnd.2 ⟨m, hm, by rw [e]⟩⟩
theorem of_flat_nodup {p : List Int} (hp : IsPerm p) : (ofSpec p).flatten.Nodup := by
  have hpo := permOn hp
  rw [List.Nodup, List.pairwise_flatten]
  constructor
  · intro r hr
    obtain ⟨x, hx, _, rfl⟩ := of_rows hp hr
    rw [List.pairwise_iff_getElem]
    intro i j hi hj hij e
    simp only [rnd, List.getElem_map, List.getElem_range, List.length_map, List.length_range] at hi hj e
    have := per_inj hpo hx hi hj (by omega)
    omega
  · unfold ofSpec
    rw [List.pairwise_map]
    have h1 : (mins p p.length).Pairwise (· < ·) := List.Pairwise.filter _ List.pairwise_lt_range
    have h2 : ∀ a ∈ mins p p.length, a < p.length ∧ Min p.length (F p) a := fun a ha => by
      obtain ⟨h1, h2⟩ := List.mem_filter.1 ha
      exact ⟨List.mem_range.1 h1, (minB_iff _ _ _).1 h2⟩
    refine h1.imp_of_mem (fun {a b} ha hb hab => ?_)
    rintro x hx y hy rfl
    obtain ⟨m1, _, e1⟩ := mem_rnd.1 hx
    obtain ⟨m2, _, e2⟩ := mem_rnd.1 hy
    have hA := h2 a ha
    have hB := h2 b hb
    have r1 : R (F p) b (it (F p) m1 a) := ⟨m2, by omega⟩
    have r2 : R (F p) b a := R_trans r1 (R_symm hpo hA.1 ⟨m1, rfl⟩)
    have := hB.2 a hA.1 r2
    omega
theorem of_flat_perm {p : List Int} (hp : IsPerm p) : (ofSpec p).flatten.Perm p := by
  rw [List.perm_ext_iff_of_nodup (of_flat_nodup hp) hp.nd]
  intro z
  rw [of_flat_mem hp, hp.mem_iff]
theorem of_back {p : List Int} (hp : IsPerm p) : ∃ k, cycles_Back.f k (ofSpec p) = some (p, 0) := by
  have hP := of_flat_perm hp
  have hS := isPerm_perm hp hP
  have hl := ofSpec_length p
  have hc := cnt_le (n := p.length) (f := F p)
  have h20 := hp.len
  obtain ⟨k, q, hk, hq, hr⟩ := back_spec hS (by omega)
  have : Rel (ofSpec p) p := fun r hr => by
    obtain ⟨x, hx, _, rfl⟩ := of_rows hp hr
    exact rnd_nx hp hx (per_spec (permOn hp) hx).2.1
  have e := rel_unique hS hq hP.length_eq.symm hr this
  subst e
  exact ⟨k, hk⟩

/-! ### Flat -/
theorem max_l0 (r : List Int) (hr : r.length ≤ 1000) : ∀ (d k i : Nat) (M : Int), i + d = r.length → d < k → M ∈ r → (∀ x ∈ r.take i, x ≤ M) → ∃ M', slices_Max_int_int.l0 k r M (i : Int) = some M' ∧ M' ∈ r ∧ ∀ x ∈ r, x ≤ M' := by
  intro d
  induction d with
  | zero =>
    intro k i M hd hk hM hx
    obtain ⟨k, rfl⟩ : ∃ m, k = m + 1 := ⟨k - 1, by omega⟩
    refine ⟨M, ?_, hM, fun x h => hx x (by rw [List.take_of_length_le (by omega)]; exact h)⟩
    simp only [slices_Max_int_int.l0]
    rw [if_neg (by omega)]
  | succ d ih =>
    intro k i M hd hk hM hx
    obtain ⟨k, rfl⟩ : ∃ m, k = m + 1 := ⟨k - 1, by omega⟩
    have hi : i < r.length := by omega
    simp only [slices_Max_int_int.l0]
    rw [if_pos (by omega), if_pos (by omega), rd_get r i hi, wrap_ok (by omega) (by omega)]
    refine ih k (i + 1) (mx M r[i]) (by omega) (by omega) ?_ ?_
    · unfold mx
      split
      · exact List.getElem_mem hi
      · exact hM
    · intro x hx'
      rw [take_snoc r i hi] at hx'
      unfold mx
      rcases List.mem_append.1 hx' with h | h
      · have := hx x h
        split <;> omega
      · rw [List.mem_singleton.1 h]
        split <;> omega
theorem max_spec (r : List Int) (hne : r ≠ []) (hr : r.length ≤ 1000) (k : Nat) (hk : r.length < k) : ∃ M, slices_Max_int_int.f k r = some M ∧ M ∈ r ∧ ∀ x ∈ r, x ≤ M := by
  have hl : 0 < r.length := List.length_pos_iff.2 hne
  unfold slices_Max_int_int.f
  rw [if_neg (by omega), if_pos (by omega)]
  have e : rd r 0 = r[0] := rd_get r 0 hl
  rw [e]
  refine max_l0 r hr (r.length - 1) k 1 _ (by omega) (by omega) (List.getElem_mem hl) (fun x hx => ?_)
  obtain ⟨j, hj, hj2, e⟩ := mem_take hx
  have : j = 0 := by omega
  subst this
  omega
theorem index_l0 (r : List Int) (hr : r.length ≤ 1000) (M : Int) : ∀ (d k i : Nat), i + d = r.length → d < k → M ∈ r.drop i → ∃ t, ∃ h : t < r.length, slices_Index_int_int.l0 k r M (r.length : Int) (i : Int) = some (t : Int) ∧ r[t] = M := by
  intro d
  induction d with
  | zero =>
    intro k i hd hk hM
    rw [List.drop_of_length_le (by omega)] at hM
    cases hM
  | succ d ih =>
    intro k i hd hk hM
    obtain ⟨k, rfl⟩ : ∃ m, k = m + 1 := ⟨k - 1, by omega⟩
    have hi : i < r.length := by omega
    simp only [slices_Index_int_int.l0]
    rw [if_pos (by omega), if_pos (by omega), if_pos (by omega), rd_get r i hi, wrap_ok (by omega) (by omega)]
    by_cases c : M = r[i]
    · rw [if_pos c]
      exact ⟨i, hi, rfl, c.symm⟩
    · rw [if_neg c]
      refine ih k (i + 1) (by omega) (by omega) ?_
      rw [List.drop_eq_getElem_cons hi] at hM
      rcases List.mem_cons.1 hM with h | h
      · exact absurd h c
      · exact h
theorem concat_l1 (S : List (List Int)) (hS : S.flatten.length ≤ 1000) (hl : S.length ≤ 1000) : ∀ (d k i : Nat), i + d = S.length → d < k → slices_Concat_int_int.l1 k (S.take i).flatten S (S.length : Int) (i : Int) = some S.flatten := by
  intro d
  induction d with
  | zero =>
    intro k i hd hk
    obtain ⟨k, rfl⟩ : ∃ m, k = m + 1 := ⟨k - 1, by omega⟩
    simp only [slices_Concat_int_int.l1]
    rw [if_neg (by omega), List.take_of_length_le (by omega)]
  | succ d ih =>
    intro k i hd hk
    obtain ⟨k, rfl⟩ : ∃ m, k = m + 1 := ⟨k - 1, by omega⟩
    have hi : i < S.length := by omega
    have h1 := flat_take_le S (i + 1)
    have h2 := sum_take S i hi
    simp only [slices_Concat_int_int.l1]
    rw [if_pos (by omega), if_pos (by omega), if_pos (by omega), rd_L2_get S i hi, if_pos (by omega), wrap_ok (by omega) (by omega)]
    have e : (S.take i).flatten ++ S[i] = (S.take (i + 1)).flatten := by rw [List.take_succ_eq_append_getElem hi, List.flatten_append]; simp
    rw [e]
    exact ih k (i + 1) (by omega) (by omega)
theorem concat_l0 (S : List (List Int)) (hS : S.flatten.length ≤ 1000) (hl : S.length ≤ 1000) : ∀ (d k i : Nat), i + d = S.length → S.length + d + 1 < k → slices_Concat_int_int.l0 k S ((S.take i).flatten.length : Int) S (S.length : Int) (i : Int) = some S.flatten := by
  intro d
  induction d with
  | zero =>
    intro k i hd hk
    obtain ⟨k, rfl⟩ : ∃ m, k = m + 1 := ⟨k - 1, by omega⟩
    simp only [slices_Concat_int_int.l0]
    rw [if_neg (by omega), List.take_of_length_le (by omega)]
    have : slices_Grow_nil.f (S.flatten.length : Int) = some [] := by
      unfold slices_Grow_nil.f
      rw [if_pos (by omega)]
    rw [this]
    exact concat_l1 S hS hl S.length k 0 (by omega) (by omega)
  | succ d ih =>
    intro k i hd hk
    obtain ⟨k, rfl⟩ : ∃ m, k = m + 1 := ⟨k - 1, by omega⟩
    have hi : i < S.length := by omega
    have h1 := flat_take_le S (i + 1)
    have h2 := sum_take S i hi
    simp only [slices_Concat_int_int.l0]
    rw [if_pos (by omega), if_pos (by omega), if_pos (by omega), rd_L2_get S i hi, wrap_ok (by omega) (by omega), if_neg (by omega), wrap_ok (by omega) (by omega)]
    have := ih k (i + 1) (by omega) (by omega)
    rw [h2] at this
    exact this
theorem concat_spec (S : List (List Int)) (hS : S.flatten.length ≤ 1000) (hl : S.length ≤ 1000) (k : Nat) (hk : 2 * S.length + 1 < k) : slices_Concat_int_int.f k S = some S.flatten := by
  unfold slices_Concat_int_int.f
  exact concat_l0 S hS hl S.length k 0 (by omega) (by omega)

/-- A row turned, so that it begins with its greatest. -/
def Turn (r r' : List Int) : Prop := ∃ t, t < r.length ∧ r' = r.drop t ++ r.take t ∧ ∀ x ∈ r, x ≤ r.getD t 0
theorem flat_l0 : ∀ (rest done : List (List Int)), done.length + rest.length ≤ 500 → (∀ r ∈ rest, r ≠ [] ∧ r.length ≤ 20) →
    ∃ T, T.length = rest.length ∧ (∀ i (h : i < rest.length) (h' : i < T.length), Turn rest[i] T[i]) ∧ ∀ (k : Nat) (res : List Int × Int), ((slices_SortFunc_heads.f (done ++ T)).bind fun t149 => ((slices_Concat_int_int.f k t149).bind fun t152 => (some (t152, (0 : Int))))) = some res →
      ∃ k', cycles_Flat.l0 k' (done ++ rest) ((done.length + rest.length : Nat) : Int) (done.length : Int) = some res
  | [], done, _, _ => ⟨[], rfl, fun i h => absurd h (by simp), fun k res hk => ⟨k + 1, by
      simp only [cycles_Flat.l0]
      rw [if_neg (by simp)]
      exact hk⟩⟩
  | r :: rest, done, hlen, hr => by
    have hlen' : done.length + (rest.length + 1) ≤ 500 := by simpa using hlen
    obtain ⟨hne, hrl⟩ := hr r List.mem_cons_self
    obtain ⟨M, hM1, hM2, hM3⟩ := max_spec r hne (by omega) 1001 (by omega)
    obtain ⟨t, ht, hI, hte⟩ := index_l0 r (by omega) M r.length 1001 0 (by omega) (by omega) (by simpa using hM2)
    obtain ⟨T, h1, h2, h3⟩ := flat_l0 rest (done ++ [r.drop t ++ r.take t]) (by simp; omega) (fun s hs => hr s (List.mem_cons_of_mem _ hs))
    refine ⟨(r.drop t ++ r.take t) :: T, by simp [h1], fun i h h' => ?_, fun k res hk => ?_⟩
    · cases i with
      | zero => exact ⟨t, ht, rfl, fun x hx => by (show x ≤ r.getD t 0); rw [List.getD_eq_getElem?_getD, List.getElem?_eq_getElem ht, Option.getD_some, hte]; exact hM3 x hx⟩
      | succ i => exact h2 i (by simpa using h) (by simpa using h')
    · obtain ⟨k', hk'⟩ := h3 k res (by simpa using hk)
      obtain ⟨K, hK⟩ : ∃ K, K = k' + 1001 := ⟨_, rfl⟩
      refine ⟨K + 1, ?_⟩
      simp only [cycles_Flat.l0]
      have e1 : rd_L2 (done ++ r :: rest) (done.length : Int) = r := by rw [rd_L2_get _ _ (by simp)]; simp
      have e2 : (slices_Max_int_int.f K r) = some M := at_rounds (slices_Max_int_int.mono r) (by omega) hM1
      have hI' : slices_Index_int_int.f 1001 r M = some (t : Int) := hI
      have e3 : (slices_Index_int_int.f K r M) = some (t : Int) := at_rounds (slices_Index_int_int.mono r M) (by omega) hI'
      have e4 : slices_Concat_int_int.f K [r.drop t, r.take t] = some (r.drop t ++ r.take t) := by
        rw [concat_spec _ (by simp; omega) (by simp) _ (by simp; omega)]
        simp
      rw [if_pos (by simp; omega), if_pos (by omega), if_pos (by simp; omega), e1, e2]
      simp only [Option.bind_some]
      rw [e3]
      simp only [Option.bind_some]
      rw [if_pos (by omega), if_pos (by omega), Int.toNat_natCast, Int.toNat_natCast, e4]
      simp only [Option.bind_some]
      rw [wrap_ok (by omega) (by omega)]
      have e5 : (done ++ r :: rest).set done.length (r.drop t ++ r.take t) = (done ++ [r.drop t ++ r.take t]) ++ rest := by
        rw [List.set_append_right _ _ (Nat.le_refl _)]
        simp
      rw [e5]
      have h6 := at_rounds (fun k => cycles_Flat.mono_l k _ _ _) (show k' ≤ K by omega) hk'
      simp only [List.length_append, List.length_cons, List.length_nil, Nat.zero_add] at h6
      rw [show done.length + 1 + rest.length = done.length + (rest.length + 1) by omega] at h6
      exact h6
theorem turn_perm {r r' : List Int} (h : Turn r r') : r'.Perm r := by
  obtain ⟨t, _, rfl, _⟩ := h
  exact List.perm_append_comm.trans (by rw [List.take_append_drop])
theorem turn_head {r r' : List Int} (h : Turn r r') : HeadRow r' := by
  have hp := turn_perm h
  obtain ⟨t, ht, rfl, hx⟩ := h
  rw [List.drop_eq_getElem_cons ht] at hp ⊢
  refine ⟨by rw [List.cons_append]; exact List.cons_ne_nil _ _, fun x h => ?_⟩
  have := hx x (hp.mem_iff.1 h)
  rw [List.getD_eq_getElem?_getD, List.getElem?_eq_getElem ht, Option.getD_some] at this
  exact this
theorem turn_nx {p : List Int} (hp : IsPerm p) {x L : Nat} (hx : x < p.length) (hb : it (F p) L x = x) {r' : List Int} (h : Turn (rnd p x L) r') : Nx p r' := by
  obtain ⟨t, ht, rfl, _⟩ := h
  rw [rnd_length] at ht
  have hy := it_lt (permOn hp) t hx
  have hb2 : it (F p) L (it (F p) t x) = it (F p) t x := by rw [← it_add, Nat.add_comm, it_add, hb]
  have e : (rnd p x L).drop t ++ (rnd p x L).take t = rnd p (it (F p) t x) L := by
    apply List.ext_getElem
    · simp [rnd]; omega
    · intro i hi hi'
      have hiL : i < L := by simpa [rnd] using hi'
      rw [List.getElem_append]
      split
      · rename_i hc
        have hc' : i < L - t := by simpa [rnd] using hc
        simp only [rnd, List.getElem_drop, List.getElem_map, List.getElem_range]
        rw [← it_add, Nat.add_comm t i]
      · rename_i hc
        have hc' : ¬ i < L - t := by simpa [rnd] using hc
        simp only [rnd, List.getElem_take, List.getElem_map, List.getElem_range, List.length_drop, List.length_map, List.length_range]
        rw [← it_add]
        have : i + t = (i - (L - t)) + L := by omega
        rw [this, it_add (F p) (i - (L - t)) L x, hb]
  rw [e]
  exact rnd_nx hp hy hb2
theorem heads_nodup : ∀ {T : List (List Int)}, T.flatten.Nodup → (∀ r ∈ T, r ≠ []) → (T.map hdOf).Nodup
  | [], _, _ => List.nodup_nil
  | r :: T, h, hne => by
    rw [List.flatten_cons] at h
    obtain ⟨h1, h2, h3⟩ := List.nodup_append.1 h
    rw [List.map_cons, List.nodup_cons]
    refine ⟨fun hm => ?_, heads_nodup h2 (fun s hs => hne s (List.mem_cons_of_mem _ hs))⟩
    obtain ⟨s, hs, e⟩ := List.mem_map.1 hm
    exact h3 _ (hdOf_mem (hne r List.mem_cons_self)) _ (List.mem_flatten.2 ⟨s, hs, hdOf_mem (hne s (List.mem_cons_of_mem _ hs))⟩) e.symm
theorem flatten_perm2 : ∀ {S T : List (List Int)}, S.length = T.length → (∀ i (h : i < S.length) (h' : i < T.length), Turn S[i] T[i]) → T.flatten.Perm S.flatten
  | [], [], _, _ => List.Perm.refl _
  | [], b :: T, h, _ => absurd h (by simp)
  | a :: S, [], h, _ => absurd h (by simp)
  | a :: S, b :: T, h, hi => by
    simp only [List.flatten_cons]
    exact (turn_perm (hi 0 (by simp) (by simp))).append (flatten_perm2 (by simpa using h) (fun i h1 h2 => hi (i + 1) (by simpa using h1) (by simpa using h2)))
theorem flat_spec {p : List Int} (hp : IsPerm p) : ∃ (S : List (List Int)) (k : Nat), Gd.Good S p ∧ cycles_Flat.f k p = some (S.flatten, 0) := by
  have h20 := hp.len
  have hpo := permOn hp
  obtain ⟨k1, hk1⟩ := of_yes hp
  have hl := ofSpec_length p
  have hc := cnt_le (n := p.length) (f := F p)
  have hrow : ∀ r ∈ ofSpec p, r ≠ [] ∧ r.length ≤ 20 := fun r hr => by
    obtain ⟨x, hx, _, rfl⟩ := of_rows hp hr
    have h1 := (per_spec hpo hx).1
    have h2 := per_le hpo hx
    refine ⟨fun e => ?_, by rw [rnd_length]; omega⟩
    have := congrArg List.length e
    rw [rnd_length] at this
    simp at this
    omega
  obtain ⟨T, h1, h2, h3⟩ := flat_l0 (ofSpec p) [] (by simp; omega) hrow
  have hfp := (flatten_perm2 h1.symm h2).trans (of_flat_perm hp)
  have hTp := isPerm_perm hp hfp
  have hrT : ∀ r' ∈ T, HeadRow r' ∧ Nx p r' := fun r' hr' => by
    obtain ⟨i, hi, rfl⟩ := List.mem_iff_getElem.1 hr'
    have ht := h2 i (by omega) hi
    refine ⟨turn_head ht, ?_⟩
    obtain ⟨x, hx, _, e⟩ := of_rows hp (List.getElem_mem (l := ofSpec p) (n := i) (by omega))
    rw [e] at ht
    exact turn_nx hp hx (per_spec hpo hx).2.1 ht
  have hnd := heads_nodup hTp.nd (fun r hr => (hrT r hr).1.ne)
  have hsp := sortHd_perm T
  have hflat : (sortHd T).flatten.Perm p := hsp.flatten.trans hfp
  have hok : ∀ r ∈ T, HeadOK r := fun r hr => by
    have hh := (hrT r hr).1
    have hm := hTp.rng _ (List.mem_flatten.2 ⟨r, hr, hdOf_mem hh.ne⟩)
    have := hfp.length_eq
    exact ⟨List.length_pos_iff.2 hh.ne, hm.1, by omega⟩
  have hsort : slices_SortFunc_heads.f T = some (sortHd T) := by
    unfold slices_SortFunc_heads.f
    rw [if_pos ⟨hok, hnd, by omega⟩]
  have hcon : slices_Concat_int_int.f (2 * (sortHd T).length + 2) (sortHd T) = some (sortHd T).flatten := concat_spec _ (by rw [hflat.length_eq]; omega) (by rw [hsp.length_eq]; omega) _ (by omega)
  obtain ⟨k', hk'⟩ := h3 (2 * (sortHd T).length + 2) ((sortHd T).flatten, 0) (by
    rw [List.nil_append, hsort]
    simp only [Option.bind_some]
    rw [hcon, Option.bind_some])
  refine ⟨sortHd T, k1 + k', ⟨isPerm_perm hp hflat, hflat.length_eq.symm, fun r hr => (hrT r (hsp.mem_iff.1 hr)).2, fun r hr => (hrT r (hsp.mem_iff.1 hr)).1, ?_⟩, ?_⟩
  · have hs := sortHd_sorted T
    have hn : ((sortHd T).map hdOf).Nodup := (hsp.map hdOf).nodup_iff.2 hnd
    rw [List.Nodup, List.pairwise_map] at hn
    rw [List.pairwise_map]
    exact (hs.and hn).imp (fun {a b} h => by
      have h1 := h.1
      have h2 := h.2
      omega)
  · unfold cycles_Flat.f
    rw [at_rounds (cycles_Of.mono p) (show k1 ≤ k1 + k' by omega) hk1]
    simp only [Option.bind_some, if_true]
    have := at_rounds (fun k => cycles_Flat.mono_l k (ofSpec p) ((ofSpec p).length : Int) 0) (show k' ≤ k1 + k' by omega) (by simpa using hk')
    exact this

/-! ### the law -/
theorem equal_l0 (l : List Int) (hl : l.length ≤ 1000) : ∀ (d k i : Nat), i + d = l.length → d < k → slices_Equal_int_int.l0 k l l (l.length : Int) (i : Int) = some true := by
  intro d
  induction d with
  | zero =>
    intro k i hd hk
    obtain ⟨k, rfl⟩ : ∃ m, k = m + 1 := ⟨k - 1, by omega⟩
    simp only [slices_Equal_int_int.l0]
    rw [if_neg (by omega)]
  | succ d ih =>
    intro k i hd hk
    obtain ⟨k, rfl⟩ : ∃ m, k = m + 1 := ⟨k - 1, by omega⟩
    simp only [slices_Equal_int_int.l0, if_true]
    rw [if_pos (by omega), if_pos (by omega), if_pos (by omega), if_pos (by omega), wrap_ok (by omega) (by omega)]
    exact ih k (i + 1) (by omega) (by omega)
theorem equal_self (l : List Int) (hl : l.length ≤ 1000) (k : Nat) (hk : l.length < k) : slices_Equal_int_int.f k l l = some true := by
  unfold slices_Equal_int_int.f
  rw [if_pos rfl]
  exact equal_l0 l hl l.length k 0 (by omega) hk

theorem CyclesBack : lotdrawerkeep_CyclesBack.Pure := by
  intro p _ _ _
  by_cases hp : IsPerm p
  · have h20 := hp.len
    obtain ⟨k1, h1⟩ := of_yes hp
    obtain ⟨k2, h2⟩ := of_back hp
    obtain ⟨S, k3, gS, h3⟩ := flat_spec hp
    obtain ⟨S', q', k4, e4, g4, h4⟩ := round_spec gS.perm
    obtain ⟨S5, q5, k5, e5, g5, h5⟩ := round_spec hp
    obtain ⟨S6, k6, g6, h6⟩ := flat_spec g5.isPerm
    have e7 : S' = S := flat_unique g4.head gS.head g4.rise gS.rise e4
    subst e7
    have e8 : q' = p := rel_unique gS.perm g4.len gS.len g4.rel gS.rel
    subst e8
    have e9 : S6 = S5 := good_unique g6 g5
    subst e9
    rw [e5] at h6
    refine ⟨k1 + k2 + k3 + k4 + k5 + k6 + 1050, ?_⟩
    unfold lotdrawerkeep_CyclesBack.f
    rw [at_rounds lotdrawerkeep_alive23.mono (show 50 ≤ k1 + k2 + k3 + k4 + k5 + k6 + 1050 by omega) alive23B]
    simp only [Option.bind_some, if_true]
    rw [at_rounds (cycles_Of.mono _) (show k1 ≤ k1 + k2 + k3 + k4 + k5 + k6 + 1050 by omega) h1]
    simp only [Option.bind_some, if_true]
    rw [at_rounds (cycles_Back.mono _) (show k2 ≤ k1 + k2 + k3 + k4 + k5 + k6 + 1050 by omega) h2]
    simp only [Option.bind_some, if_true]
    rw [at_rounds (cycles_Flat.mono _) (show k3 ≤ k1 + k2 + k3 + k4 + k5 + k6 + 1050 by omega) h3]
    simp only [Option.bind_some, if_true]
    rw [at_rounds (cycles_Round.mono _) (show k4 ≤ k1 + k2 + k3 + k4 + k5 + k6 + 1050 by omega) h4]
    simp only [Option.bind_some, if_true]
    rw [at_rounds (cycles_Round.mono _) (show k5 ≤ k1 + k2 + k3 + k4 + k5 + k6 + 1050 by omega) h5]
    simp only [Option.bind_some, if_true]
    rw [at_rounds (cycles_Flat.mono _) (show k6 ≤ k1 + k2 + k3 + k4 + k5 + k6 + 1050 by omega) h6]
    simp only [Option.bind_some, if_true]
    rw [equal_self _ (by omega) _ (by omega)]
    simp only [Option.bind_some, if_true]
  · obtain ⟨k1, h1⟩ := of_no hp
    refine ⟨k1 + 50, ?_⟩
    unfold lotdrawerkeep_CyclesBack.f
    rw [at_rounds lotdrawerkeep_alive23.mono (show 50 ≤ k1 + 50 by omega) alive23B]
    simp only [Option.bind_some, if_true]
    rw [at_rounds (cycles_Of.mono _) (show k1 ≤ k1 + 50 by omega) h1]
    rfl
end Go.Proofs.Ytohknfbfmobggaa.Pure
