/- A pool by a tape, and by a text: the text tells the same. -/
import Derived.Test.YtioppgeackgjnaaDoorQlB
import Derived.Test.YtioppgeackgjnaaDoorBt250
namespace Go.Proofs.YtioppgeackgjnaaDoor.Txt
open Go.RowKit Go.Proofs.YtioppgeackgjnaaDoor.Bt Go.Proofs.YtioppgeackgjnaaDoorW.PrintWords Go.Proofs.YtioppgeackgjnaaDoorW.PrintLast
set_option linter.unusedVariables false
theorem rotate_total7 (x : Int) : ∃ r, bits_RotateLeft64.f x 7 = some r := by
  unfold bits_RotateLeft64.f
  rw [if_pos (by decide +kernel), if_pos (by decide +kernel)]
  exact ⟨_, rfl⟩
theorem rotate_total45 (x : Int) : ∃ r, bits_RotateLeft64.f x 45 = some r := by
  unfold bits_RotateLeft64.f
  rw [if_pos (by decide +kernel), if_pos (by decide +kernel)]
  exact ⟨_, rfl⟩
theorem step_total (a b c d : Int) : ∃ r, mixer_Step.f a b c d = some r := by
  obtain ⟨r1, h1⟩ := rotate_total7 (IntKind.u64.wrap (b * 5))
  obtain ⟨r2, h2⟩ := rotate_total45 (Go.bits .xor .u64 d b)
  unfold mixer_Step.f
  rw [h1, Option.bind_some, h2, Option.bind_some]
  exact ⟨_, rfl⟩
theorem words_l0 : ∀ (d k i : Nat) (out : List Int) (n : Nat) (a b c e : Int), i + d = n → n ≤ 10000 → d < k → out.length = i → ∃ o m0 m1 m2 m3, mixer_Words.l0 k out (n : Int) (i : Int) a b c e = some (o, m0, m1, m2, m3, 0) ∧ o.length = n := by
  intro d
  induction d with
  | zero =>
    intro k i out n a b c e hi hn hk ho
    obtain ⟨k, rfl⟩ : ∃ m, k = m + 1 := ⟨k - 1, by omega⟩
    exact ⟨out, a, b, c, e, by rw [mixer_Words.l0, if_neg (by omega)], by omega⟩
  | succ d ih =>
    intro k i out n a b c e hi hn hk ho
    obtain ⟨k, rfl⟩ : ∃ m, k = m + 1 := ⟨k - 1, by omega⟩
    obtain ⟨r, hr⟩ := step_total a b c e
    obtain ⟨o, m0, m1, m2, m3, h, hl⟩ := ih k (i + 1) (out ++ [r.1]) n r.2.1 r.2.2.1 r.2.2.2.1 r.2.2.2.2 (by omega) hn (by omega) (by simp; omega)
    refine ⟨o, m0, m1, m2, m3, ?_, hl⟩
    rw [mixer_Words.l0, if_pos (by omega), hr, Option.bind_some, if_pos (by omega), wrap_ok (by omega) (by omega)]
    exact h
theorem words_32 (a b c e : Int) : ∃ o m0 m1 m2 m3, mixer_Words.f 34 a b c e 32 = some (o, m0, m1, m2, m3, 0) ∧ o.length = 32 := by
  obtain ⟨o, m0, m1, m2, m3, h, hl⟩ := words_l0 32 33 0 [] 32 a b c e (by omega) (by omega) (by omega) rfl
  refine ⟨o, m0, m1, m2, m3, ?_, hl⟩
  unfold mixer_Words.f
  rw [if_neg (by decide), mixer_Words.j0, if_neg (by decide)]
  exact h
theorem bits_l0 (ws : List Int) (hw : ws.length = 32) (a b c e : Int) : ∀ (d k i : Nat) (out : List Bool), i + d = 2000 → d < k → out.length = i → ∃ o, mixer_Bits.l0 k ws out 2000 (i : Int) a b c e = some (o, a, b, c, e, 0) ∧ o.length = 2000 := by
  intro d
  induction d with
  | zero =>
    intro k i out hi hk ho
    obtain ⟨k, rfl⟩ : ∃ m, k = m + 1 := ⟨k - 1, by omega⟩
    exact ⟨out, by rw [mixer_Bits.l0, if_neg (by omega)], by omega⟩
  | succ d ih =>
    intro k i out hi hk ho
    obtain ⟨k, rfl⟩ : ∃ m, k = m + 1 := ⟨k - 1, by omega⟩
    have e1 : Int.tdiv (i : Int) 64 = ((i / 64 : Nat) : Int) := rfl
    have e2 : Int.tmod (i : Int) 64 = ((i % 64 : Nat) : Int) := rfl
    have w1 : wrap64 (Int.tdiv (i : Int) 64) = ((i / 64 : Nat) : Int) := by rw [e1, wrap_ok (by omega) (by omega)]
    have w2 : wrap64 (63 - Int.tmod (i : Int) 64) = 63 - ((i % 64 : Nat) : Int) := by rw [e2, wrap_ok (by omega) (by omega)]
    obtain ⟨o, h, hl⟩ := ih k (i + 1) (out ++ [((Go.bits .and .u64 (shr .u64 (rd ws ((i / 64 : Nat) : Int)) (63 - ((i % 64 : Nat) : Int))) 1) == 1)]) (by omega) (by omega) (by simp; omega)
    refine ⟨o, ?_, hl⟩
    rw [mixer_Bits.l0, if_pos (by omega), w1, w2, if_pos (by omega), if_pos (by omega), if_pos (by omega), if_pos (by omega), wrap_ok (by omega) (by omega)]
    exact h
theorem bits_2000 (a b c e : Int) : ∃ k o m0 m1 m2 m3, mixer_Bits.f k a b c e 2000 = some (o, m0, m1, m2, m3, 0) ∧ o.length = 2000 := by
  obtain ⟨ws, m0, m1, m2, m3, h, hl⟩ := words_32 a b c e
  obtain ⟨o, h2, hl2⟩ := bits_l0 ws hl m0 m1 m2 m3 2000 2001 0 [] (by omega) (by omega) rfl
  refine ⟨2002, o, m0, m1, m2, m3, ?_, hl2⟩
  have ee : wrap64 (Int.tdiv (wrap64 ((mx 2000 (-1)) + 63)) 64) = 32 := by decide +kernel
  unfold mixer_Bits.f
  rw [ee, at_rounds (mixer_Words.mono a b c e 32) (show 34 ≤ 2002 by decide) h, Option.bind_some, if_pos rfl, if_neg (by decide), mixer_Bits.j0, if_neg (by decide)]
  exact h2
/-! ### the tape -/
theorem below_l1 (t : List Bool) (n w : Int) (used : Int) (cut : List Bool) (hc : cut.length ≤ 40) : ∀ (d k i : Nat) (x : Int), i + d = cut.length → d < k → 0 ≤ x → x < 2 ^ i →
    ∃ x', 0 ≤ x' ∧ (d = 0 → x' = x) ∧ ∀ K res, (if x' < n then some (x', wrap64 (used + w), 0) else tape_Below.l0 K t n w (wrap64 (used + w))) = some res → tape_Below.l1 (K + 1 + d) t n w used x cut (cut.length : Int) (i : Int) = some res := by
  intro d
  induction d with
  | zero =>
    intro k i x hi hk h0 h1
    refine ⟨x, h0, fun _ => rfl, fun K res h => ?_⟩
    rw [Nat.add_zero, tape_Below.l1, if_neg (by omega)]
    exact h
  | succ d ih =>
    intro k i x hi hk h0 h1
    have hlt : i < cut.length := by omega
    have hp : (2 : Int) ^ i ≤ 2 ^ 40 := by
      have : 2 ^ i ≤ 2 ^ 40 := Nat.pow_le_pow_right (by decide) (by omega)
      exact_mod_cast this
    have hp2 : (2 : Int) ^ (i + 1) = 2 * 2 ^ i := by rw [Int.pow_succ]; omega
    have h40 : (2 : Int) ^ 40 = 1099511627776 := by decide
    have hw : wrap64 (x * 2) = x * 2 := wrap_ok (by omega) (by omega)
    cases hb : rdOf false cut (i : Int) with
    | true =>
      obtain ⟨x', g0, _, g⟩ := ih (d + 1) (i + 1) (x * 2 + 1) (by omega) (by omega) (by omega) (by omega)
      refine ⟨x', g0, fun h => absurd h (by omega), fun K res h => ?_⟩
      have := g K res h
      rw [show K + 1 + (d + 1) = (K + 1 + d) + 1 by omega, tape_Below.l1, if_pos (by omega), if_pos (by omega), if_pos (by omega), hb, if_pos rfl, hw, wrap_ok (by omega) (by omega), wrap_ok (by omega) (by omega)]
      exact this
    | false =>
      obtain ⟨x', g0, _, g⟩ := ih (d + 1) (i + 1) (x * 2) (by omega) (by omega) (by omega) (by omega)
      refine ⟨x', g0, fun h => absurd h (by omega), fun K res h => ?_⟩
      have := g K res h
      rw [show K + 1 + (d + 1) = (K + 1 + d) + 1 by omega, tape_Below.l1, if_pos (by omega), if_pos (by omega), if_pos (by omega), hb, if_neg (by decide), hw, wrap_ok (by omega) (by omega)]
      exact this
theorem below_l0 (t : List Bool) (ht : t.length ≤ 2000) (n : Int) (hn : 1 ≤ n) (w : Nat) (hw : w ≤ 40) (hw0 : w = 0 → n = 1) : ∀ (d used : Nat), used + d = t.length + 1 →
    ∃ k x u h, tape_Below.l0 k t n (w : Int) (used : Int) = some (x, u, h) ∧ (h = 7 ∨ (h = 0 ∧ 0 ≤ x ∧ x < n ∧ 0 ≤ u ∧ u ≤ t.length)) := by
  intro d
  induction d using Nat.strongRecOn with
  | _ d ih =>
    intro used hu
    by_cases hlt : ((t.length : Int) - used) < w
    · refine ⟨1, 0, 0, 7, ?_, .inl rfl⟩
      rw [tape_Below.l0, wrap_ok (by omega) (by omega), if_pos hlt]
    · have e1 : wrap64 ((used : Int) + w) = ((used + w : Nat) : Int) := by rw [wrap_ok (by omega) (by omega)]; omega
      have hcut : ((t.take (used + w)).drop used).length = w := by rw [List.length_drop, List.length_take]; omega
      obtain ⟨x', g0, gz, g⟩ := below_l1 t n (w : Int) (used : Int) ((t.take (used + w)).drop used) (by omega) w (w + 1) 0 0 (by omega) (by omega) (by omega) (by decide)
      have hgo : ∀ K res, (if x' < n then some (x', wrap64 ((used : Int) + w), 0) else tape_Below.l0 K t n (w : Int) (wrap64 ((used : Int) + w))) = some res → tape_Below.l0 (K + 1 + w + 1) t n (w : Int) (used : Int) = some res := fun K res h => by
        have := g K res h
        rw [tape_Below.l0, wrap_ok (by omega) (by omega), if_neg hlt, e1, if_pos (by omega), if_pos (by omega), if_pos (by omega), Int.toNat_natCast, Int.toNat_natCast]
        exact this
      by_cases hx : x' < n
      · refine ⟨0 + 1 + w + 1, x', wrap64 ((used : Int) + w), 0, hgo 0 _ (by rw [if_pos hx]), .inr ⟨rfl, g0, hx, by omega, by omega⟩⟩
      · have hwpos : 1 ≤ w := by
          rcases Nat.eq_zero_or_pos w with h0 | h0
          · exfalso
            subst h0
            have h1 := gz rfl
            have h2 := hw0 rfl
            omega
          · exact h0
        obtain ⟨k, x, u, h, hk, hh⟩ := ih (d - w) (by omega) (used + w) (by omega)
        refine ⟨k + 1 + w + 1, x, u, h, hgo k _ ?_, hh⟩
        rw [if_neg hx, e1]
        exact hk
end Go.Proofs.YtioppgeackgjnaaDoor.Txt
namespace Go.Proofs.YtioppgeackgjnaaDoor.Pure
open Go.RowKit Go.Proofs.YtioppgeackgjnaaDoor.Bt Go.Proofs.YtioppgeackgjnaaDoorW.PrintWords Go.Proofs.YtioppgeackgjnaaDoorW.PrintLast Go.Proofs.YtioppgeackgjnaaDoor.Txt
set_option linter.unusedVariables false
theorem alive_yes : lotdrawertop_alive.f 60 = some true := by decide +kernel
theorem len_small : ∀ x : Fin 61, Lib.bitLen x.val ≤ 40 ∧ (Lib.bitLen x.val = 0 → x.val = 0) := by decide +kernel
theorem u64_id (x : Int) (h : 0 ≤ x ∧ x ≤ 60) : IntKind.u64.wrap x = x := by
  have : ∀ y : Fin 61, IntKind.u64.wrap ((y.val : Nat) : Int) = ((y.val : Nat) : Int) := by decide +kernel
  have h2 := this ⟨x.toNat, by omega⟩
  have e : ((x.toNat : Nat) : Int) = x := by omega
  simpa [e] using h2
theorem below_total (t : List Bool) (ht : t.length ≤ 2000) (n : Int) (h1 : 1 ≤ n) (h2 : n ≤ 61) :
    ∃ k x u h, tape_Below.f k t n = some (x, u, h) ∧ (h = 7 ∨ (h = 0 ∧ 0 ≤ x ∧ x < n ∧ 0 ≤ u ∧ u ≤ t.length)) := by
  have hs := len_small ⟨(n - 1).toNat, by omega⟩
  have hw : tape_width.f n = some ((Lib.bitLen (n - 1).toNat : Nat) : Int) := by
    unfold tape_width.f bits_Len.f
    rw [wrap_ok (by omega) (by omega), u64_id _ (by omega), if_pos (by omega), Option.bind_some]
  obtain ⟨k, x, u, h, hk, hh⟩ := below_l0 t ht n h1 (Lib.bitLen (n - 1).toNat) hs.1 (fun h0 => by have := hs.2 h0; simp only at this; omega) (t.length + 1) 0 (by omega)
  refine ⟨k + 1, x, u, h, ?_, hh⟩
  unfold tape_Below.f
  rw [if_neg (by omega), decide_eq_false (by omega), tape_Below.j0, if_neg (by decide), hw, Option.bind_some]
  exact hk
theorem add_ok {room came : Int} {has : List Int} (h : PoolOK room came has) (x d : Int) (h0 : 0 ≤ d) (h1 : d ≤ came) (h2 : came < 1099511627776) : ∃ r1 r3, pool_Add.f room came has x d = some (r1, came + 1, r3, 0) := by
  have hl := len_le h
  have hlen := h.len
  have hr := h.rooms
  have hc := h.comes
  unfold pool_Add.f
  rw [right_ok h, Option.bind_some, if_pos rfl, if_neg (by omega), if_neg (by omega), if_neg (by omega), clone_ok (by omega), Option.bind_some, wrap_ok (by omega) (by omega)]
  unfold mn at hlen
  by_cases c4 : (has.length : Int) < room
  · rw [if_pos c4, if_pos (by omega)]
    exact ⟨_, _, rfl⟩
  · rw [if_neg c4]
    by_cases c5 : d < room
    · rw [if_pos c5, if_pos (by omega), if_pos (by split at hlen <;> omega)]
      exact ⟨_, _, rfl⟩
    · rw [if_neg c5]
      exact ⟨_, _, rfl⟩
theorem runS_append : ∀ (l m : List S36) (p : Pool), runS p (l ++ m) = runS (runS p l) m
  | [], _, _ => rfl
  | c :: l, m, p => runS_append l m (nextS p c)
theorem rd_at' (done : List Int) (x : Int) (rest : List Int) : rd (done ++ x :: rest) (done.length : Int) = x := by simp [rd]
theorem last_loop (x1 : List Int) (pre : List ByteArray) (last : ByteArray) (hp : pre.length = x1.length) (hx : x1.length ≤ 60) (has : List Int) (hl : has.length ≤ 400) (hf : ∀ x ∈ has, 0 ≤ x ∧ x ≤ 1099511627776) : ∀ (d k i : Nat) (s : ByteArray), i + d = has.length → d < k → s.size ≤ 100 + 22 * i → (has.drop i).foldl more s = last →
    lotdrawertop_TopPooled.l1 k x1 0 (pre ++ [last]) 0 s has (has.length : Int) (i : Int) = some true := by
  intro d
  induction d with
  | zero =>
    intro k i s hi hk hs he
    obtain ⟨k, rfl⟩ : ∃ m, k = m + 1 := ⟨k - 1, by omega⟩
    rw [List.drop_eq_nil_of_le (by omega), List.foldl_nil] at he
    have hlen : ((pre ++ [last]).length : Int) = (x1.length : Int) + 1 := by simp [hp]
    have hrd : rdOf ByteArray.empty (pre ++ [last]) (x1.length : Int) = last := by rw [← hp]; simp [rdOf]
    rw [lotdrawertop_TopPooled.l1, if_neg (by omega), if_pos rfl, if_pos rfl, hlen, wrap_ok (by omega) (by omega), if_pos rfl, if_pos (by omega), if_pos (by omega), hrd, he]
    simp
  | succ d ih =>
    intro k i s hi hk hs he
    obtain ⟨k, rfl⟩ : ∃ m, k = m + 1 := ⟨k - 1, by omega⟩
    have hlt : i < has.length := by omega
    obtain ⟨f0, f1⟩ := rd_fit hlt hf
    have hz := itoaB_size (rd has (i : Int)) (by omega)
    have hz2 : ((⟨#[32]⟩ : ByteArray) ++ itoaB (rd has (i : Int))).size ≤ 22 := by
      rw [ByteArray.size_append]
      have : (⟨#[32]⟩ : ByteArray).size = 1 := rfl
      omega
    have hd : has.drop i = has[i] :: has.drop (i + 1) := List.drop_eq_getElem_cons hlt
    have hr : rd has (i : Int) = has[i] := by simp [rd, hlt]
    rw [hd, List.foldl_cons] at he
    have h := ih k (i + 1) (more s (rd has (i : Int))) (by omega) (by omega) (by unfold more; rw [ByteArray.size_append]; omega) (by rw [hr]; exact he)
    rw [lotdrawertop_TopPooled.l1, if_pos (by omega), if_pos (by omega), if_pos (by omega), itoa_some _ (by omega), Option.bind_some, if_pos (by omega), if_pos (by omega), wrap_ok (by omega) (by omega)]
    exact h
theorem loop (a0 : Int) (l1 : List Int) (hl : l1.length ≤ 60) (hroom : 1 ≤ a0 ∧ a0 ≤ 400) : ∀ (rest done : List Int) (cs : List S36) (tape : List Bool) (p : Pool), l1 = done ++ rest → cs.length = done.length → (∀ c ∈ cs, FitC c) → tape.length ≤ 2000 → p = runS (a0, 0, []) cs → PoolOK p.1 p.2.1 p.2.2 → p.2.1 = (done.length : Int) →
    ∃ k, lotdrawertop_TopPooled.l0 k a0 l1 tape cs l1 (l1.length : Int) (done.length : Int) p.1 p.2.1 p.2.2 = some true
  | [], done, cs, tape, p, h1, h2, hf, ht, hp, hok, hc => by
    have hlen : l1.length = done.length := by rw [h1, List.append_nil]
    have hfr : Fit a0 := ⟨by omega, by omega⟩
    obtain ⟨k1, hpr⟩ := print_run a0 cs (by omega)
    rcases hpr with ⟨_, hpr⟩ | ⟨hno, _⟩
    · obtain ⟨k2, htl⟩ := tell_printed a0 cs hfr hf (by omega)
      rcases htl with ⟨_, _, htl⟩ | ⟨hnew, _⟩
      · have hz := itoaB_size (l1.length : Int) (by omega)
        have hz5 : (keptB (l1.length : Int)).size ≤ 100 := by
          unfold keptB
          rw [ByteArray.size_append]
          have : (⟨#[107, 101, 112, 116, 32]⟩ : ByteArray).size = 5 := rfl
          omega
        have h3 := last_loop l1 (linesS (a0, 0, []) cs) (lastS p) (by rw [linesS_length]; omega) hl p.2.2 (len_le hok) hok.fit p.2.2.length (p.2.2.length + 1) 0 (keptB (l1.length : Int)) (by omega) (by omega) (by omega) (by
          rw [List.drop_zero, hlen, ← hc]; rfl)
        refine ⟨k1 + k2 + (p.2.2.length + 1) + 1, ?_⟩
        have b := at_rounds (bench_Print.mono a0 cs) (show k1 ≤ k1 + k2 + (p.2.2.length + 1) by omega) hpr
        have c := at_rounds (bench_Tell.mono (T (printL a0 cs))) (show k2 ≤ k1 + k2 + (p.2.2.length + 1) by omega) htl
        have h3' := at_rounds (fun k => (lotdrawertop_TopPooled.mono_l k).2.2.2 _ _ _ _ _ _ _ _) (show p.2.2.length + 1 ≤ k1 + k2 + (p.2.2.length + 1) by omega) h3
        rw [lotdrawertop_TopPooled.l0, if_neg (by omega), b, Option.bind_some, c, Option.bind_some, itoa_some _ (by omega), Option.bind_some, if_pos (by omega), ← hp]
        exact h3'
      · exfalso
        unfold pool_New.f pool_Right.f at hnew
        rw [if_pos hroom.1, if_pos hroom.2, if_pos (by omega), if_pos (by omega), Option.bind_some] at hnew
        have : mn a0 0 = 0 := by unfold mn; split <;> omega
        rw [this] at hnew
        simp at hnew
    · exact absurd ⟨hfr, hf⟩ hno
  | x :: rest, done, cs, tape, p, h1, h2, hf, ht, hp, hok, hc => by
    have hlen : l1.length = done.length + (rest.length + 1) := by rw [h1]; simp
    have hrd : rd l1 (done.length : Int) = x := by rw [h1]; exact rd_at' done x rest
    have hstart : ∀ k, lotdrawertop_TopPooled.j2 k a0 l1 tape cs x l1 (l1.length : Int) (done.length : Int) (!decide (Fit x)) p.1 p.2.1 p.2.2 = some true → lotdrawertop_TopPooled.l0 (k + 1) a0 l1 tape cs l1 (l1.length : Int) (done.length : Int) p.1 p.2.1 p.2.2 = some true := fun k h => by
      rw [lotdrawertop_TopPooled.l0, if_pos (by omega), if_pos (by omega), if_pos (by omega), hrd]
      by_cases h0 : x < 0
      · rw [if_pos h0]
        rw [decide_eq_false (fun e => by have := e.1; omega)] at h
        exact h
      · rw [if_neg h0]
        have e : decide (x > 1099511627776) = !decide (Fit x) := by
          by_cases hx : x > 1099511627776
          · rw [decide_eq_true hx, decide_eq_false (fun e => by have := e.2; omega)]; rfl
          · rw [decide_eq_false hx, decide_eq_true (show Fit x from ⟨by omega, by omega⟩)]; rfl
        rw [e]
        exact h
    by_cases hx : Fit x
    · rw [decide_eq_true hx] at hstart
      have hcm := hok.comes
      obtain ⟨kb, d, u, h, hb, hh⟩ := below_total tape ht (p.2.1 + 1) (by omega) (by omega)
      have hneed : pool_Need.f p.1 p.2.1 p.2.2 = some (p.2.1 + 1, 0) := by
        unfold pool_Need.f
        rw [right_ok hok, Option.bind_some, if_pos rfl, wrap_ok (by omega) (by omega)]
      rcases hh with rfl | ⟨rfl, d0, d1, u0, u1⟩
      · refine ⟨kb + 1 + 1, hstart _ ?_⟩
        rw [lotdrawertop_TopPooled.j2, if_neg (by decide), hneed, Option.bind_some, hb, Option.bind_some, if_pos rfl]
      · obtain ⟨r1, r3, hadd⟩ := add_ok hok x d d0 (by omega) (by omega)
        have haddS : addS p ⟨x, d⟩ = (r1, p.2.1 + 1, r3, 0) := by unfold addS; rw [hadd]; rfl
        have hnext : nextS p ⟨x, d⟩ = (r1, p.2.1 + 1, r3) := by unfold nextS; rw [haddS, if_pos rfl]
        have hok2 := next_ok hok ⟨x, d⟩ hx
        obtain ⟨k, hk⟩ := loop a0 l1 hl hroom rest (done ++ [x]) (cs ++ [(⟨x, d⟩ : S36)]) (tape.drop u.toNat) (nextS p ⟨x, d⟩) (by rw [h1]; simp) (by simp [h2]) (fun c hc => by
            rcases List.mem_append.1 hc with hc | hc
            · exact hf c hc
            · rw [List.mem_singleton.1 hc]; exact ⟨hx, ⟨by omega, by show d ≤ _; omega⟩⟩) (by rw [List.length_drop]; omega) (by rw [runS_append, ← hp]; rfl) hok2 (by rw [hnext]; simp; omega)
        have e3 : (((done ++ [x]).length : Nat) : Int) = (done.length : Int) + 1 := by simp
        rw [e3, hnext] at hk
        refine ⟨kb + k + 1 + 1, hstart _ ?_⟩
        rw [lotdrawertop_TopPooled.j2, if_neg (by decide), hneed, Option.bind_some]
        dsimp only
        rw [at_rounds (tape_Below.mono tape (p.2.1 + 1)) (show kb ≤ kb + k by omega) hb, Option.bind_some, if_neg (show ¬ (0 : Int) = 7 by decide), hadd, Option.bind_some, if_pos rfl, if_pos rfl, if_pos rfl, if_pos u0, if_pos u1, if_pos (by omega), wrap_ok (by omega) (by omega)]
        exact at_rounds (fun k => (lotdrawertop_TopPooled.mono_l k).2.1 _ _ _ _ _ _ _ _ _ _) (show k ≤ kb + k by omega) hk
    · refine ⟨1 + 1, hstart 1 ?_⟩
      rw [decide_eq_false hx, lotdrawertop_TopPooled.j2, if_pos (by decide)]
theorem TopPooled : lotdrawertop_TopPooled.Pure := by
  intro a0 l1 a2 w0 hm hsz hw w2
  obtain ⟨k1, tb, m0, m1, m2, m3, hb, hbl⟩ := bits_2000 (mixN a2 1) (mixN a2 2) (mixN a2 3) (mixN a2 4)
  have hseed : mixer_Seed.f a2 = some (mixN a2 1, mixN a2 2, mixN a2 3, mixN a2 4) := rfl
  have hj : ∃ k, ∃ q : Int × Int × List Int × Int, pool_New.f a0 = some q ∧ (if q.2.2.2 = 0 then lotdrawertop_TopPooled.j0 k a0 l1 q.2.2.2 tb 0 (decide ((l1.length : Int) > 60)) q.1 q.2.1 q.2.2.1 else lotdrawertop_TopPooled.j0 k a0 l1 q.2.2.2 tb 0 true q.1 q.2.1 q.2.2.1) = some true := by
    rcases new_of a0 with ⟨r1, r2, hnew⟩ | hnew
    · by_cases hlen : (l1.length : Int) > 60
      · refine ⟨1, _, hnew, ?_⟩
        rw [if_pos rfl, decide_eq_true hlen, lotdrawertop_TopPooled.j0, if_pos rfl, if_pos rfl]
        rfl
      · obtain ⟨k, hk⟩ := loop a0 l1 (by omega) ⟨r1, r2⟩ l1 [] [] tb (a0, 0, []) rfl rfl (by simp) (by omega) rfl (new_ok ⟨r1, r2⟩) rfl
        refine ⟨k + 1, _, hnew, ?_⟩
        rw [if_pos rfl, decide_eq_false hlen, lotdrawertop_TopPooled.j0, if_neg (by decide)]
        exact hk
    · refine ⟨1, _, hnew, ?_⟩
      rw [if_neg (by decide), lotdrawertop_TopPooled.j0, if_pos rfl, if_neg (by decide)]
  obtain ⟨k2, q, hq, hj⟩ := hj
  refine ⟨60 + k1 + k2, ?_⟩
  have a := at_rounds lotdrawertop_alive.mono (show 60 ≤ 60 + k1 + k2 by omega) alive_yes
  have b := at_rounds (mixer_Bits.mono _ _ _ _ _) (show k1 ≤ 60 + k1 + k2 by omega) hb
  unfold lotdrawertop_TopPooled.f
  rw [a, Option.bind_some, if_pos rfl, hq, Option.bind_some, hseed, Option.bind_some, b, Option.bind_some]
  by_cases c : q.2.2.2 = 0
  · rw [if_pos c, if_pos rfl]
    rw [if_pos c] at hj
    exact at_rounds (fun k => (lotdrawertop_TopPooled.mono_l k).1 _ _ _ _ _ _ _ _ _) (show k2 ≤ 60 + k1 + k2 by omega) hj
  · rw [if_neg c]
    rw [if_neg c] at hj
    exact at_rounds (fun k => (lotdrawertop_TopPooled.mono_l k).1 _ _ _ _ _ _ _ _ _) (show k2 ≤ 60 + k1 + k2 by omega) hj
end Go.Proofs.YtioppgeackgjnaaDoor.Pure
