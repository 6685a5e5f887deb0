/- A map of whole numbers that the call made, read as a whole number: eight counts of ten bits each, behind twenty bits for how often it was written. -/
import Derived.Test.YtioppgeackgjnaaDoorBt0
import Derived.Maps.OwnOps
import Derived.Maps.Views
namespace Go.Proofs.YtioppgeackgjnaaDoor.Bt
open Go.RowKit Go.Proofs.YtioppgeackgjnaaDoorW.PrintWords Go.Proofs.YtioppgeackgjnaaDoorW.PrintLast Go.Proofs.YtioppgeackgjnaaDoorW.PrintMore
set_option linter.unusedVariables false
def mget (m j : Int) : Int := if 0 ≤ j ∧ j ≤ 7 then m / 1048576 / (1024 ^ j.toNat) % 1024 else 0
def map_inc.f (m k : Int) : Option Int := if 0 ≤ m ∧ 0 ≤ k ∧ k ≤ 7 ∧ m % 1048576 < 1000000 ∧ mget m k < 1000 then some (m + 1 + 1048576 * 1024 ^ k.toNat) else none
theorem digits (q : Int) (h : 0 ≤ q) (k j : Nat) (hk : k ≤ 7) (hj : j ≤ 7) (hq : q / 1024 ^ k % 1024 < 1000) : (q + 1024 ^ k) / 1024 ^ j % 1024 = q / 1024 ^ j % 1024 + (if j = k then 1 else 0) := by
  obtain rfl | rfl | rfl | rfl | rfl | rfl | rfl | rfl : k = 0 ∨ k = 1 ∨ k = 2 ∨ k = 3 ∨ k = 4 ∨ k = 5 ∨ k = 6 ∨ k = 7 := by omega
  all_goals (obtain rfl | rfl | rfl | rfl | rfl | rfl | rfl | rfl : j = 0 ∨ j = 1 ∨ j = 2 ∨ j = 3 ∨ j = 4 ∨ j = 5 ∨ j = 6 ∨ j = 7 := by omega)
  all_goals (simp only [Int.reducePow] at hq ⊢; simp only [Nat.reduceEqDiff, if_true, if_false]; omega)
theorem inc_get {m k m' : Int} (h : map_inc.f m k = some m') (j : Int) : mget m' j = if j = k then mget m k + 1 else mget m j := by
  unfold map_inc.f at h
  split at h
  · rename_i hc
    obtain ⟨h0, h1, h2, h3, h4⟩ := hc
    injection h with h
    subst h
    obtain ⟨k, rfl⟩ := Int.eq_ofNat_of_zero_le h1
    have h1' : (0 : Int) ≤ (k : Int) ∧ (k : Int) ≤ 7 := ⟨h1, h2⟩
    unfold mget at h4 ⊢
    rw [if_pos h1'] at h4 ⊢
    simp only [Int.toNat_natCast] at h4 ⊢
    have e : ∀ c : Int, (m + 1 + 1048576 * c) / 1048576 = m / 1048576 + c := fun c => by omega
    by_cases hj : 0 ≤ j ∧ j ≤ 7
    · rw [if_pos hj, if_pos hj, e]
      obtain ⟨j, rfl⟩ := Int.eq_ofNat_of_zero_le hj.1
      simp only [Int.toNat_natCast]
      rw [digits (m / 1048576) (by omega) k j (by omega) (by omega) h4]
      by_cases hjk : j = k
      · subst hjk; simp
      · rw [if_neg hjk, if_neg (by omega), Int.add_zero]
    · rw [if_neg hj, if_neg hj, if_neg]
      intro e; subst e; exact hj h1'
  · cases h
theorem inc_wf {m k m' : Int} (h : map_inc.f m k = some m') : (Lit.int .i64 k).wf = true := by
  unfold map_inc.f at h
  split at h
  · rename_i hc
    obtain ⟨q0, q1, q2, q3, q4⟩ := hc
    have e1 : IntKind.i64.min = -9223372036854775808 := by decide
    have e2 : IntKind.i64.max = 9223372036854775807 := by decide
    simp [Lit.wf]; omega
  · cases h
/-- Block b is a map that reads as m. -/
def MO (w : World) (b : Nat) (m : Int) : Prop := 0 ≤ m ∧ ∃ D : DataW Unit, w.ownsMap Tryd.prog 3 (plainElem Tryd.prog 3) b (m % 1048576).toNat D ∧ Maps.IsMap D ∧ ∀ j : Int, (Lit.int .i64 j).wf = true → D.atKey (.int .i64 j) (.lit (.int .i64 0)) = .lit (.int .i64 (mget m j))
theorem mget_zero (j : Int) : mget 0 j = 0 := by
  unfold mget
  split
  · simp
  · rfl
theorem MO_made (w : World) : MO (w.alloc (.map #[] 0)) w.heap.size 0 :=
  ⟨Int.le_refl _, .map [], World.ownsMap_made _ _ _ _, ⟨[], rfl⟩, fun j _ => by rw [mget_zero]; rfl⟩
theorem MO_lt {w : World} {b : Nat} {m : Int} (h : MO w b m) : b < w.heap.size := by
  obtain ⟨_, D, h, _⟩ := h
  exact h.lt
theorem MO_kept {w w' : World} {b : Nat} {m : Int} {row : Option Nat} (h : MO w b m) (hg : w.grownBy w' row) (hne : some b ≠ row) : MO w' b m := by
  obtain ⟨h0, D, h1, h2⟩ := h
  exact ⟨h0, D, h1.kept hg hne, h2⟩
theorem MO_alloc {w : World} {b : Nat} {m : Int} (h : MO w b m) (o : Obj) : MO (w.alloc o) b m := MO_kept h (World.grownBy_alloc w o none) (by simp)
theorem MO_drew {w : World} {b : Nat} {m : Int} (h : MO w b m) : MO w.drew b m := h
theorem MO_drewN {w : World} {b : Nat} {m : Int} (h : MO w b m) : ∀ n, MO (w.drewN n) b m
  | 0 => h
  | n + 1 => by
    unfold World.drewN
    first | exact MO_drewN (MO_drew h) n | exact MO_drew (MO_drewN h n)
theorem MO_below {w w' : World} {b : Nat} {m : Int} (h : MO w b m) (hb : Below w.heap.size w w') : MO w' b m :=
  MO_kept (row := none) h ⟨hb.os, hb.tape, hb.output, hb.size, fun k hk _ => hb.block k hk⟩ (by simp)
theorem lits_inj {a b : Int} (h : (Lit.int .i64 a) = .int .i64 b) : a = b := by injection h
section
variable {ops : Array Oper} {rest : List Oper} {o : Oper} {a : Act} {Q : Exit → Act → World → Prop} {w : World}
theorem MO_new (hg : o.guard = none) (hop : o.op = Op.makeMap 41 none) (hK : ∀ b, b = w.heap.size → ∀ w', w' = w.alloc (.map #[] 0) → wpList Tryd.prog ops Q rest (a.put o.dst (.map (some b))) w') : wpList Tryd.prog ops Q (o :: rest) a w := by
  refine wpList_plain hg fun K' hK' => ?_
  have hrun : (Instr.makeMap 41 none).run Tryd.prog w = .ok (.map (some w.heap.size)) (w.alloc (.map #[] 0)) := rfl
  unfold Oper.wp
  simp [execOp, hop, hrun, Result.andThen]
  exact hK' _ _ (hK _ rfl _ rfl)
theorem MO_look (hg : o.guard = none) (m x : Operand) (hop : o.op = Op.lookup 41 m x false) (b : Nat) (c : Int) (hO : MO w b c) (key : Int) (hw : (Lit.int .i64 key).wf = true) (hm : a.eval m = .map (some b)) (hx : a.eval x = .int .i64 key)
    (hK : wpList Tryd.prog ops Q rest (a.put o.dst (.int .i64 (mget c key))) w) : wpList Tryd.prog ops Q (o :: rest) a w := by
  obtain ⟨h0, D, h1, h2, h3⟩ := hO
  refine wpList_lookup_own_int w hg m x 41 hop 3 3 .i64 (Maps.int_keyed Tryd.underlying3) Tryd.underlying41 Tryd.underlying3 (by kernel_rfl) b _ D hm h1 _ (.int .i64 key) hx (Maps.keyOf_int_mk Tryd.underlying3 hw) (fun v hat _ => ?_)
  rw [h3 key hw] at hat
  obtain rfl : mget c key = v := by injection hat with hat; exact lits_inj hat
  exact hK
theorem MO_upd (hg : o.guard = none) (m x v : Operand) (hop : o.op = Op.mapUpdate 41 m x v) (b : Nat) (c c' : Int) (hO : MO w b c) (key : Int) (hi : map_inc.f c key = some c') (hm : a.eval m = .map (some b)) (hx : a.eval x = .int .i64 key) (hv : a.eval v = .int .i64 (wrap64 (mget c key + 1)))
    (hK : ∀ w', MO w' b c' → w.grownBy w' (some b) → wpList Tryd.prog ops Q rest (a.put o.dst undef) w') : wpList Tryd.prog ops Q (o :: rest) a w := by
  obtain ⟨h0, D, h1, h2, h3⟩ := hO
  have hget := inc_get hi
  unfold map_inc.f at hi
  split at hi
  · rename_i hc
    obtain ⟨q0, q1, q2, q3, q4⟩ := hc
    injection hi with hi
    have hp : (0 : Int) < 1024 ^ key.toNat := Int.pow_pos (by decide)
    have hm0 : 0 ≤ mget c key := by unfold mget; split <;> omega
    have hw : (Lit.int .i64 key).wf = true := by
      have e1 : IntKind.i64.min = -9223372036854775808 := by decide
      have e2 : IntKind.i64.max = 9223372036854775807 := by decide
      simp [Lit.wf]; omega
    have hwr : wrap64 (mget c key + 1) = mget c key + 1 := by unfold wrap64; omega
    refine wpList_mapUpdate_own w hg m x v 41 hop 3 3 (Maps.int_keyed Tryd.underlying3) Tryd.underlying41 _ b _ D hm h1 (by unfold maxLen; omega) _ _ (.int .i64 key) hx hv (Maps.keyOf_int_mk Tryd.underlying3 hw) _ [] (plainElem_int Tryd.underlying3 (wrap64_wf _)) (fun w' hown hgr => hK w' ⟨by omega, _, hown.mono (by omega), ?_, fun j hj => ?_⟩ hgr)
    · obtain ⟨es, rfl⟩ := h2
      exact ⟨_, rfl⟩
    · rw [hget j]
      by_cases hjk : j = key
      · subst hjk
        rw [if_pos rfl, hwr]
        exact Maps.atKey_put_same h2 (by first | exact ⟨_, _, rfl⟩ | trivial | simp [WideAt.IsKeyLit]) _ _
      · rw [if_neg hjk, Maps.atKey_put_other (fun e => hjk (lits_inj e)), h3 j hj]
  · cases hi
end
end Go.Proofs.YtioppgeackgjnaaDoor.Bt
