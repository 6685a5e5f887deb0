/- A row of api.Coming that is handed in: what its places hold; how many there can be at a bounded bulk. -/
import Derived.Test.YtioppgeackgjnaaDoorBt0
import Derived.Test.YtioppgeackgjnaaDoorRows
import Derived.Deep.SlicePairs
import Derived.WalkKit
import Derived.ProofKit
namespace Go.Proofs.YtioppgeackgjnaaDoor.Opn
open Go.ChangeShapes Go.WideShapes Go.RowKit Go.Proofs.YtioppgeackgjnaaDoor.Bt
open Go.Proofs.YtioppgeackgjnaaDoorW.PrintWords
set_option linter.unusedVariables false
theorem bulk_one {H : Type} (d : DataW H) : 1 ≤ Rows.uptoBulk d := by
  cases d with
  | lit l => cases l <;> simp [Rows.uptoBulk]
  | nil => simp [Rows.uptoBulk]
  | ptr d => simp [Rows.uptoBulk]
  | slice elems spare => simp [Rows.uptoBulk]
  | agg parts => simp [Rows.uptoBulk]
  | iface t d => simp [Rows.uptoBulk]
  | map entries => simp [Rows.uptoBulk]
  | held h => simp [Rows.uptoBulk]
theorem bulk_length {H : Type} (l : List (DataW H)) : l.length ≤ Rows.uptoBulkAll l := by
  induction l with
  | nil => simp [Rows.uptoBulkAll]
  | cons x r ih => have := bulk_one x; simp only [Rows.uptoBulkAll, List.length_cons]; omega
theorem bulk_slice {H : Type} (elems spare : List (DataW H)) : elems.length + 1 ≤ Rows.uptoBulk (.slice elems spare) := by
  have h1 := bulk_length elems
  simp only [Rows.uptoBulk]
  omega
theorem open_comings {H : Type} {enc : TypeId × Value → H} {W : World} {base : Nat} {sp : Nat → Bool} {hd : Bool} {a : Option Addr} {len cap : Nat} {d : DataW H} {p : List MemPlace}
    (h : ∃ fuel, DataW.trod enc Tryd.prog W base sp hd fuel 22 [.slice a len cap] = some (d, p)) :
    ∃ l : List S36, l.length = len ∧ Kd.C k36 W a l.length l ∧ len ≤ cap ∧ len + 1 ≤ Rows.uptoBulk d := by
  obtain ⟨fuel, h⟩ := h
  rcases Go.Deep.open_slice_pairs Tryd.underlying22 Tryd.underlying36 (by kernel_rfl) rfl rfl (by kernel_rfl) (by kernel_rfl) h with ⟨hcs, hx⟩ | ⟨x, l, c, m, n, V0, V1, D0, D1, P0, P1, hcs, hb, hl, hm, hmm, hx, hc⟩
  · simp at hcs
    obtain ⟨rfl, rfl, rfl⟩ := hcs
    exact ⟨[], rfl, Kd.C_nil _ _, Nat.le_refl _, by simp only [Prod.mk.injEq] at hx; rw [hx.1]; simp [Rows.uptoBulk]⟩
  · simp at hcs
    obtain ⟨rfl, rfl, rfl⟩ := hcs
    have hlm : len ≤ m := by rw [hmm]; split <;> omega
    have each : ∀ i, i < len → ∃ q : Int × Int, V0 i = .int .i64 q.1 ∧ V1 i = .int .i64 q.2 := by
      intro i hi
      obtain ⟨_, _, g0, g1⟩ := hc i (by omega)
      obtain ⟨n0, e0, _, _⟩ := DataW.trod_int Tryd.underlying3 g0
      obtain ⟨n1, e1, _, _⟩ := DataW.trod_int Tryd.underlying3 g1
      exact ⟨(n0, n1), by simpa using e0, by simpa using e1⟩
    have each' : ∀ i : Nat, ∃ q : Int × Int, i < len → V0 i = .int .i64 q.1 ∧ V1 i = .int .i64 q.2 := fun i => by
      by_cases hi : i < len
      · obtain ⟨q, hq⟩ := each i hi
        exact ⟨q, fun _ => hq⟩
      · exact ⟨(0, 0), fun h => absurd h hi⟩
    obtain ⟨q, hq⟩ := Classical.axiomOfChoice each'
    refine ⟨(List.range len).map fun i => (⟨(q i).1, (q i).2⟩ : S36), by simp, ⟨rfl, ?_, fun _ => ⟨x, rfl, fun j s hj => ?_⟩⟩, hl, ?_⟩
    · simp only [List.length_map, List.length_range]
      have : maxLen = 9223372036854775807 := rfl
      omega
    · have hlt : j < len := by
        have := (List.getElem?_eq_some_iff.1 hj).1
        simpa using this
      have hs : s = ⟨(q j).1, (q j).2⟩ := by
        simp [hlt] at hj
        exact hj.symm
      subst hs
      obtain ⟨h0, h1, _, _⟩ := hc j (by omega)
      obtain ⟨e0, e1⟩ := hq j hlt
      refine ⟨[.int .i64 (q j).1, .int .i64 (q j).2], rfl, ⟨[.int .i64 (q j).1], [.int .i64 (q j).2], rfl, rfl, rfl⟩, fun i u hi => ?_⟩
      match i, hi with
      | 0, hi => simp at hi; subst hi; rw [← e0]; exact h0
      | 1, hi => simp at hi; subst hi; rw [← e1]; exact h1
      | _ + 2, hi => simp at hi
    · simp only [Prod.mk.injEq] at hx
      rw [hx.1]
      have := bulk_slice ((List.range len).map fun i => DataW.agg [D0 i, D1 i]) ((List.range (m - len)).map fun j => DataW.agg [D0 (len + j), D1 (len + j)])
      simpa using this
end Go.Proofs.YtioppgeackgjnaaDoor.Opn
