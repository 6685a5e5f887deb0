/- Rows that rise by rank: one more put in, the lowest of them, both of two. -/
import Derived.Test.YthhbdampbpndpaaPlRk
import Derived.Lib.SlicesCompact
namespace Go.Proofs.Ythhbdampbpndpaa.Rk
set_option linter.unusedVariables false
variable {s : Int}
def Inc (s : Int) (l : List Int) : Prop := l.Pairwise (fun a b => rk s a < rk s b)
def ins (s x : Int) : List Int → List Int
  | [] => [x]
  | y :: l => if rk s x < rk s y then x :: y :: l else if x = y then y :: l else y :: ins s x l
def insAll (s : Int) (a b : List Int) : List Int := b.foldl (fun l x => ins s x l) a
theorem ins_mem (x z : Int) : ∀ l, z ∈ ins s x l ↔ z = x ∨ z ∈ l
  | [] => by simp [ins]
  | y :: l => by
    unfold ins
    split
    · simp
    · split
      · rename_i h; subst h; simp
      · have := ins_mem x z l
        simp only [List.mem_cons, this]
        constructor
        · rintro (h | h | h)
          · exact .inr (.inl h)
          · exact .inl h
          · exact .inr (.inr h)
        · rintro (h | h | h)
          · exact .inr (.inl h)
          · exact .inl h
          · exact .inr (.inr h)
theorem insAll_mem (z : Int) : ∀ (b a : List Int), z ∈ insAll s a b ↔ z ∈ a ∨ z ∈ b
  | [], a => by simp [insAll]
  | x :: b, a => by
    have := insAll_mem z b (ins s x a)
    unfold insAll at this ⊢
    rw [List.foldl_cons, this, ins_mem, List.mem_cons]
    constructor
    · rintro ((h | h) | h)
      · exact .inr (.inl h)
      · exact .inl h
      · exact .inr (.inr h)
    · rintro (h | h | h)
      · exact .inl (.inr h)
      · exact .inl (.inl h)
      · exact .inr h
theorem ins_inc (hs : Word s) {x : Int} (hx : Word x) : ∀ l : List Int, (∀ y ∈ l, Word y) → Inc s l → Inc s (ins s x l)
  | [], _, _ => by simp [ins, Inc]
  | y :: l, hw, h => by
    have hy := hw y List.mem_cons_self
    unfold Inc at h
    obtain ⟨h1, h2⟩ := List.pairwise_cons.1 h
    unfold ins
    split
    · rename_i hlt
      refine List.pairwise_cons.2 ⟨fun z hz => ?_, h⟩
      rcases List.mem_cons.1 hz with rfl | hz
      · exact hlt
      · have := h1 z hz; omega
    · split
      · exact h
      · rename_i hge hne
        have ih := ins_inc hs hx l (fun z hz => hw z (List.mem_cons_of_mem _ hz)) h2
        refine List.pairwise_cons.2 ⟨fun z hz => ?_, ih⟩
        rcases (ins_mem x z l).1 hz with rfl | hz
        · have : rk s z ≠ rk s y := fun e => hne (rk_inj hs hx hy e)
          omega
        · exact h1 z hz
theorem ins_word {x : Int} (hx : Word x) {l : List Int} (h : ∀ y ∈ l, Word y) : ∀ y ∈ ins s x l, Word y := fun y hy => by
  rcases (ins_mem x y l).1 hy with rfl | hy
  · exact hx
  · exact h y hy
theorem insAll_ok (hs : Word s) : ∀ (b a : List Int), (∀ y ∈ a, Word y) → (∀ y ∈ b, Word y) → Inc s a → Inc s (insAll s a b) ∧ ∀ y ∈ insAll s a b, Word y
  | [], a, ha, _, h => ⟨h, ha⟩
  | x :: b, a, ha, hb, h => by
    have hx := hb x List.mem_cons_self
    exact insAll_ok hs b (ins s x a) (ins_word hx ha) (fun y hy => hb y (List.mem_cons_of_mem _ hy)) (ins_inc hs hx a ha h)
/-- Rising rows with the same members are one. -/
theorem inc_unique : ∀ (a b : List Int), Inc s a → Inc s b → (∀ z, z ∈ a ↔ z ∈ b) → a = b
  | [], b, _, _, h => by
    cases b with
    | nil => rfl
    | cons y b => have := (h y).2 List.mem_cons_self; simp at this
  | x :: a, [], _, _, h => by have := (h x).1 List.mem_cons_self; simp at this
  | x :: a, y :: b, ha, hb, h => by
    obtain ⟨a1, a2⟩ := List.pairwise_cons.1 ha
    obtain ⟨b1, b2⟩ := List.pairwise_cons.1 hb
    have hxy : x = y := by
      rcases List.mem_cons.1 ((h x).1 List.mem_cons_self) with e | e
      · exact e
      · rcases List.mem_cons.1 ((h y).2 List.mem_cons_self) with e2 | e2
        · exact e2.symm
        · have := a1 y e2
          have := b1 x e
          omega
    subst hxy
    rw [inc_unique a b a2 b2 (fun z => ?_)]
    have hz := h z
    simp only [List.mem_cons] at hz
    constructor
    · intro hm
      rcases hz.1 (.inr hm) with e | e
      · subst e; have := a1 z hm; omega
      · exact e
    · intro hm
      rcases hz.2 (.inr hm) with e | e
      · subst e; have := b1 z hm; omega
      · exact e
theorem take_ins (x : Int) : ∀ (n : Nat) (l : List Int), (ins s x (l.take n)).take n = (ins s x l).take n
  | 0, _ => rfl
  | n + 1, [] => rfl
  | n + 1, y :: l => by
    rw [List.take_succ_cons]
    unfold ins
    split
    · rw [List.take_succ_cons, List.take_succ_cons]
      cases n with
      | zero => rfl
      | succ n => rw [List.take_succ_cons, List.take_succ_cons, List.take_take]; simp [Nat.min_eq_left]
    · split
      · rw [List.take_succ_cons, List.take_succ_cons, List.take_take, Nat.min_self]
      · rw [List.take_succ_cons, List.take_succ_cons, take_ins x n l]
theorem take_insAll : ∀ (b : List Int) (n : Nat) (l : List Int), (insAll s (l.take n) b).take n = (insAll s l b).take n
  | [], n, l => by show (l.take n).take n = l.take n; rw [List.take_take, Nat.min_self]
  | x :: b, n, l => by
    show (insAll s (ins s x (l.take n)) b).take n = (insAll s (ins s x l) b).take n
    rw [← take_insAll b n (ins s x (l.take n)), take_ins, take_insAll b n]
/-- Of a row that does not fall, the equals struck out: it rises, with the same members. -/
theorem compact_upto (hs : Word s) (d : Array Int) (hw : ∀ j, j < d.size → Word d[j]!) (hp : ∀ i j, i < j → j < d.size → ¬ rk s d[j]! < rk s d[i]!) : ∀ m, m ≤ d.size →
    Inc s (Lib.compactUpTo d m) ∧ (∀ z, z ∈ Lib.compactUpTo d m ↔ ∃ j, j < m ∧ d[j]! = z) ∧ ∀ z ∈ Lib.compactUpTo d m, ∀ j, j + 1 = m → ¬ rk s d[j]! < rk s z := by
  intro m
  induction m with
  | zero => intro _; exact ⟨List.Pairwise.nil, fun z => ⟨fun h => by simp [Lib.compactUpTo] at h, fun ⟨j, h, _⟩ => absurd h (by omega)⟩, fun z _ j hj => absurd hj (by omega)⟩
  | succ m ih =>
    intro hm
    obtain ⟨i1, i2, i3⟩ := ih (by omega)
    rw [Lib.compactUpTo_succ]
    have hlow : ∀ z ∈ Lib.compactUpTo d m, ¬ rk s d[m]! < rk s z := fun z hz => by
      obtain ⟨j, hj, rfl⟩ := (i2 z).1 hz
      exact hp j m hj (by omega)
    by_cases hk : Lib.keeps d m = true
    · rw [if_pos hk]
      have hstrict : ∀ z ∈ Lib.compactUpTo d m, rk s z < rk s d[m]! := fun z hz => by
        obtain ⟨j, hj, hjz⟩ := (i2 z).1 hz
        have hne : m = 0 ∨ d[m]! ≠ d[m - 1]! := by simpa [Lib.keeps] using hk
        rcases hne with h0 | hne
        · omega
        · have h1 := i3 z hz (m - 1) (by omega)
          have h2 := hp (m - 1) m (by omega) (by omega)
          have h3 : rk s d[m]! ≠ rk s d[m - 1]! := fun e => hne (rk_inj hs (hw m (by omega)) (hw (m - 1) (by omega)) e)
          omega
      refine ⟨List.pairwise_append.2 ⟨i1, by simp, fun a ha b hb => by rw [List.mem_singleton.1 hb]; exact hstrict a ha⟩, fun z => ?_, fun z hz j hj => ?_⟩
      · rw [List.mem_append, i2, List.mem_singleton]
        constructor
        · rintro (⟨j, hj, h⟩ | rfl)
          · exact ⟨j, by omega, h⟩
          · exact ⟨m, by omega, rfl⟩
        · rintro ⟨j, hj, h⟩
          by_cases hjm : j = m
          · subst hjm; exact .inr h.symm
          · exact .inl ⟨j, by omega, h⟩
      · obtain rfl : j = m := by omega
        rcases List.mem_append.1 hz with hz | hz
        · exact hlow z hz
        · rw [List.mem_singleton.1 hz]; omega
    · rw [if_neg hk, List.append_nil]
      have heq : m ≠ 0 ∧ d[m]! = d[m - 1]! := by
        have := Bool.eq_false_iff.2 hk
        simp [Lib.keeps] at this
        exact this
      refine ⟨i1, fun z => ?_, fun z hz j hj => by obtain rfl : j = m := by omega
                                                   exact hlow z hz⟩
      rw [i2]
      constructor
      · rintro ⟨j, hj, h⟩; exact ⟨j, by omega, h⟩
      · rintro ⟨j, hj, h⟩
        by_cases hjm : j = m
        · subst hjm; exact ⟨j - 1, by omega, by rw [← heq.2]; exact h⟩
        · exact ⟨j, by omega, h⟩
theorem compact_ok (hs : Word s) (ys : List Int) (hw : ∀ y ∈ ys, Word y) (hp : ys.Pairwise (fun a b => ¬ rk s b < rk s a)) : Inc s (Lib.compact ys) ∧ ∀ z, z ∈ Lib.compact ys ↔ z ∈ ys := by
  have hg : ∀ j (hj : j < ys.length), ys.toArray[j]! = ys[j] := fun j hj => by simp [hj]
  obtain ⟨h1, h2, _⟩ := compact_upto hs ys.toArray (fun j hj => by
    have hj' : j < ys.length := by simpa using hj
    rw [hg j hj']; exact hw _ (List.getElem_mem hj')) (fun i j hij hj => by
    have hj' : j < ys.length := by simpa using hj
    rw [hg j hj', hg i (by omega)]
    exact (List.pairwise_iff_getElem.1 hp) i j (by omega) hj' hij) ys.length (by simp)
  refine ⟨h1, fun z => ?_⟩
  show z ∈ Lib.compactUpTo ys.toArray ys.length ↔ _
  rw [h2, List.mem_iff_getElem]
  constructor
  · rintro ⟨j, hj, h⟩; exact ⟨j, hj, by rw [← hg j hj]; exact h⟩
  · rintro ⟨j, hj, h⟩; exact ⟨j, hj, by rw [hg j hj]; exact h⟩
/-- Two rows joined, sorted, the equals struck out: the second one's put into the first. -/
theorem compact_joined (hs : Word s) (a b ys : List Int) (ha : ∀ y ∈ a, Word y) (hb : ∀ y ∈ b, Word y) (hi : Inc s a) (hperm : ys.Perm (a ++ b)) (hp : ys.Pairwise (fun a b => ¬ rk s b < rk s a)) : Lib.compact ys = insAll s a b := by
  have hw : ∀ y ∈ ys, Word y := fun y hy => by
    rcases List.mem_append.1 (hperm.mem_iff.1 hy) with h | h
    · exact ha y h
    · exact hb y h
  obtain ⟨c1, c2⟩ := compact_ok hs ys hw hp
  refine inc_unique _ _ c1 (insAll_ok hs b a ha hb hi).1 (fun z => ?_)
  rw [c2, hperm.mem_iff, List.mem_append, insAll_mem]
end Go.Proofs.Ythhbdampbpndpaa.Rk
