/- Print and Parse are inverse to each other. -/
import Derived.Test.YtioppgeackgjnaaDoorPlTx
import Derived.Test.YtioppgeackgjnaaDoorBt141
namespace Go.Proofs.YtioppgeackgjnaaDoor.Pure
open Go.RowKit Go.Proofs.YtioppgeackgjnaaDoor.Bt Go.Proofs.YtioppgeackgjnaaDoorW.PrintWords Go.Proofs.YtioppgeackgjnaaDoorW.PrintLast Go.Proofs.YtioppgeackgjnaaDoor.Txt
set_option linter.unusedVariables false
theorem alive26_yes : lotdrawerkeep_alive26.f 80 = some true := by decide +kernel
theorem equal_coming (l : List S36) (hl : l.length ≤ 4000000000) : ∃ k, api_Coming.f k l l = some true := by
  have : ∀ (d k i : Nat), i + d = l.length → d < k → api_Coming.l0 k l l (l.length : Int) (i : Int) = some true := by
    intro d
    induction d with
    | zero =>
      intro k i hi hk
      obtain ⟨k, rfl⟩ : ∃ m, k = m + 1 := ⟨k - 1, by omega⟩
      rw [api_Coming.l0, if_neg (by omega)]
    | succ d ih =>
      intro k i hi hk
      obtain ⟨k, rfl⟩ : ∃ m, k = m + 1 := ⟨k - 1, by omega⟩
      rw [api_Coming.l0, if_pos (by omega), if_pos (by omega), if_pos (by omega), if_pos (by omega), if_neg (by simp), wrap_ok (by omega) (by omega)]
      exact ih k (i + 1) (by omega) (by omega)
  refine ⟨l.length + 1, ?_⟩
  unfold api_Coming.f
  rw [if_pos rfl]
  exact this l.length _ 0 (by omega) (by omega)
theorem T_data (t : ByteArray) : T t.data.toList = t := T_of t
theorem second (t : ByteArray) (ht : t.size ≤ 1048576) : ∃ k, lotdrawerkeep_BenchBack.j0 k t false = some true := by
  obtain ⟨k1, h⟩ := parse_all t (by omega)
  rcases h with ⟨r, o, hp, hk⟩ | ⟨hp, i, hk, i0, i1⟩
  · have hz := size_list t
    obtain ⟨e, hr, hf⟩ := read_print _ _ r o (by omega) hp
    have hcnt := parseS_count _ _ _ _ _ _ _ hp
    have hle : t.data.toList.count 10 ≤ t.data.toList.length := List.count_le_length
    rw [if_pos rfl] at hcnt
    simp only [List.length_nil] at hcnt
    obtain ⟨k2, h2⟩ := print_run r o (by omega)
    rcases h2 with ⟨_, h2⟩ | ⟨h2, _⟩
    · refine ⟨k1 + k2 + 1, ?_⟩
      rw [lotdrawerkeep_BenchBack.j0, if_neg (by decide), at_rounds (bench_Parse.mono t) (show k1 ≤ k1 + k2 by omega) hk, Option.bind_some, at_rounds (bench_Print.mono r o) (show k2 ≤ k1 + k2 by omega) h2, Option.bind_some, if_pos rfl, if_pos rfl, ← e, T_of]
      simp
    · exact absurd ⟨hr, hf⟩ h2
  · obtain ⟨k2, h2⟩ := print_run 0 [] (by simp)
    have h2' : ∃ b, bench_Print.f k2 0 [] = some b := by rcases h2 with ⟨_, h2⟩ | ⟨_, h2⟩ <;> exact ⟨_, h2⟩
    obtain ⟨b, h2'⟩ := h2'
    refine ⟨k1 + k2 + 1, ?_⟩
    have hcnt : strings_Count.f t ⟨#[10]⟩ = some ((Lib.countByte t.data.toList 10 : Nat) : Int) := if_pos rfl
    have ec : Lib.countByte t.data.toList 10 = t.data.toList.count 10 := rfl
    rw [lotdrawerkeep_BenchBack.j0, if_neg (by decide), at_rounds (bench_Parse.mono t) (show k1 ≤ k1 + k2 by omega) hk, Option.bind_some]
    dsimp only
    rw [at_rounds (bench_Print.mono 0 []) (show k2 ≤ k1 + k2 by omega) h2', Option.bind_some, if_neg (by decide), if_pos (by omega), hcnt, Option.bind_some, if_pos (by omega)]
    rfl
theorem BenchBack (a0 : Int) (l1 : List S36) (a2 : ByteArray) (hl : l1.length ≤ 1048576) (h2 : a2.size ≤ 1048576) : ∃ k, lotdrawerkeep_BenchBack.f k a0 l1 a2 = some true := by
  obtain ⟨k0, hj⟩ := second a2 h2
  obtain ⟨k1, hp⟩ := print_run a0 l1 hl
  have hmain : ∃ k b, bench_Print.f k a0 l1 = some b ∧ ∃ p, bench_Parse.f k b.1 = some p ∧ (b.2 = 0 → p = (a0, l1, 0, 0)) := by
    rcases hp with ⟨⟨hr, hf⟩, hp⟩ | ⟨_, hp⟩
    · have hlen := printL_len a0 l1 hr hf
      have hz : (T (printL a0 l1)).size = (printL a0 l1).length := T_size _
      obtain ⟨k2, h⟩ := parse_all (T (printL a0 l1)) (by omega)
      have hpp : parseS ((T (printL a0 l1)).size + 1) (T (printL a0 l1)).data.toList 0 [] 0 = some (a0, l1) := by
        rw [T_list]
        refine parse_print a0 l1 _ hr hf ?_
        have : l1.length + 1 ≤ (printL a0 l1).length := by
          have : ∀ l : List S36, l.length ≤ (addsL l).length := by
            intro l
            induction l with
            | nil => simp
            | cons c l ih =>
              have e : addsL (c :: l) = addLine c ++ [10] ++ addsL l := by simp [addsL]
              rw [e]; simp; omega
          have := this l1
          unfold printL
          simp
          omega
        omega
      rcases h with ⟨r, o, g1, g2⟩ | ⟨g1, _⟩
      · rw [hpp] at g1
        obtain ⟨rfl, rfl⟩ := Prod.mk.inj (Option.some.inj g1)
        exact ⟨k1 + k2, _, at_rounds (bench_Print.mono _ _) (by omega) hp, _, at_rounds (bench_Parse.mono _) (show k2 ≤ k1 + k2 by omega) g2, fun _ => rfl⟩
      · rw [hpp] at g1; cases g1
    · obtain ⟨k2, h⟩ := parse_all ⟨#[]⟩ (by decide)
      have : ∃ p, bench_Parse.f k2 ⟨#[]⟩ = some p := by
        rcases h with ⟨r, o, _, h⟩ | ⟨_, i, h, _⟩ <;> exact ⟨_, h⟩
      obtain ⟨p, h⟩ := this
      exact ⟨k1 + k2, _, at_rounds (bench_Print.mono _ _) (by omega) hp, _, at_rounds (bench_Parse.mono _) (show k2 ≤ k1 + k2 by omega) h, fun h => absurd h (by decide)⟩
  obtain ⟨k3, b, hb, p, hpa, hq⟩ := hmain
  obtain ⟨k4, h4⟩ := equal_coming l1 (by omega)
  refine ⟨80 + k0 + k3 + k4, ?_⟩
  have a := at_rounds lotdrawerkeep_alive26.mono (show 80 ≤ 80 + k0 + k3 + k4 by omega) alive26_yes
  have b1 := at_rounds (bench_Print.mono a0 l1) (show k3 ≤ 80 + k0 + k3 + k4 by omega) hb
  have c := at_rounds (bench_Parse.mono b.1) (show k3 ≤ 80 + k0 + k3 + k4 by omega) hpa
  have d := at_rounds (fun k => lotdrawerkeep_BenchBack.mono_l k _ _) (show k0 ≤ 80 + k0 + k3 + k4 by omega) hj
  have e := at_rounds (api_Coming.mono l1 l1) (show k4 ≤ 80 + k0 + k3 + k4 by omega) h4
  unfold lotdrawerkeep_BenchBack.f
  rw [a, Option.bind_some, if_pos rfl, b1, Option.bind_some, c, Option.bind_some]
  by_cases c1 : b.2 = 0
  · rw [if_pos c1, hq c1, if_pos rfl, if_pos rfl, e, Option.bind_some]
    exact d
  · rw [if_neg c1]
    exact d
end Go.Proofs.YtioppgeackgjnaaDoor.Pure
