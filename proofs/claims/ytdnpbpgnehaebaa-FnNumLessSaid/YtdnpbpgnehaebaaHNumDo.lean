/- The program's NumDo walked: it comes to what 'numDo' tells, at every kind and all numbers; it turns nothing that was there. No condition. -/
import Derived.Test.YtdnpbpgnehaebaaProg
import Derived.Test.YtdnpbpgnehaebaaWWords
import Derived.Deep.QuietTactic
import Derived.BigQuiet
import Derived.WalkSpells
import Derived.WalkLawsBesides
import Derived.Laws.EntriesVeiled
import Derived.Outline
namespace Go.Proofs.Ytdnpbpgnehaebaa.HNumDo
open Go.RowKit Go.Proofs.YtdnpbpgnehaebaaW.PrintWords
theorem tmod_add (a : Int) : (Int.tmod a 9973 + 9973) % 9973 = a % 9973 := by
  rw [Int.tmod_eq_emod]
  split <;> omega
theorem red_any (a : Int) (w : World) : Calls Try.prog 41 #[.int .i64 a] w fun e w' => e = .returned (.int .i64 (a % 9973)) ∧ w' = w := by
  have h1 := Int.tmod_lt_of_pos a (show (0:Int) < 9973 by omega)
  have h2 := Int.lt_tmod_of_pos a (show (0:Int) < 9973 by omega)
  have h3 := tmod_add a
  have e : (wrap64 (a.tmod 9973 + 9973)).tmod 9973 = a % 9973 := by
    rw [show wrap64 (a.tmod 9973 + 9973) = a.tmod 9973 + 9973 from by unfold wrap64; omega, Int.tmod_eq_emod_of_nonneg (by omega), h3]
  have E := Aside0.mk e
  clear h1 h2 h3 e
  go_enter Try.func41, Try.ntmps41
  go_wp2
  go_ret
  exact ⟨by rw [← E.out]; rfl, rfl⟩
theorem add_any (a b : Int) (w : World) (ha : 0 ≤ a) (ha1 : a < 9973) (hb : 0 ≤ b) (hb1 : b < 9973) : Calls Try.prog 42 #[.int .i64 a, .int .i64 b] w fun e w' => e = .returned (.int .i64 ((a + b) % 9973)) ∧ w' = w := by
  have E := Aside0.mk (show (a + b).tmod 9973 = (a + b) % 9973 from Int.tmod_eq_emod_of_nonneg (by omega))
  go_enter Try.func42, Try.ntmps42
  go_wp2
  go_ret
  exact ⟨by first | rfl | (rw [← E.out]; rfl), rfl⟩
theorem mul_bounds (a b : Int) (ha : 0 ≤ a) (ha1 : a < 9973) (hb : 0 ≤ b) (hb1 : b < 9973) : 0 ≤ a * b ∧ a * b ≤ 99460729 := by
  refine ⟨Int.mul_nonneg ha hb, ?_⟩
  have := Int.mul_le_mul (show a ≤ 9973 by omega) (show b ≤ 9973 by omega) hb (by omega)
  omega
theorem mul_any (a b : Int) (w : World) (ha : 0 ≤ a) (ha1 : a < 9973) (hb : 0 ≤ b) (hb1 : b < 9973) : Calls Try.prog 43 #[.int .i64 a, .int .i64 b] w fun e w' => e = .returned (.int .i64 ((a * b) % 9973)) ∧ w' = w := by
  have hm := mul_bounds a b ha ha1 hb hb1
  have e : (wrap64 (a * b)).tmod 9973 = (a * b) % 9973 := by
    rw [show wrap64 (a * b) = a * b from by unfold wrap64; omega]
    exact Int.tmod_eq_emod_of_nonneg (by omega)
  have E := Aside0.mk e
  clear hm e ha ha1 hb hb1
  go_enter Try.func43, Try.ntmps43
  go_wp2
  go_ret
  exact ⟨by first | rfl | (rw [← E.out]; rfl), rfl⟩
theorem less_any (a b : Int) (w : World) : Calls Try.prog 44 #[.int .i64 a, .int .i64 b] w fun e w' => e = .returned (.int .i64 (if a < b then 1 else 0)) ∧ w' = w := by
  by_cases h : a < b
  · rw [if_pos h]
    go_enter Try.func44, Try.ntmps44
    go_wp2
    go_ret
    exact ⟨rfl, rfl⟩
  · rw [if_neg h]
    go_enter Try.func44, Try.ntmps44
    go_wp2
    go_ret
    exact ⟨rfl, rfl⟩
/-- What NumDo comes to. -/
def numDo (op a b : Int) : Int := if op = 7 then (a % 9973 + b % 9973) % 9973 else if op = 8 then (a % 9973 * (b % 9973)) % 9973 else if op = 9 then (if a % 9973 < b % 9973 then 1 else 0) else 0
theorem numDo_out (op a b : Int) (w : World) (h : op < 7 ∨ op > 9) : Calls Try.prog 26 #[.int .i64 op, .int .i64 a, .int .i64 b] w fun e w' => e = .returned (.int .i64 0) ∧ Below w.heap.size w w' := by
  rcases h with h | h
  · go_enter Try.func26, Try.ntmps26
    go_wp2
    go_ret
    exact ⟨rfl, by repeat (first | exact Below.refl _ _ | apply below_alloc)⟩
  · have h7 : ¬ op < 7 := by omega
    go_enter Try.func26, Try.ntmps26
    go_wp2
    go_ret
    exact ⟨rfl, by repeat (first | exact Below.refl _ _ | apply below_alloc)⟩
theorem numDo_7 (a b : Int) (w : World) : Calls Try.prog 26 #[.int .i64 7, .int .i64 a, .int .i64 b] w fun e w' => e = .returned (.int .i64 ((a % 9973 + b % 9973) % 9973)) ∧ Below w.heap.size w w' := by
  go_enter Try.func26, Try.ntmps26
  go_wp2
  go_quiet ((first | (go_at_call 41; exact Calls.quiet_of_same (red_any _ _)) | (go_at_call 42; exact Calls.quiet_of_same (add_any _ _ _ (by omega) (by omega) (by omega) (by omega)))))
  go_wp2
  go_ret
  exact ⟨rfl, by repeat (first | exact Below.refl _ _ | apply below_alloc | apply pw_below_drewN)⟩
theorem numDo_8 (a b : Int) (w : World) : Calls Try.prog 26 #[.int .i64 8, .int .i64 a, .int .i64 b] w fun e w' => e = .returned (.int .i64 ((a % 9973 * (b % 9973)) % 9973)) ∧ Below w.heap.size w w' := by
  go_enter Try.func26, Try.ntmps26
  go_wp2
  go_quiet ((first | (go_at_call 41; exact Calls.quiet_of_same (red_any _ _)) | (go_at_call 43; exact Calls.quiet_of_same (mul_any _ _ _ (by omega) (by omega) (by omega) (by omega)))))
  go_wp2
  go_ret
  exact ⟨rfl, by repeat (first | exact Below.refl _ _ | apply below_alloc | apply pw_below_drewN)⟩
theorem numDo_9 (a b : Int) (w : World) : Calls Try.prog 26 #[.int .i64 9, .int .i64 a, .int .i64 b] w fun e w' => e = .returned (.int .i64 (if a % 9973 < b % 9973 then 1 else 0)) ∧ Below w.heap.size w w' := by
  go_enter Try.func26, Try.ntmps26
  go_wp2
  go_quiet ((first | (go_at_call 41; exact Calls.quiet_of_same (red_any _ _)) | (go_at_call 44; exact Calls.quiet_of_same (less_any _ _ _))))
  go_wp2
  all_goals go_ret
  all_goals exact ⟨rfl, by repeat (first | exact Below.refl _ _ | apply below_alloc | apply pw_below_drewN)⟩
theorem numDo_any (op a b : Int) (w : World) : Calls Try.prog 26 #[.int .i64 op, .int .i64 a, .int .i64 b] w fun e w' => e = .returned (.int .i64 (numDo op a b)) ∧ Below w.heap.size w w' := by
  unfold numDo
  by_cases h7 : op = 7
  · subst h7; exact numDo_7 a b w
  · by_cases h8 : op = 8
    · subst h8; exact numDo_8 a b w
    · by_cases h9 : op = 9
      · subst h9; exact numDo_9 a b w
      · rw [if_neg h7, if_neg h8, if_neg h9]
        exact numDo_out op a b w (by omega)
end Go.Proofs.Ytdnpbpgnehaebaa.HNumDo
