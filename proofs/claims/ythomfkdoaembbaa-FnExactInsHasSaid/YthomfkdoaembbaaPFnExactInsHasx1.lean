/- Functions of the program as plain Lean functions, and that the machine's calls come to what these tell: by the kit's print, turned by this session (NOTES.md). No condition beyond each theorem's own. -/
import Derived.Test.YthomfkdoaembbaaPFnExactInsHasx0
namespace Go.Proofs.Ythomfkdoaembbaa.PFnExactInsHas
open Go.RowKit Go.Proofs.YthomfkdoaembbaaW.PrintWords Go.Proofs.YthomfkdoaembbaaW.PrintLast Go.Proofs.YthomfkdoaembbaaW.PrintMore
attribute [local go_sem] max2_int min2_int max_two min_two max_three min_three max_four min_four   -- for this text's walks alone
attribute [local go_sem] Go.Proofs.Ythomfkdoaembbaa.Aid.cell_twice
set_option linter.unusedVariables false
set_option linter.unusedSimpArgs false

/-! ### spec_InsHas: function 5 -/
def spec_InsHas.j0 : Nat → Int → Bool → Option (Int)
  | 0, _, _ => none
  | k + 1, x3, x4 => if x4 = true then (some 2) else (if x3 = 1 then (some 1) else (if x3 = 2 then (some 1) else (if x3 = 3 then (some 1) else (if x3 = 4 then (some 1) else (if x3 = 5 then (some 1) else (if x3 = 12 then (some 1) else (if x3 = 13 then (some 1) else (if x3 = 16 then (some 1) else (if x3 = 17 then (some 1) else (if x3 = 18 then (some 1) else (if x3 = 19 then (some 1) else (if x3 = 22 then (some 1) else (if x3 = 23 then (some 1) else (if x3 = 25 then (some 1) else (if x3 = 26 then (some 1) else (if x3 = 27 then (some 1) else (if x3 = 28 then (some 1) else (if x3 = 33 then (some 1) else (some 0)))))))))))))))))))
def spec_InsHas.f (k : Nat) (a0 : Int) : Option (Int) := if a0 = 14 then (spec_InsHas.j0 k a0 (a0 == 14)) else (spec_InsHas.j0 k a0 (a0 == 15))
theorem spec_InsHas.mono_l : ∀ k, (∀ y0 y1, LeO (spec_InsHas.j0 k y0 y1) (spec_InsHas.j0 (k + 1) y0 y1))
  | 0 => fun _ _ r h => by simp [spec_InsHas.j0] at h
  | k + 1 => by
    have ih0 := spec_InsHas.mono_l k
    · intro y0 y1
      unfold spec_InsHas.j0
      repeat' first
      | (with_reducible exact ih0 _ _)
      | (with_reducible exact LeO.refl _)
      | (with_reducible exact LeO.none _)
      | (with_reducible refine LeO.ite ?_ ?_)
      | (with_reducible refine LeO.bind ?_ (fun _ => ?_))
      | exact ih0 _ _
      | exact LeO.none _
      | refine LeO.ite ?_ ?_
      | refine LeO.bind ?_ (fun _ => ?_)
theorem spec_InsHas.mono : ∀ a0 k, LeO (spec_InsHas.f k a0) (spec_InsHas.f (k + 1) a0) := by
  intro a0 k
  have ih0 := spec_InsHas.mono_l k
  unfold spec_InsHas.f
  repeat' first
      | (with_reducible exact ih0 _ _)
      | (with_reducible exact LeO.refl _)
      | (with_reducible exact LeO.none _)
      | (with_reducible refine LeO.ite ?_ ?_)
      | (with_reducible refine LeO.bind ?_ (fun _ => ?_))
      | exact ih0 _ _
      | exact LeO.none _
      | refine LeO.ite ?_ ?_
      | refine LeO.bind ?_ (fun _ => ?_)
set_option maxHeartbeats 8000000 in
set_option maxRecDepth 100000 in
theorem spec_InsHas.calls (k : Nat) (a0 : Int) (r : Int) (w : World) (h : spec_InsHas.f k a0 = some r) :
    Calls Try.prog 5 #[.int .i64 a0] w fun e w' => e = .returned (.int .i64 r) ∧ Drawn0 w w' := by
  have H : (if a0 = 14 then (spec_InsHas.j0 k a0 (a0 == 14)) else (spec_InsHas.j0 k a0 (a0 == 15))) = some r := h
  clear h
  have HC2 := Aside0.mk H
  clear H
  go_enter Try.func5, Try.ntmps5
  go_upto_if 4 with (fail)
  go_cut [4] (fun v4 wc => ∃ (kq : Nat) (x4_1 : Bool), v4 = .bool x4_1 ∧ Aside0 (spec_InsHas.j0 kq a0 x4_1 = some r) ∧ Aside0 (kq ≤ k) ∧ Drawn0 w wc)
  case first =>
    have H := HC2.out
    clear HC2
    by_cases c3 : a0 = 14
    · rw [if_pos c3] at H
      have c3b0 : (a0 == 14) = true := beq_iff_eq.mpr c3
      have c3b1 : (a0 != 14) = false := bne_eq_false_iff_eq.mpr c3
      clear c3
      (first | rw [c3b0] | (simp only [i64_w, i32_w]; rw [c3b0]) | skip)
      have H' := Aside0.mk H
      clear H
      go_wp2
      go_meet
      case rel => exact ⟨_, ((a0 == 14)), (by first | rfl | (simp; done) | (simp [*]; done)), H', ⟨by first | omega | exact Nat.le_refl _⟩, by repeat (first | exact Drawn0.refl _ | apply Drawn0.step)⟩
    · rw [if_neg c3] at H
      have c3b0 : (a0 == 14) = false := beq_eq_false_iff_ne.mpr c3
      have c3b1 : (a0 != 14) = true := bne_iff_ne.mpr c3
      (first | rw [c3b0] | (simp only [i64_w, i32_w]; rw [c3b0]) | skip)
      have H' := Aside0.mk H
      clear H
      go_wp2
      go_meet
      case rel => exact ⟨_, ((a0 == 15)), (by first | rfl | (simp; done) | (simp [*]; done)), H', ⟨by first | omega | exact Nat.le_refl _⟩, by repeat (first | exact Drawn0.refl _ | apply Drawn0.step)⟩
  case rest =>
    clear HC2
    try clear p2
    try clear c3
    try clear c3b0
    try clear c3b1
    obtain ⟨kq, x4_1, rfl, HA, HJ1, ⟨mc1, rfl⟩⟩ := hcut
    cases kq with
    | zero => exact absurd HA.out (by simp [spec_InsHas.j0])
    | succ kj1 =>
      have H := HA.out
      clear HA
      simp only [spec_InsHas.j0] at H
      by_cases c4 : x4_1 = true
      · subst c4
        have H1 : (some 2) = some r := by rw [if_pos rfl] at H; exact H
        clear H
        have H := H1
        clear H1
        obtain rfl := Option.some.inj H
        go_wp2
        go_ret
        exact ⟨by first | rfl | (simp; done) | (simp [*]; done), by repeat (first | exact Drawn0.refl _ | apply Drawn0.step)⟩
      · replace c4 := Bool.eq_false_iff.mpr c4
        subst c4
        have H1 : (if a0 = 1 then (some 1) else (if a0 = 2 then (some 1) else (if a0 = 3 then (some 1) else (if a0 = 4 then (some 1) else (if a0 = 5 then (some 1) else (if a0 = 12 then (some 1) else (if a0 = 13 then (some 1) else (if a0 = 16 then (some 1) else (if a0 = 17 then (some 1) else (if a0 = 18 then (some 1) else (if a0 = 19 then (some 1) else (if a0 = 22 then (some 1) else (if a0 = 23 then (some 1) else (if a0 = 25 then (some 1) else (if a0 = 26 then (some 1) else (if a0 = 27 then (some 1) else (if a0 = 28 then (some 1) else (if a0 = 33 then (some 1) else (some 0))))))))))))))))))) = some r := by rw [if_neg (show ¬ (false = true) by decide)] at H; exact H
        clear H
        have H := H1
        clear H1
        by_cases c5 : a0 = 1
        · rw [if_pos c5] at H
          have c5b0 : (a0 == 1) = true := beq_iff_eq.mpr c5
          have c5b1 : (a0 != 1) = false := bne_eq_false_iff_eq.mpr c5
          clear c5
          obtain rfl := Option.some.inj H
          go_wp2
          go_ret
          exact ⟨by first | rfl | (simp; done) | (simp [*]; done), by repeat (first | exact Drawn0.refl _ | apply Drawn0.step)⟩
        · rw [if_neg c5] at H
          have c5b0 : (a0 == 1) = false := beq_eq_false_iff_ne.mpr c5
          have c5b1 : (a0 != 1) = true := bne_iff_ne.mpr c5
          by_cases c6 : a0 = 2
          · rw [if_pos c6] at H
            have c6b0 : (a0 == 2) = true := beq_iff_eq.mpr c6
            have c6b1 : (a0 != 2) = false := bne_eq_false_iff_eq.mpr c6
            clear c6
            obtain rfl := Option.some.inj H
            go_wp2
            go_ret
            exact ⟨by first | rfl | (simp; done) | (simp [*]; done), by repeat (first | exact Drawn0.refl _ | apply Drawn0.step)⟩
          · rw [if_neg c6] at H
            have c6b0 : (a0 == 2) = false := beq_eq_false_iff_ne.mpr c6
            have c6b1 : (a0 != 2) = true := bne_iff_ne.mpr c6
            by_cases c7 : a0 = 3
            · rw [if_pos c7] at H
              have c7b0 : (a0 == 3) = true := beq_iff_eq.mpr c7
              have c7b1 : (a0 != 3) = false := bne_eq_false_iff_eq.mpr c7
              clear c7
              obtain rfl := Option.some.inj H
              go_wp2
              go_ret
              exact ⟨by first | rfl | (simp; done) | (simp [*]; done), by repeat (first | exact Drawn0.refl _ | apply Drawn0.step)⟩
            · rw [if_neg c7] at H
              have c7b0 : (a0 == 3) = false := beq_eq_false_iff_ne.mpr c7
              have c7b1 : (a0 != 3) = true := bne_iff_ne.mpr c7
              by_cases c8 : a0 = 4
              · rw [if_pos c8] at H
                have c8b0 : (a0 == 4) = true := beq_iff_eq.mpr c8
                have c8b1 : (a0 != 4) = false := bne_eq_false_iff_eq.mpr c8
                clear c8
                obtain rfl := Option.some.inj H
                go_wp2
                go_ret
                exact ⟨by first | rfl | (simp; done) | (simp [*]; done), by repeat (first | exact Drawn0.refl _ | apply Drawn0.step)⟩
              · rw [if_neg c8] at H
                have c8b0 : (a0 == 4) = false := beq_eq_false_iff_ne.mpr c8
                have c8b1 : (a0 != 4) = true := bne_iff_ne.mpr c8
                by_cases c9 : a0 = 5
                · rw [if_pos c9] at H
                  have c9b0 : (a0 == 5) = true := beq_iff_eq.mpr c9
                  have c9b1 : (a0 != 5) = false := bne_eq_false_iff_eq.mpr c9
                  clear c9
                  obtain rfl := Option.some.inj H
                  go_wp2
                  go_ret
                  exact ⟨by first | rfl | (simp; done) | (simp [*]; done), by repeat (first | exact Drawn0.refl _ | apply Drawn0.step)⟩
                · rw [if_neg c9] at H
                  have c9b0 : (a0 == 5) = false := beq_eq_false_iff_ne.mpr c9
                  have c9b1 : (a0 != 5) = true := bne_iff_ne.mpr c9
                  by_cases c10 : a0 = 12
                  · rw [if_pos c10] at H
                    have c10b0 : (a0 == 12) = true := beq_iff_eq.mpr c10
                    have c10b1 : (a0 != 12) = false := bne_eq_false_iff_eq.mpr c10
                    clear c10
                    obtain rfl := Option.some.inj H
                    go_wp2
                    go_ret
                    exact ⟨by first | rfl | (simp; done) | (simp [*]; done), by repeat (first | exact Drawn0.refl _ | apply Drawn0.step)⟩
                  · rw [if_neg c10] at H
                    have c10b0 : (a0 == 12) = false := beq_eq_false_iff_ne.mpr c10
                    have c10b1 : (a0 != 12) = true := bne_iff_ne.mpr c10
                    by_cases c11 : a0 = 13
                    · rw [if_pos c11] at H
                      have c11b0 : (a0 == 13) = true := beq_iff_eq.mpr c11
                      have c11b1 : (a0 != 13) = false := bne_eq_false_iff_eq.mpr c11
                      clear c11
                      obtain rfl := Option.some.inj H
                      go_wp2
                      go_ret
                      exact ⟨by first | rfl | (simp; done) | (simp [*]; done), by repeat (first | exact Drawn0.refl _ | apply Drawn0.step)⟩
                    · rw [if_neg c11] at H
                      have c11b0 : (a0 == 13) = false := beq_eq_false_iff_ne.mpr c11
                      have c11b1 : (a0 != 13) = true := bne_iff_ne.mpr c11
                      by_cases c12 : a0 = 16
                      · rw [if_pos c12] at H
                        have c12b0 : (a0 == 16) = true := beq_iff_eq.mpr c12
                        have c12b1 : (a0 != 16) = false := bne_eq_false_iff_eq.mpr c12
                        clear c12
                        obtain rfl := Option.some.inj H
                        go_wp2
                        go_ret
                        exact ⟨by first | rfl | (simp; done) | (simp [*]; done), by repeat (first | exact Drawn0.refl _ | apply Drawn0.step)⟩
                      · rw [if_neg c12] at H
                        have c12b0 : (a0 == 16) = false := beq_eq_false_iff_ne.mpr c12
                        have c12b1 : (a0 != 16) = true := bne_iff_ne.mpr c12
                        by_cases c13 : a0 = 17
                        · rw [if_pos c13] at H
                          have c13b0 : (a0 == 17) = true := beq_iff_eq.mpr c13
                          have c13b1 : (a0 != 17) = false := bne_eq_false_iff_eq.mpr c13
                          clear c13
                          obtain rfl := Option.some.inj H
                          go_wp2
                          go_ret
                          exact ⟨by first | rfl | (simp; done) | (simp [*]; done), by repeat (first | exact Drawn0.refl _ | apply Drawn0.step)⟩
                        · rw [if_neg c13] at H
                          have c13b0 : (a0 == 17) = false := beq_eq_false_iff_ne.mpr c13
                          have c13b1 : (a0 != 17) = true := bne_iff_ne.mpr c13
                          by_cases c14 : a0 = 18
                          · rw [if_pos c14] at H
                            have c14b0 : (a0 == 18) = true := beq_iff_eq.mpr c14
                            have c14b1 : (a0 != 18) = false := bne_eq_false_iff_eq.mpr c14
                            clear c14
                            obtain rfl := Option.some.inj H
                            go_wp2
                            go_ret
                            exact ⟨by first | rfl | (simp; done) | (simp [*]; done), by repeat (first | exact Drawn0.refl _ | apply Drawn0.step)⟩
                          · rw [if_neg c14] at H
                            have c14b0 : (a0 == 18) = false := beq_eq_false_iff_ne.mpr c14
                            have c14b1 : (a0 != 18) = true := bne_iff_ne.mpr c14
                            by_cases c15 : a0 = 19
                            · rw [if_pos c15] at H
                              have c15b0 : (a0 == 19) = true := beq_iff_eq.mpr c15
                              have c15b1 : (a0 != 19) = false := bne_eq_false_iff_eq.mpr c15
                              clear c15
                              obtain rfl := Option.some.inj H
                              go_wp2
                              go_ret
                              exact ⟨by first | rfl | (simp; done) | (simp [*]; done), by repeat (first | exact Drawn0.refl _ | apply Drawn0.step)⟩
                            · rw [if_neg c15] at H
                              have c15b0 : (a0 == 19) = false := beq_eq_false_iff_ne.mpr c15
                              have c15b1 : (a0 != 19) = true := bne_iff_ne.mpr c15
                              by_cases c16 : a0 = 22
                              · rw [if_pos c16] at H
                                have c16b0 : (a0 == 22) = true := beq_iff_eq.mpr c16
                                have c16b1 : (a0 != 22) = false := bne_eq_false_iff_eq.mpr c16
                                clear c16
                                obtain rfl := Option.some.inj H
                                go_wp2
                                go_ret
                                exact ⟨by first | rfl | (simp; done) | (simp [*]; done), by repeat (first | exact Drawn0.refl _ | apply Drawn0.step)⟩
                              · rw [if_neg c16] at H
                                have c16b0 : (a0 == 22) = false := beq_eq_false_iff_ne.mpr c16
                                have c16b1 : (a0 != 22) = true := bne_iff_ne.mpr c16
                                by_cases c17 : a0 = 23
                                · rw [if_pos c17] at H
                                  have c17b0 : (a0 == 23) = true := beq_iff_eq.mpr c17
                                  have c17b1 : (a0 != 23) = false := bne_eq_false_iff_eq.mpr c17
                                  clear c17
                                  obtain rfl := Option.some.inj H
                                  go_wp2
                                  go_ret
                                  exact ⟨by first | rfl | (simp; done) | (simp [*]; done), by repeat (first | exact Drawn0.refl _ | apply Drawn0.step)⟩
                                · rw [if_neg c17] at H
                                  have c17b0 : (a0 == 23) = false := beq_eq_false_iff_ne.mpr c17
                                  have c17b1 : (a0 != 23) = true := bne_iff_ne.mpr c17
                                  by_cases c18 : a0 = 25
                                  · rw [if_pos c18] at H
                                    have c18b0 : (a0 == 25) = true := beq_iff_eq.mpr c18
                                    have c18b1 : (a0 != 25) = false := bne_eq_false_iff_eq.mpr c18
                                    clear c18
                                    obtain rfl := Option.some.inj H
                                    go_wp2
                                    go_ret
                                    exact ⟨by first | rfl | (simp; done) | (simp [*]; done), by repeat (first | exact Drawn0.refl _ | apply Drawn0.step)⟩
                                  · rw [if_neg c18] at H
                                    have c18b0 : (a0 == 25) = false := beq_eq_false_iff_ne.mpr c18
                                    have c18b1 : (a0 != 25) = true := bne_iff_ne.mpr c18
                                    by_cases c19 : a0 = 26
                                    · rw [if_pos c19] at H
                                      have c19b0 : (a0 == 26) = true := beq_iff_eq.mpr c19
                                      have c19b1 : (a0 != 26) = false := bne_eq_false_iff_eq.mpr c19
                                      clear c19
                                      obtain rfl := Option.some.inj H
                                      go_wp2
                                      go_ret
                                      exact ⟨by first | rfl | (simp; done) | (simp [*]; done), by repeat (first | exact Drawn0.refl _ | apply Drawn0.step)⟩
                                    · rw [if_neg c19] at H
                                      have c19b0 : (a0 == 26) = false := beq_eq_false_iff_ne.mpr c19
                                      have c19b1 : (a0 != 26) = true := bne_iff_ne.mpr c19
                                      by_cases c20 : a0 = 27
                                      · rw [if_pos c20] at H
                                        have c20b0 : (a0 == 27) = true := beq_iff_eq.mpr c20
                                        have c20b1 : (a0 != 27) = false := bne_eq_false_iff_eq.mpr c20
                                        clear c20
                                        obtain rfl := Option.some.inj H
                                        go_wp2
                                        go_ret
                                        exact ⟨by first | rfl | (simp; done) | (simp [*]; done), by repeat (first | exact Drawn0.refl _ | apply Drawn0.step)⟩
                                      · rw [if_neg c20] at H
                                        have c20b0 : (a0 == 27) = false := beq_eq_false_iff_ne.mpr c20
                                        have c20b1 : (a0 != 27) = true := bne_iff_ne.mpr c20
                                        by_cases c21 : a0 = 28
                                        · rw [if_pos c21] at H
                                          have c21b0 : (a0 == 28) = true := beq_iff_eq.mpr c21
                                          have c21b1 : (a0 != 28) = false := bne_eq_false_iff_eq.mpr c21
                                          clear c21
                                          obtain rfl := Option.some.inj H
                                          go_wp2
                                          go_ret
                                          exact ⟨by first | rfl | (simp; done) | (simp [*]; done), by repeat (first | exact Drawn0.refl _ | apply Drawn0.step)⟩
                                        · rw [if_neg c21] at H
                                          have c21b0 : (a0 == 28) = false := beq_eq_false_iff_ne.mpr c21
                                          have c21b1 : (a0 != 28) = true := bne_iff_ne.mpr c21
                                          by_cases c22 : a0 = 33
                                          · rw [if_pos c22] at H
                                            have c22b0 : (a0 == 33) = true := beq_iff_eq.mpr c22
                                            have c22b1 : (a0 != 33) = false := bne_eq_false_iff_eq.mpr c22
                                            clear c22
                                            obtain rfl := Option.some.inj H
                                            go_wp2
                                            go_ret
                                            exact ⟨by first | rfl | (simp; done) | (simp [*]; done), by repeat (first | exact Drawn0.refl _ | apply Drawn0.step)⟩
                                          · rw [if_neg c22] at H
                                            have c22b0 : (a0 == 33) = false := beq_eq_false_iff_ne.mpr c22
                                            have c22b1 : (a0 != 33) = true := bne_iff_ne.mpr c22
                                            obtain rfl := Option.some.inj H
                                            go_wp2
                                            go_ret
                                            exact ⟨by first | rfl | (simp; done) | (simp [*]; done), by repeat (first | exact Drawn0.refl _ | apply Drawn0.step)⟩

/-! ### impl_InsHas: function 6 -/
--PLAIN
def impl_InsHas.f (a0 : Int) : Option (Int) := some (HIns.insHas a0)
theorem impl_InsHas.calls (a0 : Int) (r : Int) (w : World) (h : impl_InsHas.f a0 = some r) :
    Calls Try.prog 6 #[.int .i64 a0] w fun e w' => e = .returned (.int .i64 r) ∧ Below w.heap.size w w' := by
  obtain rfl := Option.some.inj h
  exact HIns.insHas_any a0 w

/-! ### laws_FnExactInsHas: function 3 -/
def laws_FnExactInsHas.f (k : Nat) (a0 : Int) : Option (Bool) := (spec_InsHas.f k a0).bind fun t101 => ((impl_InsHas.f a0).bind fun t102 => (if t102 = t101 then (some true) else (some false)))
theorem laws_FnExactInsHas.mono : ∀ a0 k, LeO (laws_FnExactInsHas.f k a0) (laws_FnExactInsHas.f (k + 1) a0) := by
  intro a0 k
  unfold laws_FnExactInsHas.f
  repeat' first
      | (with_reducible exact spec_InsHas.mono _ _)
      | (with_reducible exact LeO.refl _)
      | (with_reducible exact LeO.none _)
      | (with_reducible refine LeO.ite ?_ ?_)
      | (with_reducible refine LeO.bind ?_ (fun _ => ?_))
      | exact spec_InsHas.mono _ _
      | exact LeO.none _
      | refine LeO.ite ?_ ?_
      | refine LeO.bind ?_ (fun _ => ?_)
set_option maxHeartbeats 8000000 in
set_option maxRecDepth 100000 in
theorem laws_FnExactInsHas.calls (k : Nat) (a0 : Int) (r : Bool) (w : World) (hrt_ : r = true) (h : laws_FnExactInsHas.f k a0 = some r) :
    Calls Try.prog 3 #[.int .i64 a0] w fun e w' => e = .returned (.bool r) ∧ Below w.heap.size w w' := by
  have HR_ := Aside0.mk hrt_
  clear hrt_
  have HB := Aside0.mk (Below.refl w.heap.size w)
  have H : ((spec_InsHas.f k a0).bind fun t101 => ((impl_InsHas.f a0).bind fun t102 => (if t102 = t101 then (some true) else (some false)))) = some r := h
  clear h
  replace H := Option.bind_eq_some_iff.mp H
  obtain ⟨t101, A20, H⟩ := H
  replace H : ((impl_InsHas.f a0).bind fun t102 => (if t102 = t101 then (some true) else (some false))) = some r := H
  have A2 := Aside0.mk A20
  clear A20
  replace H := Option.bind_eq_some_iff.mp H
  obtain ⟨t102, A30, H⟩ := H
  replace H : (if t102 = t101 then (some true) else (some false)) = some r := H
  have A3 := Aside0.mk A30
  clear A30
  by_cases c4 : t102 = t101
  · rw [if_pos c4] at H
    have c4b0 : (t102 == t101) = true := beq_iff_eq.mpr c4
    have c4b1 : (t102 != t101) = false := bne_eq_false_iff_eq.mpr c4
    clear c4
    obtain rfl := Option.some.inj H
    go_enter Try.func3, Try.ntmps3
    go_wp2_with (first | ((with_reducible refine gate_callee (f := 5) rfl ?_); refine goesL_ (some 6) rfl rfl Try.func5 (by kernel_rfl) rfl #[.int .i64 a0] rfl (by (try simp only [List.map_toArray, List.map_cons, List.map_nil]); first | done | rfl | (simp only [List.length_drop, List.length_take]; rfl)) ?_; (with_reducible refine (spec_InsHas.calls k a0 t101 _ A2.out).mono ?_); rintro e w' ⟨rfl, ⟨nd, rfl⟩⟩; refine ⟨_, rfl, ?_⟩) | ((with_reducible refine gate_callee (f := 6) rfl ?_); refine goesL_ (some 8) rfl rfl Try.func6 (by kernel_rfl) rfl #[.int .i64 a0] rfl (by (try simp only [List.map_toArray, List.map_cons, List.map_nil]); first | done | rfl | (simp only [List.length_drop, List.length_take]; rfl)) ?_; (with_reducible refine (impl_InsHas.calls a0 t102 _ A3.out).mono ?_); rintro e w5 ⟨rfl, hb⟩; refine ⟨_, rfl, ?_⟩; have n0_ := Aside0.mk (below_step (by repeat (first | (with_reducible first | exact HB.out | apply below_alloc | apply pw_below_drewN | apply below_drew1) | exact HB.out)) hb); clear HB; have HB := n0_; clear n0_; (try clear hb); (try clear hb2); (try clear hk); (try clear hi)))
    go_ret
    exact ⟨by first | rfl | (simp [errW_none, errW_some] <;> rfl) | (simp [*, errW_none, errW_some] <;> rfl), by repeat (first | (with_reducible first | exact HB.out | apply below_alloc | apply pw_below_drewN | apply below_drew1) | exact HB.out)⟩
  · rw [if_neg c4] at H
    have c4b0 : (t102 == t101) = false := beq_eq_false_iff_ne.mpr c4
    have c4b1 : (t102 != t101) = true := bne_iff_ne.mpr c4
    exact absurd ((Option.some.inj H).trans HR_.out) (by decide)

/-- THE ONE PURE STATEMENT of laws_FnExactInsHas: yours. -/
def laws_FnExactInsHas.Pure : Prop := ∀ (a0 : Int), (Lit.int .i64 a0).wf = true → ∃ k, laws_FnExactInsHas.f k a0 = some true
theorem laws_FnExactInsHas.walk (P : laws_FnExactInsHas.Pure) (a0 : Int) (w : World) (w0 : (Lit.int .i64 a0).wf = true) :
    Calls Try.prog 3 #[.int .i64 a0] w fun e w' => e = .returned (.bool true) ∧ Below w.heap.size w w' := by
  obtain ⟨k, h⟩ := P a0 w0
  refine (laws_FnExactInsHas.calls k a0 true w rfl h).mono ?_
  rintro e w' ⟨rfl, hd⟩
  exact ⟨rfl, hd⟩

end Go.Proofs.Ythomfkdoaembbaa.PFnExactInsHas
