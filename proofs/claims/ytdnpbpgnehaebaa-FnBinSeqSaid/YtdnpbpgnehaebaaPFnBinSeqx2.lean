/- Functions of the program as plain Lean functions, and that the machine's calls come to what these tell: by the kit's print, turned by this session (NOTES.md). No condition beyond each theorem's own. -/
import Derived.Test.YtdnpbpgnehaebaaPFnBinSeqx0
import Derived.Test.YtdnpbpgnehaebaaPFnBinSeqx1
namespace Go.Proofs.Ytdnpbpgnehaebaa.PFnBinSeq
open Go.RowKit Go.Proofs.YtdnpbpgnehaebaaW.PrintWords Go.Proofs.YtdnpbpgnehaebaaW.PrintLast Go.Proofs.YtdnpbpgnehaebaaW.PrintMore
attribute [local go_sem] max2_int min2_int max_two min_two max_three min_three max_four min_four   -- for this text's walks alone
attribute [local go_sem] Go.Proofs.Ytdnpbpgnehaebaa.Aid.cell_twice
set_option linter.unusedVariables false
set_option linter.unusedSimpArgs false

/-! ### impl_BinNumAt: function 22 -/
def impl_BinNumAt.j0 : Nat → ByteArray → Int → Bool → Option (Int × Int × Int)
  | 0, _, _, _ => none
  | k + 1, x0, x1, x16 => if x16 = true then (some (0, 0, 2)) else (if 0 ≤ x1 then (if x1 < (x0.size : Int) then (if (wrap64 (bt x0 x1)) < 128 then (some (wrap64 (bt x0 x1), wrap64 (x1 + 1), 0)) else (if (wrap64 (x1 + 1)) ≥ (x0.size : Int) then (some (0, 0, 2)) else (if 0 ≤ (wrap64 (x1 + 1)) then (if (wrap64 (x1 + 1)) < (x0.size : Int) then (if (wrap64 (bt x0 (wrap64 (x1 + 1)))) = 0 then (some (0, 0, 3)) else (if (wrap64 (bt x0 (wrap64 (x1 + 1)))) ≥ 128 then (some (0, 0, 3)) else (some (wrap64 ((wrap64 ((wrap64 (bt x0 x1)) - 128)) + (wrap64 (128 * (wrap64 (bt x0 (wrap64 (x1 + 1))))))), wrap64 (x1 + 2), 0)))) else (none)) else (none)))) else (none)) else (none))
def impl_BinNumAt.f (k : Nat) (a0 : ByteArray) (a1 : Int) : Option (Int × Int × Int) := if a1 < 0 then (impl_BinNumAt.j0 k a0 a1 true) else (impl_BinNumAt.j0 k a0 a1 (decide (a1 ≥ (a0.size : Int))))
theorem impl_BinNumAt.mono_l : ∀ k, (∀ y0 y1 y2, LeO (impl_BinNumAt.j0 k y0 y1 y2) (impl_BinNumAt.j0 (k + 1) y0 y1 y2))
  | 0 => fun _ _ _ r h => by simp [impl_BinNumAt.j0] at h
  | k + 1 => by
    have ih0 := impl_BinNumAt.mono_l k
    · intro y0 y1 y2
      unfold impl_BinNumAt.j0
      repeat' first
      | (with_reducible exact ih0 _ _ _)
      | (with_reducible exact LeO.refl _)
      | (with_reducible exact LeO.none _)
      | (with_reducible refine LeO.ite ?_ ?_)
      | (with_reducible refine LeO.bind ?_ (fun _ => ?_))
      | exact ih0 _ _ _
      | exact LeO.none _
      | refine LeO.ite ?_ ?_
      | refine LeO.bind ?_ (fun _ => ?_)
theorem impl_BinNumAt.mono : ∀ a0 a1 k, LeO (impl_BinNumAt.f k a0 a1) (impl_BinNumAt.f (k + 1) a0 a1) := by
  intro a0 a1 k
  have ih0 := impl_BinNumAt.mono_l k
  unfold impl_BinNumAt.f
  repeat' first
      | (with_reducible exact ih0 _ _ _)
      | (with_reducible exact LeO.refl _)
      | (with_reducible exact LeO.none _)
      | (with_reducible refine LeO.ite ?_ ?_)
      | (with_reducible refine LeO.bind ?_ (fun _ => ?_))
      | exact ih0 _ _ _
      | exact LeO.none _
      | refine LeO.ite ?_ ?_
      | refine LeO.bind ?_ (fun _ => ?_)
set_option maxHeartbeats 8000000 in
set_option maxRecDepth 100000 in
theorem impl_BinNumAt.calls (k : Nat) (a0 : ByteArray) (a1 : Int) (r1 : Int) (r2 : Int) (r3 : Int) (w : World) (h : impl_BinNumAt.f k a0 a1 = some (r1, r2, r3)) :
    Calls Try.prog 22 #[.string a0, .int .i64 a1] w fun e w' => e = .returned (.tuple #[.int .i64 r1, .int .i64 r2, .int .i64 r3]) ∧ Drawn0 w w' := by
  have H : (if a1 < 0 then (impl_BinNumAt.j0 k a0 a1 true) else (impl_BinNumAt.j0 k a0 a1 (decide (a1 ≥ (a0.size : Int))))) = some (r1, r2, r3) := h
  clear h
  have HC3 := Aside0.mk H
  clear H
  go_enter Try.func22, Try.ntmps22
  go_upto_region 1 with (fail)
  go_cut [16] (fun v16 wc => ∃ (kq : Nat) (x16_2 : Bool), v16 = .bool x16_2 ∧ Aside0 (impl_BinNumAt.j0 kq a0 a1 x16_2 = some (r1, r2, r3)) ∧ Aside0 (kq ≤ k) ∧ Drawn0 w wc)
  case first =>
    have H := HC3.out
    clear HC3
    by_cases c4 : a1 < 0
    · rw [if_pos c4] at H
      have c4b0 : decide (a1 < 0) = true := decide_eq_true c4
      clear c4
      (first | rw [c4b0] | (simp only [i64_w, i32_w]; rw [c4b0]) | skip)
      have H' := Aside0.mk H
      clear H
      go_wp2
      go_meet
      case rel => exact ⟨_, (true), (by first | rfl | (simp; done) | (simp [*]; done)), H', ⟨by first | omega | exact Nat.le_refl _⟩, by repeat (first | exact Drawn0.refl _ | apply Drawn0.step)⟩
    · rw [if_neg c4] at H
      have c4b0 : decide (a1 < 0) = false := decide_eq_false c4
      clear c4
      (first | rw [c4b0] | (simp only [i64_w, i32_w]; rw [c4b0]) | skip)
      have H' := Aside0.mk H
      clear H
      go_wp2
      go_meet
      case rel => exact ⟨_, (decide (a1 ≥ (a0.size : Int))), (by first | rfl | (simp; done) | (simp [*]; done)), H', ⟨by first | omega | exact Nat.le_refl _⟩, by repeat (first | exact Drawn0.refl _ | apply Drawn0.step)⟩
  case rest =>
    clear HC3
    try clear c2
    try clear p2
    try clear c4
    try clear c4b0
    obtain ⟨kq, x16_2, rfl, HA, HJ2, ⟨mc2, rfl⟩⟩ := hcut
    cases kq with
    | zero => exact absurd HA.out (by simp [impl_BinNumAt.j0])
    | succ kj2 =>
      have H := HA.out
      clear HA
      simp only [impl_BinNumAt.j0] at H
      by_cases c5 : x16_2 = true
      · subst c5
        have H1 : (some (0, 0, 2)) = some (r1, r2, r3) := by rw [if_pos rfl] at H; exact H
        clear H
        have H := H1
        clear H1
        simp only [Option.some.injEq, Prod.mk.injEq] at H
        obtain ⟨rfl, rfl, rfl⟩ := H
        go_wp2
        go_ret3
        exact ⟨by first | rfl | (simp; done) | (simp [*]; done), by repeat (first | exact Drawn0.refl _ | apply Drawn0.step)⟩
      · replace c5 := Bool.eq_false_iff.mpr c5
        subst c5
        have H1 : (if 0 ≤ a1 then (if a1 < (a0.size : Int) then (if (wrap64 (bt a0 a1)) < 128 then (some (wrap64 (bt a0 a1), wrap64 (a1 + 1), 0)) else (if (wrap64 (a1 + 1)) ≥ (a0.size : Int) then (some (0, 0, 2)) else (if 0 ≤ (wrap64 (a1 + 1)) then (if (wrap64 (a1 + 1)) < (a0.size : Int) then (if (wrap64 (bt a0 (wrap64 (a1 + 1)))) = 0 then (some (0, 0, 3)) else (if (wrap64 (bt a0 (wrap64 (a1 + 1)))) ≥ 128 then (some (0, 0, 3)) else (some (wrap64 ((wrap64 ((wrap64 (bt a0 a1)) - 128)) + (wrap64 (128 * (wrap64 (bt a0 (wrap64 (a1 + 1))))))), wrap64 (a1 + 2), 0)))) else (none)) else (none)))) else (none)) else (none)) = some (r1, r2, r3) := by rw [if_neg (show ¬ (false = true) by decide)] at H; exact H
        clear H
        have H := H1
        clear H1
        by_cases c6 : 0 ≤ a1
        · rw [if_pos c6] at H
          have c6b0 : decide (0 ≤ a1) = true := decide_eq_true c6
          clear c6
          by_cases c7 : a1 < (a0.size : Int)
          · rw [if_pos c7] at H
            have c7b0 : decide (a1 < (a0.size : Int)) = true := decide_eq_true c7
            clear c7
            by_cases c9 : (wrap64 (bt a0 a1)) < 128
            · rw [if_pos c9] at H
              have c9b0 : decide ((wrap64 (bt a0 a1)) < 128) = true := decide_eq_true c9
              clear c9
              simp only [Option.some.injEq, Prod.mk.injEq] at H
              obtain ⟨rfl, rfl, rfl⟩ := H
              have p8 : 0 ≤ (a1 : Int) := of_decide_eq_true (by first | (with_reducible assumption) | assumption)
              have q8 : a1 < (a0.size : Int) := of_decide_eq_true (by first | (with_reducible assumption) | assumption)
              have hx8 := bt_at a0 a1
              replace p8 := eq_true p8
              replace q8 := eq_true q8
              go_wp2
              go_ret3
              exact ⟨by first | rfl | (simp; done) | (simp [*]; done), by repeat (first | exact Drawn0.refl _ | apply Drawn0.step)⟩
            · rw [if_neg c9] at H
              have c9b0 : decide ((wrap64 (bt a0 a1)) < 128) = false := decide_eq_false c9
              clear c9
              by_cases c10 : (wrap64 (a1 + 1)) ≥ (a0.size : Int)
              · rw [if_pos c10] at H
                have c10b0 : decide ((a0.size : Int) ≤ (wrap64 (a1 + 1))) = true := decide_eq_true c10
                clear c10
                simp only [Option.some.injEq, Prod.mk.injEq] at H
                obtain ⟨rfl, rfl, rfl⟩ := H
                have p8 : 0 ≤ (a1 : Int) := of_decide_eq_true (by first | (with_reducible assumption) | assumption)
                have q8 : a1 < (a0.size : Int) := of_decide_eq_true (by first | (with_reducible assumption) | assumption)
                have hx8 := bt_at a0 a1
                replace p8 := eq_true p8
                replace q8 := eq_true q8
                go_wp2
                go_ret3
                exact ⟨by first | rfl | (simp; done) | (simp [*]; done), by repeat (first | exact Drawn0.refl _ | apply Drawn0.step)⟩
              · rw [if_neg c10] at H
                have c10b0 : decide ((a0.size : Int) ≤ (wrap64 (a1 + 1))) = false := decide_eq_false c10
                clear c10
                obtain ⟨ji11, hji11⟩ : ∃ j_ : Int, (wrap64 (a1 + 1)) = j_ := ⟨_, rfl⟩
                replace H : (if 0 ≤ (ji11) then (if (ji11) < (a0.size : Int) then (if (wrap64 (bt a0 (ji11))) = 0 then (some (0, 0, 3)) else (if (wrap64 (bt a0 (ji11))) ≥ 128 then (some (0, 0, 3)) else (some (wrap64 ((wrap64 ((wrap64 (bt a0 a1)) - 128)) + (wrap64 (128 * (wrap64 (bt a0 (ji11)))))), wrap64 (a1 + 2), 0)))) else (none)) else (none)) = some (r1, r2, r3) := by first | (rw [hji11] at H; exact H) | (simp only [hji11] at H ⊢; exact H)
                (try rw [hji11] at c10b0)
                have hji11w : (IntKind.i64.wrap (a1 + 1)) = ji11 := (i64_w _).trans hji11
                by_cases c12 : 0 ≤ (ji11)
                · rw [if_pos c12] at H
                  have c12b0 : decide (0 ≤ (ji11)) = true := decide_eq_true c12
                  clear c12
                  by_cases c13 : (ji11) < (a0.size : Int)
                  · rw [if_pos c13] at H
                    have c13b0 : decide ((ji11) < (a0.size : Int)) = true := decide_eq_true c13
                    clear c13
                    by_cases c15 : (wrap64 (bt a0 (ji11))) = 0
                    · rw [if_pos c15] at H
                      have c15b0 : ((wrap64 (bt a0 (ji11))) == 0) = true := beq_iff_eq.mpr c15
                      have c15b1 : ((wrap64 (bt a0 (ji11))) != 0) = false := bne_eq_false_iff_eq.mpr c15
                      clear c15
                      simp only [Option.some.injEq, Prod.mk.injEq] at H
                      obtain ⟨rfl, rfl, rfl⟩ := H
                      have p8 : 0 ≤ (a1 : Int) := of_decide_eq_true (by first | (with_reducible assumption) | assumption)
                      have q8 : a1 < (a0.size : Int) := of_decide_eq_true (by first | (with_reducible assumption) | assumption)
                      have hx8 := bt_at a0 a1
                      replace p8 := eq_true p8
                      replace q8 := eq_true q8
                      have p14 : 0 ≤ ((ji11) : Int) := of_decide_eq_true (by first | (with_reducible assumption) | assumption)
                      have q14 : (ji11) < (a0.size : Int) := of_decide_eq_true (by first | (with_reducible assumption) | assumption)
                      have hx14 := bt_at a0 (ji11)
                      replace p14 := eq_true p14
                      replace q14 := eq_true q14
                      go_wp2
                      go_ret3
                      exact ⟨by first | rfl | (simp; done) | (simp only [← hji11] <;> (first | rfl | simp)) | (simp [*]; done), by repeat (first | exact Drawn0.refl _ | apply Drawn0.step)⟩
                    · rw [if_neg c15] at H
                      have c15b0 : ((wrap64 (bt a0 (ji11))) == 0) = false := beq_eq_false_iff_ne.mpr c15
                      have c15b1 : ((wrap64 (bt a0 (ji11))) != 0) = true := bne_iff_ne.mpr c15
                      by_cases c16 : (wrap64 (bt a0 (ji11))) ≥ 128
                      · rw [if_pos c16] at H
                        have c16b0 : decide (128 ≤ (wrap64 (bt a0 (ji11)))) = true := decide_eq_true c16
                        clear c16
                        simp only [Option.some.injEq, Prod.mk.injEq] at H
                        obtain ⟨rfl, rfl, rfl⟩ := H
                        have p8 : 0 ≤ (a1 : Int) := of_decide_eq_true (by first | (with_reducible assumption) | assumption)
                        have q8 : a1 < (a0.size : Int) := of_decide_eq_true (by first | (with_reducible assumption) | assumption)
                        have hx8 := bt_at a0 a1
                        replace p8 := eq_true p8
                        replace q8 := eq_true q8
                        have p14 : 0 ≤ ((ji11) : Int) := of_decide_eq_true (by first | (with_reducible assumption) | assumption)
                        have q14 : (ji11) < (a0.size : Int) := of_decide_eq_true (by first | (with_reducible assumption) | assumption)
                        have hx14 := bt_at a0 (ji11)
                        replace p14 := eq_true p14
                        replace q14 := eq_true q14
                        go_wp2
                        go_ret3
                        exact ⟨by first | rfl | (simp; done) | (simp only [← hji11] <;> (first | rfl | simp)) | (simp [*]; done), by repeat (first | exact Drawn0.refl _ | apply Drawn0.step)⟩
                      · rw [if_neg c16] at H
                        have c16b0 : decide (128 ≤ (wrap64 (bt a0 (ji11)))) = false := decide_eq_false c16
                        clear c16
                        simp only [Option.some.injEq, Prod.mk.injEq] at H
                        obtain ⟨rfl, rfl, rfl⟩ := H
                        have p8 : 0 ≤ (a1 : Int) := of_decide_eq_true (by first | (with_reducible assumption) | assumption)
                        have q8 : a1 < (a0.size : Int) := of_decide_eq_true (by first | (with_reducible assumption) | assumption)
                        have hx8 := bt_at a0 a1
                        replace p8 := eq_true p8
                        replace q8 := eq_true q8
                        have p14 : 0 ≤ ((ji11) : Int) := of_decide_eq_true (by first | (with_reducible assumption) | assumption)
                        have q14 : (ji11) < (a0.size : Int) := of_decide_eq_true (by first | (with_reducible assumption) | assumption)
                        have hx14 := bt_at a0 (ji11)
                        replace p14 := eq_true p14
                        replace q14 := eq_true q14
                        go_wp2
                        go_ret3
                        exact ⟨by first | rfl | (simp; done) | (simp only [← hji11] <;> (first | rfl | simp)) | (simp [*]; done), by repeat (first | exact Drawn0.refl _ | apply Drawn0.step)⟩
                  · rw [if_neg c13] at H
                    exact absurd H (by simp)
                · rw [if_neg c12] at H
                  exact absurd H (by simp)
          · rw [if_neg c7] at H
            exact absurd H (by simp)
        · rw [if_neg c6] at H
          exact absurd H (by simp)

/-! ### laws_FnBinSeq: function 5 -/
mutual
def laws_FnBinSeq.j0 : Nat → List Int → List Int → Bool → Option (Bool)
  | 0, _, _, _ => none
  | k + 1, x0, x1, x26 => if x26 = true then (some true) else ((spec_DrawBinOfNum.f k x0).bind fun t130 => ((spec_DrawBinOfNum.f k x1).bind fun t131 => ((impl_BinOfNum.f k t130).bind fun t132 => ((impl_BinOfNum.f k t131).bind fun t133 => ((spec_BinOfNum.f k t130).bind fun t134 => (if t132.toList = t134.toList then ((spec_BinOfNum.f k t131).bind fun t135 => (if t133.toList = t135.toList then (if t132.toList = ([] : List UInt8) then (laws_FnBinSeq.j1 k t130 t131 t132 t133 true) else (laws_FnBinSeq.j1 k t130 t131 t132 t133 (t133.toList == ([] : List UInt8)))) else (laws_FnBinSeq.j1 k t130 t131 t132 t133 true))) else (laws_FnBinSeq.j1 k t130 t131 t132 t133 true)))))))
def laws_FnBinSeq.j1 : Nat → Int → Int → ByteArray → ByteArray → Bool → Option (Bool)
  | 0, _, _, _, _, _ => none
  | k + 1, x5, x6, x7, x8, x52 => if x52 = true then ((spec_BinOfNum.f k x5).bind fun t136 => (if x7.toList = t136.toList then ((spec_BinOfNum.f k x6).bind fun t137 => (some (x8.toList == t137.toList))) else (some false))) else (if x7.size + x8.size ≤ 9223372036854775807 then ((impl_BinNumAt.f k (x7 ++ x8) 0).bind fun bt138 => ((impl_BinNumAt.f k (x7 ++ x8) bt138.2.1).bind fun bt141 => ((impl_BinNumAt.f k (x7 ++ x8) bt141.2.1).bind fun bt144 => (if (x7.size : Int) ≤ (x8.size : Int) then (if 0 ≤ (x7.size : Int) then (if bt138.1 = x5 then (if bt141.1 = x6 then (if bt138.2.2 = 0 then (if bt141.2.2 = 0 then (if bt141.2.1 = (wrap64 ((x7.size : Int) + (x8.size : Int))) then (if bt144.2.2 = 2 then (some (((x8.extract 0 ((x7.size : Int) : Int).toNat).toList == x7.toList) == (x5 == x6))) else (some false)) else (some false)) else (some false)) else (some false)) else (some false)) else (some false)) else (none)) else (if bt138.1 = x5 then (if bt141.1 = x6 then (if bt138.2.2 = 0 then (if bt141.2.2 = 0 then (if bt141.2.1 = (wrap64 ((x7.size : Int) + (x8.size : Int))) then (if bt144.2.2 = 2 then (some (false == (x5 == x6))) else (some false)) else (some false)) else (some false)) else (some false)) else (some false)) else (some false)))))) else (none))
end
def laws_FnBinSeq.f (k : Nat) (l0 : List Int) (l1 : List Int) : Option (Bool) := if (l0.length : Int) > 1048576 then (laws_FnBinSeq.j0 k l0 l1 true) else (laws_FnBinSeq.j0 k l0 l1 (decide ((l1.length : Int) > 1048576)))
theorem laws_FnBinSeq.mono_l : ∀ k, (∀ y0 y1 y2, LeO (laws_FnBinSeq.j0 k y0 y1 y2) (laws_FnBinSeq.j0 (k + 1) y0 y1 y2)) ∧ (∀ y0 y1 y2 y3 y4, LeO (laws_FnBinSeq.j1 k y0 y1 y2 y3 y4) (laws_FnBinSeq.j1 (k + 1) y0 y1 y2 y3 y4))
  | 0 => ⟨fun _ _ _ r h => by simp [laws_FnBinSeq.j0] at h, fun _ _ _ _ _ r h => by simp [laws_FnBinSeq.j1] at h⟩
  | k + 1 => by
    obtain ⟨ih0, ih1⟩ := laws_FnBinSeq.mono_l k
    refine ⟨?_, ?_⟩
    · intro y0 y1 y2
      unfold laws_FnBinSeq.j0
      repeat' first
      | (with_reducible exact ih0 _ _ _)
      | (with_reducible exact ih1 _ _ _ _ _)
      | (with_reducible exact impl_BinNumAt.mono _ _ _)
      | (with_reducible exact impl_BinOfNum.mono _ _)
      | (with_reducible exact spec_BinOfNum.mono _ _)
      | (with_reducible exact spec_DrawBinOfNum.mono _ _)
      | (with_reducible exact LeO.refl _)
      | (with_reducible exact LeO.none _)
      | (with_reducible refine LeO.ite ?_ ?_)
      | (with_reducible refine LeO.bind ?_ (fun _ => ?_))
      | exact ih0 _ _ _
      | exact ih1 _ _ _ _ _
      | exact impl_BinNumAt.mono _ _ _
      | exact impl_BinOfNum.mono _ _
      | exact spec_BinOfNum.mono _ _
      | exact spec_DrawBinOfNum.mono _ _
      | exact LeO.none _
      | refine LeO.ite ?_ ?_
      | refine LeO.bind ?_ (fun _ => ?_)
    · intro y0 y1 y2 y3 y4
      unfold laws_FnBinSeq.j1
      repeat' first
      | (with_reducible exact ih0 _ _ _)
      | (with_reducible exact ih1 _ _ _ _ _)
      | (with_reducible exact impl_BinNumAt.mono _ _ _)
      | (with_reducible exact impl_BinOfNum.mono _ _)
      | (with_reducible exact spec_BinOfNum.mono _ _)
      | (with_reducible exact spec_DrawBinOfNum.mono _ _)
      | (with_reducible exact LeO.refl _)
      | (with_reducible exact LeO.none _)
      | (with_reducible refine LeO.ite ?_ ?_)
      | (with_reducible refine LeO.bind ?_ (fun _ => ?_))
      | exact ih0 _ _ _
      | exact ih1 _ _ _ _ _
      | exact impl_BinNumAt.mono _ _ _
      | exact impl_BinOfNum.mono _ _
      | exact spec_BinOfNum.mono _ _
      | exact spec_DrawBinOfNum.mono _ _
      | exact LeO.none _
      | refine LeO.ite ?_ ?_
      | refine LeO.bind ?_ (fun _ => ?_)
theorem laws_FnBinSeq.mono : ∀ a0 a1 k, LeO (laws_FnBinSeq.f k a0 a1) (laws_FnBinSeq.f (k + 1) a0 a1) := by
  intro a0 a1 k
  obtain ⟨ih0, ih1⟩ := laws_FnBinSeq.mono_l k
  unfold laws_FnBinSeq.f
  repeat' first
      | (with_reducible exact ih0 _ _ _)
      | (with_reducible exact ih1 _ _ _ _ _)
      | (with_reducible exact impl_BinNumAt.mono _ _ _)
      | (with_reducible exact impl_BinOfNum.mono _ _)
      | (with_reducible exact spec_BinOfNum.mono _ _)
      | (with_reducible exact spec_DrawBinOfNum.mono _ _)
      | (with_reducible exact LeO.refl _)
      | (with_reducible exact LeO.none _)
      | (with_reducible refine LeO.ite ?_ ?_)
      | (with_reducible refine LeO.bind ?_ (fun _ => ?_))
      | exact ih0 _ _ _
      | exact ih1 _ _ _ _ _
      | exact impl_BinNumAt.mono _ _ _
      | exact impl_BinOfNum.mono _ _
      | exact spec_BinOfNum.mono _ _
      | exact spec_DrawBinOfNum.mono _ _
      | exact LeO.none _
      | refine LeO.ite ?_ ?_
      | refine LeO.bind ?_ (fun _ => ?_)
set_option maxHeartbeats 8000000 in
set_option maxRecDepth 100000 in
theorem laws_FnBinSeq.calls (k : Nat) (A0 : Option Addr) (c0 : Nat) (l0 : List Int) (A1 : Option Addr) (c1 : Nat) (l1 : List Int) (r : Bool) (w : World) (hr0 : Kd.C (Kd.int .u8) w A0 l0.length l0) (hc0 : l0.length ≤ c0) (hr1 : Kd.C (Kd.int .u8) w A1 l1.length l1) (hc1 : l1.length ≤ c1) (hrt_ : r = true) (h : laws_FnBinSeq.f k l0 l1 = some r) :
    Calls Try.prog 5 #[.slice A0 l0.length c0, .slice A1 l1.length c1] w fun e w' => e = .returned (.bool r) ∧ Below w.heap.size w w' := by
  have HR_ := Aside0.mk hrt_
  clear hrt_
  have HR0 := Aside0.mk hr0
  have HC0 := Aside0.mk hc0
  clear hr0 hc0
  have HR1 := Aside0.mk hr1
  have HC1 := Aside0.mk hc1
  clear hr1 hc1
  have HB := Aside0.mk (Below.refl w.heap.size w)
  have H : (if (l0.length : Int) > 1048576 then (laws_FnBinSeq.j0 k l0 l1 true) else (laws_FnBinSeq.j0 k l0 l1 (decide ((l1.length : Int) > 1048576)))) = some r := h
  clear h
  have HC3 := Aside0.mk H
  clear H
  go_enter Try.func5, Try.ntmps5
  go_upto_region 1 with (fail)
  go_cut [26] (fun v26 wc => ∃ (kq : Nat) (x26_2 : Bool), v26 = .bool x26_2 ∧ Aside0 (laws_FnBinSeq.j0 kq l0 l1 x26_2 = some r) ∧ Aside0 (kq ≤ k) ∧ Aside0 (Below w.heap.size w wc))
  case first =>
    have H := HC3.out
    clear HC3
    by_cases c4 : (l0.length : Int) > 1048576
    · rw [if_pos c4] at H
      have c4b0 : decide (1048576 < (l0.length : Int)) = true := decide_eq_true c4
      have c4b1 : decide (1048576 < l0.length) = true := decide_eq_true (by omega)
      clear c4
      (first | rw [c4b0] | (simp only [i64_w, i32_w]; rw [c4b0]) | skip)
      have H' := Aside0.mk H
      clear H
      go_wp2
      go_meet
      case rel => exact ⟨_, (true), (by first | rfl | (simp; done) | (simp [*]; done)), H', ⟨by first | omega | exact Nat.le_refl _⟩, ⟨by repeat (first | (with_reducible first | exact HB.out | apply below_alloc | apply pw_below_drewN | apply below_drew1) | exact HB.out)⟩⟩
    · rw [if_neg c4] at H
      have c4b0 : decide (1048576 < (l0.length : Int)) = false := decide_eq_false c4
      have c4b1 : decide (1048576 < l0.length) = false := decide_eq_false (by omega)
      clear c4
      (first | rw [c4b0] | (simp only [i64_w, i32_w]; rw [c4b0]) | skip)
      have H' := Aside0.mk H
      clear H
      go_wp2
      go_meet
      case rel => exact ⟨_, (decide ((l1.length : Int) > 1048576)), (by first | rfl | (simp; done) | (simp [*]; done)), H', ⟨by first | omega | exact Nat.le_refl _⟩, ⟨by repeat (first | (with_reducible first | exact HB.out | apply below_alloc | apply pw_below_drewN | apply below_drew1) | exact HB.out)⟩⟩
  case rest =>
    clear HC3
    try clear c1
    try clear p2
    try clear c4
    try clear c4b0
    try clear c4b1
    obtain ⟨kq, x26_2, rfl, HA, HJ2, HB⟩ := hcut
    cases kq with
    | zero => exact absurd HA.out (by simp [laws_FnBinSeq.j0])
    | succ kj2 =>
      have H := HA.out
      clear HA
      simp only [laws_FnBinSeq.j0] at H
      by_cases c5 : x26_2 = true
      · subst c5
        have H1 : (some true) = some r := by rw [if_pos rfl] at H; exact H
        clear H
        have H := H1
        clear H1
        obtain rfl := Option.some.inj H
        go_wp2
        go_ret
        exact ⟨by first | rfl | (simp [errW_none, errW_some] <;> rfl) | (simp [*, errW_none, errW_some] <;> rfl), by repeat (first | (with_reducible first | exact HB.out | apply below_alloc | apply pw_below_drewN | apply below_drew1) | exact HB.out)⟩
      · replace c5 := Bool.eq_false_iff.mpr c5
        subst c5
        have H1 : ((spec_DrawBinOfNum.f kj2 l0).bind fun t130 => ((spec_DrawBinOfNum.f kj2 l1).bind fun t131 => ((impl_BinOfNum.f kj2 t130).bind fun t132 => ((impl_BinOfNum.f kj2 t131).bind fun t133 => ((spec_BinOfNum.f kj2 t130).bind fun t134 => (if t132.toList = t134.toList then ((spec_BinOfNum.f kj2 t131).bind fun t135 => (if t133.toList = t135.toList then (if t132.toList = ([] : List UInt8) then (laws_FnBinSeq.j1 kj2 t130 t131 t132 t133 true) else (laws_FnBinSeq.j1 kj2 t130 t131 t132 t133 (t133.toList == ([] : List UInt8)))) else (laws_FnBinSeq.j1 kj2 t130 t131 t132 t133 true))) else (laws_FnBinSeq.j1 kj2 t130 t131 t132 t133 true))))))) = some r := by rw [if_neg (show ¬ (false = true) by decide)] at H; exact H
        clear H
        have H := H1
        clear H1
        replace H := Option.bind_eq_some_iff.mp H
        obtain ⟨t130, A60, H⟩ := H
        replace H : ((spec_DrawBinOfNum.f kj2 l1).bind fun t131 => ((impl_BinOfNum.f kj2 t130).bind fun t132 => ((impl_BinOfNum.f kj2 t131).bind fun t133 => ((spec_BinOfNum.f kj2 t130).bind fun t134 => (if t132.toList = t134.toList then ((spec_BinOfNum.f kj2 t131).bind fun t135 => (if t133.toList = t135.toList then (if t132.toList = ([] : List UInt8) then (laws_FnBinSeq.j1 kj2 t130 t131 t132 t133 true) else (laws_FnBinSeq.j1 kj2 t130 t131 t132 t133 (t133.toList == ([] : List UInt8)))) else (laws_FnBinSeq.j1 kj2 t130 t131 t132 t133 true))) else (laws_FnBinSeq.j1 kj2 t130 t131 t132 t133 true)))))) = some r := H
        have A6 := Aside0.mk A60
        clear A60
        replace H := Option.bind_eq_some_iff.mp H
        obtain ⟨t131, A70, H⟩ := H
        replace H : ((impl_BinOfNum.f kj2 t130).bind fun t132 => ((impl_BinOfNum.f kj2 t131).bind fun t133 => ((spec_BinOfNum.f kj2 t130).bind fun t134 => (if t132.toList = t134.toList then ((spec_BinOfNum.f kj2 t131).bind fun t135 => (if t133.toList = t135.toList then (if t132.toList = ([] : List UInt8) then (laws_FnBinSeq.j1 kj2 t130 t131 t132 t133 true) else (laws_FnBinSeq.j1 kj2 t130 t131 t132 t133 (t133.toList == ([] : List UInt8)))) else (laws_FnBinSeq.j1 kj2 t130 t131 t132 t133 true))) else (laws_FnBinSeq.j1 kj2 t130 t131 t132 t133 true))))) = some r := H
        have A7 := Aside0.mk A70
        clear A70
        replace H := Option.bind_eq_some_iff.mp H
        obtain ⟨t132, A80, H⟩ := H
        replace H : ((impl_BinOfNum.f kj2 t131).bind fun t133 => ((spec_BinOfNum.f kj2 t130).bind fun t134 => (if t132.toList = t134.toList then ((spec_BinOfNum.f kj2 t131).bind fun t135 => (if t133.toList = t135.toList then (if t132.toList = ([] : List UInt8) then (laws_FnBinSeq.j1 kj2 t130 t131 t132 t133 true) else (laws_FnBinSeq.j1 kj2 t130 t131 t132 t133 (t133.toList == ([] : List UInt8)))) else (laws_FnBinSeq.j1 kj2 t130 t131 t132 t133 true))) else (laws_FnBinSeq.j1 kj2 t130 t131 t132 t133 true)))) = some r := H
        have A8 := Aside0.mk A80
        clear A80
        replace H := Option.bind_eq_some_iff.mp H
        obtain ⟨t133, A90, H⟩ := H
        replace H : ((spec_BinOfNum.f kj2 t130).bind fun t134 => (if t132.toList = t134.toList then ((spec_BinOfNum.f kj2 t131).bind fun t135 => (if t133.toList = t135.toList then (if t132.toList = ([] : List UInt8) then (laws_FnBinSeq.j1 kj2 t130 t131 t132 t133 true) else (laws_FnBinSeq.j1 kj2 t130 t131 t132 t133 (t133.toList == ([] : List UInt8)))) else (laws_FnBinSeq.j1 kj2 t130 t131 t132 t133 true))) else (laws_FnBinSeq.j1 kj2 t130 t131 t132 t133 true))) = some r := H
        have A9 := Aside0.mk A90
        clear A90
        have HC10 := Aside0.mk H
        clear H
        go_upto_region 7 with (first | ((with_reducible refine gate_callee (f := 19) rfl ?_); refine goesL_ (some 28) rfl rfl Try.func19 (by kernel_rfl) rfl #[.slice A0 l0.length c0] rfl (by (try simp only [List.map_toArray, List.map_cons, List.map_nil]); first | done | rfl | (simp only [List.length_drop, List.length_take]; rfl)) ?_; (with_reducible refine (spec_DrawBinOfNum.calls kj2 _ _ l0 t130 _ ?side1 ?side2 A6.out).mono ?_); (case side1 => repeat (first | exact (Kd.C_below HR0.out HB.out) | (with_reducible refine Kd.C_alloc ?_ _) | (with_reducible refine Kd.C_drewN ?_ _) | (with_reducible refine Kd.C_drew ?_))); (case side2 => exact HC0.out); rintro e w11 ⟨rfl, hb⟩; refine ⟨_, rfl, ?_⟩; have n0_ := Aside0.mk (below_step (by repeat (first | (with_reducible first | exact HB.out | apply below_alloc | apply pw_below_drewN | apply below_drew1) | exact HB.out)) hb); clear HB; have HB := n0_; clear n0_; (try clear hb); (try clear hb2); (try clear hk); (try clear hi)) | ((with_reducible refine gate_callee (f := 19) rfl ?_); refine goesL_ (some 30) rfl rfl Try.func19 (by kernel_rfl) rfl #[.slice A1 l1.length c1] rfl (by (try simp only [List.map_toArray, List.map_cons, List.map_nil]); first | done | rfl | (simp only [List.length_drop, List.length_take]; rfl)) ?_; (with_reducible refine (spec_DrawBinOfNum.calls kj2 _ _ l1 t131 _ ?side1 ?side2 A7.out).mono ?_); (case side1 => repeat (first | exact (Kd.C_below HR1.out HB.out) | (with_reducible refine Kd.C_alloc ?_ _) | (with_reducible refine Kd.C_drewN ?_ _) | (with_reducible refine Kd.C_drew ?_))); (case side2 => exact HC1.out); rintro e w12 ⟨rfl, hb⟩; refine ⟨_, rfl, ?_⟩; have n0_ := Aside0.mk (below_step (by repeat (first | (with_reducible first | exact HB.out | apply below_alloc | apply pw_below_drewN | apply below_drew1) | exact HB.out)) hb); clear HB; have HB := n0_; clear n0_; (try clear hb); (try clear hb2); (try clear hk); (try clear hi)) | ((with_reducible refine gate_callee (f := 20) rfl ?_); refine goesL_ (some 32) rfl rfl Try.func20 (by kernel_rfl) rfl #[.int .i64 t130] rfl (by (try simp only [List.map_toArray, List.map_cons, List.map_nil]); first | done | rfl | (simp only [List.length_drop, List.length_take]; rfl)) ?_; (with_reducible refine (impl_BinOfNum.calls kj2 t130 t132 _ A8.out).mono ?_); rintro e w13 ⟨rfl, hb⟩; refine ⟨_, rfl, ?_⟩; have n0_ := Aside0.mk (below_step (by repeat (first | (with_reducible first | exact HB.out | apply below_alloc | apply pw_below_drewN | apply below_drew1) | exact HB.out)) hb); clear HB; have HB := n0_; clear n0_; (try clear hb); (try clear hb2); (try clear hk); (try clear hi)) | ((with_reducible refine gate_callee (f := 20) rfl ?_); refine goesL_ (some 34) rfl rfl Try.func20 (by kernel_rfl) rfl #[.int .i64 t131] rfl (by (try simp only [List.map_toArray, List.map_cons, List.map_nil]); first | done | rfl | (simp only [List.length_drop, List.length_take]; rfl)) ?_; (with_reducible refine (impl_BinOfNum.calls kj2 t131 t133 _ A9.out).mono ?_); rintro e w14 ⟨rfl, hb⟩; refine ⟨_, rfl, ?_⟩; have n0_ := Aside0.mk (below_step (by repeat (first | (with_reducible first | exact HB.out | apply below_alloc | apply pw_below_drewN | apply below_drew1) | exact HB.out)) hb); clear HB; have HB := n0_; clear n0_; (try clear hb); (try clear hb2); (try clear hk); (try clear hi)))
        (try simp only [Act.put, List.setIfInBounds_toArray, List.set_cons_zero, List.set_cons_succ])
        go_cut [52] (fun v52 wc => ∃ (kq : Nat) (x52_9 : Bool), v52 = .bool x52_9 ∧ Aside0 (laws_FnBinSeq.j1 kq t130 t131 t132 t133 x52_9 = some r) ∧ Aside0 (kq ≤ kj2) ∧ Aside0 (Below w.heap.size w wc))
        case first =>
          have H := HC10.out
          clear HC10
          replace H := Option.bind_eq_some_iff.mp H
          obtain ⟨t134, A150, H⟩ := H
          replace H : (if t132.toList = t134.toList then ((spec_BinOfNum.f kj2 t131).bind fun t135 => (if t133.toList = t135.toList then (if t132.toList = ([] : List UInt8) then (laws_FnBinSeq.j1 kj2 t130 t131 t132 t133 true) else (laws_FnBinSeq.j1 kj2 t130 t131 t132 t133 (t133.toList == ([] : List UInt8)))) else (laws_FnBinSeq.j1 kj2 t130 t131 t132 t133 true))) else (laws_FnBinSeq.j1 kj2 t130 t131 t132 t133 true)) = some r := H
          have A15 := Aside0.mk A150
          clear A150
          by_cases c16 : t132.toList = t134.toList
          · rw [if_pos c16] at H
            have c16b0 : (t132.toList == t134.toList) = true := beq_iff_eq.mpr c16
            have c16b1 : (t132.toList != t134.toList) = false := bne_eq_false_iff_eq.mpr c16
            clear c16
            (first | rw [c16b0] | (simp only [i64_w, i32_w]; rw [c16b0]) | skip)
            replace H := Option.bind_eq_some_iff.mp H
            obtain ⟨t135, A170, H⟩ := H
            replace H : (if t133.toList = t135.toList then (if t132.toList = ([] : List UInt8) then (laws_FnBinSeq.j1 kj2 t130 t131 t132 t133 true) else (laws_FnBinSeq.j1 kj2 t130 t131 t132 t133 (t133.toList == ([] : List UInt8)))) else (laws_FnBinSeq.j1 kj2 t130 t131 t132 t133 true)) = some r := H
            have A17 := Aside0.mk A170
            clear A170
            by_cases c18 : t133.toList = t135.toList
            · rw [if_pos c18] at H
              have c18b0 : (t133.toList == t135.toList) = true := beq_iff_eq.mpr c18
              have c18b1 : (t133.toList != t135.toList) = false := bne_eq_false_iff_eq.mpr c18
              clear c18
              by_cases c19 : t132.toList = ([] : List UInt8)
              · rw [if_pos c19] at H
                have c19b0 : (t132.toList == ([] : List UInt8)) = true := beq_iff_eq.mpr c19
                have c19b1 : (t132.toList != ([] : List UInt8)) = false := bne_eq_false_iff_eq.mpr c19
                clear c19
                have H' := Aside0.mk H
                clear H
                go_wp2_with (first | ((with_reducible refine gate_callee (f := 21) rfl ?_); refine goesL_ (some 37) rfl rfl Try.func21 (by kernel_rfl) rfl #[.int .i64 t130] rfl (by (try simp only [List.map_toArray, List.map_cons, List.map_nil]); first | done | rfl | (simp only [List.length_drop, List.length_take]; rfl)) ?_; (with_reducible refine (spec_BinOfNum.calls kj2 t130 t134 _ A15.out).mono ?_); rintro e w20 ⟨rfl, hb⟩; refine ⟨_, rfl, ?_⟩; have n0_ := Aside0.mk (below_step (by repeat (first | (with_reducible first | exact HB.out | apply below_alloc | apply pw_below_drewN | apply below_drew1) | exact HB.out)) hb); clear HB; have HB := n0_; clear n0_; (try clear hb); (try clear hb2); (try clear hk); (try clear hi)) | (go_at_call 21; (with_reducible refine (spec_BinOfNum.calls kj2 t131 t135 _ A17.out).mono ?_); rintro e w21 ⟨rfl, hb⟩; have n0_ := Aside0.mk (below_step (by repeat (first | (with_reducible first | exact HB.out | apply below_alloc | apply pw_below_drewN | apply below_drew1) | exact HB.out)) hb); clear HB; have HB := n0_; clear n0_; (try clear hb); (try clear hb2); (try clear hk); (try clear hi)))
                go_meet
                case rel => exact ⟨_, (true), (by first | rfl | (simp; done) | (simp [*]; done)), H', ⟨by have := HJ2.out; first | omega | exact Nat.le_refl _⟩, ⟨by repeat (first | (with_reducible first | exact HB.out | apply below_alloc | apply pw_below_drewN | apply below_drew1) | exact HB.out)⟩⟩
              · rw [if_neg c19] at H
                have c19b0 : (t132.toList == ([] : List UInt8)) = false := beq_eq_false_iff_ne.mpr c19
                have c19b1 : (t132.toList != ([] : List UInt8)) = true := bne_iff_ne.mpr c19
                have H' := Aside0.mk H
                clear H
                go_wp2_with (first | ((with_reducible refine gate_callee (f := 21) rfl ?_); refine goesL_ (some 37) rfl rfl Try.func21 (by kernel_rfl) rfl #[.int .i64 t130] rfl (by (try simp only [List.map_toArray, List.map_cons, List.map_nil]); first | done | rfl | (simp only [List.length_drop, List.length_take]; rfl)) ?_; (with_reducible refine (spec_BinOfNum.calls kj2 t130 t134 _ A15.out).mono ?_); rintro e w22 ⟨rfl, hb⟩; refine ⟨_, rfl, ?_⟩; have n0_ := Aside0.mk (below_step (by repeat (first | (with_reducible first | exact HB.out | apply below_alloc | apply pw_below_drewN | apply below_drew1) | exact HB.out)) hb); clear HB; have HB := n0_; clear n0_; (try clear hb); (try clear hb2); (try clear hk); (try clear hi)) | (go_at_call 21; (with_reducible refine (spec_BinOfNum.calls kj2 t131 t135 _ A17.out).mono ?_); rintro e w23 ⟨rfl, hb⟩; have n0_ := Aside0.mk (below_step (by repeat (first | (with_reducible first | exact HB.out | apply below_alloc | apply pw_below_drewN | apply below_drew1) | exact HB.out)) hb); clear HB; have HB := n0_; clear n0_; (try clear hb); (try clear hb2); (try clear hk); (try clear hi)))
                go_meet
                case rel => exact ⟨_, ((t133.toList == ([] : List UInt8))), (by first | rfl | (simp; done) | (simp [*]; done)), H', ⟨by have := HJ2.out; first | omega | exact Nat.le_refl _⟩, ⟨by repeat (first | (with_reducible first | exact HB.out | apply below_alloc | apply pw_below_drewN | apply below_drew1) | exact HB.out)⟩⟩
            · rw [if_neg c18] at H
              have c18b0 : (t133.toList == t135.toList) = false := beq_eq_false_iff_ne.mpr c18
              have c18b1 : (t133.toList != t135.toList) = true := bne_iff_ne.mpr c18
              have H' := Aside0.mk H
              clear H
              go_wp2_with (first | ((with_reducible refine gate_callee (f := 21) rfl ?_); refine goesL_ (some 37) rfl rfl Try.func21 (by kernel_rfl) rfl #[.int .i64 t130] rfl (by (try simp only [List.map_toArray, List.map_cons, List.map_nil]); first | done | rfl | (simp only [List.length_drop, List.length_take]; rfl)) ?_; (with_reducible refine (spec_BinOfNum.calls kj2 t130 t134 _ A15.out).mono ?_); rintro e w24 ⟨rfl, hb⟩; refine ⟨_, rfl, ?_⟩; have n0_ := Aside0.mk (below_step (by repeat (first | (with_reducible first | exact HB.out | apply below_alloc | apply pw_below_drewN | apply below_drew1) | exact HB.out)) hb); clear HB; have HB := n0_; clear n0_; (try clear hb); (try clear hb2); (try clear hk); (try clear hi)) | (go_at_call 21; (with_reducible refine (spec_BinOfNum.calls kj2 t131 t135 _ A17.out).mono ?_); rintro e w25 ⟨rfl, hb⟩; have n0_ := Aside0.mk (below_step (by repeat (first | (with_reducible first | exact HB.out | apply below_alloc | apply pw_below_drewN | apply below_drew1) | exact HB.out)) hb); clear HB; have HB := n0_; clear n0_; (try clear hb); (try clear hb2); (try clear hk); (try clear hi)))
              go_meet
              case rel => exact ⟨_, (true), (by first | rfl | (simp; done) | (simp [*]; done)), H', ⟨by have := HJ2.out; first | omega | exact Nat.le_refl _⟩, ⟨by repeat (first | (with_reducible first | exact HB.out | apply below_alloc | apply pw_below_drewN | apply below_drew1) | exact HB.out)⟩⟩
          · rw [if_neg c16] at H
            have c16b0 : (t132.toList == t134.toList) = false := beq_eq_false_iff_ne.mpr c16
            have c16b1 : (t132.toList != t134.toList) = true := bne_iff_ne.mpr c16
            (first | rw [c16b0] | (simp only [i64_w, i32_w]; rw [c16b0]) | skip)
            have H' := Aside0.mk H
            clear H
            go_wp2_with (first | ((with_reducible refine gate_callee (f := 21) rfl ?_); refine goesL_ (some 37) rfl rfl Try.func21 (by kernel_rfl) rfl #[.int .i64 t130] rfl (by (try simp only [List.map_toArray, List.map_cons, List.map_nil]); first | done | rfl | (simp only [List.length_drop, List.length_take]; rfl)) ?_; (with_reducible refine (spec_BinOfNum.calls kj2 t130 t134 _ A15.out).mono ?_); rintro e w26 ⟨rfl, hb⟩; refine ⟨_, rfl, ?_⟩; have n0_ := Aside0.mk (below_step (by repeat (first | (with_reducible first | exact HB.out | apply below_alloc | apply pw_below_drewN | apply below_drew1) | exact HB.out)) hb); clear HB; have HB := n0_; clear n0_; (try clear hb); (try clear hb2); (try clear hk); (try clear hi)))
            go_meet
            case rel => exact ⟨_, (true), (by first | rfl | (simp; done) | (simp [*]; done)), H', ⟨by have := HJ2.out; first | omega | exact Nat.le_refl _⟩, ⟨by repeat (first | (with_reducible first | exact HB.out | apply below_alloc | apply pw_below_drewN | apply below_drew1) | exact HB.out)⟩⟩
        case rest =>
          clear HC10
          try clear c1
          try clear c2
          try clear p2
          try clear c4
          try clear c4b0
          try clear c4b1
          try clear c5
          try clear c16
          try clear c16b0
          try clear c16b1
          try clear c18
          try clear c18b0
          try clear c18b1
          try clear c19
          try clear c19b0
          try clear c19b1
          try clear c20
          try clear c21
          try clear p2
          obtain ⟨kq, x52_9, rfl, HA, HJ9, HB⟩ := hcut
          cases kq with
          | zero => exact absurd HA.out (by simp [laws_FnBinSeq.j1])
          | succ kj9 =>
            have H := HA.out
            clear HA
            simp only [laws_FnBinSeq.j1] at H
            by_cases c27 : x52_9 = true
            · subst c27
              have H1 : ((spec_BinOfNum.f kj9 t130).bind fun t136 => (if t132.toList = t136.toList then ((spec_BinOfNum.f kj9 t131).bind fun t137 => (some (t133.toList == t137.toList))) else (some false))) = some r := by rw [if_pos rfl] at H; exact H
              clear H
              have H := H1
              clear H1
              replace H := Option.bind_eq_some_iff.mp H
              obtain ⟨t136, A280, H⟩ := H
              replace H : (if t132.toList = t136.toList then ((spec_BinOfNum.f kj9 t131).bind fun t137 => (some (t133.toList == t137.toList))) else (some false)) = some r := H
              have A28 := Aside0.mk A280
              clear A280
              by_cases c29 : t132.toList = t136.toList
              · rw [if_pos c29] at H
                have c29b0 : (t132.toList == t136.toList) = true := beq_iff_eq.mpr c29
                have c29b1 : (t132.toList != t136.toList) = false := bne_eq_false_iff_eq.mpr c29
                clear c29
                replace H := Option.bind_eq_some_iff.mp H
                obtain ⟨t137, A300, H⟩ := H
                replace H : (some (t133.toList == t137.toList)) = some r := H
                have A30 := Aside0.mk A300
                clear A300
                obtain rfl := Option.some.inj H
                go_wp2_with (first | ((with_reducible refine gate_callee (f := 21) rfl ?_); refine goesL_ (some 55) rfl rfl Try.func21 (by kernel_rfl) rfl #[.int .i64 t130] rfl (by (try simp only [List.map_toArray, List.map_cons, List.map_nil]); first | done | rfl | (simp only [List.length_drop, List.length_take]; rfl)) ?_; (with_reducible refine (spec_BinOfNum.calls kj9 t130 t136 _ A28.out).mono ?_); rintro e w31 ⟨rfl, hb⟩; refine ⟨_, rfl, ?_⟩; have n0_ := Aside0.mk (below_step (by repeat (first | (with_reducible first | exact HB.out | apply below_alloc | apply pw_below_drewN | apply below_drew1) | exact HB.out)) hb); clear HB; have HB := n0_; clear n0_; (try clear hb); (try clear hb2); (try clear hk); (try clear hi)) | (go_at_call 21; (with_reducible refine (spec_BinOfNum.calls kj9 t131 t137 _ A30.out).mono ?_); rintro e w32 ⟨rfl, hb⟩; have n0_ := Aside0.mk (below_step (by repeat (first | (with_reducible first | exact HB.out | apply below_alloc | apply pw_below_drewN | apply below_drew1) | exact HB.out)) hb); clear HB; have HB := n0_; clear n0_; (try clear hb); (try clear hb2); (try clear hk); (try clear hi)))
                go_ret
                exact ⟨by first | rfl | (simp [errW_none, errW_some] <;> rfl) | (simp [*, errW_none, errW_some] <;> rfl), by repeat (first | (with_reducible first | exact HB.out | apply below_alloc | apply pw_below_drewN | apply below_drew1) | exact HB.out)⟩
              · rw [if_neg c29] at H
                have c29b0 : (t132.toList == t136.toList) = false := beq_eq_false_iff_ne.mpr c29
                have c29b1 : (t132.toList != t136.toList) = true := bne_iff_ne.mpr c29
                exact absurd ((Option.some.inj H).trans HR_.out) (by decide)
            · replace c27 := Bool.eq_false_iff.mpr c27
              subst c27
              have H1 : (if t132.size + t133.size ≤ 9223372036854775807 then ((impl_BinNumAt.f kj9 (t132 ++ t133) 0).bind fun bt138 => ((impl_BinNumAt.f kj9 (t132 ++ t133) bt138.2.1).bind fun bt141 => ((impl_BinNumAt.f kj9 (t132 ++ t133) bt141.2.1).bind fun bt144 => (if (t132.size : Int) ≤ (t133.size : Int) then (if 0 ≤ (t132.size : Int) then (if bt138.1 = t130 then (if bt141.1 = t131 then (if bt138.2.2 = 0 then (if bt141.2.2 = 0 then (if bt141.2.1 = (wrap64 ((t132.size : Int) + (t133.size : Int))) then (if bt144.2.2 = 2 then (some (((t133.extract 0 ((t132.size : Int) : Int).toNat).toList == t132.toList) == (t130 == t131))) else (some false)) else (some false)) else (some false)) else (some false)) else (some false)) else (some false)) else (none)) else (if bt138.1 = t130 then (if bt141.1 = t131 then (if bt138.2.2 = 0 then (if bt141.2.2 = 0 then (if bt141.2.1 = (wrap64 ((t132.size : Int) + (t133.size : Int))) then (if bt144.2.2 = 2 then (some (false == (t130 == t131))) else (some false)) else (some false)) else (some false)) else (some false)) else (some false)) else (some false)))))) else (none)) = some r := by rw [if_neg (show ¬ (false = true) by decide)] at H; exact H
              clear H
              have H := H1
              clear H1
              by_cases c33 : t132.size + t133.size ≤ 9223372036854775807
              · rw [if_pos c33] at H
                have c33b0 := eq_true c33
                have c33b1 : decide (t132.size + t133.size ≤ 9223372036854775807) = true := decide_eq_true c33
                try have c33b2 : (9223372036854775807 < t132.size + t133.size) = False := eq_false (Nat.not_lt.2 c33)
                replace H := Option.bind_eq_some_iff.mp H
                obtain ⟨⟨t138, t139, t140⟩, A340, H⟩ := H
                replace H : ((impl_BinNumAt.f kj9 (t132 ++ t133) t139).bind fun bt141 => ((impl_BinNumAt.f kj9 (t132 ++ t133) bt141.2.1).bind fun bt144 => (if (t132.size : Int) ≤ (t133.size : Int) then (if 0 ≤ (t132.size : Int) then (if t138 = t130 then (if bt141.1 = t131 then (if t140 = 0 then (if bt141.2.2 = 0 then (if bt141.2.1 = (wrap64 ((t132.size : Int) + (t133.size : Int))) then (if bt144.2.2 = 2 then (some (((t133.extract 0 ((t132.size : Int) : Int).toNat).toList == t132.toList) == (t130 == t131))) else (some false)) else (some false)) else (some false)) else (some false)) else (some false)) else (some false)) else (none)) else (if t138 = t130 then (if bt141.1 = t131 then (if t140 = 0 then (if bt141.2.2 = 0 then (if bt141.2.1 = (wrap64 ((t132.size : Int) + (t133.size : Int))) then (if bt144.2.2 = 2 then (some (false == (t130 == t131))) else (some false)) else (some false)) else (some false)) else (some false)) else (some false)) else (some false))))) = some r := H
                have A34 := Aside0.mk A340
                clear A340
                replace H := Option.bind_eq_some_iff.mp H
                obtain ⟨⟨t141, t142, t143⟩, A350, H⟩ := H
                replace H : ((impl_BinNumAt.f kj9 (t132 ++ t133) t142).bind fun bt144 => (if (t132.size : Int) ≤ (t133.size : Int) then (if 0 ≤ (t132.size : Int) then (if t138 = t130 then (if t141 = t131 then (if t140 = 0 then (if t143 = 0 then (if t142 = (wrap64 ((t132.size : Int) + (t133.size : Int))) then (if bt144.2.2 = 2 then (some (((t133.extract 0 ((t132.size : Int) : Int).toNat).toList == t132.toList) == (t130 == t131))) else (some false)) else (some false)) else (some false)) else (some false)) else (some false)) else (some false)) else (none)) else (if t138 = t130 then (if t141 = t131 then (if t140 = 0 then (if t143 = 0 then (if t142 = (wrap64 ((t132.size : Int) + (t133.size : Int))) then (if bt144.2.2 = 2 then (some (false == (t130 == t131))) else (some false)) else (some false)) else (some false)) else (some false)) else (some false)) else (some false)))) = some r := H
                have A35 := Aside0.mk A350
                clear A350
                replace H := Option.bind_eq_some_iff.mp H
                obtain ⟨⟨t144, t145, t146⟩, A360, H⟩ := H
                replace H : (if (t132.size : Int) ≤ (t133.size : Int) then (if 0 ≤ (t132.size : Int) then (if t138 = t130 then (if t141 = t131 then (if t140 = 0 then (if t143 = 0 then (if t142 = (wrap64 ((t132.size : Int) + (t133.size : Int))) then (if t146 = 2 then (some (((t133.extract 0 ((t132.size : Int) : Int).toNat).toList == t132.toList) == (t130 == t131))) else (some false)) else (some false)) else (some false)) else (some false)) else (some false)) else (some false)) else (none)) else (if t138 = t130 then (if t141 = t131 then (if t140 = 0 then (if t143 = 0 then (if t142 = (wrap64 ((t132.size : Int) + (t133.size : Int))) then (if t146 = 2 then (some (false == (t130 == t131))) else (some false)) else (some false)) else (some false)) else (some false)) else (some false)) else (some false))) = some r := H
                have A36 := Aside0.mk A360
                clear A360
                by_cases c37 : (t132.size : Int) ≤ (t133.size : Int)
                · rw [if_pos c37] at H
                  have c37b0 : decide ((t132.size : Int) ≤ (t133.size : Int)) = true := decide_eq_true c37
                  have c37b1 : decide (t132.size ≤ t133.size) = true := decide_eq_true (Int.ofNat_le.mp c37)
                  clear c37
                  by_cases c38 : 0 ≤ (t132.size : Int)
                  · rw [if_pos c38] at H
                    have c38b0 := eq_true c38
                    have c38b1 : decide (0 ≤ (t132.size : Int)) = true := decide_eq_true c38
                    clear c38
                    have c39b0 := eq_true (of_decide_eq_true (by first | (with_reducible assumption) | assumption) : (t132.size : Int) ≤ (t133.size : Int))
                    by_cases c40 : t138 = t130
                    · rw [if_pos c40] at H
                      have c40b0 : (t138 == t130) = true := beq_iff_eq.mpr c40
                      have c40b1 : (t138 != t130) = false := bne_eq_false_iff_eq.mpr c40
                      clear c40
                      by_cases c41 : t141 = t131
                      · rw [if_pos c41] at H
                        have c41b0 : (t141 == t131) = true := beq_iff_eq.mpr c41
                        have c41b1 : (t141 != t131) = false := bne_eq_false_iff_eq.mpr c41
                        clear c41
                        by_cases c42 : t140 = 0
                        · rw [if_pos c42] at H
                          have c42b0 : (t140 == 0) = true := beq_iff_eq.mpr c42
                          have c42b1 : (t140 != 0) = false := bne_eq_false_iff_eq.mpr c42
                          clear c42
                          by_cases c43 : t143 = 0
                          · rw [if_pos c43] at H
                            have c43b0 : (t143 == 0) = true := beq_iff_eq.mpr c43
                            have c43b1 : (t143 != 0) = false := bne_eq_false_iff_eq.mpr c43
                            clear c43
                            rw [show wrap64 ((t132.size : Int) + (t133.size : Int)) = (t132.size : Int) + (t133.size : Int) from by unfold wrap64; omega] at H
                            by_cases c44 : t142 = ((t132.size : Int) + (t133.size : Int))
                            · rw [if_pos c44] at H
                              have c44b0 : (t142 == ((t132.size : Int) + (t133.size : Int))) = true := beq_iff_eq.mpr c44
                              have c44b1 : (t142 != ((t132.size : Int) + (t133.size : Int))) = false := bne_eq_false_iff_eq.mpr c44
                              clear c44
                              by_cases c45 : t146 = 2
                              · rw [if_pos c45] at H
                                have c45b0 : (t146 == 2) = true := beq_iff_eq.mpr c45
                                have c45b1 : (t146 != 2) = false := bne_eq_false_iff_eq.mpr c45
                                clear c45
                                obtain rfl := Option.some.inj H
                                go_wp2_with (first | ((with_reducible refine gate_callee (f := 22) rfl ?_); refine goesL_ (some 67) rfl rfl Try.func22 (by kernel_rfl) rfl #[.string (t132 ++ t133), .int .i64 0] rfl (by (try simp only [List.map_toArray, List.map_cons, List.map_nil]); first | done | rfl | (simp only [List.length_drop, List.length_take]; rfl)) ?_; (with_reducible refine (impl_BinNumAt.calls kj9 (t132 ++ t133) 0 t138 t139 t140 _ A34.out).mono ?_); rintro e w' ⟨rfl, ⟨nd, rfl⟩⟩; refine ⟨_, rfl, ?_⟩) | ((with_reducible refine gate_callee (f := 22) rfl ?_); refine goesL_ (some 76) rfl rfl Try.func22 (by kernel_rfl) rfl #[.string (t132 ++ t133), .int .i64 t139] rfl (by (try simp only [List.map_toArray, List.map_cons, List.map_nil]); first | done | rfl | (simp only [List.length_drop, List.length_take]; rfl)) ?_; (with_reducible refine (impl_BinNumAt.calls kj9 (t132 ++ t133) t139 t141 t142 t143 _ A35.out).mono ?_); rintro e w' ⟨rfl, ⟨nd, rfl⟩⟩; refine ⟨_, rfl, ?_⟩) | ((with_reducible refine gate_callee (f := 22) rfl ?_); refine goesL_ (some 85) rfl rfl Try.func22 (by kernel_rfl) rfl #[.string (t132 ++ t133), .int .i64 t142] rfl (by (try simp only [List.map_toArray, List.map_cons, List.map_nil]); first | done | rfl | (simp only [List.length_drop, List.length_take]; rfl)) ?_; (with_reducible refine (impl_BinNumAt.calls kj9 (t132 ++ t133) t142 t144 t145 t146 _ A36.out).mono ?_); rintro e w' ⟨rfl, ⟨nd, rfl⟩⟩; refine ⟨_, rfl, ?_⟩))
                                go_ret
                                exact ⟨by first | rfl | (simp [errW_none, errW_some] <;> rfl) | (simp [*, errW_none, errW_some] <;> rfl), by repeat (first | (with_reducible first | exact HB.out | apply below_alloc | apply pw_below_drewN | apply below_drew1) | exact HB.out)⟩
                              · rw [if_neg c45] at H
                                have c45b0 : (t146 == 2) = false := beq_eq_false_iff_ne.mpr c45
                                have c45b1 : (t146 != 2) = true := bne_iff_ne.mpr c45
                                exact absurd ((Option.some.inj H).trans HR_.out) (by decide)
                            · rw [if_neg c44] at H
                              have c44b0 : (t142 == ((t132.size : Int) + (t133.size : Int))) = false := beq_eq_false_iff_ne.mpr c44
                              have c44b1 : (t142 != ((t132.size : Int) + (t133.size : Int))) = true := bne_iff_ne.mpr c44
                              exact absurd ((Option.some.inj H).trans HR_.out) (by decide)
                          · rw [if_neg c43] at H
                            have c43b0 : (t143 == 0) = false := beq_eq_false_iff_ne.mpr c43
                            have c43b1 : (t143 != 0) = true := bne_iff_ne.mpr c43
                            exact absurd ((Option.some.inj H).trans HR_.out) (by decide)
                        · rw [if_neg c42] at H
                          have c42b0 : (t140 == 0) = false := beq_eq_false_iff_ne.mpr c42
                          have c42b1 : (t140 != 0) = true := bne_iff_ne.mpr c42
                          exact absurd ((Option.some.inj H).trans HR_.out) (by decide)
                      · rw [if_neg c41] at H
                        have c41b0 : (t141 == t131) = false := beq_eq_false_iff_ne.mpr c41
                        have c41b1 : (t141 != t131) = true := bne_iff_ne.mpr c41
                        exact absurd ((Option.some.inj H).trans HR_.out) (by decide)
                    · rw [if_neg c40] at H
                      have c40b0 : (t138 == t130) = false := beq_eq_false_iff_ne.mpr c40
                      have c40b1 : (t138 != t130) = true := bne_iff_ne.mpr c40
                      exact absurd ((Option.some.inj H).trans HR_.out) (by decide)
                  · rw [if_neg c38] at H
                    exact absurd H (by simp)
                · rw [if_neg c37] at H
                  have c37b0 : decide ((t132.size : Int) ≤ (t133.size : Int)) = false := decide_eq_false c37
                  have c37b1 : decide (t132.size ≤ t133.size) = false := decide_eq_false (fun h => c37 (Int.ofNat_le.mpr h))
                  clear c37
                  by_cases c46 : t138 = t130
                  · rw [if_pos c46] at H
                    have c46b0 : (t138 == t130) = true := beq_iff_eq.mpr c46
                    have c46b1 : (t138 != t130) = false := bne_eq_false_iff_eq.mpr c46
                    clear c46
                    by_cases c47 : t141 = t131
                    · rw [if_pos c47] at H
                      have c47b0 : (t141 == t131) = true := beq_iff_eq.mpr c47
                      have c47b1 : (t141 != t131) = false := bne_eq_false_iff_eq.mpr c47
                      clear c47
                      by_cases c48 : t140 = 0
                      · rw [if_pos c48] at H
                        have c48b0 : (t140 == 0) = true := beq_iff_eq.mpr c48
                        have c48b1 : (t140 != 0) = false := bne_eq_false_iff_eq.mpr c48
                        clear c48
                        by_cases c49 : t143 = 0
                        · rw [if_pos c49] at H
                          have c49b0 : (t143 == 0) = true := beq_iff_eq.mpr c49
                          have c49b1 : (t143 != 0) = false := bne_eq_false_iff_eq.mpr c49
                          clear c49
                          rw [show wrap64 ((t132.size : Int) + (t133.size : Int)) = (t132.size : Int) + (t133.size : Int) from by unfold wrap64; omega] at H
                          by_cases c50 : t142 = ((t132.size : Int) + (t133.size : Int))
                          · rw [if_pos c50] at H
                            have c50b0 : (t142 == ((t132.size : Int) + (t133.size : Int))) = true := beq_iff_eq.mpr c50
                            have c50b1 : (t142 != ((t132.size : Int) + (t133.size : Int))) = false := bne_eq_false_iff_eq.mpr c50
                            clear c50
                            by_cases c51 : t146 = 2
                            · rw [if_pos c51] at H
                              have c51b0 : (t146 == 2) = true := beq_iff_eq.mpr c51
                              have c51b1 : (t146 != 2) = false := bne_eq_false_iff_eq.mpr c51
                              clear c51
                              obtain rfl := Option.some.inj H
                              go_wp2_with (first | ((with_reducible refine gate_callee (f := 22) rfl ?_); refine goesL_ (some 67) rfl rfl Try.func22 (by kernel_rfl) rfl #[.string (t132 ++ t133), .int .i64 0] rfl (by (try simp only [List.map_toArray, List.map_cons, List.map_nil]); first | done | rfl | (simp only [List.length_drop, List.length_take]; rfl)) ?_; (with_reducible refine (impl_BinNumAt.calls kj9 (t132 ++ t133) 0 t138 t139 t140 _ A34.out).mono ?_); rintro e w' ⟨rfl, ⟨nd, rfl⟩⟩; refine ⟨_, rfl, ?_⟩) | ((with_reducible refine gate_callee (f := 22) rfl ?_); refine goesL_ (some 76) rfl rfl Try.func22 (by kernel_rfl) rfl #[.string (t132 ++ t133), .int .i64 t139] rfl (by (try simp only [List.map_toArray, List.map_cons, List.map_nil]); first | done | rfl | (simp only [List.length_drop, List.length_take]; rfl)) ?_; (with_reducible refine (impl_BinNumAt.calls kj9 (t132 ++ t133) t139 t141 t142 t143 _ A35.out).mono ?_); rintro e w' ⟨rfl, ⟨nd, rfl⟩⟩; refine ⟨_, rfl, ?_⟩) | ((with_reducible refine gate_callee (f := 22) rfl ?_); refine goesL_ (some 85) rfl rfl Try.func22 (by kernel_rfl) rfl #[.string (t132 ++ t133), .int .i64 t142] rfl (by (try simp only [List.map_toArray, List.map_cons, List.map_nil]); first | done | rfl | (simp only [List.length_drop, List.length_take]; rfl)) ?_; (with_reducible refine (impl_BinNumAt.calls kj9 (t132 ++ t133) t142 t144 t145 t146 _ A36.out).mono ?_); rintro e w' ⟨rfl, ⟨nd, rfl⟩⟩; refine ⟨_, rfl, ?_⟩))
                              go_ret
                              exact ⟨by first | rfl | (simp [errW_none, errW_some] <;> rfl) | (simp [*, errW_none, errW_some] <;> rfl), by repeat (first | (with_reducible first | exact HB.out | apply below_alloc | apply pw_below_drewN | apply below_drew1) | exact HB.out)⟩
                            · rw [if_neg c51] at H
                              have c51b0 : (t146 == 2) = false := beq_eq_false_iff_ne.mpr c51
                              have c51b1 : (t146 != 2) = true := bne_iff_ne.mpr c51
                              exact absurd ((Option.some.inj H).trans HR_.out) (by decide)
                          · rw [if_neg c50] at H
                            have c50b0 : (t142 == ((t132.size : Int) + (t133.size : Int))) = false := beq_eq_false_iff_ne.mpr c50
                            have c50b1 : (t142 != ((t132.size : Int) + (t133.size : Int))) = true := bne_iff_ne.mpr c50
                            exact absurd ((Option.some.inj H).trans HR_.out) (by decide)
                        · rw [if_neg c49] at H
                          have c49b0 : (t143 == 0) = false := beq_eq_false_iff_ne.mpr c49
                          have c49b1 : (t143 != 0) = true := bne_iff_ne.mpr c49
                          exact absurd ((Option.some.inj H).trans HR_.out) (by decide)
                      · rw [if_neg c48] at H
                        have c48b0 : (t140 == 0) = false := beq_eq_false_iff_ne.mpr c48
                        have c48b1 : (t140 != 0) = true := bne_iff_ne.mpr c48
                        exact absurd ((Option.some.inj H).trans HR_.out) (by decide)
                    · rw [if_neg c47] at H
                      have c47b0 : (t141 == t131) = false := beq_eq_false_iff_ne.mpr c47
                      have c47b1 : (t141 != t131) = true := bne_iff_ne.mpr c47
                      exact absurd ((Option.some.inj H).trans HR_.out) (by decide)
                  · rw [if_neg c46] at H
                    have c46b0 : (t138 == t130) = false := beq_eq_false_iff_ne.mpr c46
                    have c46b1 : (t138 != t130) = true := bne_iff_ne.mpr c46
                    exact absurd ((Option.some.inj H).trans HR_.out) (by decide)
              · rw [if_neg c33] at H
                exact absurd H (by simp)

/-- THE ONE PURE STATEMENT of laws_FnBinSeq: yours. -/
def laws_FnBinSeq.Pure : Prop := ∀ (l0 : List Int) (l1 : List Int), l0.length ≤ maxLen → l0.length * 1 ≤ 140737488351232 → (∀ x ∈ l0, (Lit.int .u8 x).wf = true) → l1.length ≤ maxLen → l1.length * 1 ≤ 140737488351232 → (∀ x ∈ l1, (Lit.int .u8 x).wf = true) → ∃ k, laws_FnBinSeq.f k l0 l1 = some true
theorem laws_FnBinSeq.walk (P : laws_FnBinSeq.Pure) (a0 : Option Addr) (len0 cap0 : Nat) (z0 : List Int) (a1 : Option Addr) (len1 cap1 : Nat) (z1 : List Int) (w : World) (w0 : (a0 = none ∧ len0 = 0 ∧ cap0 = 0 ∧ z0 = []) ∨ ∃ x, a0 = some x ∧ len0 ≤ cap0 ∧ cap0 ≤ maxLen ∧ z0.length = cap0 ∧ (∀ i, i < z0.length → w.cell? (x.add i) = some (.int .u8 (z0.getD i 0))) ∧ ∀ n ∈ z0, (Lit.int .u8 n).wf = true) (y0 : len0 * 1 ≤ 140737488351232) (w1 : (a1 = none ∧ len1 = 0 ∧ cap1 = 0 ∧ z1 = []) ∨ ∃ x, a1 = some x ∧ len1 ≤ cap1 ∧ cap1 ≤ maxLen ∧ z1.length = cap1 ∧ (∀ i, i < z1.length → w.cell? (x.add i) = some (.int .u8 (z1.getD i 0))) ∧ ∀ n ∈ z1, (Lit.int .u8 n).wf = true) (y1 : len1 * 1 ≤ 140737488351232) :
    Calls Try.prog 5 #[.slice a0 len0 cap0, .slice a1 len1 cap1] w fun e w' => e = .returned (.bool true) ∧ Below w.heap.size w w' := by
  obtain ⟨l0, rfl, hr0, hm0, hw0, hc0⟩ := ReadsInt.ofRowC w0
  obtain ⟨l1, rfl, hr1, hm1, hw1, hc1⟩ := ReadsInt.ofRowC w1
  obtain ⟨k, h⟩ := P l0 l1 hm0 y0 hw0 hm1 y1 hw1
  refine (laws_FnBinSeq.calls k _ _ l0 _ _ l1 true w (Kd.C_of_reads (d := (0 : Int)) (h1 := fun _ => rfl) hr0) hc0 (Kd.C_of_reads (d := (0 : Int)) (h1 := fun _ => rfl) hr1) hc1 rfl h).mono ?_
  rintro e w' ⟨rfl, hd⟩
  exact ⟨rfl, hd⟩

end Go.Proofs.Ytdnpbpgnehaebaa.PFnBinSeq
