/- Functions of the program as plain Lean functions, and that the machine's calls come to what these tell: by the kit's print, turned by this session (NOTES.md). No condition beyond each theorem's own. -/
import Derived.Test.YtdnpbpgnehaebaaPFnNumDox0
import Derived.Test.YtdnpbpgnehaebaaPFnNumDox1
namespace Go.Proofs.Ytdnpbpgnehaebaa.PFnNumDo
open Go.RowKit Go.Proofs.YtdnpbpgnehaebaaW.PrintWords Go.Proofs.YtdnpbpgnehaebaaW.PrintLast Go.Proofs.YtdnpbpgnehaebaaW.PrintMore
attribute [local go_sem] max2_int min2_int max_two min_two max_three min_three max_four min_four   -- for this text's walks alone
attribute [local go_sem] Go.Proofs.Ytdnpbpgnehaebaa.Aid.cell_twice
set_option linter.unusedVariables false
set_option linter.unusedSimpArgs false

/-! ### laws_FnNumDo: function 9 -/
mutual
def laws_FnNumDo.j0 : Nat → List Int → List Int → Bool → Option (Bool)
  | 0, _, _, _ => none
  | k + 1, x0, x1, x23 => if x23 = true then (some true) else ((spec_DrawNumDo.f k x0).bind fun bt129 => ((spec_DrawNumDo.f k x1).bind fun bt132 => ((impl_NumDo.f bt129.1 bt129.2.1 bt129.2.2).bind fun t135 => ((spec_NumDo.f bt129.1 bt129.2.1 bt129.2.2).bind fun t136 => (if t135 = t136 then (if t135 < 0 then (laws_FnNumDo.j1 k bt129.2.1 bt129.2.2 bt132.2.1 bt132.2.2 true) else (if t135 ≥ 9973 then (laws_FnNumDo.j1 k bt129.2.1 bt129.2.2 bt132.2.1 bt132.2.2 true) else (if bt129.1 = 9 then (laws_FnNumDo.j1 k bt129.2.1 bt129.2.2 bt132.2.1 bt132.2.2 false) else ((impl_NumDo.f bt129.1 bt129.2.2 bt129.2.1).bind fun t137 => (laws_FnNumDo.j1 k bt129.2.1 bt129.2.2 bt132.2.1 bt132.2.2 (t135 != t137)))))) else (laws_FnNumDo.j1 k bt129.2.1 bt129.2.2 bt132.2.1 bt132.2.2 true))))))
def laws_FnNumDo.j1 : Nat → Int → Int → Int → Int → Bool → Option (Bool)
  | 0, _, _, _, _, _ => none
  | k + 1, x6, x7, x9, x10, x65 => if x65 = true then (some false) else ((impl_NumDo.f 7 x6 x7).bind fun t138 => ((impl_NumDo.f 8 x9 t138).bind fun t139 => ((impl_NumDo.f 8 x9 x6).bind fun t140 => ((impl_NumDo.f 8 x9 x7).bind fun t141 => ((impl_NumDo.f 7 t140 t141).bind fun t142 => ((impl_NumDo.f 7 x6 x7).bind fun t143 => ((impl_NumDo.f 7 t143 x10).bind fun t144 => ((impl_NumDo.f 7 x7 x10).bind fun t145 => ((impl_NumDo.f 7 x6 t145).bind fun t146 => (if t139 = t142 then (if t144 = t146 then ((impl_NumDo.f 8 t139 1).bind fun t147 => (if t147 = t139 then ((impl_NumDo.f 7 t139 0).bind fun t148 => (if t148 = t139 then ((impl_NumDo.f 8 t139 0).bind fun t149 => (some (t149 == 0))) else (some false))) else (some false))) else (some false)) else (some false)))))))))))
end
def laws_FnNumDo.f (k : Nat) (l0 : List Int) (l1 : List Int) : Option (Bool) := if (l0.length : Int) > 1048576 then (laws_FnNumDo.j0 k l0 l1 true) else (laws_FnNumDo.j0 k l0 l1 (decide ((l1.length : Int) > 1048576)))
theorem laws_FnNumDo.mono_l : ∀ k, (∀ y0 y1 y2, LeO (laws_FnNumDo.j0 k y0 y1 y2) (laws_FnNumDo.j0 (k + 1) y0 y1 y2)) ∧ (∀ y0 y1 y2 y3 y4, LeO (laws_FnNumDo.j1 k y0 y1 y2 y3 y4) (laws_FnNumDo.j1 (k + 1) y0 y1 y2 y3 y4))
  | 0 => ⟨fun _ _ _ r h => by simp [laws_FnNumDo.j0] at h, fun _ _ _ _ _ r h => by simp [laws_FnNumDo.j1] at h⟩
  | k + 1 => by
    obtain ⟨ih0, ih1⟩ := laws_FnNumDo.mono_l k
    refine ⟨?_, ?_⟩
    · intro y0 y1 y2
      unfold laws_FnNumDo.j0
      repeat' first
      | (with_reducible exact ih0 _ _ _)
      | (with_reducible exact ih1 _ _ _ _ _)
      | (with_reducible exact spec_DrawNumDo.mono _ _)
      | (with_reducible exact LeO.refl _)
      | (with_reducible exact LeO.none _)
      | (with_reducible refine LeO.ite ?_ ?_)
      | (with_reducible refine LeO.bind ?_ (fun _ => ?_))
      | exact ih0 _ _ _
      | exact ih1 _ _ _ _ _
      | exact spec_DrawNumDo.mono _ _
      | exact LeO.none _
      | refine LeO.ite ?_ ?_
      | refine LeO.bind ?_ (fun _ => ?_)
    · intro y0 y1 y2 y3 y4
      unfold laws_FnNumDo.j1
      repeat' first
      | (with_reducible exact ih0 _ _ _)
      | (with_reducible exact ih1 _ _ _ _ _)
      | (with_reducible exact spec_DrawNumDo.mono _ _)
      | (with_reducible exact LeO.refl _)
      | (with_reducible exact LeO.none _)
      | (with_reducible refine LeO.ite ?_ ?_)
      | (with_reducible refine LeO.bind ?_ (fun _ => ?_))
      | exact ih0 _ _ _
      | exact ih1 _ _ _ _ _
      | exact spec_DrawNumDo.mono _ _
      | exact LeO.none _
      | refine LeO.ite ?_ ?_
      | refine LeO.bind ?_ (fun _ => ?_)
theorem laws_FnNumDo.mono : ∀ a0 a1 k, LeO (laws_FnNumDo.f k a0 a1) (laws_FnNumDo.f (k + 1) a0 a1) := by
  intro a0 a1 k
  obtain ⟨ih0, ih1⟩ := laws_FnNumDo.mono_l k
  unfold laws_FnNumDo.f
  repeat' first
      | (with_reducible exact ih0 _ _ _)
      | (with_reducible exact ih1 _ _ _ _ _)
      | (with_reducible exact spec_DrawNumDo.mono _ _)
      | (with_reducible exact LeO.refl _)
      | (with_reducible exact LeO.none _)
      | (with_reducible refine LeO.ite ?_ ?_)
      | (with_reducible refine LeO.bind ?_ (fun _ => ?_))
      | exact ih0 _ _ _
      | exact ih1 _ _ _ _ _
      | exact spec_DrawNumDo.mono _ _
      | exact LeO.none _
      | refine LeO.ite ?_ ?_
      | refine LeO.bind ?_ (fun _ => ?_)
set_option maxHeartbeats 8000000 in
set_option maxRecDepth 100000 in
theorem laws_FnNumDo.calls (k : Nat) (A0 : Option Addr) (c0 : Nat) (l0 : List Int) (A1 : Option Addr) (c1 : Nat) (l1 : List Int) (r : Bool) (w : World) (hr0 : Kd.C (Kd.int .u8) w A0 l0.length l0) (hc0 : l0.length ≤ c0) (hr1 : Kd.C (Kd.int .u8) w A1 l1.length l1) (hc1 : l1.length ≤ c1) (hrt_ : r = true) (h : laws_FnNumDo.f k l0 l1 = some r) :
    Calls Try.prog 9 #[.slice A0 l0.length c0, .slice A1 l1.length c1] w fun e w' => e = .returned (.bool r) ∧ Below w.heap.size w w' := by
  have HR_ := Aside0.mk hrt_
  clear hrt_
  have HR0 := Aside0.mk hr0
  have HC0 := Aside0.mk hc0
  clear hr0 hc0
  have HR1 := Aside0.mk hr1
  have HC1 := Aside0.mk hc1
  clear hr1 hc1
  have HB := Aside0.mk (Below.refl w.heap.size w)
  have H : (if (l0.length : Int) > 1048576 then (laws_FnNumDo.j0 k l0 l1 true) else (laws_FnNumDo.j0 k l0 l1 (decide ((l1.length : Int) > 1048576)))) = some r := h
  clear h
  have HC3 := Aside0.mk H
  clear H
  go_enter Try.func9, Try.ntmps9
  go_upto_region 1 with (fail)
  go_cut [23] (fun v23 wc => ∃ (kq : Nat) (x23_2 : Bool), v23 = .bool x23_2 ∧ Aside0 (laws_FnNumDo.j0 kq l0 l1 x23_2 = some r) ∧ Aside0 (kq ≤ k) ∧ Aside0 (Below w.heap.size w wc))
  case first =>
    have H := HC3.out
    clear HC3
    by_cases c4 : (l0.length : Int) > 1048576
    · rw [if_pos c4] at H
      have c4b0 : decide (1048576 < (l0.length : Int)) = true := decide_eq_true c4
      have c4b1 : decide (1048576 < l0.length) = true := decide_eq_true (by omega)
      clear c4
      (first | rw [c4b0] | (simp only [i64_w, i32_w]; rw [c4b0]) | skip)
      have H' := Aside0.mk H
      clear H
      go_wp2
      go_meet
      case rel => exact ⟨_, (true), (by first | rfl | (simp; done) | (simp [*]; done)), H', ⟨by first | omega | exact Nat.le_refl _⟩, ⟨by repeat (first | (with_reducible first | exact HB.out | apply below_alloc | apply pw_below_drewN | apply below_drew1) | exact HB.out)⟩⟩
    · rw [if_neg c4] at H
      have c4b0 : decide (1048576 < (l0.length : Int)) = false := decide_eq_false c4
      have c4b1 : decide (1048576 < l0.length) = false := decide_eq_false (by omega)
      clear c4
      (first | rw [c4b0] | (simp only [i64_w, i32_w]; rw [c4b0]) | skip)
      have H' := Aside0.mk H
      clear H
      go_wp2
      go_meet
      case rel => exact ⟨_, (decide ((l1.length : Int) > 1048576)), (by first | rfl | (simp; done) | (simp [*]; done)), H', ⟨by first | omega | exact Nat.le_refl _⟩, ⟨by repeat (first | (with_reducible first | exact HB.out | apply below_alloc | apply pw_below_drewN | apply below_drew1) | exact HB.out)⟩⟩
  case rest =>
    clear HC3
    try clear c1
    try clear p2
    try clear c4
    try clear c4b0
    try clear c4b1
    obtain ⟨kq, x23_2, rfl, HA, HJ2, HB⟩ := hcut
    cases kq with
    | zero => exact absurd HA.out (by simp [laws_FnNumDo.j0])
    | succ kj2 =>
      have H := HA.out
      clear HA
      simp only [laws_FnNumDo.j0] at H
      by_cases c5 : x23_2 = true
      · subst c5
        have H1 : (some true) = some r := by rw [if_pos rfl] at H; exact H
        clear H
        have H := H1
        clear H1
        obtain rfl := Option.some.inj H
        go_wp2
        go_ret
        exact ⟨by first | rfl | (simp [errW_none, errW_some] <;> rfl) | (simp [*, errW_none, errW_some] <;> rfl), by repeat (first | (with_reducible first | exact HB.out | apply below_alloc | apply pw_below_drewN | apply below_drew1) | exact HB.out)⟩
      · replace c5 := Bool.eq_false_iff.mpr c5
        subst c5
        have H1 : ((spec_DrawNumDo.f kj2 l0).bind fun bt129 => ((spec_DrawNumDo.f kj2 l1).bind fun bt132 => ((impl_NumDo.f bt129.1 bt129.2.1 bt129.2.2).bind fun t135 => ((spec_NumDo.f bt129.1 bt129.2.1 bt129.2.2).bind fun t136 => (if t135 = t136 then (if t135 < 0 then (laws_FnNumDo.j1 kj2 bt129.2.1 bt129.2.2 bt132.2.1 bt132.2.2 true) else (if t135 ≥ 9973 then (laws_FnNumDo.j1 kj2 bt129.2.1 bt129.2.2 bt132.2.1 bt132.2.2 true) else (if bt129.1 = 9 then (laws_FnNumDo.j1 kj2 bt129.2.1 bt129.2.2 bt132.2.1 bt132.2.2 false) else ((impl_NumDo.f bt129.1 bt129.2.2 bt129.2.1).bind fun t137 => (laws_FnNumDo.j1 kj2 bt129.2.1 bt129.2.2 bt132.2.1 bt132.2.2 (t135 != t137)))))) else (laws_FnNumDo.j1 kj2 bt129.2.1 bt129.2.2 bt132.2.1 bt132.2.2 true)))))) = some r := by rw [if_neg (show ¬ (false = true) by decide)] at H; exact H
        clear H
        have H := H1
        clear H1
        replace H := Option.bind_eq_some_iff.mp H
        obtain ⟨⟨t129, t130, t131⟩, A60, H⟩ := H
        replace H : ((spec_DrawNumDo.f kj2 l1).bind fun bt132 => ((impl_NumDo.f t129 t130 t131).bind fun t135 => ((spec_NumDo.f t129 t130 t131).bind fun t136 => (if t135 = t136 then (if t135 < 0 then (laws_FnNumDo.j1 kj2 t130 t131 bt132.2.1 bt132.2.2 true) else (if t135 ≥ 9973 then (laws_FnNumDo.j1 kj2 t130 t131 bt132.2.1 bt132.2.2 true) else (if t129 = 9 then (laws_FnNumDo.j1 kj2 t130 t131 bt132.2.1 bt132.2.2 false) else ((impl_NumDo.f t129 t131 t130).bind fun t137 => (laws_FnNumDo.j1 kj2 t130 t131 bt132.2.1 bt132.2.2 (t135 != t137)))))) else (laws_FnNumDo.j1 kj2 t130 t131 bt132.2.1 bt132.2.2 true))))) = some r := H
        have A6 := Aside0.mk A60
        clear A60
        replace H := Option.bind_eq_some_iff.mp H
        obtain ⟨⟨t132, t133, t134⟩, A70, H⟩ := H
        replace H : ((impl_NumDo.f t129 t130 t131).bind fun t135 => ((spec_NumDo.f t129 t130 t131).bind fun t136 => (if t135 = t136 then (if t135 < 0 then (laws_FnNumDo.j1 kj2 t130 t131 t133 t134 true) else (if t135 ≥ 9973 then (laws_FnNumDo.j1 kj2 t130 t131 t133 t134 true) else (if t129 = 9 then (laws_FnNumDo.j1 kj2 t130 t131 t133 t134 false) else ((impl_NumDo.f t129 t131 t130).bind fun t137 => (laws_FnNumDo.j1 kj2 t130 t131 t133 t134 (t135 != t137)))))) else (laws_FnNumDo.j1 kj2 t130 t131 t133 t134 true)))) = some r := H
        have A7 := Aside0.mk A70
        clear A70
        replace H := Option.bind_eq_some_iff.mp H
        obtain ⟨t135, A80, H⟩ := H
        replace H : ((spec_NumDo.f t129 t130 t131).bind fun t136 => (if t135 = t136 then (if t135 < 0 then (laws_FnNumDo.j1 kj2 t130 t131 t133 t134 true) else (if t135 ≥ 9973 then (laws_FnNumDo.j1 kj2 t130 t131 t133 t134 true) else (if t129 = 9 then (laws_FnNumDo.j1 kj2 t130 t131 t133 t134 false) else ((impl_NumDo.f t129 t131 t130).bind fun t137 => (laws_FnNumDo.j1 kj2 t130 t131 t133 t134 (t135 != t137)))))) else (laws_FnNumDo.j1 kj2 t130 t131 t133 t134 true))) = some r := H
        have A8 := Aside0.mk A80
        clear A80
        have HC9 := Aside0.mk H
        clear H
        go_upto_region 6 with (first | ((with_reducible refine gate_callee (f := 25) rfl ?_); refine goesL_ (some 26) rfl rfl Try.func25 (by kernel_rfl) rfl #[.slice A0 l0.length c0] rfl (by (try simp only [List.map_toArray, List.map_cons, List.map_nil]); first | done | rfl | (simp only [List.length_drop, List.length_take]; rfl)) ?_; (with_reducible refine (spec_DrawNumDo.calls kj2 _ _ l0 t129 t130 t131 _ ?side1 ?side2 A6.out).mono ?_); (case side1 => repeat (first | exact (Kd.C_below HR0.out HB.out) | (with_reducible refine Kd.C_alloc ?_ _) | (with_reducible refine Kd.C_drewN ?_ _) | (with_reducible refine Kd.C_drew ?_))); (case side2 => exact HC0.out); rintro e w10 ⟨rfl, hb⟩; refine ⟨_, rfl, ?_⟩; have n0_ := Aside0.mk (below_step (by repeat (first | (with_reducible first | exact HB.out | apply below_alloc | apply pw_below_drewN | apply below_drew1) | exact HB.out)) hb); clear HB; have HB := n0_; clear n0_; (try clear hb); (try clear hb2); (try clear hk); (try clear hi)) | ((with_reducible refine gate_callee (f := 25) rfl ?_); refine goesL_ (some 32) rfl rfl Try.func25 (by kernel_rfl) rfl #[.slice A1 l1.length c1] rfl (by (try simp only [List.map_toArray, List.map_cons, List.map_nil]); first | done | rfl | (simp only [List.length_drop, List.length_take]; rfl)) ?_; (with_reducible refine (spec_DrawNumDo.calls kj2 _ _ l1 t132 t133 t134 _ ?side1 ?side2 A7.out).mono ?_); (case side1 => repeat (first | exact (Kd.C_below HR1.out HB.out) | (with_reducible refine Kd.C_alloc ?_ _) | (with_reducible refine Kd.C_drewN ?_ _) | (with_reducible refine Kd.C_drew ?_))); (case side2 => exact HC1.out); rintro e w11 ⟨rfl, hb⟩; refine ⟨_, rfl, ?_⟩; have n0_ := Aside0.mk (below_step (by repeat (first | (with_reducible first | exact HB.out | apply below_alloc | apply pw_below_drewN | apply below_drew1) | exact HB.out)) hb); clear HB; have HB := n0_; clear n0_; (try clear hb); (try clear hb2); (try clear hk); (try clear hi)) | ((with_reducible refine gate_callee (f := 26) rfl ?_); refine goesL_ (some 39) rfl rfl Try.func26 (by kernel_rfl) rfl #[.int .i64 t129, .int .i64 t130, .int .i64 t131] rfl (by (try simp only [List.map_toArray, List.map_cons, List.map_nil]); first | done | rfl | (simp only [List.length_drop, List.length_take]; rfl)) ?_; (with_reducible refine (impl_NumDo.calls t129 t130 t131 t135 _ A8.out).mono ?_); rintro e w12 ⟨rfl, hb⟩; refine ⟨_, rfl, ?_⟩; have n0_ := Aside0.mk (below_step (by repeat (first | (with_reducible first | exact HB.out | apply below_alloc | apply pw_below_drewN | apply below_drew1) | exact HB.out)) hb); clear HB; have HB := n0_; clear n0_; (try clear hb); (try clear hb2); (try clear hk); (try clear hi)))
        (try simp only [Act.put, List.setIfInBounds_toArray, List.set_cons_zero, List.set_cons_succ])
        go_cut [65] (fun v65 wc => ∃ (kq : Nat) (x65_8 : Bool), v65 = .bool x65_8 ∧ Aside0 (laws_FnNumDo.j1 kq t130 t131 t133 t134 x65_8 = some r) ∧ Aside0 (kq ≤ kj2) ∧ Aside0 (Below w.heap.size w wc))
        case first =>
          have H := HC9.out
          clear HC9
          replace H := Option.bind_eq_some_iff.mp H
          obtain ⟨t136, A130, H⟩ := H
          replace H : (if t135 = t136 then (if t135 < 0 then (laws_FnNumDo.j1 kj2 t130 t131 t133 t134 true) else (if t135 ≥ 9973 then (laws_FnNumDo.j1 kj2 t130 t131 t133 t134 true) else (if t129 = 9 then (laws_FnNumDo.j1 kj2 t130 t131 t133 t134 false) else ((impl_NumDo.f t129 t131 t130).bind fun t137 => (laws_FnNumDo.j1 kj2 t130 t131 t133 t134 (t135 != t137)))))) else (laws_FnNumDo.j1 kj2 t130 t131 t133 t134 true)) = some r := H
          have A13 := Aside0.mk A130
          clear A130
          by_cases c14 : t135 = t136
          · rw [if_pos c14] at H
            have c14b0 : (t135 == t136) = true := beq_iff_eq.mpr c14
            have c14b1 : (t135 != t136) = false := bne_eq_false_iff_eq.mpr c14
            clear c14
            (first | rw [c14b0] | (simp only [i64_w, i32_w]; rw [c14b0]) | skip)
            by_cases c15 : t135 < 0
            · rw [if_pos c15] at H
              have c15b0 : decide (t135 < 0) = true := decide_eq_true c15
              clear c15
              have H' := Aside0.mk H
              clear H
              go_wp2_with (first | ((with_reducible refine gate_callee (f := 27) rfl ?_); refine goesL_ (some 44) rfl rfl Try.func27 (by kernel_rfl) rfl #[.int .i64 t129, .int .i64 t130, .int .i64 t131] rfl (by (try simp only [List.map_toArray, List.map_cons, List.map_nil]); first | done | rfl | (simp only [List.length_drop, List.length_take]; rfl)) ?_; (with_reducible refine (spec_NumDo.calls t129 t130 t131 t136 _ A13.out).mono ?_); rintro e w' ⟨rfl, ⟨nd, rfl⟩⟩; refine ⟨_, rfl, ?_⟩))
              go_meet
              case rel => exact ⟨_, (true), (by first | rfl | (simp; done) | (simp [*]; done)), H', ⟨by have := HJ2.out; first | omega | exact Nat.le_refl _⟩, ⟨by repeat (first | (with_reducible first | exact HB.out | apply below_alloc | apply pw_below_drewN | apply below_drew1) | exact HB.out)⟩⟩
            · rw [if_neg c15] at H
              have c15b0 : decide (t135 < 0) = false := decide_eq_false c15
              clear c15
              by_cases c16 : t135 ≥ 9973
              · rw [if_pos c16] at H
                have c16b0 : decide (9973 ≤ t135) = true := decide_eq_true c16
                clear c16
                have H' := Aside0.mk H
                clear H
                go_wp2_with (first | ((with_reducible refine gate_callee (f := 27) rfl ?_); refine goesL_ (some 44) rfl rfl Try.func27 (by kernel_rfl) rfl #[.int .i64 t129, .int .i64 t130, .int .i64 t131] rfl (by (try simp only [List.map_toArray, List.map_cons, List.map_nil]); first | done | rfl | (simp only [List.length_drop, List.length_take]; rfl)) ?_; (with_reducible refine (spec_NumDo.calls t129 t130 t131 t136 _ A13.out).mono ?_); rintro e w' ⟨rfl, ⟨nd, rfl⟩⟩; refine ⟨_, rfl, ?_⟩))
                go_meet
                case rel => exact ⟨_, (true), (by first | rfl | (simp; done) | (simp [*]; done)), H', ⟨by have := HJ2.out; first | omega | exact Nat.le_refl _⟩, ⟨by repeat (first | (with_reducible first | exact HB.out | apply below_alloc | apply pw_below_drewN | apply below_drew1) | exact HB.out)⟩⟩
              · rw [if_neg c16] at H
                have c16b0 : decide (9973 ≤ t135) = false := decide_eq_false c16
                clear c16
                by_cases c17 : t129 = 9
                · rw [if_pos c17] at H
                  have c17b0 : (t129 == 9) = true := beq_iff_eq.mpr c17
                  have c17b1 : (t129 != 9) = false := bne_eq_false_iff_eq.mpr c17
                  clear c17
                  have H' := Aside0.mk H
                  clear H
                  go_wp2_with (first | ((with_reducible refine gate_callee (f := 27) rfl ?_); refine goesL_ (some 44) rfl rfl Try.func27 (by kernel_rfl) rfl #[.int .i64 t129, .int .i64 t130, .int .i64 t131] rfl (by (try simp only [List.map_toArray, List.map_cons, List.map_nil]); first | done | rfl | (simp only [List.length_drop, List.length_take]; rfl)) ?_; (with_reducible refine (spec_NumDo.calls t129 t130 t131 t136 _ A13.out).mono ?_); rintro e w' ⟨rfl, ⟨nd, rfl⟩⟩; refine ⟨_, rfl, ?_⟩))
                  go_meet
                  case rel => exact ⟨_, (false), (by first | rfl | (simp; done) | (simp [*]; done)), H', ⟨by have := HJ2.out; first | omega | exact Nat.le_refl _⟩, ⟨by repeat (first | (with_reducible first | exact HB.out | apply below_alloc | apply pw_below_drewN | apply below_drew1) | exact HB.out)⟩⟩
                · rw [if_neg c17] at H
                  have c17b0 : (t129 == 9) = false := beq_eq_false_iff_ne.mpr c17
                  have c17b1 : (t129 != 9) = true := bne_iff_ne.mpr c17
                  replace H := Option.bind_eq_some_iff.mp H
                  obtain ⟨t137, A180, H⟩ := H
                  replace H : (laws_FnNumDo.j1 kj2 t130 t131 t133 t134 (t135 != t137)) = some r := H
                  have A18 := Aside0.mk A180
                  clear A180
                  have H' := Aside0.mk H
                  clear H
                  go_wp2_with (first | ((with_reducible refine gate_callee (f := 27) rfl ?_); refine goesL_ (some 44) rfl rfl Try.func27 (by kernel_rfl) rfl #[.int .i64 t129, .int .i64 t130, .int .i64 t131] rfl (by (try simp only [List.map_toArray, List.map_cons, List.map_nil]); first | done | rfl | (simp only [List.length_drop, List.length_take]; rfl)) ?_; (with_reducible refine (spec_NumDo.calls t129 t130 t131 t136 _ A13.out).mono ?_); rintro e w' ⟨rfl, ⟨nd, rfl⟩⟩; refine ⟨_, rfl, ?_⟩) | (go_at_call 26; (with_reducible refine (impl_NumDo.calls t129 t131 t130 t137 _ A18.out).mono ?_); rintro e w19 ⟨rfl, hb⟩; have n0_ := Aside0.mk (below_step (by repeat (first | (with_reducible first | exact HB.out | apply below_alloc | apply pw_below_drewN | apply below_drew1) | exact HB.out)) hb); clear HB; have HB := n0_; clear n0_; (try clear hb); (try clear hb2); (try clear hk); (try clear hi)))
                  go_meet
                  case rel => exact ⟨_, ((t135 != t137)), (by first | rfl | (simp; done) | (simp [*]; done)), H', ⟨by have := HJ2.out; first | omega | exact Nat.le_refl _⟩, ⟨by repeat (first | (with_reducible first | exact HB.out | apply below_alloc | apply pw_below_drewN | apply below_drew1) | exact HB.out)⟩⟩
          · rw [if_neg c14] at H
            have c14b0 : (t135 == t136) = false := beq_eq_false_iff_ne.mpr c14
            have c14b1 : (t135 != t136) = true := bne_iff_ne.mpr c14
            (first | rw [c14b0] | (simp only [i64_w, i32_w]; rw [c14b0]) | skip)
            have H' := Aside0.mk H
            clear H
            go_wp2_with (first | ((with_reducible refine gate_callee (f := 27) rfl ?_); refine goesL_ (some 44) rfl rfl Try.func27 (by kernel_rfl) rfl #[.int .i64 t129, .int .i64 t130, .int .i64 t131] rfl (by (try simp only [List.map_toArray, List.map_cons, List.map_nil]); first | done | rfl | (simp only [List.length_drop, List.length_take]; rfl)) ?_; (with_reducible refine (spec_NumDo.calls t129 t130 t131 t136 _ A13.out).mono ?_); rintro e w' ⟨rfl, ⟨nd, rfl⟩⟩; refine ⟨_, rfl, ?_⟩))
            go_meet
            case rel => exact ⟨_, (true), (by first | rfl | (simp; done) | (simp [*]; done)), H', ⟨by have := HJ2.out; first | omega | exact Nat.le_refl _⟩, ⟨by repeat (first | (with_reducible first | exact HB.out | apply below_alloc | apply pw_below_drewN | apply below_drew1) | exact HB.out)⟩⟩
        case rest =>
          clear HC9
          try clear c1
          try clear c2
          try clear p2
          try clear c4
          try clear c4b0
          try clear c4b1
          try clear c5
          try clear c9
          try clear c14
          try clear c14b0
          try clear c14b1
          try clear c15
          try clear c15b0
          try clear c16
          try clear c16b0
          try clear c17
          try clear c17b0
          try clear c17b1
          try clear p2
          obtain ⟨kq, x65_8, rfl, HA, HJ8, HB⟩ := hcut
          cases kq with
          | zero => exact absurd HA.out (by simp [laws_FnNumDo.j1])
          | succ kj8 =>
            have H := HA.out
            clear HA
            simp only [laws_FnNumDo.j1] at H
            by_cases c20 : x65_8 = true
            · subst c20
              have H1 : (some false) = some r := by rw [if_pos rfl] at H; exact H
              clear H
              have H := H1
              clear H1
              exact absurd ((Option.some.inj H).trans HR_.out) (by decide)
            · replace c20 := Bool.eq_false_iff.mpr c20
              subst c20
              have H1 : ((impl_NumDo.f 7 t130 t131).bind fun t138 => ((impl_NumDo.f 8 t133 t138).bind fun t139 => ((impl_NumDo.f 8 t133 t130).bind fun t140 => ((impl_NumDo.f 8 t133 t131).bind fun t141 => ((impl_NumDo.f 7 t140 t141).bind fun t142 => ((impl_NumDo.f 7 t130 t131).bind fun t143 => ((impl_NumDo.f 7 t143 t134).bind fun t144 => ((impl_NumDo.f 7 t131 t134).bind fun t145 => ((impl_NumDo.f 7 t130 t145).bind fun t146 => (if t139 = t142 then (if t144 = t146 then ((impl_NumDo.f 8 t139 1).bind fun t147 => (if t147 = t139 then ((impl_NumDo.f 7 t139 0).bind fun t148 => (if t148 = t139 then ((impl_NumDo.f 8 t139 0).bind fun t149 => (some (t149 == 0))) else (some false))) else (some false))) else (some false)) else (some false))))))))))) = some r := by rw [if_neg (show ¬ (false = true) by decide)] at H; exact H
              clear H
              have H := H1
              clear H1
              replace H := Option.bind_eq_some_iff.mp H
              obtain ⟨t138, A210, H⟩ := H
              replace H : ((impl_NumDo.f 8 t133 t138).bind fun t139 => ((impl_NumDo.f 8 t133 t130).bind fun t140 => ((impl_NumDo.f 8 t133 t131).bind fun t141 => ((impl_NumDo.f 7 t140 t141).bind fun t142 => ((impl_NumDo.f 7 t130 t131).bind fun t143 => ((impl_NumDo.f 7 t143 t134).bind fun t144 => ((impl_NumDo.f 7 t131 t134).bind fun t145 => ((impl_NumDo.f 7 t130 t145).bind fun t146 => (if t139 = t142 then (if t144 = t146 then ((impl_NumDo.f 8 t139 1).bind fun t147 => (if t147 = t139 then ((impl_NumDo.f 7 t139 0).bind fun t148 => (if t148 = t139 then ((impl_NumDo.f 8 t139 0).bind fun t149 => (some (t149 == 0))) else (some false))) else (some false))) else (some false)) else (some false)))))))))) = some r := H
              have A21 := Aside0.mk A210
              clear A210
              replace H := Option.bind_eq_some_iff.mp H
              obtain ⟨t139, A220, H⟩ := H
              replace H : ((impl_NumDo.f 8 t133 t130).bind fun t140 => ((impl_NumDo.f 8 t133 t131).bind fun t141 => ((impl_NumDo.f 7 t140 t141).bind fun t142 => ((impl_NumDo.f 7 t130 t131).bind fun t143 => ((impl_NumDo.f 7 t143 t134).bind fun t144 => ((impl_NumDo.f 7 t131 t134).bind fun t145 => ((impl_NumDo.f 7 t130 t145).bind fun t146 => (if t139 = t142 then (if t144 = t146 then ((impl_NumDo.f 8 t139 1).bind fun t147 => (if t147 = t139 then ((impl_NumDo.f 7 t139 0).bind fun t148 => (if t148 = t139 then ((impl_NumDo.f 8 t139 0).bind fun t149 => (some (t149 == 0))) else (some false))) else (some false))) else (some false)) else (some false))))))))) = some r := H
              have A22 := Aside0.mk A220
              clear A220
              replace H := Option.bind_eq_some_iff.mp H
              obtain ⟨t140, A230, H⟩ := H
              replace H : ((impl_NumDo.f 8 t133 t131).bind fun t141 => ((impl_NumDo.f 7 t140 t141).bind fun t142 => ((impl_NumDo.f 7 t130 t131).bind fun t143 => ((impl_NumDo.f 7 t143 t134).bind fun t144 => ((impl_NumDo.f 7 t131 t134).bind fun t145 => ((impl_NumDo.f 7 t130 t145).bind fun t146 => (if t139 = t142 then (if t144 = t146 then ((impl_NumDo.f 8 t139 1).bind fun t147 => (if t147 = t139 then ((impl_NumDo.f 7 t139 0).bind fun t148 => (if t148 = t139 then ((impl_NumDo.f 8 t139 0).bind fun t149 => (some (t149 == 0))) else (some false))) else (some false))) else (some false)) else (some false)))))))) = some r := H
              have A23 := Aside0.mk A230
              clear A230
              replace H := Option.bind_eq_some_iff.mp H
              obtain ⟨t141, A240, H⟩ := H
              replace H : ((impl_NumDo.f 7 t140 t141).bind fun t142 => ((impl_NumDo.f 7 t130 t131).bind fun t143 => ((impl_NumDo.f 7 t143 t134).bind fun t144 => ((impl_NumDo.f 7 t131 t134).bind fun t145 => ((impl_NumDo.f 7 t130 t145).bind fun t146 => (if t139 = t142 then (if t144 = t146 then ((impl_NumDo.f 8 t139 1).bind fun t147 => (if t147 = t139 then ((impl_NumDo.f 7 t139 0).bind fun t148 => (if t148 = t139 then ((impl_NumDo.f 8 t139 0).bind fun t149 => (some (t149 == 0))) else (some false))) else (some false))) else (some false)) else (some false))))))) = some r := H
              have A24 := Aside0.mk A240
              clear A240
              replace H := Option.bind_eq_some_iff.mp H
              obtain ⟨t142, A250, H⟩ := H
              replace H : ((impl_NumDo.f 7 t130 t131).bind fun t143 => ((impl_NumDo.f 7 t143 t134).bind fun t144 => ((impl_NumDo.f 7 t131 t134).bind fun t145 => ((impl_NumDo.f 7 t130 t145).bind fun t146 => (if t139 = t142 then (if t144 = t146 then ((impl_NumDo.f 8 t139 1).bind fun t147 => (if t147 = t139 then ((impl_NumDo.f 7 t139 0).bind fun t148 => (if t148 = t139 then ((impl_NumDo.f 8 t139 0).bind fun t149 => (some (t149 == 0))) else (some false))) else (some false))) else (some false)) else (some false)))))) = some r := H
              have A25 := Aside0.mk A250
              clear A250
              replace H := Option.bind_eq_some_iff.mp H
              obtain ⟨t143, A260, H⟩ := H
              replace H : ((impl_NumDo.f 7 t143 t134).bind fun t144 => ((impl_NumDo.f 7 t131 t134).bind fun t145 => ((impl_NumDo.f 7 t130 t145).bind fun t146 => (if t139 = t142 then (if t144 = t146 then ((impl_NumDo.f 8 t139 1).bind fun t147 => (if t147 = t139 then ((impl_NumDo.f 7 t139 0).bind fun t148 => (if t148 = t139 then ((impl_NumDo.f 8 t139 0).bind fun t149 => (some (t149 == 0))) else (some false))) else (some false))) else (some false)) else (some false))))) = some r := H
              have A26 := Aside0.mk A260
              clear A260
              replace H := Option.bind_eq_some_iff.mp H
              obtain ⟨t144, A270, H⟩ := H
              replace H : ((impl_NumDo.f 7 t131 t134).bind fun t145 => ((impl_NumDo.f 7 t130 t145).bind fun t146 => (if t139 = t142 then (if t144 = t146 then ((impl_NumDo.f 8 t139 1).bind fun t147 => (if t147 = t139 then ((impl_NumDo.f 7 t139 0).bind fun t148 => (if t148 = t139 then ((impl_NumDo.f 8 t139 0).bind fun t149 => (some (t149 == 0))) else (some false))) else (some false))) else (some false)) else (some false)))) = some r := H
              have A27 := Aside0.mk A270
              clear A270
              replace H := Option.bind_eq_some_iff.mp H
              obtain ⟨t145, A280, H⟩ := H
              replace H : ((impl_NumDo.f 7 t130 t145).bind fun t146 => (if t139 = t142 then (if t144 = t146 then ((impl_NumDo.f 8 t139 1).bind fun t147 => (if t147 = t139 then ((impl_NumDo.f 7 t139 0).bind fun t148 => (if t148 = t139 then ((impl_NumDo.f 8 t139 0).bind fun t149 => (some (t149 == 0))) else (some false))) else (some false))) else (some false)) else (some false))) = some r := H
              have A28 := Aside0.mk A280
              clear A280
              replace H := Option.bind_eq_some_iff.mp H
              obtain ⟨t146, A290, H⟩ := H
              replace H : (if t139 = t142 then (if t144 = t146 then ((impl_NumDo.f 8 t139 1).bind fun t147 => (if t147 = t139 then ((impl_NumDo.f 7 t139 0).bind fun t148 => (if t148 = t139 then ((impl_NumDo.f 8 t139 0).bind fun t149 => (some (t149 == 0))) else (some false))) else (some false))) else (some false)) else (some false)) = some r := H
              have A29 := Aside0.mk A290
              clear A290
              by_cases c30 : t139 = t142
              · rw [if_pos c30] at H
                have c30b0 : (t139 == t142) = true := beq_iff_eq.mpr c30
                have c30b1 : (t139 != t142) = false := bne_eq_false_iff_eq.mpr c30
                clear c30
                by_cases c31 : t144 = t146
                · rw [if_pos c31] at H
                  have c31b0 : (t144 == t146) = true := beq_iff_eq.mpr c31
                  have c31b1 : (t144 != t146) = false := bne_eq_false_iff_eq.mpr c31
                  clear c31
                  replace H := Option.bind_eq_some_iff.mp H
                  obtain ⟨t147, A320, H⟩ := H
                  replace H : (if t147 = t139 then ((impl_NumDo.f 7 t139 0).bind fun t148 => (if t148 = t139 then ((impl_NumDo.f 8 t139 0).bind fun t149 => (some (t149 == 0))) else (some false))) else (some false)) = some r := H
                  have A32 := Aside0.mk A320
                  clear A320
                  by_cases c33 : t147 = t139
                  · rw [if_pos c33] at H
                    have c33b0 : (t147 == t139) = true := beq_iff_eq.mpr c33
                    have c33b1 : (t147 != t139) = false := bne_eq_false_iff_eq.mpr c33
                    clear c33
                    replace H := Option.bind_eq_some_iff.mp H
                    obtain ⟨t148, A340, H⟩ := H
                    replace H : (if t148 = t139 then ((impl_NumDo.f 8 t139 0).bind fun t149 => (some (t149 == 0))) else (some false)) = some r := H
                    have A34 := Aside0.mk A340
                    clear A340
                    by_cases c35 : t148 = t139
                    · rw [if_pos c35] at H
                      have c35b0 : (t148 == t139) = true := beq_iff_eq.mpr c35
                      have c35b1 : (t148 != t139) = false := bne_eq_false_iff_eq.mpr c35
                      clear c35
                      replace H := Option.bind_eq_some_iff.mp H
                      obtain ⟨t149, A360, H⟩ := H
                      replace H : (some (t149 == 0)) = some r := H
                      have A36 := Aside0.mk A360
                      clear A360
                      obtain rfl := Option.some.inj H
                      go_wp2_with (first | ((with_reducible refine gate_callee (f := 26) rfl ?_); refine goesL_ (some 69) rfl rfl Try.func26 (by kernel_rfl) rfl #[.int .i64 7, .int .i64 t130, .int .i64 t131] rfl (by (try simp only [List.map_toArray, List.map_cons, List.map_nil]); first | done | rfl | (simp only [List.length_drop, List.length_take]; rfl)) ?_; (with_reducible refine (impl_NumDo.calls 7 t130 t131 t138 _ A21.out).mono ?_); rintro e w37 ⟨rfl, hb⟩; refine ⟨_, rfl, ?_⟩; have n0_ := Aside0.mk (below_step (by repeat (first | (with_reducible first | exact HB.out | apply below_alloc | apply pw_below_drewN | apply below_drew1) | exact HB.out)) hb); clear HB; have HB := n0_; clear n0_; (try clear hb); (try clear hb2); (try clear hk); (try clear hi)) | ((with_reducible refine gate_callee (f := 26) rfl ?_); refine goesL_ (some 70) rfl rfl Try.func26 (by kernel_rfl) rfl #[.int .i64 8, .int .i64 t133, .int .i64 t138] rfl (by (try simp only [List.map_toArray, List.map_cons, List.map_nil]); first | done | rfl | (simp only [List.length_drop, List.length_take]; rfl)) ?_; (with_reducible refine (impl_NumDo.calls 8 t133 t138 t139 _ A22.out).mono ?_); rintro e w38 ⟨rfl, hb⟩; refine ⟨_, rfl, ?_⟩; have n0_ := Aside0.mk (below_step (by repeat (first | (with_reducible first | exact HB.out | apply below_alloc | apply pw_below_drewN | apply below_drew1) | exact HB.out)) hb); clear HB; have HB := n0_; clear n0_; (try clear hb); (try clear hb2); (try clear hk); (try clear hi)) | ((with_reducible refine gate_callee (f := 26) rfl ?_); refine goesL_ (some 73) rfl rfl Try.func26 (by kernel_rfl) rfl #[.int .i64 8, .int .i64 t133, .int .i64 t130] rfl (by (try simp only [List.map_toArray, List.map_cons, List.map_nil]); first | done | rfl | (simp only [List.length_drop, List.length_take]; rfl)) ?_; (with_reducible refine (impl_NumDo.calls 8 t133 t130 t140 _ A23.out).mono ?_); rintro e w39 ⟨rfl, hb⟩; refine ⟨_, rfl, ?_⟩; have n0_ := Aside0.mk (below_step (by repeat (first | (with_reducible first | exact HB.out | apply below_alloc | apply pw_below_drewN | apply below_drew1) | exact HB.out)) hb); clear HB; have HB := n0_; clear n0_; (try clear hb); (try clear hb2); (try clear hk); (try clear hi)) | ((with_reducible refine gate_callee (f := 26) rfl ?_); refine goesL_ (some 76) rfl rfl Try.func26 (by kernel_rfl) rfl #[.int .i64 8, .int .i64 t133, .int .i64 t131] rfl (by (try simp only [List.map_toArray, List.map_cons, List.map_nil]); first | done | rfl | (simp only [List.length_drop, List.length_take]; rfl)) ?_; (with_reducible refine (impl_NumDo.calls 8 t133 t131 t141 _ A24.out).mono ?_); rintro e w40 ⟨rfl, hb⟩; refine ⟨_, rfl, ?_⟩; have n0_ := Aside0.mk (below_step (by repeat (first | (with_reducible first | exact HB.out | apply below_alloc | apply pw_below_drewN | apply below_drew1) | exact HB.out)) hb); clear HB; have HB := n0_; clear n0_; (try clear hb); (try clear hb2); (try clear hk); (try clear hi)) | ((with_reducible refine gate_callee (f := 26) rfl ?_); refine goesL_ (some 77) rfl rfl Try.func26 (by kernel_rfl) rfl #[.int .i64 7, .int .i64 t140, .int .i64 t141] rfl (by (try simp only [List.map_toArray, List.map_cons, List.map_nil]); first | done | rfl | (simp only [List.length_drop, List.length_take]; rfl)) ?_; (with_reducible refine (impl_NumDo.calls 7 t140 t141 t142 _ A25.out).mono ?_); rintro e w41 ⟨rfl, hb⟩; refine ⟨_, rfl, ?_⟩; have n0_ := Aside0.mk (below_step (by repeat (first | (with_reducible first | exact HB.out | apply below_alloc | apply pw_below_drewN | apply below_drew1) | exact HB.out)) hb); clear HB; have HB := n0_; clear n0_; (try clear hb); (try clear hb2); (try clear hk); (try clear hi)) | ((with_reducible refine gate_callee (f := 26) rfl ?_); refine goesL_ (some 80) rfl rfl Try.func26 (by kernel_rfl) rfl #[.int .i64 7, .int .i64 t130, .int .i64 t131] rfl (by (try simp only [List.map_toArray, List.map_cons, List.map_nil]); first | done | rfl | (simp only [List.length_drop, List.length_take]; rfl)) ?_; (with_reducible refine (impl_NumDo.calls 7 t130 t131 t143 _ A26.out).mono ?_); rintro e w42 ⟨rfl, hb⟩; refine ⟨_, rfl, ?_⟩; have n0_ := Aside0.mk (below_step (by repeat (first | (with_reducible first | exact HB.out | apply below_alloc | apply pw_below_drewN | apply below_drew1) | exact HB.out)) hb); clear HB; have HB := n0_; clear n0_; (try clear hb); (try clear hb2); (try clear hk); (try clear hi)) | ((with_reducible refine gate_callee (f := 26) rfl ?_); refine goesL_ (some 82) rfl rfl Try.func26 (by kernel_rfl) rfl #[.int .i64 7, .int .i64 t143, .int .i64 t134] rfl (by (try simp only [List.map_toArray, List.map_cons, List.map_nil]); first | done | rfl | (simp only [List.length_drop, List.length_take]; rfl)) ?_; (with_reducible refine (impl_NumDo.calls 7 t143 t134 t144 _ A27.out).mono ?_); rintro e w43 ⟨rfl, hb⟩; refine ⟨_, rfl, ?_⟩; have n0_ := Aside0.mk (below_step (by repeat (first | (with_reducible first | exact HB.out | apply below_alloc | apply pw_below_drewN | apply below_drew1) | exact HB.out)) hb); clear HB; have HB := n0_; clear n0_; (try clear hb); (try clear hb2); (try clear hk); (try clear hi)) | ((with_reducible refine gate_callee (f := 26) rfl ?_); refine goesL_ (some 86) rfl rfl Try.func26 (by kernel_rfl) rfl #[.int .i64 7, .int .i64 t131, .int .i64 t134] rfl (by (try simp only [List.map_toArray, List.map_cons, List.map_nil]); first | done | rfl | (simp only [List.length_drop, List.length_take]; rfl)) ?_; (with_reducible refine (impl_NumDo.calls 7 t131 t134 t145 _ A28.out).mono ?_); rintro e w44 ⟨rfl, hb⟩; refine ⟨_, rfl, ?_⟩; have n0_ := Aside0.mk (below_step (by repeat (first | (with_reducible first | exact HB.out | apply below_alloc | apply pw_below_drewN | apply below_drew1) | exact HB.out)) hb); clear HB; have HB := n0_; clear n0_; (try clear hb); (try clear hb2); (try clear hk); (try clear hi)) | ((with_reducible refine gate_callee (f := 26) rfl ?_); refine goesL_ (some 87) rfl rfl Try.func26 (by kernel_rfl) rfl #[.int .i64 7, .int .i64 t130, .int .i64 t145] rfl (by (try simp only [List.map_toArray, List.map_cons, List.map_nil]); first | done | rfl | (simp only [List.length_drop, List.length_take]; rfl)) ?_; (with_reducible refine (impl_NumDo.calls 7 t130 t145 t146 _ A29.out).mono ?_); rintro e w45 ⟨rfl, hb⟩; refine ⟨_, rfl, ?_⟩; have n0_ := Aside0.mk (below_step (by repeat (first | (with_reducible first | exact HB.out | apply below_alloc | apply pw_below_drewN | apply below_drew1) | exact HB.out)) hb); clear HB; have HB := n0_; clear n0_; (try clear hb); (try clear hb2); (try clear hk); (try clear hi)) | (go_at_call 26; (with_reducible refine (impl_NumDo.calls 8 t139 1 t147 _ A32.out).mono ?_); rintro e w46 ⟨rfl, hb⟩; have n0_ := Aside0.mk (below_step (by repeat (first | (with_reducible first | exact HB.out | apply below_alloc | apply pw_below_drewN | apply below_drew1) | exact HB.out)) hb); clear HB; have HB := n0_; clear n0_; (try clear hb); (try clear hb2); (try clear hk); (try clear hi)) | (go_at_call 26; (with_reducible refine (impl_NumDo.calls 7 t139 0 t148 _ A34.out).mono ?_); rintro e w47 ⟨rfl, hb⟩; have n0_ := Aside0.mk (below_step (by repeat (first | (with_reducible first | exact HB.out | apply below_alloc | apply pw_below_drewN | apply below_drew1) | exact HB.out)) hb); clear HB; have HB := n0_; clear n0_; (try clear hb); (try clear hb2); (try clear hk); (try clear hi)) | (go_at_call 26; (with_reducible refine (impl_NumDo.calls 8 t139 0 t149 _ A36.out).mono ?_); rintro e w48 ⟨rfl, hb⟩; have n0_ := Aside0.mk (below_step (by repeat (first | (with_reducible first | exact HB.out | apply below_alloc | apply pw_below_drewN | apply below_drew1) | exact HB.out)) hb); clear HB; have HB := n0_; clear n0_; (try clear hb); (try clear hb2); (try clear hk); (try clear hi)))
                      go_ret
                      exact ⟨by first | rfl | (simp [errW_none, errW_some] <;> rfl) | (simp [*, errW_none, errW_some] <;> rfl), by repeat (first | (with_reducible first | exact HB.out | apply below_alloc | apply pw_below_drewN | apply below_drew1) | exact HB.out)⟩
                    · rw [if_neg c35] at H
                      have c35b0 : (t148 == t139) = false := beq_eq_false_iff_ne.mpr c35
                      have c35b1 : (t148 != t139) = true := bne_iff_ne.mpr c35
                      exact absurd ((Option.some.inj H).trans HR_.out) (by decide)
                  · rw [if_neg c33] at H
                    have c33b0 : (t147 == t139) = false := beq_eq_false_iff_ne.mpr c33
                    have c33b1 : (t147 != t139) = true := bne_iff_ne.mpr c33
                    exact absurd ((Option.some.inj H).trans HR_.out) (by decide)
                · rw [if_neg c31] at H
                  have c31b0 : (t144 == t146) = false := beq_eq_false_iff_ne.mpr c31
                  have c31b1 : (t144 != t146) = true := bne_iff_ne.mpr c31
                  exact absurd ((Option.some.inj H).trans HR_.out) (by decide)
              · rw [if_neg c30] at H
                have c30b0 : (t139 == t142) = false := beq_eq_false_iff_ne.mpr c30
                have c30b1 : (t139 != t142) = true := bne_iff_ne.mpr c30
                exact absurd ((Option.some.inj H).trans HR_.out) (by decide)

/-- THE ONE PURE STATEMENT of laws_FnNumDo: yours. -/
def laws_FnNumDo.Pure : Prop := ∀ (l0 : List Int) (l1 : List Int), l0.length ≤ maxLen → l0.length * 1 ≤ 140737488351232 → (∀ x ∈ l0, (Lit.int .u8 x).wf = true) → l1.length ≤ maxLen → l1.length * 1 ≤ 140737488351232 → (∀ x ∈ l1, (Lit.int .u8 x).wf = true) → ∃ k, laws_FnNumDo.f k l0 l1 = some true
theorem laws_FnNumDo.walk (P : laws_FnNumDo.Pure) (a0 : Option Addr) (len0 cap0 : Nat) (z0 : List Int) (a1 : Option Addr) (len1 cap1 : Nat) (z1 : List Int) (w : World) (w0 : (a0 = none ∧ len0 = 0 ∧ cap0 = 0 ∧ z0 = []) ∨ ∃ x, a0 = some x ∧ len0 ≤ cap0 ∧ cap0 ≤ maxLen ∧ z0.length = cap0 ∧ (∀ i, i < z0.length → w.cell? (x.add i) = some (.int .u8 (z0.getD i 0))) ∧ ∀ n ∈ z0, (Lit.int .u8 n).wf = true) (y0 : len0 * 1 ≤ 140737488351232) (w1 : (a1 = none ∧ len1 = 0 ∧ cap1 = 0 ∧ z1 = []) ∨ ∃ x, a1 = some x ∧ len1 ≤ cap1 ∧ cap1 ≤ maxLen ∧ z1.length = cap1 ∧ (∀ i, i < z1.length → w.cell? (x.add i) = some (.int .u8 (z1.getD i 0))) ∧ ∀ n ∈ z1, (Lit.int .u8 n).wf = true) (y1 : len1 * 1 ≤ 140737488351232) :
    Calls Try.prog 9 #[.slice a0 len0 cap0, .slice a1 len1 cap1] w fun e w' => e = .returned (.bool true) ∧ Below w.heap.size w w' := by
  obtain ⟨l0, rfl, hr0, hm0, hw0, hc0⟩ := ReadsInt.ofRowC w0
  obtain ⟨l1, rfl, hr1, hm1, hw1, hc1⟩ := ReadsInt.ofRowC w1
  obtain ⟨k, h⟩ := P l0 l1 hm0 y0 hw0 hm1 y1 hw1
  refine (laws_FnNumDo.calls k _ _ l0 _ _ l1 true w (Kd.C_of_reads (d := (0 : Int)) (h1 := fun _ => rfl) hr0) hc0 (Kd.C_of_reads (d := (0 : Int)) (h1 := fun _ => rfl) hr1) hc1 rfl h).mono ?_
  rintro e w' ⟨rfl, hd⟩
  exact ⟨rfl, hd⟩

end Go.Proofs.Ytdnpbpgnehaebaa.PFnNumDo
