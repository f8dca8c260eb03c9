/- Functions of the program as plain Lean functions, and that the machine's calls come to what these tell: by the kit's print, turned by this session (NOTES.md). No condition beyond each theorem's own. -/
import Derived.Test.YtgbmfkfmimpaaaaVFnExactProgSamea
import Derived.Test.YtgbmfkfmimpaaaaPFnExactProgSamex0
import Derived.Test.YtgbmfkfmimpaaaaPFnExactProgSamex1
import Derived.Test.YtgbmfkfmimpaaaaPFnExactProgSamex2
namespace Go.Proofs.Ytgbmfkfmimpaaaa.PFnExactProgSame
open Go.RowKit Go.Proofs.YtgbmfkfmimpaaaaW.PrintWords Go.Proofs.YtgbmfkfmimpaaaaW.PrintLast Go.Proofs.YtgbmfkfmimpaaaaW.PrintMore Go.Proofs.Ytgbmfkfmimpaaaa.Aid3
set_option linter.unusedVariables false
set_option linter.unusedSimpArgs false
attribute [local go_sem high] eqA26 eqA36
def impl_Field.l0 : Nat → List (S36) → List (S36) → Int → Int → Option (Bool)
  | 0, _, _, _, _ => none
  | k + 1, x0, x1, x12, x13 => if x13 < x12 then (if 0 ≤ x13 then (if x13 < (x0.length : Int) then (if x13 < (x1.length : Int) then (if (!(((rd_T36 x0 x13).f0) == ((rd_T36 x1 x13).f0)) || (!(((rd_T36 x0 x13).f1) == ((rd_T36 x1 x13).f1)) || (!(((rd_T36 x0 x13).f2) == ((rd_T36 x1 x13).f2))))) = true then (some false) else (impl_Field.l0 k x0 x1 x12 (wrap64 (x13 + 1)))) else (none)) else (none)) else (none)) else (some true)
def impl_Field.f (k : Nat) (l0 : List (S36)) (l1 : List (S36)) : Option (Bool) := if (l0.length : Int) = (l1.length : Int) then (impl_Field.l0 k l0 l1 (l0.length : Int) 0) else (some false)
set_option maxHeartbeats 8000000 in
set_option maxRecDepth 100000 in
theorem impl_Field.calls (k : Nat) (A0 : Option Addr) (c0 : Nat) (l0 : List (S36)) (A1 : Option Addr) (c1 : Nat) (l1 : List (S36)) (r : Bool) (w : World) (hr0 : Kd.C k36 w A0 l0.length l0) (hc0 : l0.length ≤ c0) (hr1 : Kd.C k36 w A1 l1.length l1) (hc1 : l1.length ≤ c1) (h : impl_Field.f k l0 l1 = some r) :
    Calls Try.prog 98 #[.slice A0 l0.length c0, .slice A1 l1.length c1] w fun e w' => e = .returned (.bool r) ∧ Drawn0 w w' := by
  have hu36 := Try.underlying36
  have HR0 := am hr0
  have HC0 := am hc0
  clear hr0 hc0
  have HR1 := am hr1
  have HC1 := am hc1
  clear hr1 hc1
  have H : (if (l0.length : Int) = (l1.length : Int) then (impl_Field.l0 k l0 l1 (l0.length : Int) 0) else (some false)) = some r := h
  clear h
  by_cases c3 : (l0.length : Int) = (l1.length : Int)
  · rw [if_pos c3] at H
    have c3b0 : ((l0.length : Int) == (l1.length : Int)) = true := beq_iff_eq.mpr c3
    have c3b1 : ((l0.length : Int) != (l1.length : Int)) = false := bne_eq_false_iff_eq.mpr c3
    have c3b2 : (l0.length == l1.length) = true := by first | simpa using c3 | (simp at c3 ⊢; omega)
    clear c3
    have H' := am H
    clear H
    go_enter Try.func98, Try.ntmps98
    go_wp2
    repeat (go_quiet (fail); try go_wp2)
    go_loopg [13] k (fun kq v13 w' => ∃ (x13_1 : Int), v13 = .int .i64 x13_1 ∧ Aside0 (impl_Field.l0 kq l0 l1 (l0.length : Int) x13_1 = some r) ∧ Aside0 (kq ≤ k) ∧ Drawn0 w w')
    case atStart => exact ⟨(0), (by first | rfl | (simp; done) | (simp [*]; done)), H', ⟨Nat.le_refl _⟩, by repeat (first | exact Drawn0.refl _ | apply Drawn0.step)⟩
    case round =>
      clear H'
      try clear c1
      try clear p2
      try clear c3
      try clear c3b0
      try clear c3b1
      try clear c3b2
      obtain ⟨x13_1, rfl, HA, HK1, ⟨m1, rfl⟩⟩ := hrel
      cases gk with
      | zero => exact absurd HA.out (by simp [impl_Field.l0])
      | succ k1 =>
        have H := HA.out
        clear HA
        simp only [impl_Field.l0] at H
        by_cases c4 : x13_1 < (l0.length : Int)
        · rw [if_pos c4] at H
          have c4b0 : decide (x13_1 < (l0.length : Int)) = true := decide_eq_true c4
          clear c4
          by_cases c5 : 0 ≤ x13_1
          · rw [if_pos c5] at H
            have c5b0 : decide (0 ≤ x13_1) = true := decide_eq_true c5
            clear c5
            by_cases c6 : x13_1 < (l0.length : Int)
            · rw [if_pos c6] at H
              have c6b0 : decide (x13_1 < (l0.length : Int)) = true := decide_eq_true c6
              clear c6
              by_cases c7 : x13_1 < (l1.length : Int)
              · rw [if_pos c7] at H
                have c7b0 : decide (x13_1 < (l1.length : Int)) = true := decide_eq_true c7
                clear c7
                by_cases c8 : (!(((rd_T36 l0 x13_1).f0) == ((rd_T36 l1 x13_1).f0)) || (!(((rd_T36 l0 x13_1).f1) == ((rd_T36 l1 x13_1).f1)) || (!(((rd_T36 l0 x13_1).f2) == ((rd_T36 l1 x13_1).f2))))) = true
                · rw [if_pos c8] at H
                  have c8b0 : (!(((rd_T36 l0 x13_1).f0) == ((rd_T36 l1 x13_1).f0)) || (!(((rd_T36 l0 x13_1).f1) == ((rd_T36 l1 x13_1).f1)) || (!(((rd_T36 l0 x13_1).f2) == ((rd_T36 l1 x13_1).f2))))) = true := c8
                  clear c8
                  obtain rfl := Option.some.inj H
                  have p234 : 0 ≤ (x13_1 : Int) := od (by assumption)
                  have q234 : x13_1 < (l0.length : Int) := od (by assumption)
                  obtain ⟨ad234, e234, hx234_0, hx234_1, hx234_2⟩ := at_T36 HR0.out x13_1 p234 q234
                  cases e234
                  replace p234 := eq_true p234
                  replace q234 := eq_true q234
                  have p235 : 0 ≤ (x13_1 : Int) := od (by assumption)
                  have q235 : x13_1 < (l1.length : Int) := od (by assumption)
                  obtain ⟨ad235, e235, hx235_0, hx235_1, hx235_2⟩ := at_T36 HR1.out x13_1 p235 q235
                  cases e235
                  replace p235 := eq_true p235
                  replace q235 := eq_true q235
                  go_wp2
                  repeat (go_quiet (fail); try go_wp2)
                  go_ret
                  exact ⟨by first | rfl | (simp; done) | (simp [*]; done), by repeat (first | exact Drawn0.refl _ | apply Drawn0.step)⟩
                · rw [if_neg c8] at H
                  have c8b0 : (!(((rd_T36 l0 x13_1).f0) == ((rd_T36 l1 x13_1).f0)) || (!(((rd_T36 l0 x13_1).f1) == ((rd_T36 l1 x13_1).f1)) || (!(((rd_T36 l0 x13_1).f2) == ((rd_T36 l1 x13_1).f2))))) = false := by simpa using c8
                  clear c8
                  have H' := am H
                  clear H
                  have p234 : 0 ≤ (x13_1 : Int) := od (by assumption)
                  have q234 : x13_1 < (l0.length : Int) := od (by assumption)
                  obtain ⟨ad234, e234, hx234_0, hx234_1, hx234_2⟩ := at_T36 HR0.out x13_1 p234 q234
                  cases e234
                  replace p234 := eq_true p234
                  replace q234 := eq_true q234
                  have p235 : 0 ≤ (x13_1 : Int) := od (by assumption)
                  have q235 : x13_1 < (l1.length : Int) := od (by assumption)
                  obtain ⟨ad235, e235, hx235_0, hx235_1, hx235_2⟩ := at_T36 HR1.out x13_1 p235 q235
                  cases e235
                  replace p235 := eq_true p235
                  replace q235 := eq_true q235
                  go_wp2
                  repeat (go_quiet (fail); try go_wp2)
                  go_roundg k1
                  case measure => have := HK1.out; omega
                  case rel => exact ⟨(wrap64 (x13_1 + 1)), (by first | rfl | (simp; done) | (simp [*]; done)), H', ⟨by have := HK1.out; omega⟩, by repeat (first | exact Drawn0.refl _ | apply Drawn0.step)⟩
              · rw [if_neg c7] at H
                exact absurd H (by simp)
            · rw [if_neg c6] at H
              exact absurd H (by simp)
          · rw [if_neg c5] at H
            exact absurd H (by simp)
        · rw [if_neg c4] at H
          have c4b0 : decide (x13_1 < (l0.length : Int)) = false := decide_eq_false c4
          clear c4
          obtain rfl := Option.some.inj H
          go_wp2
          repeat (go_quiet (fail); try go_wp2)
          go_ret
          exact ⟨by first | rfl | (simp; done) | (simp [*]; done), by repeat (first | exact Drawn0.refl _ | apply Drawn0.step)⟩
  · rw [if_neg c3] at H
    have c3b0 : ((l0.length : Int) == (l1.length : Int)) = false := beq_eq_false_iff_ne.mpr c3
    have c3b1 : ((l0.length : Int) != (l1.length : Int)) = true := bne_iff_ne.mpr c3
    have c3b2 : (l0.length == l1.length) = false := by first | simpa using c3 | (simp at c3 ⊢; omega)
    obtain rfl := Option.some.inj H
    go_enter Try.func98, Try.ntmps98
    go_wp2
    repeat (go_quiet (fail); try go_wp2)
    go_ret
    exact ⟨by first | rfl | (simp; done) | (simp [*]; done), by repeat (first | exact Drawn0.refl _ | apply Drawn0.step)⟩
def impl_sameType.f (k : Nat) (a0_0 : Int) (a0_1 : Int) (a0_2 : Bool) (l0_3 : List (S36)) (a1_0 : Int) (a1_1 : Int) (a1_2 : Bool) (l1_3 : List (S36)) : Option (Bool) := if a0_0 = a1_0 then (if a0_1 = a1_1 then (if (a0_2 == a1_2) = true then ((impl_Field.f k l0_3 l1_3).bind fun t238 => (some t238)) else (some false)) else (some false)) else (some false)
set_option maxHeartbeats 8000000 in
set_option maxRecDepth 100000 in
theorem impl_sameType.calls (k : Nat) (a0_0 : Int) (a0_1 : Int) (a0_2 : Bool) (A0_3 : Option Addr) (c0_3 : Nat) (l0_3 : List (S36)) (a1_0 : Int) (a1_1 : Int) (a1_2 : Bool) (A1_3 : Option Addr) (c1_3 : Nat) (l1_3 : List (S36)) (r : Bool) (w : World) (hr0_3 : Kd.C k36 w A0_3 l0_3.length l0_3) (hc0_3 : l0_3.length ≤ c0_3) (hr1_3 : Kd.C k36 w A1_3 l1_3.length l1_3) (hc1_3 : l1_3.length ≤ c1_3) (h : impl_sameType.f k a0_0 a0_1 a0_2 l0_3 a1_0 a1_1 a1_2 l1_3 = some r) :
    Calls Try.prog 96 #[.agg #[.int .i64 a0_0, .int .i64 a0_1, .bool a0_2, .slice A0_3 l0_3.length c0_3], .agg #[.int .i64 a1_0, .int .i64 a1_1, .bool a1_2, .slice A1_3 l1_3.length c1_3]] w fun e w' => e = .returned (.bool r) ∧ Below w.heap.size w w' := by
  have hu131 := Try.underlying131
  have HR0_3 := am hr0_3
  have HC0_3 := am hc0_3
  clear hr0_3 hc0_3
  have HR1_3 := am hr1_3
  have HC1_3 := am hc1_3
  clear hr1_3 hc1_3
  have HB := am (Below.refl w.heap.size w)
  have H : (if a0_0 = a1_0 then (if a0_1 = a1_1 then (if (a0_2 == a1_2) = true then ((impl_Field.f k l0_3 l1_3).bind fun t238 => (some t238)) else (some false)) else (some false)) else (some false)) = some r := h
  clear h
  by_cases c3 : a0_0 = a1_0
  · rw [if_pos c3] at H
    have c3b0 : (a0_0 == a1_0) = true := beq_iff_eq.mpr c3
    have c3b1 : (a0_0 != a1_0) = false := bne_eq_false_iff_eq.mpr c3
    clear c3
    by_cases c4 : a0_1 = a1_1
    · rw [if_pos c4] at H
      have c4b0 : (a0_1 == a1_1) = true := beq_iff_eq.mpr c4
      have c4b1 : (a0_1 != a1_1) = false := bne_eq_false_iff_eq.mpr c4
      clear c4
      by_cases c5 : (a0_2 == a1_2) = true
      · rw [if_pos c5] at H
        have c5b0 : (a0_2 == a1_2) = true := c5
        (try (have c5b1 : decide (a0_2 = a1_2) = true := by simpa using c5))
        (try (have c5b2 : (a0_2 == a1_2) = true := by simpa using c5))
        clear c5
        replace H := Option.bind_eq_some_iff.mp H
        obtain ⟨t238, A60, H⟩ := H
        replace H : (some t238) = some r := H
        have A6 := am A60
        clear A60
        obtain rfl := Option.some.inj H
        go_enter Try.func96, Try.ntmps96
        go_wp2_with (first | ((with_reducible refine gate_dst (N := 2) rfl ?_); refine box_event ?hg (N := 2) ?hd (cs := #[.int .i64 a0_0, .int .i64 a0_1, .bool a0_2, .slice A0_3 l0_3.length c0_3]) (t := 131) ?hr ?_; (case hd => rfl); (case hg => rfl); (case hr => first | (go_simp; done) | (go_simp; rfl)); intro gb236 hg w7 hbox hb; have n0_ := am (below_step (by repeat (first | (with_reducible first | exact HB.out | apply pa | apply pb | apply pc) | exact HB.out)) hb); have n1_ := am (hbox); have n2_ := am ((by rw [hg]; exact (below_size (by repeat (first | (with_reducible first | exact HB.out | apply pa | apply pb | apply pc) | exact HB.out))) : w.heap.size ≤ gb236)); have n3_ := am ((by rw [hg]; exact (below_size (by repeat (first | (with_reducible first | exact HB.out | apply pa | apply pb | apply pc) | exact HB.out))) : w.heap.size ≤ gb236)); clear HB; have HB := n0_; have BK236 := n1_; have GW236 := n2_; have GE236 := n3_; clear n0_ n1_ n2_ n3_; clear hb hbox hg) | ((with_reducible refine gate_dst (N := 3) rfl ?_); refine box_event ?hg (N := 3) ?hd (cs := #[.int .i64 a1_0, .int .i64 a1_1, .bool a1_2, .slice A1_3 l1_3.length c1_3]) (t := 131) ?hr ?_; (case hd => rfl); (case hg => rfl); (case hr => first | (go_simp; done) | (go_simp; rfl)); intro gb237 hg w8 hbox hb; have n0_ := am (blk_below (g := gb236) (o := .cells #[.int .i64 a0_0, .int .i64 a0_1, .bool a0_2, .slice A0_3 l0_3.length c0_3] 131 (0, 0)) (by (with_reducible repeat (first | apply qa | apply qb | apply qc)); exact BK236.out) hb); have n1_ := am (below_step (by repeat (first | (with_reducible first | exact HB.out | apply pa | apply pb | apply pc | refine below_set ?_ GE236.out) | exact HB.out)) hb); have n2_ := am (hbox); have n3_ := am ((by rw [hg]; exact (below_size (by repeat (first | (with_reducible first | exact HB.out | apply pa | apply pb | apply pc | refine below_set ?_ GE236.out) | exact HB.out))) : w.heap.size ≤ gb237)); have n4_ := am ((by rw [hg]; exact (below_size (by repeat (first | (with_reducible first | exact HB.out | apply pa | apply pb | apply pc | refine below_set ?_ GE236.out) | exact HB.out))) : w.heap.size ≤ gb237)); have n5_ := am ((by rw [hg]; exact Nat.ne_of_lt (blk_lt (g := gb236) (o := .cells #[.int .i64 a0_0, .int .i64 a0_1, .bool a0_2, .slice A0_3 l0_3.length c0_3] 131 (0, 0)) (by (with_reducible repeat (first | apply qa | apply qb | apply qc)); exact BK236.out)) : gb236 ≠ gb237)); have n6_ := am ((by rw [hg]; exact Nat.ne_of_gt (blk_lt (g := gb236) (o := .cells #[.int .i64 a0_0, .int .i64 a0_1, .bool a0_2, .slice A0_3 l0_3.length c0_3] 131 (0, 0)) (by (with_reducible repeat (first | apply qa | apply qb | apply qc)); exact BK236.out)) : gb237 ≠ gb236)); clear BK236; clear HB; have BK236 := n0_; have HB := n1_; have BK237 := n2_; have GW237 := n3_; have GE237 := n4_; have NB236_237 := n5_; have NB237_236 := n6_; clear n0_ n1_ n2_ n3_ n4_ n5_ n6_; clear hb hbox hg; have hnb9 := NB236_237.out; have hnc9 := NB237_236.out; have hcz10_0 := bc BK236.out 0 (.int .i64 a0_0) rfl; have hcz10_1 := bc BK236.out 1 (.int .i64 a0_1) rfl; have hcz10_2 := bc BK236.out 2 (.bool a0_2) rfl; have hcz10_3 := bc BK236.out 3 (.slice A0_3 l0_3.length c0_3) rfl; have hfz10_0 := bf BK236.out 0; have hfz10_1 := bf BK236.out 1; have hfz10_2 := bf BK236.out 2; have hfz10_3 := bf BK236.out 3; have hcz11_0 := bc BK237.out 0 (.int .i64 a1_0) rfl; have hcz11_1 := bc BK237.out 1 (.int .i64 a1_1) rfl; have hcz11_2 := bc BK237.out 2 (.bool a1_2) rfl; have hcz11_3 := bc BK237.out 3 (.slice A1_3 l1_3.length c1_3) rfl; have hfz11_0 := bf BK237.out 0; have hfz11_1 := bf BK237.out 1; have hfz11_2 := bf BK237.out 2; have hfz11_3 := bf BK237.out 3) | (go_at_call 98; (with_reducible refine (impl_Field.calls k _ _ l0_3 _ _ l1_3 t238 _ ?side1 ?side2 ?side3 ?side4 A6.out).mono ?_); (case side1 => repeat (first | exact (Kd.C_below HR0_3.out HB.out) | (with_reducible refine Kd.C_alloc ?_ _) | (with_reducible refine Kd.C_drewN ?_ _) | (with_reducible refine Kd.C_drew ?_))); (case side2 => exact HC0_3.out); (case side3 => repeat (first | exact (Kd.C_below HR1_3.out HB.out) | (with_reducible refine Kd.C_alloc ?_ _) | (with_reducible refine Kd.C_drewN ?_ _) | (with_reducible refine Kd.C_drew ?_))); (case side4 => exact HC1_3.out); rintro e w' ⟨rfl, ⟨nd, rfl⟩⟩))
        go_ret
        exact ⟨by first | rfl | (simp [errW_none, errW_some] <;> rfl) | (simp [*, errW_none, errW_some] <;> rfl), by repeat (first | (with_reducible first | exact HB.out | apply pa | apply pb | apply pc | refine below_set ?_ GE236.out | refine below_set ?_ GE237.out) | exact HB.out)⟩
      · rw [if_neg c5] at H
        have c5b0 : (a0_2 == a1_2) = false := by simpa using c5
        (try (have c5b1 : decide (a0_2 = a1_2) = false := by simpa using c5))
        (try (have c5b2 : (a0_2 == a1_2) = false := by simpa using c5))
        (try (have c5b3 : ¬ (a0_2 = a1_2) := by simpa using c5))
        clear c5
        obtain rfl := Option.some.inj H
        go_enter Try.func96, Try.ntmps96
        go_wp2_with (first | ((with_reducible refine gate_dst (N := 2) rfl ?_); refine box_event ?hg (N := 2) ?hd (cs := #[.int .i64 a0_0, .int .i64 a0_1, .bool a0_2, .slice A0_3 l0_3.length c0_3]) (t := 131) ?hr ?_; (case hd => rfl); (case hg => rfl); (case hr => first | (go_simp; done) | (go_simp; rfl)); intro gb236 hg w12 hbox hb; have n0_ := am (below_step (by repeat (first | (with_reducible first | exact HB.out | apply pa | apply pb | apply pc) | exact HB.out)) hb); have n1_ := am (hbox); have n2_ := am ((by rw [hg]; exact (below_size (by repeat (first | (with_reducible first | exact HB.out | apply pa | apply pb | apply pc) | exact HB.out))) : w.heap.size ≤ gb236)); have n3_ := am ((by rw [hg]; exact (below_size (by repeat (first | (with_reducible first | exact HB.out | apply pa | apply pb | apply pc) | exact HB.out))) : w.heap.size ≤ gb236)); clear HB; have HB := n0_; have BK236 := n1_; have GW236 := n2_; have GE236 := n3_; clear n0_ n1_ n2_ n3_; clear hb hbox hg) | ((with_reducible refine gate_dst (N := 3) rfl ?_); refine box_event ?hg (N := 3) ?hd (cs := #[.int .i64 a1_0, .int .i64 a1_1, .bool a1_2, .slice A1_3 l1_3.length c1_3]) (t := 131) ?hr ?_; (case hd => rfl); (case hg => rfl); (case hr => first | (go_simp; done) | (go_simp; rfl)); intro gb237 hg w13 hbox hb; have n0_ := am (blk_below (g := gb236) (o := .cells #[.int .i64 a0_0, .int .i64 a0_1, .bool a0_2, .slice A0_3 l0_3.length c0_3] 131 (0, 0)) (by (with_reducible repeat (first | apply qa | apply qb | apply qc)); exact BK236.out) hb); have n1_ := am (below_step (by repeat (first | (with_reducible first | exact HB.out | apply pa | apply pb | apply pc | refine below_set ?_ GE236.out) | exact HB.out)) hb); have n2_ := am (hbox); have n3_ := am ((by rw [hg]; exact (below_size (by repeat (first | (with_reducible first | exact HB.out | apply pa | apply pb | apply pc | refine below_set ?_ GE236.out) | exact HB.out))) : w.heap.size ≤ gb237)); have n4_ := am ((by rw [hg]; exact (below_size (by repeat (first | (with_reducible first | exact HB.out | apply pa | apply pb | apply pc | refine below_set ?_ GE236.out) | exact HB.out))) : w.heap.size ≤ gb237)); have n5_ := am ((by rw [hg]; exact Nat.ne_of_lt (blk_lt (g := gb236) (o := .cells #[.int .i64 a0_0, .int .i64 a0_1, .bool a0_2, .slice A0_3 l0_3.length c0_3] 131 (0, 0)) (by (with_reducible repeat (first | apply qa | apply qb | apply qc)); exact BK236.out)) : gb236 ≠ gb237)); have n6_ := am ((by rw [hg]; exact Nat.ne_of_gt (blk_lt (g := gb236) (o := .cells #[.int .i64 a0_0, .int .i64 a0_1, .bool a0_2, .slice A0_3 l0_3.length c0_3] 131 (0, 0)) (by (with_reducible repeat (first | apply qa | apply qb | apply qc)); exact BK236.out)) : gb237 ≠ gb236)); clear BK236; clear HB; have BK236 := n0_; have HB := n1_; have BK237 := n2_; have GW237 := n3_; have GE237 := n4_; have NB236_237 := n5_; have NB237_236 := n6_; clear n0_ n1_ n2_ n3_ n4_ n5_ n6_; clear hb hbox hg; have hnb14 := NB236_237.out; have hnc14 := NB237_236.out; have hcz15_0 := bc BK236.out 0 (.int .i64 a0_0) rfl; have hcz15_1 := bc BK236.out 1 (.int .i64 a0_1) rfl; have hcz15_2 := bc BK236.out 2 (.bool a0_2) rfl; have hcz15_3 := bc BK236.out 3 (.slice A0_3 l0_3.length c0_3) rfl; have hfz15_0 := bf BK236.out 0; have hfz15_1 := bf BK236.out 1; have hfz15_2 := bf BK236.out 2; have hfz15_3 := bf BK236.out 3; have hcz16_0 := bc BK237.out 0 (.int .i64 a1_0) rfl; have hcz16_1 := bc BK237.out 1 (.int .i64 a1_1) rfl; have hcz16_2 := bc BK237.out 2 (.bool a1_2) rfl; have hcz16_3 := bc BK237.out 3 (.slice A1_3 l1_3.length c1_3) rfl; have hfz16_0 := bf BK237.out 0; have hfz16_1 := bf BK237.out 1; have hfz16_2 := bf BK237.out 2; have hfz16_3 := bf BK237.out 3))
        go_ret
        exact ⟨by first | rfl | (simp [errW_none, errW_some] <;> rfl) | (simp [*, errW_none, errW_some] <;> rfl), by repeat (first | (with_reducible first | exact HB.out | apply pa | apply pb | apply pc | refine below_set ?_ GE236.out | refine below_set ?_ GE237.out) | exact HB.out)⟩
    · rw [if_neg c4] at H
      have c4b0 : (a0_1 == a1_1) = false := beq_eq_false_iff_ne.mpr c4
      have c4b1 : (a0_1 != a1_1) = true := bne_iff_ne.mpr c4
      obtain rfl := Option.some.inj H
      go_enter Try.func96, Try.ntmps96
      go_wp2_with (first | ((with_reducible refine gate_dst (N := 2) rfl ?_); refine box_event ?hg (N := 2) ?hd (cs := #[.int .i64 a0_0, .int .i64 a0_1, .bool a0_2, .slice A0_3 l0_3.length c0_3]) (t := 131) ?hr ?_; (case hd => rfl); (case hg => rfl); (case hr => first | (go_simp; done) | (go_simp; rfl)); intro gb236 hg w17 hbox hb; have n0_ := am (below_step (by repeat (first | (with_reducible first | exact HB.out | apply pa | apply pb | apply pc) | exact HB.out)) hb); have n1_ := am (hbox); have n2_ := am ((by rw [hg]; exact (below_size (by repeat (first | (with_reducible first | exact HB.out | apply pa | apply pb | apply pc) | exact HB.out))) : w.heap.size ≤ gb236)); have n3_ := am ((by rw [hg]; exact (below_size (by repeat (first | (with_reducible first | exact HB.out | apply pa | apply pb | apply pc) | exact HB.out))) : w.heap.size ≤ gb236)); clear HB; have HB := n0_; have BK236 := n1_; have GW236 := n2_; have GE236 := n3_; clear n0_ n1_ n2_ n3_; clear hb hbox hg) | ((with_reducible refine gate_dst (N := 3) rfl ?_); refine box_event ?hg (N := 3) ?hd (cs := #[.int .i64 a1_0, .int .i64 a1_1, .bool a1_2, .slice A1_3 l1_3.length c1_3]) (t := 131) ?hr ?_; (case hd => rfl); (case hg => rfl); (case hr => first | (go_simp; done) | (go_simp; rfl)); intro gb237 hg w18 hbox hb; have n0_ := am (blk_below (g := gb236) (o := .cells #[.int .i64 a0_0, .int .i64 a0_1, .bool a0_2, .slice A0_3 l0_3.length c0_3] 131 (0, 0)) (by (with_reducible repeat (first | apply qa | apply qb | apply qc)); exact BK236.out) hb); have n1_ := am (below_step (by repeat (first | (with_reducible first | exact HB.out | apply pa | apply pb | apply pc | refine below_set ?_ GE236.out) | exact HB.out)) hb); have n2_ := am (hbox); have n3_ := am ((by rw [hg]; exact (below_size (by repeat (first | (with_reducible first | exact HB.out | apply pa | apply pb | apply pc | refine below_set ?_ GE236.out) | exact HB.out))) : w.heap.size ≤ gb237)); have n4_ := am ((by rw [hg]; exact (below_size (by repeat (first | (with_reducible first | exact HB.out | apply pa | apply pb | apply pc | refine below_set ?_ GE236.out) | exact HB.out))) : w.heap.size ≤ gb237)); have n5_ := am ((by rw [hg]; exact Nat.ne_of_lt (blk_lt (g := gb236) (o := .cells #[.int .i64 a0_0, .int .i64 a0_1, .bool a0_2, .slice A0_3 l0_3.length c0_3] 131 (0, 0)) (by (with_reducible repeat (first | apply qa | apply qb | apply qc)); exact BK236.out)) : gb236 ≠ gb237)); have n6_ := am ((by rw [hg]; exact Nat.ne_of_gt (blk_lt (g := gb236) (o := .cells #[.int .i64 a0_0, .int .i64 a0_1, .bool a0_2, .slice A0_3 l0_3.length c0_3] 131 (0, 0)) (by (with_reducible repeat (first | apply qa | apply qb | apply qc)); exact BK236.out)) : gb237 ≠ gb236)); clear BK236; clear HB; have BK236 := n0_; have HB := n1_; have BK237 := n2_; have GW237 := n3_; have GE237 := n4_; have NB236_237 := n5_; have NB237_236 := n6_; clear n0_ n1_ n2_ n3_ n4_ n5_ n6_; clear hb hbox hg; have hnb19 := NB236_237.out; have hnc19 := NB237_236.out; have hcz20_0 := bc BK236.out 0 (.int .i64 a0_0) rfl; have hcz20_1 := bc BK236.out 1 (.int .i64 a0_1) rfl; have hcz20_2 := bc BK236.out 2 (.bool a0_2) rfl; have hcz20_3 := bc BK236.out 3 (.slice A0_3 l0_3.length c0_3) rfl; have hfz20_0 := bf BK236.out 0; have hfz20_1 := bf BK236.out 1; have hfz20_2 := bf BK236.out 2; have hfz20_3 := bf BK236.out 3; have hcz21_0 := bc BK237.out 0 (.int .i64 a1_0) rfl; have hcz21_1 := bc BK237.out 1 (.int .i64 a1_1) rfl; have hcz21_2 := bc BK237.out 2 (.bool a1_2) rfl; have hcz21_3 := bc BK237.out 3 (.slice A1_3 l1_3.length c1_3) rfl; have hfz21_0 := bf BK237.out 0; have hfz21_1 := bf BK237.out 1; have hfz21_2 := bf BK237.out 2; have hfz21_3 := bf BK237.out 3))
      go_ret
      exact ⟨by first | rfl | (simp [errW_none, errW_some] <;> rfl) | (simp [*, errW_none, errW_some] <;> rfl), by repeat (first | (with_reducible first | exact HB.out | apply pa | apply pb | apply pc | refine below_set ?_ GE236.out | refine below_set ?_ GE237.out) | exact HB.out)⟩
  · rw [if_neg c3] at H
    have c3b0 : (a0_0 == a1_0) = false := beq_eq_false_iff_ne.mpr c3
    have c3b1 : (a0_0 != a1_0) = true := bne_iff_ne.mpr c3
    obtain rfl := Option.some.inj H
    go_enter Try.func96, Try.ntmps96
    go_wp2_with (first | ((with_reducible refine gate_dst (N := 2) rfl ?_); refine box_event ?hg (N := 2) ?hd (cs := #[.int .i64 a0_0, .int .i64 a0_1, .bool a0_2, .slice A0_3 l0_3.length c0_3]) (t := 131) ?hr ?_; (case hd => rfl); (case hg => rfl); (case hr => first | (go_simp; done) | (go_simp; rfl)); intro gb236 hg w22 hbox hb; have n0_ := am (below_step (by repeat (first | (with_reducible first | exact HB.out | apply pa | apply pb | apply pc) | exact HB.out)) hb); have n1_ := am (hbox); have n2_ := am ((by rw [hg]; exact (below_size (by repeat (first | (with_reducible first | exact HB.out | apply pa | apply pb | apply pc) | exact HB.out))) : w.heap.size ≤ gb236)); have n3_ := am ((by rw [hg]; exact (below_size (by repeat (first | (with_reducible first | exact HB.out | apply pa | apply pb | apply pc) | exact HB.out))) : w.heap.size ≤ gb236)); clear HB; have HB := n0_; have BK236 := n1_; have GW236 := n2_; have GE236 := n3_; clear n0_ n1_ n2_ n3_; clear hb hbox hg) | ((with_reducible refine gate_dst (N := 3) rfl ?_); refine box_event ?hg (N := 3) ?hd (cs := #[.int .i64 a1_0, .int .i64 a1_1, .bool a1_2, .slice A1_3 l1_3.length c1_3]) (t := 131) ?hr ?_; (case hd => rfl); (case hg => rfl); (case hr => first | (go_simp; done) | (go_simp; rfl)); intro gb237 hg w23 hbox hb; have n0_ := am (blk_below (g := gb236) (o := .cells #[.int .i64 a0_0, .int .i64 a0_1, .bool a0_2, .slice A0_3 l0_3.length c0_3] 131 (0, 0)) (by (with_reducible repeat (first | apply qa | apply qb | apply qc)); exact BK236.out) hb); have n1_ := am (below_step (by repeat (first | (with_reducible first | exact HB.out | apply pa | apply pb | apply pc | refine below_set ?_ GE236.out) | exact HB.out)) hb); have n2_ := am (hbox); have n3_ := am ((by rw [hg]; exact (below_size (by repeat (first | (with_reducible first | exact HB.out | apply pa | apply pb | apply pc | refine below_set ?_ GE236.out) | exact HB.out))) : w.heap.size ≤ gb237)); have n4_ := am ((by rw [hg]; exact (below_size (by repeat (first | (with_reducible first | exact HB.out | apply pa | apply pb | apply pc | refine below_set ?_ GE236.out) | exact HB.out))) : w.heap.size ≤ gb237)); have n5_ := am ((by rw [hg]; exact Nat.ne_of_lt (blk_lt (g := gb236) (o := .cells #[.int .i64 a0_0, .int .i64 a0_1, .bool a0_2, .slice A0_3 l0_3.length c0_3] 131 (0, 0)) (by (with_reducible repeat (first | apply qa | apply qb | apply qc)); exact BK236.out)) : gb236 ≠ gb237)); have n6_ := am ((by rw [hg]; exact Nat.ne_of_gt (blk_lt (g := gb236) (o := .cells #[.int .i64 a0_0, .int .i64 a0_1, .bool a0_2, .slice A0_3 l0_3.length c0_3] 131 (0, 0)) (by (with_reducible repeat (first | apply qa | apply qb | apply qc)); exact BK236.out)) : gb237 ≠ gb236)); clear BK236; clear HB; have BK236 := n0_; have HB := n1_; have BK237 := n2_; have GW237 := n3_; have GE237 := n4_; have NB236_237 := n5_; have NB237_236 := n6_; clear n0_ n1_ n2_ n3_ n4_ n5_ n6_; clear hb hbox hg; have hnb24 := NB236_237.out; have hnc24 := NB237_236.out; have hcz25_0 := bc BK236.out 0 (.int .i64 a0_0) rfl; have hcz25_1 := bc BK236.out 1 (.int .i64 a0_1) rfl; have hcz25_2 := bc BK236.out 2 (.bool a0_2) rfl; have hcz25_3 := bc BK236.out 3 (.slice A0_3 l0_3.length c0_3) rfl; have hfz25_0 := bf BK236.out 0; have hfz25_1 := bf BK236.out 1; have hfz25_2 := bf BK236.out 2; have hfz25_3 := bf BK236.out 3; have hcz26_0 := bc BK237.out 0 (.int .i64 a1_0) rfl; have hcz26_1 := bc BK237.out 1 (.int .i64 a1_1) rfl; have hcz26_2 := bc BK237.out 2 (.bool a1_2) rfl; have hcz26_3 := bc BK237.out 3 (.slice A1_3 l1_3.length c1_3) rfl; have hfz26_0 := bf BK237.out 0; have hfz26_1 := bf BK237.out 1; have hfz26_2 := bf BK237.out 2; have hfz26_3 := bf BK237.out 3))
    go_ret
    exact ⟨by first | rfl | (simp [errW_none, errW_some] <;> rfl) | (simp [*, errW_none, errW_some] <;> rfl), by repeat (first | (with_reducible first | exact HB.out | apply pa | apply pb | apply pc | refine below_set ?_ GE236.out | refine below_set ?_ GE237.out) | exact HB.out)⟩
def impl_Type_95.l0 : Nat → List (S131) → List (S131) → Int → Int → Option (Bool)
  | 0, _, _, _, _ => none
  | k + 1, x1, x15, x16, x17 => if x17 < x16 then (if 0 ≤ x17 then (if x17 < (x15.length : Int) then (if x17 < (x1.length : Int) then ((impl_sameType.f k ((rd_T131 x15 x17).f0) ((rd_T131 x15 x17).f1) ((rd_T131 x15 x17).f2) ((rd_T131 x15 x17).f3) ((rd_T131 x1 x17).f0) ((rd_T131 x1 x17).f1) ((rd_T131 x1 x17).f2) ((rd_T131 x1 x17).f3)).bind fun t243 => (if t243 = true then (impl_Type_95.l0 k x1 x15 x16 (wrap64 (x17 + 1))) else (some false))) else (none)) else (none)) else (none)) else (some true)
def impl_Type_95.f (k : Nat) (l0 : List (S131)) (l1 : List (S131))  : Option (Bool) := if (l0.length : Int) = (l1.length : Int) then (impl_Type_95.l0 k l1 l0 (l0.length : Int) 0) else (some false)
set_option maxHeartbeats 8000000 in
set_option maxRecDepth 100000 in
theorem impl_Type_95.calls (k : Nat) (A0 : Option Addr) (c0 : Nat) (l0 : List (S131)) (A1 : Option Addr) (c1 : Nat) (l1 : List (S131))  (r : Bool) (w : World) (hr0 : Kd.C k131 w A0 l0.length l0) (hc0 : l0.length ≤ c0) (hr1 : Kd.C k131 w A1 l1.length l1) (hc1 : l1.length ≤ c1) (h : impl_Type_95.f k l0 l1 = some r) :
    Calls Try.prog 95 #[.slice A0 l0.length c0, .slice A1 l1.length c1, Value.func (Fn.func 96) #[] #[]] w fun e w' => e = .returned (.bool r) ∧ Below w.heap.size w w' := by
  have hu131 := Try.underlying131
  have HR0 := am hr0
  have HC0 := am hc0
  clear hr0 hc0
  have HR1 := am hr1
  have HC1 := am hc1
  clear hr1 hc1
  have HB := am (Below.refl w.heap.size w)
  have H : (if (l0.length : Int) = (l1.length : Int) then (impl_Type_95.l0 k l1 l0 (l0.length : Int) 0) else (some false)) = some r := h
  clear h
  by_cases c4 : (l0.length : Int) = (l1.length : Int)
  · rw [if_pos c4] at H
    have c4b0 : ((l0.length : Int) == (l1.length : Int)) = true := beq_iff_eq.mpr c4
    have c4b1 : ((l0.length : Int) != (l1.length : Int)) = false := bne_eq_false_iff_eq.mpr c4
    have c4b2 : (l0.length == l1.length) = true := by first | simpa using c4 | (simp at c4 ⊢; omega)
    clear c4
    have H' := am H
    clear H
    go_enter Try.func95, Try.ntmps95
    go_wp2
    go_loopg [17] k (fun kq v17 w' => ∃ (x17_1 : Int), v17 = .int .i64 x17_1 ∧ Aside0 (impl_Type_95.l0 kq l1 l0 (l0.length : Int) x17_1 = some r) ∧ Aside0 (kq ≤ k) ∧ Aside0 (Below w.heap.size w w'))
    case atStart => exact ⟨(0), (by first | rfl | (simp; done) | (simp [*]; done)), H', ⟨Nat.le_refl _⟩, ⟨by repeat (first | (with_reducible first | exact HB.out | apply pa | apply pb | apply pc) | exact HB.out)⟩⟩
    case round =>
      clear H'
      try clear c1
      try clear p2
      try clear c4
      try clear c4b0
      try clear c4b1
      try clear c4b2
      obtain ⟨x17_1, rfl, HA, HK1, HB⟩ := hrel
      cases gk with
      | zero => exact absurd HA.out (by simp [impl_Type_95.l0])
      | succ k1 =>
        have H := HA.out
        clear HA
        simp only [impl_Type_95.l0] at H
        by_cases c5 : x17_1 < (l0.length : Int)
        · rw [if_pos c5] at H
          have c5b0 : decide (x17_1 < (l0.length : Int)) = true := decide_eq_true c5
          clear c5
          by_cases c6 : 0 ≤ x17_1
          · rw [if_pos c6] at H
            have c6b0 : decide (0 ≤ x17_1) = true := decide_eq_true c6
            clear c6
            by_cases c7 : x17_1 < (l0.length : Int)
            · rw [if_pos c7] at H
              have c7b0 : decide (x17_1 < (l0.length : Int)) = true := decide_eq_true c7
              clear c7
              by_cases c8 : x17_1 < (l1.length : Int)
              · rw [if_pos c8] at H
                have c8b0 : decide (x17_1 < (l1.length : Int)) = true := decide_eq_true c8
                clear c8
                replace H := Option.bind_eq_some_iff.mp H
                obtain ⟨t243, A90, H⟩ := H
                replace H : (if t243 = true then (impl_Type_95.l0 k1 l1 l0 (l0.length : Int) (wrap64 (x17_1 + 1))) else (some false)) = some r := H
                have A9 := am A90
                clear A90
                by_cases c10 : t243 = true
                · subst c10
                  have H1 : (impl_Type_95.l0 k1 l1 l0 (l0.length : Int) (wrap64 (x17_1 + 1))) = some r := by rw [if_pos rfl] at H; exact H
                  clear H
                  have H := H1
                  clear H1
                  have H' := am H
                  clear H
                  have p239 : 0 ≤ (x17_1 : Int) := od (by assumption)
                  have q239 : x17_1 < (l0.length : Int) := od (by assumption)
                  obtain ⟨ad239, A239_3, c239_3, e239, hx239_0, hx239_1, hx239_2, hx239_3, hl239_3, hi239_3⟩ := at_T131 HR0.out x17_1 p239 q239
                  cases e239
                  replace hx239_0 := (HB.out.cell (World.block_lt_of_cell? w _ hx239_0)).trans hx239_0
                  replace hx239_1 := (HB.out.cell (World.block_lt_of_cell? w _ hx239_1)).trans hx239_1
                  replace hx239_2 := (HB.out.cell (World.block_lt_of_cell? w _ hx239_2)).trans hx239_2
                  replace hx239_3 := (HB.out.cell (World.block_lt_of_cell? w _ hx239_3)).trans hx239_3
                  have HR239_3 := am hi239_3
                  have HC239_3 := am hl239_3
                  clear hi239_3 hl239_3
                  replace p239 := eq_true p239
                  replace q239 := eq_true q239
                  go_wp2_with (first | ((with_reducible refine gate_dst (N := 8) rfl ?_); refine box_event ?hg (N := 8) ?hd (cs := #[.int .i64 0, .int .i64 0, .bool false, .slice none 0 0]) (t := 131) ?hr ?_; (case hd => rfl); (case hg => rfl); (case hr => first | (go_simp; done) | (go_simp; rfl)); intro gb240 hg w11 hbox hb; have n0_ := am (below_step (by repeat (first | (with_reducible first | exact HB.out | apply pa | apply pb | apply pc) | exact HB.out)) hb); have n1_ := am (hbox); have n2_ := am ((by rw [hg]; exact (below_size (by repeat (first | (with_reducible first | exact HB.out | apply pa | apply pb | apply pc) | exact HB.out))) : w.heap.size ≤ gb240)); have n3_ := am ((by rw [hg]; exact (below_size (by repeat (first | (with_reducible first | exact HB.out | apply pa | apply pb | apply pc) | exact HB.out))) : w.heap.size ≤ gb240)); clear HB; have HB := n0_; have BK240 := n1_; have GW240 := n2_; have GE240 := n3_; clear n0_ n1_ n2_ n3_; clear hb hbox hg; have hcz12_0 := bc BK240.out 0 (.int .i64 0) rfl; have hcz12_1 := bc BK240.out 1 (.int .i64 0) rfl; have hcz12_2 := bc BK240.out 2 (.bool false) rfl; have hcz12_3 := bc BK240.out 3 (.slice none 0 0) rfl; have hfz12_0 := bf BK240.out 0; have hfz12_1 := bf BK240.out 1; have hfz12_2 := bf BK240.out 2; have hfz12_3 := bf BK240.out 3; have p241 : 0 ≤ (x17_1 : Int) := od (by assumption); have q241 : x17_1 < (l1.length : Int) := od (by assumption); obtain ⟨ad241, A241_3, c241_3, e241, hx241_0, hx241_1, hx241_2, hx241_3, hl241_3, hi241_3⟩ := at_T131 HR1.out x17_1 p241 q241; cases e241; have hn241_0 : ad241.block ≠ gb240 := Nat.ne_of_lt (Nat.lt_of_lt_of_le (by have := World.block_lt_of_cell? _ _ hx241_0; first | rwa [add_block] at this | exact this) GW240.out); have hn241_1 : ad241.block ≠ gb240 := Nat.ne_of_lt (Nat.lt_of_lt_of_le (by have := World.block_lt_of_cell? _ _ hx241_0; first | rwa [add_block] at this | exact this) GW240.out); have hn241_2 : ad241.block ≠ gb240 := Nat.ne_of_lt (Nat.lt_of_lt_of_le (by have := World.block_lt_of_cell? _ _ hx241_0; first | rwa [add_block] at this | exact this) GW240.out); have hn241_3 : ad241.block ≠ gb240 := Nat.ne_of_lt (Nat.lt_of_lt_of_le (by have := World.block_lt_of_cell? _ _ hx241_0; first | rwa [add_block] at this | exact this) GW240.out); replace hx241_0 := (HB.out.cell (World.block_lt_of_cell? w _ hx241_0)).trans hx241_0; replace hx241_1 := (HB.out.cell (World.block_lt_of_cell? w _ hx241_1)).trans hx241_1; replace hx241_2 := (HB.out.cell (World.block_lt_of_cell? w _ hx241_2)).trans hx241_2; replace hx241_3 := (HB.out.cell (World.block_lt_of_cell? w _ hx241_3)).trans hx241_3; have HR241_3 := am hi241_3; have HC241_3 := am hl241_3; clear hi241_3 hl241_3; replace hx241_0 := (cell_far (p := ⟨gb240, 0, none⟩) (by first | (rw [add_block]; exact hn241_0) | (show (Addr.add _ _).block ≠ _; rw [add_block]; exact hn241_0) | exact hn241_0) (.int .i64 ((rd_T131 l0 x17_1).f0))).trans hx241_0; replace hx241_1 := (cell_far (p := ⟨gb240, 0, none⟩) (by first | (rw [add_block]; exact hn241_0) | (show (Addr.add _ _).block ≠ _; rw [add_block]; exact hn241_0) | exact hn241_0) (.int .i64 ((rd_T131 l0 x17_1).f0))).trans hx241_1; replace hx241_2 := (cell_far (p := ⟨gb240, 0, none⟩) (by first | (rw [add_block]; exact hn241_0) | (show (Addr.add _ _).block ≠ _; rw [add_block]; exact hn241_0) | exact hn241_0) (.int .i64 ((rd_T131 l0 x17_1).f0))).trans hx241_2; replace hx241_3 := (cell_far (p := ⟨gb240, 0, none⟩) (by first | (rw [add_block]; exact hn241_0) | (show (Addr.add _ _).block ≠ _; rw [add_block]; exact hn241_0) | exact hn241_0) (.int .i64 ((rd_T131 l0 x17_1).f0))).trans hx241_3; replace hx241_0 := (cell_far (p := ⟨gb240, 1, none⟩) (by first | (rw [add_block]; exact hn241_1) | (show (Addr.add _ _).block ≠ _; rw [add_block]; exact hn241_1) | exact hn241_1) (.int .i64 ((rd_T131 l0 x17_1).f1))).trans hx241_0; replace hx241_1 := (cell_far (p := ⟨gb240, 1, none⟩) (by first | (rw [add_block]; exact hn241_1) | (show (Addr.add _ _).block ≠ _; rw [add_block]; exact hn241_1) | exact hn241_1) (.int .i64 ((rd_T131 l0 x17_1).f1))).trans hx241_1; replace hx241_2 := (cell_far (p := ⟨gb240, 1, none⟩) (by first | (rw [add_block]; exact hn241_1) | (show (Addr.add _ _).block ≠ _; rw [add_block]; exact hn241_1) | exact hn241_1) (.int .i64 ((rd_T131 l0 x17_1).f1))).trans hx241_2; replace hx241_3 := (cell_far (p := ⟨gb240, 1, none⟩) (by first | (rw [add_block]; exact hn241_1) | (show (Addr.add _ _).block ≠ _; rw [add_block]; exact hn241_1) | exact hn241_1) (.int .i64 ((rd_T131 l0 x17_1).f1))).trans hx241_3; replace hx241_0 := (cell_far (p := ⟨gb240, 2, none⟩) (by first | (rw [add_block]; exact hn241_2) | (show (Addr.add _ _).block ≠ _; rw [add_block]; exact hn241_2) | exact hn241_2) (.bool ((rd_T131 l0 x17_1).f2))).trans hx241_0; replace hx241_1 := (cell_far (p := ⟨gb240, 2, none⟩) (by first | (rw [add_block]; exact hn241_2) | (show (Addr.add _ _).block ≠ _; rw [add_block]; exact hn241_2) | exact hn241_2) (.bool ((rd_T131 l0 x17_1).f2))).trans hx241_1; replace hx241_2 := (cell_far (p := ⟨gb240, 2, none⟩) (by first | (rw [add_block]; exact hn241_2) | (show (Addr.add _ _).block ≠ _; rw [add_block]; exact hn241_2) | exact hn241_2) (.bool ((rd_T131 l0 x17_1).f2))).trans hx241_2; replace hx241_3 := (cell_far (p := ⟨gb240, 2, none⟩) (by first | (rw [add_block]; exact hn241_2) | (show (Addr.add _ _).block ≠ _; rw [add_block]; exact hn241_2) | exact hn241_2) (.bool ((rd_T131 l0 x17_1).f2))).trans hx241_3; replace hx241_0 := (cell_far (p := ⟨gb240, 3, none⟩) (by first | (rw [add_block]; exact hn241_3) | (show (Addr.add _ _).block ≠ _; rw [add_block]; exact hn241_3) | exact hn241_3) (.slice A239_3 ((rd_T131 l0 x17_1).f3).length c239_3)).trans hx241_0; replace hx241_1 := (cell_far (p := ⟨gb240, 3, none⟩) (by first | (rw [add_block]; exact hn241_3) | (show (Addr.add _ _).block ≠ _; rw [add_block]; exact hn241_3) | exact hn241_3) (.slice A239_3 ((rd_T131 l0 x17_1).f3).length c239_3)).trans hx241_1; replace hx241_2 := (cell_far (p := ⟨gb240, 3, none⟩) (by first | (rw [add_block]; exact hn241_3) | (show (Addr.add _ _).block ≠ _; rw [add_block]; exact hn241_3) | exact hn241_3) (.slice A239_3 ((rd_T131 l0 x17_1).f3).length c239_3)).trans hx241_2; replace hx241_3 := (cell_far (p := ⟨gb240, 3, none⟩) (by first | (rw [add_block]; exact hn241_3) | (show (Addr.add _ _).block ≠ _; rw [add_block]; exact hn241_3) | exact hn241_3) (.slice A239_3 ((rd_T131 l0 x17_1).f3).length c239_3)).trans hx241_3; clear hn241_0; clear hn241_1; clear hn241_2; clear hn241_3; replace p241 := eq_true p241; replace q241 := eq_true q241) | ((with_reducible refine gate_dst (N := 9) rfl ?_); refine box_event ?hg (N := 9) ?hd (cs := #[.int .i64 0, .int .i64 0, .bool false, .slice none 0 0]) (t := 131) ?hr ?_; (case hd => rfl); (case hg => rfl); (case hr => first | (go_simp; done) | (go_simp; rfl)); intro gb242 hg w13 hbox hb; have n0_ := am (blk_below (g := gb240) (o := .cells #[.int .i64 ((rd_T131 l0 x17_1).f0), .int .i64 ((rd_T131 l0 x17_1).f1), .bool ((rd_T131 l0 x17_1).f2), .slice A239_3 ((rd_T131 l0 x17_1).f3).length c239_3] 131 (0, 0)) (by (with_reducible repeat (first | apply qa | apply qb | apply qc)); refine blk_put (cs := #[.int .i64 ((rd_T131 l0 x17_1).f0), .int .i64 ((rd_T131 l0 x17_1).f1), .bool ((rd_T131 l0 x17_1).f2), .slice none 0 0]) ?_ 3 _ rfl; (with_reducible repeat (first | apply qa | apply qb | apply qc)); refine blk_put (cs := #[.int .i64 ((rd_T131 l0 x17_1).f0), .int .i64 ((rd_T131 l0 x17_1).f1), .bool false, .slice none 0 0]) ?_ 2 _ rfl; (with_reducible repeat (first | apply qa | apply qb | apply qc)); refine blk_put (cs := #[.int .i64 ((rd_T131 l0 x17_1).f0), .int .i64 0, .bool false, .slice none 0 0]) ?_ 1 _ rfl; (with_reducible repeat (first | apply qa | apply qb | apply qc)); refine blk_put (cs := #[.int .i64 0, .int .i64 0, .bool false, .slice none 0 0]) ?_ 0 _ rfl; (with_reducible repeat (first | apply qa | apply qb | apply qc)); exact BK240.out) hb); have n1_ := am (below_step (by repeat (first | (with_reducible first | exact HB.out | apply pa | apply pb | apply pc | refine below_set ?_ GE240.out) | exact HB.out)) hb); have n2_ := am (hbox); have n3_ := am ((by rw [hg]; exact (below_size (by repeat (first | (with_reducible first | exact HB.out | apply pa | apply pb | apply pc | refine below_set ?_ GE240.out) | exact HB.out))) : w.heap.size ≤ gb242)); have n4_ := am ((by rw [hg]; exact (below_size (by repeat (first | (with_reducible first | exact HB.out | apply pa | apply pb | apply pc | refine below_set ?_ GE240.out) | exact HB.out))) : w.heap.size ≤ gb242)); have n5_ := am ((by rw [hg]; exact Nat.ne_of_lt (blk_lt (g := gb240) (o := .cells #[.int .i64 ((rd_T131 l0 x17_1).f0), .int .i64 ((rd_T131 l0 x17_1).f1), .bool ((rd_T131 l0 x17_1).f2), .slice A239_3 ((rd_T131 l0 x17_1).f3).length c239_3] 131 (0, 0)) (by (with_reducible repeat (first | apply qa | apply qb | apply qc)); refine blk_put (cs := #[.int .i64 ((rd_T131 l0 x17_1).f0), .int .i64 ((rd_T131 l0 x17_1).f1), .bool ((rd_T131 l0 x17_1).f2), .slice none 0 0]) ?_ 3 _ rfl; (with_reducible repeat (first | apply qa | apply qb | apply qc)); refine blk_put (cs := #[.int .i64 ((rd_T131 l0 x17_1).f0), .int .i64 ((rd_T131 l0 x17_1).f1), .bool false, .slice none 0 0]) ?_ 2 _ rfl; (with_reducible repeat (first | apply qa | apply qb | apply qc)); refine blk_put (cs := #[.int .i64 ((rd_T131 l0 x17_1).f0), .int .i64 0, .bool false, .slice none 0 0]) ?_ 1 _ rfl; (with_reducible repeat (first | apply qa | apply qb | apply qc)); refine blk_put (cs := #[.int .i64 0, .int .i64 0, .bool false, .slice none 0 0]) ?_ 0 _ rfl; (with_reducible repeat (first | apply qa | apply qb | apply qc)); exact BK240.out)) : gb240 ≠ gb242)); have n6_ := am ((by rw [hg]; exact Nat.ne_of_gt (blk_lt (g := gb240) (o := .cells #[.int .i64 ((rd_T131 l0 x17_1).f0), .int .i64 ((rd_T131 l0 x17_1).f1), .bool ((rd_T131 l0 x17_1).f2), .slice A239_3 ((rd_T131 l0 x17_1).f3).length c239_3] 131 (0, 0)) (by (with_reducible repeat (first | apply qa | apply qb | apply qc)); refine blk_put (cs := #[.int .i64 ((rd_T131 l0 x17_1).f0), .int .i64 ((rd_T131 l0 x17_1).f1), .bool ((rd_T131 l0 x17_1).f2), .slice none 0 0]) ?_ 3 _ rfl; (with_reducible repeat (first | apply qa | apply qb | apply qc)); refine blk_put (cs := #[.int .i64 ((rd_T131 l0 x17_1).f0), .int .i64 ((rd_T131 l0 x17_1).f1), .bool false, .slice none 0 0]) ?_ 2 _ rfl; (with_reducible repeat (first | apply qa | apply qb | apply qc)); refine blk_put (cs := #[.int .i64 ((rd_T131 l0 x17_1).f0), .int .i64 0, .bool false, .slice none 0 0]) ?_ 1 _ rfl; (with_reducible repeat (first | apply qa | apply qb | apply qc)); refine blk_put (cs := #[.int .i64 0, .int .i64 0, .bool false, .slice none 0 0]) ?_ 0 _ rfl; (with_reducible repeat (first | apply qa | apply qb | apply qc)); exact BK240.out)) : gb242 ≠ gb240)); clear BK240; clear HB; have BK240 := n0_; have HB := n1_; have BK242 := n2_; have GW242 := n3_; have GE242 := n4_; have NB240_242 := n5_; have NB242_240 := n6_; clear n0_ n1_ n2_ n3_ n4_ n5_ n6_; clear hb hbox hg; have hnb14 := NB242_240.out; have hnc14 := NB240_242.out; have hcz15_0 := bc BK242.out 0 (.int .i64 0) rfl; have hcz15_1 := bc BK242.out 1 (.int .i64 0) rfl; have hcz15_2 := bc BK242.out 2 (.bool false) rfl; have hcz15_3 := bc BK242.out 3 (.slice none 0 0) rfl; have hfz15_0 := bf BK242.out 0; have hfz15_1 := bf BK242.out 1; have hfz15_2 := bf BK242.out 2; have hfz15_3 := bf BK242.out 3; have hcz16_0 : w13.cell? ⟨gb240, 0, none⟩ = some (.int .i64 ((rd_T131 l0 x17_1).f0)) := (blk_cell BK240.out 0).trans rfl; have hcz16_1 : w13.cell? ⟨gb240, 1, none⟩ = some (.int .i64 ((rd_T131 l0 x17_1).f1)) := (blk_cell BK240.out 1).trans rfl; have hcz16_2 : w13.cell? ⟨gb240, 2, none⟩ = some (.bool ((rd_T131 l0 x17_1).f2)) := (blk_cell BK240.out 2).trans rfl; have hcz16_3 : w13.cell? ⟨gb240, 3, none⟩ = some (.slice A239_3 ((rd_T131 l0 x17_1).f3).length c239_3) := (blk_cell BK240.out 3).trans rfl; have hfz16_0 := bf BK240.out 0; have hfz16_1 := bf BK240.out 1; have hfz16_2 := bf BK240.out 2; have hfz16_3 := bf BK240.out 3) | ((with_reducible refine Go.Proofs.Ytgbmfkfmimpaaaa.Aid.gate_calleeT rfl ?_); refine Go.Proofs.Ytgbmfkfmimpaaaa.Aid.goesT_ (some 29) rfl rfl Try.func96 (by kernel_rfl) rfl #[.agg #[.int .i64 ((rd_T131 l0 x17_1).f0), .int .i64 ((rd_T131 l0 x17_1).f1), .bool ((rd_T131 l0 x17_1).f2), .slice A239_3 ((rd_T131 l0 x17_1).f3).length c239_3], .agg #[.int .i64 ((rd_T131 l1 x17_1).f0), .int .i64 ((rd_T131 l1 x17_1).f1), .bool ((rd_T131 l1 x17_1).f2), .slice A241_3 ((rd_T131 l1 x17_1).f3).length c241_3]] rfl rfl (by (try simp only [List.map_toArray, List.map_cons, List.map_nil]); first | done | rfl | (simp only [List.length_drop, List.length_take]; rfl)) ?_; (with_reducible refine (impl_sameType.calls k1 ((rd_T131 l0 x17_1).f0) ((rd_T131 l0 x17_1).f1) ((rd_T131 l0 x17_1).f2) _ _ ((rd_T131 l0 x17_1).f3) ((rd_T131 l1 x17_1).f0) ((rd_T131 l1 x17_1).f1) ((rd_T131 l1 x17_1).f2) _ _ ((rd_T131 l1 x17_1).f3) true _ ?side1 ?side2 ?side3 ?side4 A9.out).mono ?_); (case side1 => exact Kd.C_below HR239_3.out (by repeat (first | (with_reducible first | exact HB.out | apply pa | apply pb | apply pc | refine below_set ?_ GE240.out | refine below_set ?_ GE242.out) | exact HB.out))); (case side2 => exact HC239_3.out); (case side3 => exact Kd.C_below HR241_3.out (by repeat (first | (with_reducible first | exact HB.out | apply pa | apply pb | apply pc | refine below_set ?_ GE240.out | refine below_set ?_ GE242.out) | exact HB.out))); (case side4 => exact HC241_3.out); rintro e w17 ⟨rfl, hb⟩; refine ⟨_, rfl, ?_⟩; have n0_ := am (blk_below (g := gb240) (o := .cells #[.int .i64 ((rd_T131 l0 x17_1).f0), .int .i64 ((rd_T131 l0 x17_1).f1), .bool ((rd_T131 l0 x17_1).f2), .slice A239_3 ((rd_T131 l0 x17_1).f3).length c239_3] 131 (0, 0)) (by (with_reducible repeat (first | apply qa | apply qb | apply qc)); refine qf ?_ NB240_242.out _; (with_reducible repeat (first | apply qa | apply qb | apply qc)); refine qf ?_ NB240_242.out _; (with_reducible repeat (first | apply qa | apply qb | apply qc)); refine qf ?_ NB240_242.out _; (with_reducible repeat (first | apply qa | apply qb | apply qc)); refine qf ?_ NB240_242.out _; (with_reducible repeat (first | apply qa | apply qb | apply qc)); exact BK240.out) hb); have n1_ := am (blk_below (g := gb242) (o := .cells #[.int .i64 ((rd_T131 l1 x17_1).f0), .int .i64 ((rd_T131 l1 x17_1).f1), .bool ((rd_T131 l1 x17_1).f2), .slice A241_3 ((rd_T131 l1 x17_1).f3).length c241_3] 131 (0, 0)) (by (with_reducible repeat (first | apply qa | apply qb | apply qc)); refine blk_put (cs := #[.int .i64 ((rd_T131 l1 x17_1).f0), .int .i64 ((rd_T131 l1 x17_1).f1), .bool ((rd_T131 l1 x17_1).f2), .slice none 0 0]) ?_ 3 _ rfl; (with_reducible repeat (first | apply qa | apply qb | apply qc)); refine blk_put (cs := #[.int .i64 ((rd_T131 l1 x17_1).f0), .int .i64 ((rd_T131 l1 x17_1).f1), .bool false, .slice none 0 0]) ?_ 2 _ rfl; (with_reducible repeat (first | apply qa | apply qb | apply qc)); refine blk_put (cs := #[.int .i64 ((rd_T131 l1 x17_1).f0), .int .i64 0, .bool false, .slice none 0 0]) ?_ 1 _ rfl; (with_reducible repeat (first | apply qa | apply qb | apply qc)); refine blk_put (cs := #[.int .i64 0, .int .i64 0, .bool false, .slice none 0 0]) ?_ 0 _ rfl; (with_reducible repeat (first | apply qa | apply qb | apply qc)); exact BK242.out) hb); have n2_ := am (below_step (by repeat (first | (with_reducible first | exact HB.out | apply pa | apply pb | apply pc | refine below_set ?_ GE240.out | refine below_set ?_ GE242.out) | exact HB.out)) hb); clear BK240; clear BK242; clear HB; have BK240 := n0_; have BK242 := n1_; have HB := n2_; clear n0_ n1_ n2_; (try clear hb); (try clear hb2); (try clear hk); (try clear hi)))
                  go_roundg k1
                  case measure => have := HK1.out; omega
                  case rel => exact ⟨(wrap64 (x17_1 + 1)), (by first | rfl | (simp; done) | (simp [*]; done)), H', ⟨by have := HK1.out; omega⟩, ⟨by repeat (first | (with_reducible first | exact HB.out | apply pa | apply pb | apply pc | refine below_set ?_ GE240.out | refine below_set ?_ GE242.out) | exact HB.out)⟩⟩
                · replace c10 := Bool.eq_false_iff.mpr c10
                  subst c10
                  have H1 : (some false) = some r := by rw [if_neg (show ¬ (false = true) by decide)] at H; exact H
                  clear H
                  have H := H1
                  clear H1
                  obtain rfl := Option.some.inj H
                  have p239 : 0 ≤ (x17_1 : Int) := od (by assumption)
                  have q239 : x17_1 < (l0.length : Int) := od (by assumption)
                  obtain ⟨ad239, A239_3, c239_3, e239, hx239_0, hx239_1, hx239_2, hx239_3, hl239_3, hi239_3⟩ := at_T131 HR0.out x17_1 p239 q239
                  cases e239
                  replace hx239_0 := (HB.out.cell (World.block_lt_of_cell? w _ hx239_0)).trans hx239_0
                  replace hx239_1 := (HB.out.cell (World.block_lt_of_cell? w _ hx239_1)).trans hx239_1
                  replace hx239_2 := (HB.out.cell (World.block_lt_of_cell? w _ hx239_2)).trans hx239_2
                  replace hx239_3 := (HB.out.cell (World.block_lt_of_cell? w _ hx239_3)).trans hx239_3
                  have HR239_3 := am hi239_3
                  have HC239_3 := am hl239_3
                  clear hi239_3 hl239_3
                  replace p239 := eq_true p239
                  replace q239 := eq_true q239
                  go_wp2_with (first | ((with_reducible refine gate_dst (N := 8) rfl ?_); refine box_event ?hg (N := 8) ?hd (cs := #[.int .i64 0, .int .i64 0, .bool false, .slice none 0 0]) (t := 131) ?hr ?_; (case hd => rfl); (case hg => rfl); (case hr => first | (go_simp; done) | (go_simp; rfl)); intro gb240 hg w18 hbox hb; have n0_ := am (below_step (by repeat (first | (with_reducible first | exact HB.out | apply pa | apply pb | apply pc) | exact HB.out)) hb); have n1_ := am (hbox); have n2_ := am ((by rw [hg]; exact (below_size (by repeat (first | (with_reducible first | exact HB.out | apply pa | apply pb | apply pc) | exact HB.out))) : w.heap.size ≤ gb240)); have n3_ := am ((by rw [hg]; exact (below_size (by repeat (first | (with_reducible first | exact HB.out | apply pa | apply pb | apply pc) | exact HB.out))) : w.heap.size ≤ gb240)); clear HB; have HB := n0_; have BK240 := n1_; have GW240 := n2_; have GE240 := n3_; clear n0_ n1_ n2_ n3_; clear hb hbox hg; have hcz19_0 := bc BK240.out 0 (.int .i64 0) rfl; have hcz19_1 := bc BK240.out 1 (.int .i64 0) rfl; have hcz19_2 := bc BK240.out 2 (.bool false) rfl; have hcz19_3 := bc BK240.out 3 (.slice none 0 0) rfl; have hfz19_0 := bf BK240.out 0; have hfz19_1 := bf BK240.out 1; have hfz19_2 := bf BK240.out 2; have hfz19_3 := bf BK240.out 3; have p241 : 0 ≤ (x17_1 : Int) := od (by assumption); have q241 : x17_1 < (l1.length : Int) := od (by assumption); obtain ⟨ad241, A241_3, c241_3, e241, hx241_0, hx241_1, hx241_2, hx241_3, hl241_3, hi241_3⟩ := at_T131 HR1.out x17_1 p241 q241; cases e241; have hn241_0 : ad241.block ≠ gb240 := Nat.ne_of_lt (Nat.lt_of_lt_of_le (by have := World.block_lt_of_cell? _ _ hx241_0; first | rwa [add_block] at this | exact this) GW240.out); have hn241_1 : ad241.block ≠ gb240 := Nat.ne_of_lt (Nat.lt_of_lt_of_le (by have := World.block_lt_of_cell? _ _ hx241_0; first | rwa [add_block] at this | exact this) GW240.out); have hn241_2 : ad241.block ≠ gb240 := Nat.ne_of_lt (Nat.lt_of_lt_of_le (by have := World.block_lt_of_cell? _ _ hx241_0; first | rwa [add_block] at this | exact this) GW240.out); have hn241_3 : ad241.block ≠ gb240 := Nat.ne_of_lt (Nat.lt_of_lt_of_le (by have := World.block_lt_of_cell? _ _ hx241_0; first | rwa [add_block] at this | exact this) GW240.out); replace hx241_0 := (HB.out.cell (World.block_lt_of_cell? w _ hx241_0)).trans hx241_0; replace hx241_1 := (HB.out.cell (World.block_lt_of_cell? w _ hx241_1)).trans hx241_1; replace hx241_2 := (HB.out.cell (World.block_lt_of_cell? w _ hx241_2)).trans hx241_2; replace hx241_3 := (HB.out.cell (World.block_lt_of_cell? w _ hx241_3)).trans hx241_3; have HR241_3 := am hi241_3; have HC241_3 := am hl241_3; clear hi241_3 hl241_3; replace hx241_0 := (cell_far (p := ⟨gb240, 0, none⟩) (by first | (rw [add_block]; exact hn241_0) | (show (Addr.add _ _).block ≠ _; rw [add_block]; exact hn241_0) | exact hn241_0) (.int .i64 ((rd_T131 l0 x17_1).f0))).trans hx241_0; replace hx241_1 := (cell_far (p := ⟨gb240, 0, none⟩) (by first | (rw [add_block]; exact hn241_0) | (show (Addr.add _ _).block ≠ _; rw [add_block]; exact hn241_0) | exact hn241_0) (.int .i64 ((rd_T131 l0 x17_1).f0))).trans hx241_1; replace hx241_2 := (cell_far (p := ⟨gb240, 0, none⟩) (by first | (rw [add_block]; exact hn241_0) | (show (Addr.add _ _).block ≠ _; rw [add_block]; exact hn241_0) | exact hn241_0) (.int .i64 ((rd_T131 l0 x17_1).f0))).trans hx241_2; replace hx241_3 := (cell_far (p := ⟨gb240, 0, none⟩) (by first | (rw [add_block]; exact hn241_0) | (show (Addr.add _ _).block ≠ _; rw [add_block]; exact hn241_0) | exact hn241_0) (.int .i64 ((rd_T131 l0 x17_1).f0))).trans hx241_3; replace hx241_0 := (cell_far (p := ⟨gb240, 1, none⟩) (by first | (rw [add_block]; exact hn241_1) | (show (Addr.add _ _).block ≠ _; rw [add_block]; exact hn241_1) | exact hn241_1) (.int .i64 ((rd_T131 l0 x17_1).f1))).trans hx241_0; replace hx241_1 := (cell_far (p := ⟨gb240, 1, none⟩) (by first | (rw [add_block]; exact hn241_1) | (show (Addr.add _ _).block ≠ _; rw [add_block]; exact hn241_1) | exact hn241_1) (.int .i64 ((rd_T131 l0 x17_1).f1))).trans hx241_1; replace hx241_2 := (cell_far (p := ⟨gb240, 1, none⟩) (by first | (rw [add_block]; exact hn241_1) | (show (Addr.add _ _).block ≠ _; rw [add_block]; exact hn241_1) | exact hn241_1) (.int .i64 ((rd_T131 l0 x17_1).f1))).trans hx241_2; replace hx241_3 := (cell_far (p := ⟨gb240, 1, none⟩) (by first | (rw [add_block]; exact hn241_1) | (show (Addr.add _ _).block ≠ _; rw [add_block]; exact hn241_1) | exact hn241_1) (.int .i64 ((rd_T131 l0 x17_1).f1))).trans hx241_3; replace hx241_0 := (cell_far (p := ⟨gb240, 2, none⟩) (by first | (rw [add_block]; exact hn241_2) | (show (Addr.add _ _).block ≠ _; rw [add_block]; exact hn241_2) | exact hn241_2) (.bool ((rd_T131 l0 x17_1).f2))).trans hx241_0; replace hx241_1 := (cell_far (p := ⟨gb240, 2, none⟩) (by first | (rw [add_block]; exact hn241_2) | (show (Addr.add _ _).block ≠ _; rw [add_block]; exact hn241_2) | exact hn241_2) (.bool ((rd_T131 l0 x17_1).f2))).trans hx241_1; replace hx241_2 := (cell_far (p := ⟨gb240, 2, none⟩) (by first | (rw [add_block]; exact hn241_2) | (show (Addr.add _ _).block ≠ _; rw [add_block]; exact hn241_2) | exact hn241_2) (.bool ((rd_T131 l0 x17_1).f2))).trans hx241_2; replace hx241_3 := (cell_far (p := ⟨gb240, 2, none⟩) (by first | (rw [add_block]; exact hn241_2) | (show (Addr.add _ _).block ≠ _; rw [add_block]; exact hn241_2) | exact hn241_2) (.bool ((rd_T131 l0 x17_1).f2))).trans hx241_3; replace hx241_0 := (cell_far (p := ⟨gb240, 3, none⟩) (by first | (rw [add_block]; exact hn241_3) | (show (Addr.add _ _).block ≠ _; rw [add_block]; exact hn241_3) | exact hn241_3) (.slice A239_3 ((rd_T131 l0 x17_1).f3).length c239_3)).trans hx241_0; replace hx241_1 := (cell_far (p := ⟨gb240, 3, none⟩) (by first | (rw [add_block]; exact hn241_3) | (show (Addr.add _ _).block ≠ _; rw [add_block]; exact hn241_3) | exact hn241_3) (.slice A239_3 ((rd_T131 l0 x17_1).f3).length c239_3)).trans hx241_1; replace hx241_2 := (cell_far (p := ⟨gb240, 3, none⟩) (by first | (rw [add_block]; exact hn241_3) | (show (Addr.add _ _).block ≠ _; rw [add_block]; exact hn241_3) | exact hn241_3) (.slice A239_3 ((rd_T131 l0 x17_1).f3).length c239_3)).trans hx241_2; replace hx241_3 := (cell_far (p := ⟨gb240, 3, none⟩) (by first | (rw [add_block]; exact hn241_3) | (show (Addr.add _ _).block ≠ _; rw [add_block]; exact hn241_3) | exact hn241_3) (.slice A239_3 ((rd_T131 l0 x17_1).f3).length c239_3)).trans hx241_3; clear hn241_0; clear hn241_1; clear hn241_2; clear hn241_3; replace p241 := eq_true p241; replace q241 := eq_true q241) | ((with_reducible refine gate_dst (N := 9) rfl ?_); refine box_event ?hg (N := 9) ?hd (cs := #[.int .i64 0, .int .i64 0, .bool false, .slice none 0 0]) (t := 131) ?hr ?_; (case hd => rfl); (case hg => rfl); (case hr => first | (go_simp; done) | (go_simp; rfl)); intro gb242 hg w20 hbox hb; have n0_ := am (blk_below (g := gb240) (o := .cells #[.int .i64 ((rd_T131 l0 x17_1).f0), .int .i64 ((rd_T131 l0 x17_1).f1), .bool ((rd_T131 l0 x17_1).f2), .slice A239_3 ((rd_T131 l0 x17_1).f3).length c239_3] 131 (0, 0)) (by (with_reducible repeat (first | apply qa | apply qb | apply qc)); refine blk_put (cs := #[.int .i64 ((rd_T131 l0 x17_1).f0), .int .i64 ((rd_T131 l0 x17_1).f1), .bool ((rd_T131 l0 x17_1).f2), .slice none 0 0]) ?_ 3 _ rfl; (with_reducible repeat (first | apply qa | apply qb | apply qc)); refine blk_put (cs := #[.int .i64 ((rd_T131 l0 x17_1).f0), .int .i64 ((rd_T131 l0 x17_1).f1), .bool false, .slice none 0 0]) ?_ 2 _ rfl; (with_reducible repeat (first | apply qa | apply qb | apply qc)); refine blk_put (cs := #[.int .i64 ((rd_T131 l0 x17_1).f0), .int .i64 0, .bool false, .slice none 0 0]) ?_ 1 _ rfl; (with_reducible repeat (first | apply qa | apply qb | apply qc)); refine blk_put (cs := #[.int .i64 0, .int .i64 0, .bool false, .slice none 0 0]) ?_ 0 _ rfl; (with_reducible repeat (first | apply qa | apply qb | apply qc)); exact BK240.out) hb); have n1_ := am (below_step (by repeat (first | (with_reducible first | exact HB.out | apply pa | apply pb | apply pc | refine below_set ?_ GE240.out) | exact HB.out)) hb); have n2_ := am (hbox); have n3_ := am ((by rw [hg]; exact (below_size (by repeat (first | (with_reducible first | exact HB.out | apply pa | apply pb | apply pc | refine below_set ?_ GE240.out) | exact HB.out))) : w.heap.size ≤ gb242)); have n4_ := am ((by rw [hg]; exact (below_size (by repeat (first | (with_reducible first | exact HB.out | apply pa | apply pb | apply pc | refine below_set ?_ GE240.out) | exact HB.out))) : w.heap.size ≤ gb242)); have n5_ := am ((by rw [hg]; exact Nat.ne_of_lt (blk_lt (g := gb240) (o := .cells #[.int .i64 ((rd_T131 l0 x17_1).f0), .int .i64 ((rd_T131 l0 x17_1).f1), .bool ((rd_T131 l0 x17_1).f2), .slice A239_3 ((rd_T131 l0 x17_1).f3).length c239_3] 131 (0, 0)) (by (with_reducible repeat (first | apply qa | apply qb | apply qc)); refine blk_put (cs := #[.int .i64 ((rd_T131 l0 x17_1).f0), .int .i64 ((rd_T131 l0 x17_1).f1), .bool ((rd_T131 l0 x17_1).f2), .slice none 0 0]) ?_ 3 _ rfl; (with_reducible repeat (first | apply qa | apply qb | apply qc)); refine blk_put (cs := #[.int .i64 ((rd_T131 l0 x17_1).f0), .int .i64 ((rd_T131 l0 x17_1).f1), .bool false, .slice none 0 0]) ?_ 2 _ rfl; (with_reducible repeat (first | apply qa | apply qb | apply qc)); refine blk_put (cs := #[.int .i64 ((rd_T131 l0 x17_1).f0), .int .i64 0, .bool false, .slice none 0 0]) ?_ 1 _ rfl; (with_reducible repeat (first | apply qa | apply qb | apply qc)); refine blk_put (cs := #[.int .i64 0, .int .i64 0, .bool false, .slice none 0 0]) ?_ 0 _ rfl; (with_reducible repeat (first | apply qa | apply qb | apply qc)); exact BK240.out)) : gb240 ≠ gb242)); have n6_ := am ((by rw [hg]; exact Nat.ne_of_gt (blk_lt (g := gb240) (o := .cells #[.int .i64 ((rd_T131 l0 x17_1).f0), .int .i64 ((rd_T131 l0 x17_1).f1), .bool ((rd_T131 l0 x17_1).f2), .slice A239_3 ((rd_T131 l0 x17_1).f3).length c239_3] 131 (0, 0)) (by (with_reducible repeat (first | apply qa | apply qb | apply qc)); refine blk_put (cs := #[.int .i64 ((rd_T131 l0 x17_1).f0), .int .i64 ((rd_T131 l0 x17_1).f1), .bool ((rd_T131 l0 x17_1).f2), .slice none 0 0]) ?_ 3 _ rfl; (with_reducible repeat (first | apply qa | apply qb | apply qc)); refine blk_put (cs := #[.int .i64 ((rd_T131 l0 x17_1).f0), .int .i64 ((rd_T131 l0 x17_1).f1), .bool false, .slice none 0 0]) ?_ 2 _ rfl; (with_reducible repeat (first | apply qa | apply qb | apply qc)); refine blk_put (cs := #[.int .i64 ((rd_T131 l0 x17_1).f0), .int .i64 0, .bool false, .slice none 0 0]) ?_ 1 _ rfl; (with_reducible repeat (first | apply qa | apply qb | apply qc)); refine blk_put (cs := #[.int .i64 0, .int .i64 0, .bool false, .slice none 0 0]) ?_ 0 _ rfl; (with_reducible repeat (first | apply qa | apply qb | apply qc)); exact BK240.out)) : gb242 ≠ gb240)); clear BK240; clear HB; have BK240 := n0_; have HB := n1_; have BK242 := n2_; have GW242 := n3_; have GE242 := n4_; have NB240_242 := n5_; have NB242_240 := n6_; clear n0_ n1_ n2_ n3_ n4_ n5_ n6_; clear hb hbox hg; have hnb21 := NB242_240.out; have hnc21 := NB240_242.out; have hcz22_0 := bc BK242.out 0 (.int .i64 0) rfl; have hcz22_1 := bc BK242.out 1 (.int .i64 0) rfl; have hcz22_2 := bc BK242.out 2 (.bool false) rfl; have hcz22_3 := bc BK242.out 3 (.slice none 0 0) rfl; have hfz22_0 := bf BK242.out 0; have hfz22_1 := bf BK242.out 1; have hfz22_2 := bf BK242.out 2; have hfz22_3 := bf BK242.out 3; have hcz23_0 : w20.cell? ⟨gb240, 0, none⟩ = some (.int .i64 ((rd_T131 l0 x17_1).f0)) := (blk_cell BK240.out 0).trans rfl; have hcz23_1 : w20.cell? ⟨gb240, 1, none⟩ = some (.int .i64 ((rd_T131 l0 x17_1).f1)) := (blk_cell BK240.out 1).trans rfl; have hcz23_2 : w20.cell? ⟨gb240, 2, none⟩ = some (.bool ((rd_T131 l0 x17_1).f2)) := (blk_cell BK240.out 2).trans rfl; have hcz23_3 : w20.cell? ⟨gb240, 3, none⟩ = some (.slice A239_3 ((rd_T131 l0 x17_1).f3).length c239_3) := (blk_cell BK240.out 3).trans rfl; have hfz23_0 := bf BK240.out 0; have hfz23_1 := bf BK240.out 1; have hfz23_2 := bf BK240.out 2; have hfz23_3 := bf BK240.out 3) | ((with_reducible refine Go.Proofs.Ytgbmfkfmimpaaaa.Aid.gate_calleeT rfl ?_); refine Go.Proofs.Ytgbmfkfmimpaaaa.Aid.goesT_ (some 29) rfl rfl Try.func96 (by kernel_rfl) rfl #[.agg #[.int .i64 ((rd_T131 l0 x17_1).f0), .int .i64 ((rd_T131 l0 x17_1).f1), .bool ((rd_T131 l0 x17_1).f2), .slice A239_3 ((rd_T131 l0 x17_1).f3).length c239_3], .agg #[.int .i64 ((rd_T131 l1 x17_1).f0), .int .i64 ((rd_T131 l1 x17_1).f1), .bool ((rd_T131 l1 x17_1).f2), .slice A241_3 ((rd_T131 l1 x17_1).f3).length c241_3]] rfl rfl (by (try simp only [List.map_toArray, List.map_cons, List.map_nil]); first | done | rfl | (simp only [List.length_drop, List.length_take]; rfl)) ?_; (with_reducible refine (impl_sameType.calls k1 ((rd_T131 l0 x17_1).f0) ((rd_T131 l0 x17_1).f1) ((rd_T131 l0 x17_1).f2) _ _ ((rd_T131 l0 x17_1).f3) ((rd_T131 l1 x17_1).f0) ((rd_T131 l1 x17_1).f1) ((rd_T131 l1 x17_1).f2) _ _ ((rd_T131 l1 x17_1).f3) false _ ?side1 ?side2 ?side3 ?side4 A9.out).mono ?_); (case side1 => exact Kd.C_below HR239_3.out (by repeat (first | (with_reducible first | exact HB.out | apply pa | apply pb | apply pc | refine below_set ?_ GE240.out | refine below_set ?_ GE242.out) | exact HB.out))); (case side2 => exact HC239_3.out); (case side3 => exact Kd.C_below HR241_3.out (by repeat (first | (with_reducible first | exact HB.out | apply pa | apply pb | apply pc | refine below_set ?_ GE240.out | refine below_set ?_ GE242.out) | exact HB.out))); (case side4 => exact HC241_3.out); rintro e w24 ⟨rfl, hb⟩; refine ⟨_, rfl, ?_⟩; have n0_ := am (blk_below (g := gb240) (o := .cells #[.int .i64 ((rd_T131 l0 x17_1).f0), .int .i64 ((rd_T131 l0 x17_1).f1), .bool ((rd_T131 l0 x17_1).f2), .slice A239_3 ((rd_T131 l0 x17_1).f3).length c239_3] 131 (0, 0)) (by (with_reducible repeat (first | apply qa | apply qb | apply qc)); refine qf ?_ NB240_242.out _; (with_reducible repeat (first | apply qa | apply qb | apply qc)); refine qf ?_ NB240_242.out _; (with_reducible repeat (first | apply qa | apply qb | apply qc)); refine qf ?_ NB240_242.out _; (with_reducible repeat (first | apply qa | apply qb | apply qc)); refine qf ?_ NB240_242.out _; (with_reducible repeat (first | apply qa | apply qb | apply qc)); exact BK240.out) hb); have n1_ := am (blk_below (g := gb242) (o := .cells #[.int .i64 ((rd_T131 l1 x17_1).f0), .int .i64 ((rd_T131 l1 x17_1).f1), .bool ((rd_T131 l1 x17_1).f2), .slice A241_3 ((rd_T131 l1 x17_1).f3).length c241_3] 131 (0, 0)) (by (with_reducible repeat (first | apply qa | apply qb | apply qc)); refine blk_put (cs := #[.int .i64 ((rd_T131 l1 x17_1).f0), .int .i64 ((rd_T131 l1 x17_1).f1), .bool ((rd_T131 l1 x17_1).f2), .slice none 0 0]) ?_ 3 _ rfl; (with_reducible repeat (first | apply qa | apply qb | apply qc)); refine blk_put (cs := #[.int .i64 ((rd_T131 l1 x17_1).f0), .int .i64 ((rd_T131 l1 x17_1).f1), .bool false, .slice none 0 0]) ?_ 2 _ rfl; (with_reducible repeat (first | apply qa | apply qb | apply qc)); refine blk_put (cs := #[.int .i64 ((rd_T131 l1 x17_1).f0), .int .i64 0, .bool false, .slice none 0 0]) ?_ 1 _ rfl; (with_reducible repeat (first | apply qa | apply qb | apply qc)); refine blk_put (cs := #[.int .i64 0, .int .i64 0, .bool false, .slice none 0 0]) ?_ 0 _ rfl; (with_reducible repeat (first | apply qa | apply qb | apply qc)); exact BK242.out) hb); have n2_ := am (below_step (by repeat (first | (with_reducible first | exact HB.out | apply pa | apply pb | apply pc | refine below_set ?_ GE240.out | refine below_set ?_ GE242.out) | exact HB.out)) hb); clear BK240; clear BK242; clear HB; have BK240 := n0_; have BK242 := n1_; have HB := n2_; clear n0_ n1_ n2_; (try clear hb); (try clear hb2); (try clear hk); (try clear hi)))
                  go_ret
                  exact ⟨by first | rfl | (simp [errW_none, errW_some] <;> rfl) | (simp [*, errW_none, errW_some] <;> rfl), by repeat (first | (with_reducible first | exact HB.out | apply pa | apply pb | apply pc | refine below_set ?_ GE240.out | refine below_set ?_ GE242.out) | exact HB.out)⟩
              · rw [if_neg c8] at H
                exact absurd H (by simp)
            · rw [if_neg c7] at H
              exact absurd H (by simp)
          · rw [if_neg c6] at H
            exact absurd H (by simp)
        · rw [if_neg c5] at H
          have c5b0 : decide (x17_1 < (l0.length : Int)) = false := decide_eq_false c5
          clear c5
          obtain rfl := Option.some.inj H
          go_wp2
          go_ret
          exact ⟨by first | rfl | (simp [errW_none, errW_some] <;> rfl) | (simp [*, errW_none, errW_some] <;> rfl), by repeat (first | (with_reducible first | exact HB.out | apply pa | apply pb | apply pc) | exact HB.out)⟩
  · rw [if_neg c4] at H
    have c4b0 : ((l0.length : Int) == (l1.length : Int)) = false := beq_eq_false_iff_ne.mpr c4
    have c4b1 : ((l0.length : Int) != (l1.length : Int)) = true := bne_iff_ne.mpr c4
    have c4b2 : (l0.length == l1.length) = false := by first | simpa using c4 | (simp at c4 ⊢; omega)
    obtain rfl := Option.some.inj H
    go_enter Try.func95, Try.ntmps95
    go_wp2
    go_ret
    exact ⟨by first | rfl | (simp [errW_none, errW_some] <;> rfl) | (simp [*, errW_none, errW_some] <;> rfl), by repeat (first | (with_reducible first | exact HB.out | apply pa | apply pb | apply pc) | exact HB.out)⟩
def impl_ProgSame_1.f (k : Nat) (l0 : List (S131)) (l1 : List (S131)) : Option (Bool) := (impl_Type_95.f k l0 l1).bind fun t244 => (some t244)
set_option maxHeartbeats 8000000 in
set_option maxRecDepth 100000 in
theorem impl_ProgSame_1.calls (k : Nat) (A0 : Option Addr) (c0 : Nat) (l0 : List (S131)) (A1 : Option Addr) (c1 : Nat) (l1 : List (S131)) (r : Bool) (w : World) (hr0 : Kd.C k131 w A0 l0.length l0) (hc0 : l0.length ≤ c0) (hr1 : Kd.C k131 w A1 l1.length l1) (hc1 : l1.length ≤ c1) (h : impl_ProgSame_1.f k l0 l1 = some r) :
    Calls Try.prog 94 #[.slice A0 l0.length c0, .slice A1 l1.length c1] w fun e w' => e = .returned (.bool r) ∧ Below w.heap.size w w' := by
  have HR0 := am hr0
  have HC0 := am hc0
  clear hr0 hc0
  have HR1 := am hr1
  have HC1 := am hc1
  clear hr1 hc1
  have HB := am (Below.refl w.heap.size w)
  have H : ((impl_Type_95.f k l0 l1).bind fun t244 => (some t244)) = some r := h
  clear h
  replace H := Option.bind_eq_some_iff.mp H
  obtain ⟨t244, A30, H⟩ := H
  replace H : (some t244) = some r := H
  have A3 := am A30
  clear A30
  obtain rfl := Option.some.inj H
  go_enter Try.func94, Try.ntmps94
  go_wp2_with (first | ((with_reducible refine gate_callee (f := 95) rfl ?_); refine goesL_ (some 7) rfl rfl Try.func95 (by kernel_rfl) rfl #[.slice A0 l0.length c0, .slice A1 l1.length c1, Value.func (Fn.func 96) #[] #[]] rfl (by (try simp only [List.map_toArray, List.map_cons, List.map_nil]); first | done | rfl | (simp only [List.length_drop, List.length_take]; rfl)) ?_; (with_reducible refine (impl_Type_95.calls k _ _ l0 _ _ l1 t244 _ ?side1 ?side2 ?side3 ?side4 A3.out).mono ?_); (case side1 => repeat (first | exact HR0.out | (with_reducible refine Kd.C_alloc ?_ _) | (with_reducible refine Kd.C_drewN ?_ _) | (with_reducible refine Kd.C_drew ?_))); (case side2 => exact HC0.out); (case side3 => repeat (first | exact HR1.out | (with_reducible refine Kd.C_alloc ?_ _) | (with_reducible refine Kd.C_drewN ?_ _) | (with_reducible refine Kd.C_drew ?_))); (case side4 => exact HC1.out); rintro e w4 ⟨rfl, hb⟩; refine ⟨_, rfl, ?_⟩; have n0_ := am (below_step HB.out hb); clear HB; have HB := n0_; clear n0_; (try clear hb); (try clear hb2); (try clear hk); (try clear hi)))
  go_ret
  exact ⟨by first | rfl | (simp [errW_none, errW_some] <;> rfl) | (simp [*, errW_none, errW_some] <;> rfl), by repeat (first | (with_reducible first | exact HB.out | apply pa | apply pb | apply pc) | exact HB.out)⟩
def impl_Type_97.l0 : Nat → List (List (S131)) → List (List (S131)) → Int → Int → Option (Bool)
  | 0, _, _, _, _ => none
  | k + 1, x1, x15, x16, x17 => if x17 < x16 then (if 0 ≤ x17 then (if x17 < (x15.length : Int) then (if x17 < (x1.length : Int) then ((impl_ProgSame_1.f k (rd_L13 x15 x17) (rd_L13 x1 x17)).bind fun t247 => (if t247 = true then (impl_Type_97.l0 k x1 x15 x16 (wrap64 (x17 + 1))) else (some false))) else (none)) else (none)) else (none)) else (some true)
def impl_Type_97.f (k : Nat) (l0 : List (List (S131))) (l1 : List (List (S131)))  : Option (Bool) := if (l0.length : Int) = (l1.length : Int) then (impl_Type_97.l0 k l1 l0 (l0.length : Int) 0) else (some false)
set_option maxHeartbeats 8000000 in
set_option maxRecDepth 100000 in
theorem impl_Type_97.calls (k : Nat) (A0 : Option Addr) (c0 : Nat) (l0 : List (List (S131))) (A1 : Option Addr) (c1 : Nat) (l1 : List (List (S131)))  (r : Bool) (w : World) (hr0 : Kd.C (Kd.slice 131 k131) w A0 l0.length l0) (hc0 : l0.length ≤ c0) (hr1 : Kd.C (Kd.slice 131 k131) w A1 l1.length l1) (hc1 : l1.length ≤ c1) (h : impl_Type_97.f k l0 l1 = some r) :
    Calls Try.prog 97 #[.slice A0 l0.length c0, .slice A1 l1.length c1, Value.func (Fn.func 94) #[] #[]] w fun e w' => e = .returned (.bool r) ∧ Below w.heap.size w w' := by
  have HR0 := am hr0
  have HC0 := am hc0
  clear hr0 hc0
  have HR1 := am hr1
  have HC1 := am hc1
  clear hr1 hc1
  have HB := am (Below.refl w.heap.size w)
  have H : (if (l0.length : Int) = (l1.length : Int) then (impl_Type_97.l0 k l1 l0 (l0.length : Int) 0) else (some false)) = some r := h
  clear h
  by_cases c4 : (l0.length : Int) = (l1.length : Int)
  · rw [if_pos c4] at H
    have c4b0 : ((l0.length : Int) == (l1.length : Int)) = true := beq_iff_eq.mpr c4
    have c4b1 : ((l0.length : Int) != (l1.length : Int)) = false := bne_eq_false_iff_eq.mpr c4
    have c4b2 : (l0.length == l1.length) = true := by first | simpa using c4 | (simp at c4 ⊢; omega)
    clear c4
    have H' := am H
    clear H
    go_enter Try.func97, Try.ntmps97
    go_wp2
    go_loopg [17] k (fun kq v17 w' => ∃ (x17_1 : Int), v17 = .int .i64 x17_1 ∧ Aside0 (impl_Type_97.l0 kq l1 l0 (l0.length : Int) x17_1 = some r) ∧ Aside0 (kq ≤ k) ∧ Aside0 (Below w.heap.size w w'))
    case atStart => exact ⟨(0), (by first | rfl | (simp; done) | (simp [*]; done)), H', ⟨Nat.le_refl _⟩, ⟨by repeat (first | (with_reducible first | exact HB.out | apply pa | apply pb | apply pc) | exact HB.out)⟩⟩
    case round =>
      clear H'
      try clear c1
      try clear p2
      try clear c4
      try clear c4b0
      try clear c4b1
      try clear c4b2
      obtain ⟨x17_1, rfl, HA, HK1, HB⟩ := hrel
      cases gk with
      | zero => exact absurd HA.out (by simp [impl_Type_97.l0])
      | succ k1 =>
        have H := HA.out
        clear HA
        simp only [impl_Type_97.l0] at H
        by_cases c5 : x17_1 < (l0.length : Int)
        · rw [if_pos c5] at H
          have c5b0 : decide (x17_1 < (l0.length : Int)) = true := decide_eq_true c5
          clear c5
          by_cases c6 : 0 ≤ x17_1
          · rw [if_pos c6] at H
            have c6b0 : decide (0 ≤ x17_1) = true := decide_eq_true c6
            clear c6
            by_cases c7 : x17_1 < (l0.length : Int)
            · rw [if_pos c7] at H
              have c7b0 : decide (x17_1 < (l0.length : Int)) = true := decide_eq_true c7
              clear c7
              by_cases c8 : x17_1 < (l1.length : Int)
              · rw [if_pos c8] at H
                have c8b0 : decide (x17_1 < (l1.length : Int)) = true := decide_eq_true c8
                clear c8
                replace H := Option.bind_eq_some_iff.mp H
                obtain ⟨t247, A90, H⟩ := H
                replace H : (if t247 = true then (impl_Type_97.l0 k1 l1 l0 (l0.length : Int) (wrap64 (x17_1 + 1))) else (some false)) = some r := H
                have A9 := am A90
                clear A90
                by_cases c10 : t247 = true
                · subst c10
                  have H1 : (impl_Type_97.l0 k1 l1 l0 (l0.length : Int) (wrap64 (x17_1 + 1))) = some r := by rw [if_pos rfl] at H; exact H
                  clear H
                  have H := H1
                  clear H1
                  have H' := am H
                  clear H
                  have p245 : 0 ≤ (x17_1 : Int) := od (by assumption)
                  have q245 : x17_1 < (l0.length : Int) := od (by assumption)
                  obtain ⟨ad245, A245_0, c245_0, e245, hx245_0, hl245_0, hi245_0⟩ := at_L13 HR0.out x17_1 p245 q245
                  cases e245
                  replace hx245_0 := (HB.out.cell (World.block_lt_of_cell? w _ hx245_0)).trans hx245_0
                  have HR245_0 := am hi245_0
                  have HC245_0 := am hl245_0
                  clear hi245_0 hl245_0
                  replace p245 := eq_true p245
                  replace q245 := eq_true q245
                  have p246 : 0 ≤ (x17_1 : Int) := od (by assumption)
                  have q246 : x17_1 < (l1.length : Int) := od (by assumption)
                  obtain ⟨ad246, A246_0, c246_0, e246, hx246_0, hl246_0, hi246_0⟩ := at_L13 HR1.out x17_1 p246 q246
                  cases e246
                  replace hx246_0 := (HB.out.cell (World.block_lt_of_cell? w _ hx246_0)).trans hx246_0
                  have HR246_0 := am hi246_0
                  have HC246_0 := am hl246_0
                  clear hi246_0 hl246_0
                  replace p246 := eq_true p246
                  replace q246 := eq_true q246
                  go_wp2_with (first | (go_at_call 94; (with_reducible refine (impl_ProgSame_1.calls k1 _ _ (rd_L13 l0 x17_1) _ _ (rd_L13 l1 x17_1) true _ ?side1 ?side2 ?side3 ?side4 A9.out).mono ?_); (case side1 => exact Kd.C_below HR245_0.out HB.out); (case side2 => exact HC245_0.out); (case side3 => exact Kd.C_below HR246_0.out HB.out); (case side4 => exact HC246_0.out); rintro e w11 ⟨rfl, hb⟩; have n0_ := am (below_step HB.out hb); clear HB; have HB := n0_; clear n0_; (try clear hb); (try clear hb2); (try clear hk); (try clear hi)))
                  go_roundg k1
                  case measure => have := HK1.out; omega
                  case rel => exact ⟨(wrap64 (x17_1 + 1)), (by first | rfl | (simp; done) | (simp [*]; done)), H', ⟨by have := HK1.out; omega⟩, ⟨by repeat (first | (with_reducible first | exact HB.out | apply pa | apply pb | apply pc) | exact HB.out)⟩⟩
                · replace c10 := Bool.eq_false_iff.mpr c10
                  subst c10
                  have H1 : (some false) = some r := by rw [if_neg (show ¬ (false = true) by decide)] at H; exact H
                  clear H
                  have H := H1
                  clear H1
                  obtain rfl := Option.some.inj H
                  have p245 : 0 ≤ (x17_1 : Int) := od (by assumption)
                  have q245 : x17_1 < (l0.length : Int) := od (by assumption)
                  obtain ⟨ad245, A245_0, c245_0, e245, hx245_0, hl245_0, hi245_0⟩ := at_L13 HR0.out x17_1 p245 q245
                  cases e245
                  replace hx245_0 := (HB.out.cell (World.block_lt_of_cell? w _ hx245_0)).trans hx245_0
                  have HR245_0 := am hi245_0
                  have HC245_0 := am hl245_0
                  clear hi245_0 hl245_0
                  replace p245 := eq_true p245
                  replace q245 := eq_true q245
                  have p246 : 0 ≤ (x17_1 : Int) := od (by assumption)
                  have q246 : x17_1 < (l1.length : Int) := od (by assumption)
                  obtain ⟨ad246, A246_0, c246_0, e246, hx246_0, hl246_0, hi246_0⟩ := at_L13 HR1.out x17_1 p246 q246
                  cases e246
                  replace hx246_0 := (HB.out.cell (World.block_lt_of_cell? w _ hx246_0)).trans hx246_0
                  have HR246_0 := am hi246_0
                  have HC246_0 := am hl246_0
                  clear hi246_0 hl246_0
                  replace p246 := eq_true p246
                  replace q246 := eq_true q246
                  go_wp2_with (first | (go_at_call 94; (with_reducible refine (impl_ProgSame_1.calls k1 _ _ (rd_L13 l0 x17_1) _ _ (rd_L13 l1 x17_1) false _ ?side1 ?side2 ?side3 ?side4 A9.out).mono ?_); (case side1 => exact Kd.C_below HR245_0.out HB.out); (case side2 => exact HC245_0.out); (case side3 => exact Kd.C_below HR246_0.out HB.out); (case side4 => exact HC246_0.out); rintro e w12 ⟨rfl, hb⟩; have n0_ := am (below_step HB.out hb); clear HB; have HB := n0_; clear n0_; (try clear hb); (try clear hb2); (try clear hk); (try clear hi)))
                  go_ret
                  exact ⟨by first | rfl | (simp [errW_none, errW_some] <;> rfl) | (simp [*, errW_none, errW_some] <;> rfl), by repeat (first | (with_reducible first | exact HB.out | apply pa | apply pb | apply pc) | exact HB.out)⟩
              · rw [if_neg c8] at H
                exact absurd H (by simp)
            · rw [if_neg c7] at H
              exact absurd H (by simp)
          · rw [if_neg c6] at H
            exact absurd H (by simp)
        · rw [if_neg c5] at H
          have c5b0 : decide (x17_1 < (l0.length : Int)) = false := decide_eq_false c5
          clear c5
          obtain rfl := Option.some.inj H
          go_wp2
          go_ret
          exact ⟨by first | rfl | (simp [errW_none, errW_some] <;> rfl) | (simp [*, errW_none, errW_some] <;> rfl), by repeat (first | (with_reducible first | exact HB.out | apply pa | apply pb | apply pc) | exact HB.out)⟩
  · rw [if_neg c4] at H
    have c4b0 : ((l0.length : Int) == (l1.length : Int)) = false := beq_eq_false_iff_ne.mpr c4
    have c4b1 : ((l0.length : Int) != (l1.length : Int)) = true := bne_iff_ne.mpr c4
    have c4b2 : (l0.length == l1.length) = false := by first | simpa using c4 | (simp at c4 ⊢; omega)
    obtain rfl := Option.some.inj H
    go_enter Try.func97, Try.ntmps97
    go_wp2
    go_ret
    exact ⟨by first | rfl | (simp [errW_none, errW_some] <;> rfl) | (simp [*, errW_none, errW_some] <;> rfl), by repeat (first | (with_reducible first | exact HB.out | apply pa | apply pb | apply pc) | exact HB.out)⟩
def impl_Ins.l0 : Nat → List (S26) → List (S26) → Int → Int → Option (Bool)
  | 0, _, _, _, _ => none
  | k + 1, x0, x1, x12, x13 => if x13 < x12 then (if 0 ≤ x13 then (if x13 < (x0.length : Int) then (if x13 < (x1.length : Int) then (if (!(((rd_T26 x0 x13).f0) == ((rd_T26 x1 x13).f0)) || (!(((rd_T26 x0 x13).f1) == ((rd_T26 x1 x13).f1)) || (!(((rd_T26 x0 x13).f2) == ((rd_T26 x1 x13).f2))))) = true then (some false) else (impl_Ins.l0 k x0 x1 x12 (wrap64 (x13 + 1)))) else (none)) else (none)) else (none)) else (some true)
def impl_Ins.f (k : Nat) (l0 : List (S26)) (l1 : List (S26)) : Option (Bool) := if (l0.length : Int) = (l1.length : Int) then (impl_Ins.l0 k l0 l1 (l0.length : Int) 0) else (some false)
set_option maxHeartbeats 8000000 in
set_option maxRecDepth 100000 in
theorem impl_Ins.calls (k : Nat) (A0 : Option Addr) (c0 : Nat) (l0 : List (S26)) (A1 : Option Addr) (c1 : Nat) (l1 : List (S26)) (r : Bool) (w : World) (hr0 : Kd.C k26 w A0 l0.length l0) (hc0 : l0.length ≤ c0) (hr1 : Kd.C k26 w A1 l1.length l1) (hc1 : l1.length ≤ c1) (h : impl_Ins.f k l0 l1 = some r) :
    Calls Try.prog 122 #[.slice A0 l0.length c0, .slice A1 l1.length c1] w fun e w' => e = .returned (.bool r) ∧ Drawn0 w w' := by
  have hu26 := Try.underlying26
  have HR0 := am hr0
  have HC0 := am hc0
  clear hr0 hc0
  have HR1 := am hr1
  have HC1 := am hc1
  clear hr1 hc1
  have H : (if (l0.length : Int) = (l1.length : Int) then (impl_Ins.l0 k l0 l1 (l0.length : Int) 0) else (some false)) = some r := h
  clear h
  by_cases c3 : (l0.length : Int) = (l1.length : Int)
  · rw [if_pos c3] at H
    have c3b0 : ((l0.length : Int) == (l1.length : Int)) = true := beq_iff_eq.mpr c3
    have c3b1 : ((l0.length : Int) != (l1.length : Int)) = false := bne_eq_false_iff_eq.mpr c3
    have c3b2 : (l0.length == l1.length) = true := by first | simpa using c3 | (simp at c3 ⊢; omega)
    clear c3
    have H' := am H
    clear H
    go_enter Try.func122, Try.ntmps122
    go_wp2
    repeat (go_quiet (fail); try go_wp2)
    go_loopg [13] k (fun kq v13 w' => ∃ (x13_1 : Int), v13 = .int .i64 x13_1 ∧ Aside0 (impl_Ins.l0 kq l0 l1 (l0.length : Int) x13_1 = some r) ∧ Aside0 (kq ≤ k) ∧ Drawn0 w w')
    case atStart => exact ⟨(0), (by first | rfl | (simp; done) | (simp [*]; done)), H', ⟨Nat.le_refl _⟩, by repeat (first | exact Drawn0.refl _ | apply Drawn0.step)⟩
    case round =>
      clear H'
      try clear c1
      try clear p2
      try clear c3
      try clear c3b0
      try clear c3b1
      try clear c3b2
      obtain ⟨x13_1, rfl, HA, HK1, ⟨m1, rfl⟩⟩ := hrel
      cases gk with
      | zero => exact absurd HA.out (by simp [impl_Ins.l0])
      | succ k1 =>
        have H := HA.out
        clear HA
        simp only [impl_Ins.l0] at H
        by_cases c4 : x13_1 < (l0.length : Int)
        · rw [if_pos c4] at H
          have c4b0 : decide (x13_1 < (l0.length : Int)) = true := decide_eq_true c4
          clear c4
          by_cases c5 : 0 ≤ x13_1
          · rw [if_pos c5] at H
            have c5b0 : decide (0 ≤ x13_1) = true := decide_eq_true c5
            clear c5
            by_cases c6 : x13_1 < (l0.length : Int)
            · rw [if_pos c6] at H
              have c6b0 : decide (x13_1 < (l0.length : Int)) = true := decide_eq_true c6
              clear c6
              by_cases c7 : x13_1 < (l1.length : Int)
              · rw [if_pos c7] at H
                have c7b0 : decide (x13_1 < (l1.length : Int)) = true := decide_eq_true c7
                clear c7
                by_cases c8 : (!(((rd_T26 l0 x13_1).f0) == ((rd_T26 l1 x13_1).f0)) || (!(((rd_T26 l0 x13_1).f1) == ((rd_T26 l1 x13_1).f1)) || (!(((rd_T26 l0 x13_1).f2) == ((rd_T26 l1 x13_1).f2))))) = true
                · rw [if_pos c8] at H
                  have c8b0 : (!(((rd_T26 l0 x13_1).f0) == ((rd_T26 l1 x13_1).f0)) || (!(((rd_T26 l0 x13_1).f1) == ((rd_T26 l1 x13_1).f1)) || (!(((rd_T26 l0 x13_1).f2) == ((rd_T26 l1 x13_1).f2))))) = true := c8
                  clear c8
                  obtain rfl := Option.some.inj H
                  have p248 : 0 ≤ (x13_1 : Int) := od (by assumption)
                  have q248 : x13_1 < (l0.length : Int) := od (by assumption)
                  obtain ⟨ad248, e248, hx248_0, hx248_1, hx248_2⟩ := at_T26 HR0.out x13_1 p248 q248
                  cases e248
                  replace p248 := eq_true p248
                  replace q248 := eq_true q248
                  have p249 : 0 ≤ (x13_1 : Int) := od (by assumption)
                  have q249 : x13_1 < (l1.length : Int) := od (by assumption)
                  obtain ⟨ad249, e249, hx249_0, hx249_1, hx249_2⟩ := at_T26 HR1.out x13_1 p249 q249
                  cases e249
                  replace p249 := eq_true p249
                  replace q249 := eq_true q249
                  go_wp2
                  repeat (go_quiet (fail); try go_wp2)
                  go_ret
                  exact ⟨by first | rfl | (simp; done) | (simp [*]; done), by repeat (first | exact Drawn0.refl _ | apply Drawn0.step)⟩
                · rw [if_neg c8] at H
                  have c8b0 : (!(((rd_T26 l0 x13_1).f0) == ((rd_T26 l1 x13_1).f0)) || (!(((rd_T26 l0 x13_1).f1) == ((rd_T26 l1 x13_1).f1)) || (!(((rd_T26 l0 x13_1).f2) == ((rd_T26 l1 x13_1).f2))))) = false := by simpa using c8
                  clear c8
                  have H' := am H
                  clear H
                  have p248 : 0 ≤ (x13_1 : Int) := od (by assumption)
                  have q248 : x13_1 < (l0.length : Int) := od (by assumption)
                  obtain ⟨ad248, e248, hx248_0, hx248_1, hx248_2⟩ := at_T26 HR0.out x13_1 p248 q248
                  cases e248
                  replace p248 := eq_true p248
                  replace q248 := eq_true q248
                  have p249 : 0 ≤ (x13_1 : Int) := od (by assumption)
                  have q249 : x13_1 < (l1.length : Int) := od (by assumption)
                  obtain ⟨ad249, e249, hx249_0, hx249_1, hx249_2⟩ := at_T26 HR1.out x13_1 p249 q249
                  cases e249
                  replace p249 := eq_true p249
                  replace q249 := eq_true q249
                  go_wp2
                  repeat (go_quiet (fail); try go_wp2)
                  go_roundg k1
                  case measure => have := HK1.out; omega
                  case rel => exact ⟨(wrap64 (x13_1 + 1)), (by first | rfl | (simp; done) | (simp [*]; done)), H', ⟨by have := HK1.out; omega⟩, by repeat (first | exact Drawn0.refl _ | apply Drawn0.step)⟩
              · rw [if_neg c7] at H
                exact absurd H (by simp)
            · rw [if_neg c6] at H
              exact absurd H (by simp)
          · rw [if_neg c5] at H
            exact absurd H (by simp)
        · rw [if_neg c4] at H
          have c4b0 : decide (x13_1 < (l0.length : Int)) = false := decide_eq_false c4
          clear c4
          obtain rfl := Option.some.inj H
          go_wp2
          repeat (go_quiet (fail); try go_wp2)
          go_ret
          exact ⟨by first | rfl | (simp; done) | (simp [*]; done), by repeat (first | exact Drawn0.refl _ | apply Drawn0.step)⟩
  · rw [if_neg c3] at H
    have c3b0 : ((l0.length : Int) == (l1.length : Int)) = false := beq_eq_false_iff_ne.mpr c3
    have c3b1 : ((l0.length : Int) != (l1.length : Int)) = true := bne_iff_ne.mpr c3
    have c3b2 : (l0.length == l1.length) = false := by first | simpa using c3 | (simp at c3 ⊢; omega)
    obtain rfl := Option.some.inj H
    go_enter Try.func122, Try.ntmps122
    go_wp2
    repeat (go_quiet (fail); try go_wp2)
    go_ret
    exact ⟨by first | rfl | (simp; done) | (simp [*]; done), by repeat (first | exact Drawn0.refl _ | apply Drawn0.step)⟩
end Go.Proofs.Ytgbmfkfmimpaaaa.PFnExactProgSame
