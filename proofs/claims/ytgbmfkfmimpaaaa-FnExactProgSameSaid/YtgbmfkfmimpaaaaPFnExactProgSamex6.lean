/- Functions of the program as plain Lean functions, and that the machine's calls come to what these tell: by the kit's print, turned by this session (NOTES.md). No condition beyond each theorem's own. -/
import Derived.Test.YtgbmfkfmimpaaaaVFnExactProgSamea
import Derived.Test.YtgbmfkfmimpaaaaPFnExactProgSamex0
import Derived.Test.YtgbmfkfmimpaaaaPFnExactProgSamex2
import Derived.Test.YtgbmfkfmimpaaaaPFnExactProgSamex3
import Derived.Test.YtgbmfkfmimpaaaaPFnExactProgSamex4
import Derived.Test.YtgbmfkfmimpaaaaPFnExactProgSamex5
namespace Go.Proofs.Ytgbmfkfmimpaaaa.PFnExactProgSame
open Go.RowKit Go.Proofs.YtgbmfkfmimpaaaaW.PrintWords Go.Proofs.YtgbmfkfmimpaaaaW.PrintLast Go.Proofs.YtgbmfkfmimpaaaaW.PrintMore Go.Proofs.Ytgbmfkfmimpaaaa.Aid3
set_option linter.unusedVariables false
set_option linter.unusedSimpArgs false
attribute [local go_sem high] eqA36
mutual
def spec_ProgSame.j0 : Nat → Bool → List (List (S131)) → List (S36) → List (S124) → List (List (S131)) → List (S36) → List (S124) → Option (Bool)
  | 0, _, _, _, _, _, _, _ => none
  | k + 1, x32, x131000, x131001, x131002, x132000, x132001, x132002 => if x32 = true then (some false) else (spec_ProgSame.l0 k 0 x131000 x131001 x131002 x132000 x132001 x132002)
def spec_ProgSame.l0 : Nat → Int → List (List (S131)) → List (S36) → List (S124) → List (List (S131)) → List (S36) → List (S124) → Option (Bool)
  | 0, _, _, _, _, _, _, _ => none
  | k + 1, x5, x131000, x131001, x131002, x132000, x132001, x132002 => if x5 < (x131000.length : Int) then (if 0 ≤ x5 then (if x5 < (x132000.length : Int) then ((spec_l3Types.f k (rd_L13 x131000 x5) (rd_L13 x132000 x5)).bind fun t135 => (if t135 = true then (spec_ProgSame.l0 k (wrap64 (x5 + 1)) x131000 x131001 x131002 x132000 x132001 x132002) else (some false))) else (none)) else (none)) else (spec_ProgSame.l1 k 0 x131000 x131001 x131002 x132000 x132001 x132002)
def spec_ProgSame.l1 : Nat → Int → List (List (S131)) → List (S36) → List (S124) → List (List (S131)) → List (S36) → List (S124) → Option (Bool)
  | 0, _, _, _, _, _, _, _ => none
  | k + 1, x6, x131000, x131001, x131002, x132000, x132001, x132002 => if x6 < (x131002.length : Int) then (if 0 ≤ x6 then (if x6 < (x132002.length : Int) then (if (!(((rd_T124 x131002 x6).f1.f0) == ((rd_T124 x132002 x6).f1.f0)) || (!(((rd_T124 x131002 x6).f1.f1) == ((rd_T124 x132002 x6).f1.f1)) || (!(((rd_T124 x131002 x6).f1.f2) == ((rd_T124 x132002 x6).f1.f2))))) = true then (spec_ProgSame.j3 k x6 true x131000 x131001 x131002 x132000 x132001 x132002) else ((spec_l3Fields.f k ((rd_T124 x131002 x6).f0) ((rd_T124 x132002 x6).f0)).bind fun t140 => (if t140 = true then ((spec_l3Fields.f k ((rd_T124 x131002 x6).f2) ((rd_T124 x132002 x6).f2)).bind fun t141 => (if t141 = true then ((spec_l3Body.f k ((rd_T124 x131002 x6).f3) ((rd_T124 x132002 x6).f3)).bind fun t142 => (spec_ProgSame.j3 k x6 (!t142) x131000 x131001 x131002 x132000 x132001 x132002)) else (spec_ProgSame.j3 k x6 true x131000 x131001 x131002 x132000 x132001 x132002))) else (spec_ProgSame.j3 k x6 true x131000 x131001 x131002 x132000 x132001 x132002)))) else (none)) else (none)) else (some true)
def spec_ProgSame.j3 : Nat → Int → Bool → List (List (S131)) → List (S36) → List (S124) → List (List (S131)) → List (S36) → List (S124) → Option (Bool)
  | 0, _, _, _, _, _, _, _, _ => none
  | k + 1, x6, x97, x131000, x131001, x131002, x132000, x132001, x132002 => if x97 = true then (some false) else (spec_ProgSame.l1 k (wrap64 (x6 + 1)) x131000 x131001 x131002 x132000 x132001 x132002)
end
def spec_ProgSame.f (k : Nat) (l0_0 : List (List (S131))) (l0_1 : List (S36)) (l0_2 : List (S124)) (l1_0 : List (List (S131))) (l1_1 : List (S36)) (l1_2 : List (S124)) : Option (Bool) := if (l0_0.length : Int) = (l1_0.length : Int) then (if (l0_2.length : Int) = (l1_2.length : Int) then ((spec_l3Fields.f k l0_1 l1_1).bind fun t132 => (spec_ProgSame.j0 k (!t132) l0_0 l0_1 l0_2 l1_0 l1_1 l1_2)) else (spec_ProgSame.j0 k true l0_0 l0_1 l0_2 l1_0 l1_1 l1_2)) else (spec_ProgSame.j0 k true l0_0 l0_1 l0_2 l1_0 l1_1 l1_2)
def spec_ProgSame.T6 : Bool × List (List Nat × List Nat) := (true, [([], []), ([0], [0]), ([], []), ([1, 2], [1, 2]), ([3], [3]), ([], []), ([5], [5]), ([], []), ([6, 7], [6, 7]), ([8], [8]), ([4, 9], [4, 9]), ([10], [10])])
def spec_ProgSame.B6 : List Nat := [0, 1, 0, 7, 15, 0, 32, 0, 224, 480, 1023, 2047]
theorem spec_ProgSame.tab6 : rtab .any (opsOf Try.f52 6) = spec_ProgSame.T6 := by kernel_rfl
theorem spec_ProgSame.bits6 : waitsOk spec_ProgSame.T6.2 spec_ProgSame.B6 = true := by kernel_rfl
set_option maxHeartbeats 8000000 in
set_option maxRecDepth 100000 in
theorem spec_ProgSame.calls (k : Nat) (A0_0 : Option Addr) (c0_0 : Nat) (l0_0 : List (List (S131))) (A0_1 : Option Addr) (c0_1 : Nat) (l0_1 : List (S36)) (A0_2 : Option Addr) (c0_2 : Nat) (l0_2 : List (S124)) (A1_0 : Option Addr) (c1_0 : Nat) (l1_0 : List (List (S131))) (A1_1 : Option Addr) (c1_1 : Nat) (l1_1 : List (S36)) (A1_2 : Option Addr) (c1_2 : Nat) (l1_2 : List (S124)) (r : Bool) (w : World) (hr0_0 : Kd.C (Kd.slice 131 k131) w A0_0 l0_0.length l0_0) (hc0_0 : l0_0.length ≤ c0_0) (hr0_1 : Kd.C k36 w A0_1 l0_1.length l0_1) (hc0_1 : l0_1.length ≤ c0_1) (hr0_2 : Kd.C k124 w A0_2 l0_2.length l0_2) (hc0_2 : l0_2.length ≤ c0_2) (hr1_0 : Kd.C (Kd.slice 131 k131) w A1_0 l1_0.length l1_0) (hc1_0 : l1_0.length ≤ c1_0) (hr1_1 : Kd.C k36 w A1_1 l1_1.length l1_1) (hc1_1 : l1_1.length ≤ c1_1) (hr1_2 : Kd.C k124 w A1_2 l1_2.length l1_2) (hc1_2 : l1_2.length ≤ c1_2) (h : spec_ProgSame.f k l0_0 l0_1 l0_2 l1_0 l1_1 l1_2 = some r) :
    Calls Try.prog 52 #[.agg #[.slice A0_0 l0_0.length c0_0, .slice A0_1 l0_1.length c0_1, .slice A0_2 l0_2.length c0_2], .agg #[.slice A1_0 l1_0.length c1_0, .slice A1_1 l1_1.length c1_1, .slice A1_2 l1_2.length c1_2]] w fun e w' => e = .returned (.bool r) ∧ Below w.heap.size w w' := by
  have hu88 := Try.underlying88
  have hu124 := Try.underlying124
  have hu36 := Try.underlying36
  have HR0_0 := am hr0_0
  have HC0_0 := am hc0_0
  clear hr0_0 hc0_0
  have HR0_1 := am hr0_1
  have HC0_1 := am hc0_1
  clear hr0_1 hc0_1
  have HR0_2 := am hr0_2
  have HC0_2 := am hc0_2
  clear hr0_2 hc0_2
  have HR1_0 := am hr1_0
  have HC1_0 := am hc1_0
  clear hr1_0 hc1_0
  have HR1_1 := am hr1_1
  have HC1_1 := am hc1_1
  clear hr1_1 hc1_1
  have HR1_2 := am hr1_2
  have HC1_2 := am hc1_2
  clear hr1_2 hc1_2
  have HB := am (Below.refl w.heap.size w)
  have H : (if (l0_0.length : Int) = (l1_0.length : Int) then (if (l0_2.length : Int) = (l1_2.length : Int) then ((spec_l3Fields.f k l0_1 l1_1).bind fun t132 => (spec_ProgSame.j0 k (!t132) l0_0 l0_1 l0_2 l1_0 l1_1 l1_2)) else (spec_ProgSame.j0 k true l0_0 l0_1 l0_2 l1_0 l1_1 l1_2)) else (spec_ProgSame.j0 k true l0_0 l0_1 l0_2 l1_0 l1_1 l1_2)) = some r := h
  clear h
  have HC3 := am H
  clear H
  go_enter Try.func52, Try.ntmps52
  go_upto_region 1 with (first | ((with_reducible refine gate_dst (N := 2) rfl ?_); (try (refine gate_guard (by rfl) ?_; dsimp only)); refine box_event ?hg (N := 2) ?hd (cs := #[.slice A0_0 l0_0.length c0_0, .slice A0_1 l0_1.length c0_1, .slice A0_2 l0_2.length c0_2]) (t := 88) ?hr ?_; (case hd => rfl); (case hg => rfl); (case hr => first | (go_simp; done) | (go_simp; rfl)); intro gb130 hg w4 hbox hb; have n0_ := am (below_step (by repeat (first | (with_reducible first | exact HB.out | apply pa | apply pb | apply pc) | exact HB.out)) hb); have n1_ := am (hbox); have n2_ := am ((by rw [hg]; exact (below_size (by repeat (first | (with_reducible first | exact HB.out | apply pa | apply pb | apply pc) | exact HB.out))) : w.heap.size ≤ gb130)); have n3_ := am ((by rw [hg]; exact (below_size (by repeat (first | (with_reducible first | exact HB.out | apply pa | apply pb | apply pc) | exact HB.out))) : w.heap.size ≤ gb130)); clear HB; have HB := n0_; have BK130 := n1_; have GW130 := n2_; have GE130 := n3_; clear n0_ n1_ n2_ n3_; clear hb hbox hg) | ((with_reducible refine gate_dst (N := 3) rfl ?_); (try (refine gate_guard (by rfl) ?_; dsimp only)); refine box_event ?hg (N := 3) ?hd (cs := #[.slice A1_0 l1_0.length c1_0, .slice A1_1 l1_1.length c1_1, .slice A1_2 l1_2.length c1_2]) (t := 88) ?hr ?_; (case hd => rfl); (case hg => rfl); (case hr => first | (go_simp; done) | (go_simp; rfl)); intro gb131 hg w5 hbox hb; have n0_ := am (blk_below (g := gb130) (o := .cells #[.slice A0_0 l0_0.length c0_0, .slice A0_1 l0_1.length c0_1, .slice A0_2 l0_2.length c0_2] 88 (0, 0)) (by (with_reducible repeat (first | apply qa | apply qb | apply qc)); exact BK130.out) hb); have n1_ := am (below_step (by repeat (first | (with_reducible first | exact HB.out | apply pa | apply pb | apply pc | refine below_set ?_ GE130.out) | exact HB.out)) hb); have n2_ := am (hbox); have n3_ := am ((by rw [hg]; exact (below_size (by repeat (first | (with_reducible first | exact HB.out | apply pa | apply pb | apply pc | refine below_set ?_ GE130.out) | exact HB.out))) : w.heap.size ≤ gb131)); have n4_ := am ((by rw [hg]; exact (below_size (by repeat (first | (with_reducible first | exact HB.out | apply pa | apply pb | apply pc | refine below_set ?_ GE130.out) | exact HB.out))) : w.heap.size ≤ gb131)); have n5_ := am ((by rw [hg]; exact Nat.ne_of_lt (blk_lt (g := gb130) (o := .cells #[.slice A0_0 l0_0.length c0_0, .slice A0_1 l0_1.length c0_1, .slice A0_2 l0_2.length c0_2] 88 (0, 0)) (by (with_reducible repeat (first | apply qa | apply qb | apply qc)); exact BK130.out)) : gb130 ≠ gb131)); have n6_ := am ((by rw [hg]; exact Nat.ne_of_gt (blk_lt (g := gb130) (o := .cells #[.slice A0_0 l0_0.length c0_0, .slice A0_1 l0_1.length c0_1, .slice A0_2 l0_2.length c0_2] 88 (0, 0)) (by (with_reducible repeat (first | apply qa | apply qb | apply qc)); exact BK130.out)) : gb131 ≠ gb130)); clear BK130; clear HB; have BK130 := n0_; have HB := n1_; have BK131 := n2_; have GW131 := n3_; have GE131 := n4_; have NB130_131 := n5_; have NB131_130 := n6_; clear n0_ n1_ n2_ n3_ n4_ n5_ n6_; clear hb hbox hg))
  (try simp only [Act.put, List.setIfInBounds_toArray, List.set_cons_zero, List.set_cons_succ])
  go_cut [32] (fun v32 wc => ∃ (kq : Nat) (x32_2 : Bool), v32 = .bool x32_2 ∧ Aside0 (spec_ProgSame.j0 kq x32_2 l0_0 l0_1 l0_2 l1_0 l1_1 l1_2 = some r) ∧ Aside0 (kq ≤ k) ∧ Aside0 (wc.heap[gb130]? = some (.cells #[(.slice A0_0 l0_0.length c0_0), (.slice A0_1 l0_1.length c0_1), (.slice A0_2 l0_2.length c0_2)] 88 (0, 0))) ∧ Aside0 (wc.heap[gb131]? = some (.cells #[(.slice A1_0 l1_0.length c1_0), (.slice A1_1 l1_1.length c1_1), (.slice A1_2 l1_2.length c1_2)] 88 (0, 0))) ∧ Aside0 (Below w.heap.size w wc))
  case first =>
    have H := HC3.out
    clear HC3
    by_cases c6 : (l0_0.length : Int) = (l1_0.length : Int)
    · rw [if_pos c6] at H
      have c6b0 : ((l0_0.length : Int) == (l1_0.length : Int)) = true := beq_iff_eq.mpr c6
      have c6b1 : ((l0_0.length : Int) != (l1_0.length : Int)) = false := bne_eq_false_iff_eq.mpr c6
      have c6b2 : (l0_0.length == l1_0.length) = true := by first | simpa using c6 | (simp at c6 ⊢; omega)
      clear c6
      (first | rw [c6b0] | (simp only [i64_w, i32_w]; rw [c6b0]) | skip)
      by_cases c7 : (l0_2.length : Int) = (l1_2.length : Int)
      · rw [if_pos c7] at H
        have c7b0 : ((l0_2.length : Int) == (l1_2.length : Int)) = true := beq_iff_eq.mpr c7
        have c7b1 : ((l0_2.length : Int) != (l1_2.length : Int)) = false := bne_eq_false_iff_eq.mpr c7
        have c7b2 : (l0_2.length == l1_2.length) = true := by first | simpa using c7 | (simp at c7 ⊢; omega)
        clear c7
        replace H := Option.bind_eq_some_iff.mp H
        obtain ⟨t132, A80, H⟩ := H
        replace H : (spec_ProgSame.j0 k (!t132) l0_0 l0_1 l0_2 l1_0 l1_1 l1_2) = some r := H
        have A8 := am A80
        clear A80
        have H' := am H
        clear H
        have hnb9 := NB130_131.out
        have hnc9 := NB131_130.out
        have hcz10_0 := bc BK130.out 0 (.slice A0_0 l0_0.length c0_0) rfl
        have hcz10_1 := bc BK130.out 1 (.slice A0_1 l0_1.length c0_1) rfl
        have hcz10_2 := bc BK130.out 2 (.slice A0_2 l0_2.length c0_2) rfl
        have hfz10_0 := bf BK130.out 0
        have hfz10_1 := bf BK130.out 1
        have hfz10_2 := bf BK130.out 2
        have hcz11_0 := bc BK131.out 0 (.slice A1_0 l1_0.length c1_0) rfl
        have hcz11_1 := bc BK131.out 1 (.slice A1_1 l1_1.length c1_1) rfl
        have hcz11_2 := bc BK131.out 2 (.slice A1_2 l1_2.length c1_2) rfl
        have hfz11_0 := bf BK131.out 0
        have hfz11_1 := bf BK131.out 1
        have hfz11_2 := bf BK131.out 2
        go_wp2_with (first | (go_at_call 88; (with_reducible refine (spec_l3Fields.calls k _ _ l0_1 _ _ l1_1 t132 _ ?side1 ?side2 ?side3 ?side4 A8.out).mono ?_); (case side1 => repeat (first | exact (Kd.C_below HR0_1.out HB.out) | (with_reducible refine Kd.C_alloc ?_ _) | (with_reducible refine Kd.C_drewN ?_ _) | (with_reducible refine Kd.C_drew ?_))); (case side2 => exact HC0_1.out); (case side3 => repeat (first | exact (Kd.C_below HR1_1.out HB.out) | (with_reducible refine Kd.C_alloc ?_ _) | (with_reducible refine Kd.C_drewN ?_ _) | (with_reducible refine Kd.C_drew ?_))); (case side4 => exact HC1_1.out); rintro e w' ⟨rfl, ⟨nd, rfl⟩⟩))
        go_meet
        case rel => exact ⟨_, (!t132), (by first | rfl | (simp; done) | (simp [*]; done)), H', ⟨by first | omega | exact Nat.le_refl _⟩, ⟨by (with_reducible repeat (first | apply qa | apply qb | apply qc)); exact BK130.out⟩, ⟨by (with_reducible repeat (first | apply qa | apply qb | apply qc)); exact BK131.out⟩, ⟨by repeat (first | (with_reducible first | exact HB.out | apply pa | apply pb | apply pc | refine below_set ?_ GE130.out | refine below_set ?_ GE131.out) | exact HB.out)⟩⟩
      · rw [if_neg c7] at H
        have c7b0 : ((l0_2.length : Int) == (l1_2.length : Int)) = false := beq_eq_false_iff_ne.mpr c7
        have c7b1 : ((l0_2.length : Int) != (l1_2.length : Int)) = true := bne_iff_ne.mpr c7
        have c7b2 : (l0_2.length == l1_2.length) = false := by first | simpa using c7 | (simp at c7 ⊢; omega)
        have H' := am H
        clear H
        have hnb12 := NB130_131.out
        have hnc12 := NB131_130.out
        have hcz13_0 := bc BK130.out 0 (.slice A0_0 l0_0.length c0_0) rfl
        have hcz13_1 := bc BK130.out 1 (.slice A0_1 l0_1.length c0_1) rfl
        have hcz13_2 := bc BK130.out 2 (.slice A0_2 l0_2.length c0_2) rfl
        have hfz13_0 := bf BK130.out 0
        have hfz13_1 := bf BK130.out 1
        have hfz13_2 := bf BK130.out 2
        have hcz14_0 := bc BK131.out 0 (.slice A1_0 l1_0.length c1_0) rfl
        have hcz14_1 := bc BK131.out 1 (.slice A1_1 l1_1.length c1_1) rfl
        have hcz14_2 := bc BK131.out 2 (.slice A1_2 l1_2.length c1_2) rfl
        have hfz14_0 := bf BK131.out 0
        have hfz14_1 := bf BK131.out 1
        have hfz14_2 := bf BK131.out 2
        go_wp2
        go_meet
        case rel => exact ⟨_, (true), (by first | rfl | (simp; done) | (simp [*]; done)), H', ⟨by first | omega | exact Nat.le_refl _⟩, ⟨by (with_reducible repeat (first | apply qa | apply qb | apply qc)); exact BK130.out⟩, ⟨by (with_reducible repeat (first | apply qa | apply qb | apply qc)); exact BK131.out⟩, ⟨by repeat (first | (with_reducible first | exact HB.out | apply pa | apply pb | apply pc | refine below_set ?_ GE130.out | refine below_set ?_ GE131.out) | exact HB.out)⟩⟩
    · rw [if_neg c6] at H
      have c6b0 : ((l0_0.length : Int) == (l1_0.length : Int)) = false := beq_eq_false_iff_ne.mpr c6
      have c6b1 : ((l0_0.length : Int) != (l1_0.length : Int)) = true := bne_iff_ne.mpr c6
      have c6b2 : (l0_0.length == l1_0.length) = false := by first | simpa using c6 | (simp at c6 ⊢; omega)
      (first | rw [c6b0] | (simp only [i64_w, i32_w]; rw [c6b0]) | skip)
      have H' := am H
      clear H
      have hnb15 := NB130_131.out
      have hnc15 := NB131_130.out
      have hcz16_0 := bc BK130.out 0 (.slice A0_0 l0_0.length c0_0) rfl
      have hcz16_1 := bc BK130.out 1 (.slice A0_1 l0_1.length c0_1) rfl
      have hcz16_2 := bc BK130.out 2 (.slice A0_2 l0_2.length c0_2) rfl
      have hfz16_0 := bf BK130.out 0
      have hfz16_1 := bf BK130.out 1
      have hfz16_2 := bf BK130.out 2
      have hcz17_0 := bc BK131.out 0 (.slice A1_0 l1_0.length c1_0) rfl
      have hcz17_1 := bc BK131.out 1 (.slice A1_1 l1_1.length c1_1) rfl
      have hcz17_2 := bc BK131.out 2 (.slice A1_2 l1_2.length c1_2) rfl
      have hfz17_0 := bf BK131.out 0
      have hfz17_1 := bf BK131.out 1
      have hfz17_2 := bf BK131.out 2
      go_wp2
      go_meet
      case rel => exact ⟨_, (true), (by first | rfl | (simp; done) | (simp [*]; done)), H', ⟨by first | omega | exact Nat.le_refl _⟩, ⟨by (with_reducible repeat (first | apply qa | apply qb | apply qc)); exact BK130.out⟩, ⟨by (with_reducible repeat (first | apply qa | apply qb | apply qc)); exact BK131.out⟩, ⟨by repeat (first | (with_reducible first | exact HB.out | apply pa | apply pb | apply pc | refine below_set ?_ GE130.out | refine below_set ?_ GE131.out) | exact HB.out)⟩⟩
  case rest =>
    clear HC3
    try clear c1
    try clear p2
    try clear c5
    try clear c6
    try clear c6b0
    try clear c6b1
    try clear c6b2
    try clear c7
    try clear c7b0
    try clear c7b1
    try clear c7b2
    try clear c9
    try clear c12
    try clear c15
    try clear hcz10_0
    try clear hcz10_1
    try clear hcz10_2
    try clear hcz11_0
    try clear hcz11_1
    try clear hcz11_2
    try clear hcz13_0
    try clear hcz13_1
    try clear hcz13_2
    try clear hcz14_0
    try clear hcz14_1
    try clear hcz14_2
    try clear hcz16_0
    try clear hcz16_1
    try clear hcz16_2
    try clear hcz17_0
    try clear hcz17_1
    try clear hcz17_2
    try clear hfz10_0
    try clear hfz10_1
    try clear hfz10_2
    try clear hfz11_0
    try clear hfz11_1
    try clear hfz11_2
    try clear hfz13_0
    try clear hfz13_1
    try clear hfz13_2
    try clear hfz14_0
    try clear hfz14_1
    try clear hfz14_2
    try clear hfz16_0
    try clear hfz16_1
    try clear hfz16_2
    try clear hfz17_0
    try clear hfz17_1
    try clear hfz17_2
    obtain ⟨kq, x32_2, rfl, HA, HJ2, BK130, BK131, HB⟩ := hcut
    cases kq with
    | zero => exact absurd HA.out (by simp [spec_ProgSame.j0])
    | succ kj2 =>
      have H := HA.out
      clear HA
      simp only [spec_ProgSame.j0] at H
      by_cases c18 : x32_2 = true
      · subst c18
        have H1 : (some false) = some r := by rw [if_pos rfl] at H; exact H
        clear H
        have H := H1
        clear H1
        obtain rfl := Option.some.inj H
        go_wp2
        go_ret
        exact ⟨by first | rfl | (simp [errW_none, errW_some] <;> rfl) | (simp [*, errW_none, errW_some] <;> rfl), by repeat (first | (with_reducible first | exact HB.out | apply pa | apply pb | apply pc | refine below_set ?_ GE130.out | refine below_set ?_ GE131.out) | exact HB.out)⟩
      · replace c18 := Bool.eq_false_iff.mpr c18
        subst c18
        have H1 : (spec_ProgSame.l0 kj2 0 l0_0 l0_1 l0_2 l1_0 l1_1 l1_2) = some r := by rw [if_neg (show ¬ (false = true) by decide)] at H; exact H
        clear H
        have H := H1
        clear H1
        have H' := am H
        clear H
        go_wp2
        go_loopg [5] kj2 (fun kq v5 w' => ∃ (x5_2 : Int), v5 = .int .i64 x5_2 ∧ Aside0 (spec_ProgSame.l0 kq x5_2 l0_0 l0_1 l0_2 l1_0 l1_1 l1_2 = some r) ∧ Aside0 (kq ≤ kj2) ∧ Aside0 (w'.heap[gb130]? = some (.cells #[(.slice A0_0 l0_0.length c0_0), (.slice A0_1 l0_1.length c0_1), (.slice A0_2 l0_2.length c0_2)] 88 (0, 0))) ∧ Aside0 (w'.heap[gb131]? = some (.cells #[(.slice A1_0 l1_0.length c1_0), (.slice A1_1 l1_1.length c1_1), (.slice A1_2 l1_2.length c1_2)] 88 (0, 0))) ∧ Aside0 (Below w.heap.size w w'))
        case atStart => exact ⟨(0), (by first | rfl | (simp; done) | (simp [*]; done)), H', ⟨Nat.le_refl _⟩, ⟨by (with_reducible repeat (first | apply qa | apply qb | apply qc)); exact BK130.out⟩, ⟨by (with_reducible repeat (first | apply qa | apply qb | apply qc)); exact BK131.out⟩, ⟨by repeat (first | (with_reducible first | exact HB.out | apply pa | apply pb | apply pc | refine below_set ?_ GE130.out | refine below_set ?_ GE131.out) | exact HB.out)⟩⟩
        case round =>
          clear H'
          try clear c1
          try clear p2
          try clear c5
          try clear c6
          try clear c6b0
          try clear c6b1
          try clear c6b2
          try clear c7
          try clear c7b0
          try clear c7b1
          try clear c7b2
          try clear c9
          try clear c12
          try clear c15
          try clear c18
          try clear hcz10_0
          try clear hcz10_1
          try clear hcz10_2
          try clear hcz11_0
          try clear hcz11_1
          try clear hcz11_2
          try clear hcz13_0
          try clear hcz13_1
          try clear hcz13_2
          try clear hcz14_0
          try clear hcz14_1
          try clear hcz14_2
          try clear hcz16_0
          try clear hcz16_1
          try clear hcz16_2
          try clear hcz17_0
          try clear hcz17_1
          try clear hcz17_2
          try clear hfz10_0
          try clear hfz10_1
          try clear hfz10_2
          try clear hfz11_0
          try clear hfz11_1
          try clear hfz11_2
          try clear hfz13_0
          try clear hfz13_1
          try clear hfz13_2
          try clear hfz14_0
          try clear hfz14_1
          try clear hfz14_2
          try clear hfz16_0
          try clear hfz16_1
          try clear hfz16_2
          try clear hfz17_0
          try clear hfz17_1
          try clear hfz17_2
          try clear p2
          obtain ⟨x5_2, rfl, HA, HK2, BK130, BK131, HB⟩ := hrel
          cases gk with
          | zero => exact absurd HA.out (by simp [spec_ProgSame.l0])
          | succ k2 =>
            have H := HA.out
            clear HA
            simp only [spec_ProgSame.l0] at H
            by_cases c19 : x5_2 < (l0_0.length : Int)
            · rw [if_pos c19] at H
              have c19b0 : decide (x5_2 < (l0_0.length : Int)) = true := decide_eq_true c19
              clear c19
              by_cases c20 : 0 ≤ x5_2
              · rw [if_pos c20] at H
                have c20b0 : decide (0 ≤ x5_2) = true := decide_eq_true c20
                clear c20
                by_cases c21 : x5_2 < (l1_0.length : Int)
                · rw [if_pos c21] at H
                  have c21b0 : decide (x5_2 < (l1_0.length : Int)) = true := decide_eq_true c21
                  clear c21
                  replace H := Option.bind_eq_some_iff.mp H
                  obtain ⟨t135, A220, H⟩ := H
                  replace H : (if t135 = true then (spec_ProgSame.l0 k2 (wrap64 (x5_2 + 1)) l0_0 l0_1 l0_2 l1_0 l1_1 l1_2) else (some false)) = some r := H
                  have A22 := am A220
                  clear A220
                  by_cases c23 : t135 = true
                  · subst c23
                    have H1 : (spec_ProgSame.l0 k2 (wrap64 (x5_2 + 1)) l0_0 l0_1 l0_2 l1_0 l1_1 l1_2) = some r := by rw [if_pos rfl] at H; exact H
                    clear H
                    have H := H1
                    clear H1
                    have H' := am H
                    clear H
                    have hnb24 := NB130_131.out
                    have hnc24 := NB131_130.out
                    have hcz25_0 := bc BK130.out 0 (.slice A0_0 l0_0.length c0_0) rfl
                    have hcz25_1 := bc BK130.out 1 (.slice A0_1 l0_1.length c0_1) rfl
                    have hcz25_2 := bc BK130.out 2 (.slice A0_2 l0_2.length c0_2) rfl
                    have hfz25_0 := bf BK130.out 0
                    have hfz25_1 := bf BK130.out 1
                    have hfz25_2 := bf BK130.out 2
                    try go_wp2
                    have n0_ := am (blk_drew BK130.out)
                    have n1_ := am (blk_drew BK131.out)
                    have n2_ := am (below_drew1 HB.out)
                    clear BK130
                    clear BK131
                    clear HB
                    have BK130 := n0_
                    have BK131 := n1_
                    have HB := n2_
                    clear n0_ n1_ n2_
                    have p133 : 0 ≤ (x5_2 : Int) := od (by assumption)
                    have q133 : x5_2 < (l0_0.length : Int) := od (by assumption)
                    obtain ⟨ad133, A133_0, c133_0, e133, hx133_0, hl133_0, hi133_0⟩ := at_L13 HR0_0.out x5_2 p133 q133
                    have hw133_0 := hx133_0
                    cases e133
                    replace hx133_0 := (HB.out.cell (World.block_lt_of_cell? w _ hx133_0)).trans hx133_0
                    have HR133_0 := am hi133_0
                    have HC133_0 := am hl133_0
                    clear hi133_0 hl133_0
                    replace p133 := eq_true p133
                    replace q133 := eq_true q133
                    have p134 : 0 ≤ (x5_2 : Int) := od (by assumption)
                    have q134 : x5_2 < (l1_0.length : Int) := od (by assumption)
                    obtain ⟨ad134, A134_0, c134_0, e134, hx134_0, hl134_0, hi134_0⟩ := at_L13 HR1_0.out x5_2 p134 q134
                    have hw134_0 := hx134_0
                    cases e134
                    replace hx134_0 := (HB.out.cell (World.block_lt_of_cell? w _ hx134_0)).trans hx134_0
                    have HR134_0 := am hi134_0
                    have HC134_0 := am hl134_0
                    clear hi134_0 hl134_0
                    replace p134 := eq_true p134
                    replace q134 := eq_true q134
                    refine start_ (n := 12) (S := fun w' => w'.cell? ⟨gb130, 0, none⟩ = some (.slice (some ad133) l0_0.length c0_0) ∧ w'.cell? ⟨gb130, 1, none⟩ = some (.slice A0_1 l0_1.length c0_1) ∧ w'.cell? ⟨gb130, 2, none⟩ = some (.slice A0_2 l0_2.length c0_2) ∧ w'.cell? ⟨gb131, 0, none⟩ = some (.slice (some ad134) l1_0.length c1_0) ∧ w'.cell? ⟨gb131, 1, none⟩ = some (.slice A1_1 l1_1.length c1_1) ∧ w'.cell? ⟨gb131, 2, none⟩ = some (.slice A1_2 l1_2.length c1_2) ∧ w'.cell? (ad133.add (x5_2).toNat) = some (.slice A133_0 (rd_L13 l0_0 x5_2).length c133_0) ∧ w'.cell? (ad134.add (x5_2).toNat) = some (.slice A134_0 (rd_L13 l1_0 x5_2).length c134_0)) (ds := []) #[false, false, false, false, false, false, false, false, false, false, false, false] (by kernel_rfl) rfl rfl ⟨(blk_cell BK130.out 0).trans rfl, (blk_cell BK130.out 1).trans rfl, (blk_cell BK130.out 2).trans rfl, (blk_cell BK131.out 0).trans rfl, (blk_cell BK131.out 1).trans rfl, (blk_cell BK131.out 2).trans rfl, ((HB.out.cell (World.block_lt_of_cell? w _ hw133_0)).trans hw133_0), ((HB.out.cell (World.block_lt_of_cell? w _ hw134_0)).trans hw134_0)⟩ (fun hHeld => ?_); refine with_tabW spec_ProgSame.tab6 spec_ProgSame.bits6 (fun HT_ HW_ => ?_)
                    generalize wr.drew = w26 at BK130 BK131 HB HR133_0 HR134_0 hx133_0 hx134_0 hHeld ⊢
                    refine pure_ (i := 0) (N := some 40) (v := ?_) (a' := ?_) #[true, false, false, false, false, false, false, false, false, false, false, false] rfl rfl (any_of HT_.out (by kernel_rfl)) (fun _ _ _ h => h) (Or.inl ⟨by rfl, ?_⟩) ?_ ?_
                    rotate_left
                    · intro w'
                      go_simp
                      with_reducible rfl
                    rotate_left
                    · simp only [Act.put, List.setIfInBounds_toArray, List.set_cons_zero, List.set_cons_succ, i64_w, i32_w]
                      rfl
                    refine pure_ (i := 2) (N := some 42) (v := ?_) (a' := ?_) #[true, false, true, false, false, false, false, false, false, false, false, false] rfl rfl (any_of HT_.out (by kernel_rfl)) (fun _ _ _ h => h) (Or.inl ⟨by rfl, ?_⟩) ?_ ?_
                    rotate_left
                    · intro w'
                      go_simp
                      with_reducible rfl
                    rotate_left
                    · simp only [Act.put, List.setIfInBounds_toArray, List.set_cons_zero, List.set_cons_succ, i64_w, i32_w]
                      rfl
                    refine pure_ (i := 5) (N := some 45) (v := ?_) (a' := ?_) #[true, false, true, false, false, true, false, false, false, false, false, false] rfl rfl (any_of HT_.out (by kernel_rfl)) (fun _ _ _ h => h) (Or.inl ⟨by rfl, ?_⟩) ?_ ?_
                    rotate_left
                    · intro w'
                      go_simp
                      with_reducible rfl
                    rotate_left
                    · simp only [Act.put, List.setIfInBounds_toArray, List.set_cons_zero, List.set_cons_succ, i64_w, i32_w]
                      rfl
                    refine pure_ (i := 7) (N := some 47) (v := ?_) (a' := ?_) #[true, false, true, false, false, true, false, true, false, false, false, false] rfl rfl (any_of HT_.out (by kernel_rfl)) (fun _ _ _ h => h) (Or.inl ⟨by rfl, ?_⟩) ?_ ?_
                    rotate_left
                    · intro w'
                      go_simp
                      with_reducible rfl
                    rotate_left
                    · simp only [Act.put, List.setIfInBounds_toArray, List.set_cons_zero, List.set_cons_succ, i64_w, i32_w]
                      rfl
                    refine take_ (i := 1) (N := some 41) (v := ?_) (a' := ?_) #[true, true, true, false, false, true, false, true, false, false, false, false] rfl rfl (take_ofW HT_.out HW_.out (by kernel_rfl)) (fun _ _ _ h => h) (Or.inl ⟨by rfl, ?_⟩) hHeld ?_ ?_
                    rotate_left
                    · rintro w' ⟨s0, s1, s2, s3, s4, s5, s6, s7⟩
                      go_simp
                      with_reducible rfl
                    rotate_left
                    · simp only [Act.put, List.setIfInBounds_toArray, List.set_cons_zero, List.set_cons_succ, i64_w, i32_w]
                      rfl
                    refine pure_ (i := 3) (N := some 43) (v := ?_) (a' := ?_) #[true, true, true, true, false, true, false, true, false, false, false, false] rfl rfl (any_of HT_.out (by kernel_rfl)) (fun _ _ _ h => h) (Or.inl ⟨by rfl, ?_⟩) ?_ ?_
                    rotate_left
                    · intro w'
                      go_simp
                      with_reducible rfl
                    rotate_left
                    · simp only [Act.put, List.setIfInBounds_toArray, List.set_cons_zero, List.set_cons_succ, i64_w, i32_w]
                      rfl
                    refine take_ (i := 4) (N := some 44) (v := ?_) (a' := ?_) #[true, true, true, true, true, true, false, true, false, false, false, false] rfl rfl (take_ofW HT_.out HW_.out (by kernel_rfl)) (fun _ _ _ h => h) (Or.inl ⟨by rfl, ?_⟩) hHeld ?_ ?_
                    rotate_left
                    · rintro w' ⟨s0, s1, s2, s3, s4, s5, s6, s7⟩
                      go_simp
                      with_reducible rfl
                    rotate_left
                    · simp only [Act.put, List.setIfInBounds_toArray, List.set_cons_zero, List.set_cons_succ, i64_w, i32_w]
                      rfl
                    refine take_ (i := 6) (N := some 46) (v := ?_) (a' := ?_) #[true, true, true, true, true, true, true, true, false, false, false, false] rfl rfl (take_ofW HT_.out HW_.out (by kernel_rfl)) (fun _ _ _ h => h) (Or.inl ⟨by rfl, ?_⟩) hHeld ?_ ?_
                    rotate_left
                    · rintro w' ⟨s0, s1, s2, s3, s4, s5, s6, s7⟩
                      go_simp
                      with_reducible rfl
                    rotate_left
                    · simp only [Act.put, List.setIfInBounds_toArray, List.set_cons_zero, List.set_cons_succ, i64_w, i32_w]
                      rfl
                    refine pure_ (i := 8) (N := some 48) (v := ?_) (a' := ?_) #[true, true, true, true, true, true, true, true, true, false, false, false] rfl rfl (any_of HT_.out (by kernel_rfl)) (fun _ _ _ h => h) (Or.inl ⟨by rfl, ?_⟩) ?_ ?_
                    rotate_left
                    · intro w'
                      go_simp
                      with_reducible rfl
                    rotate_left
                    · simp only [Act.put, List.setIfInBounds_toArray, List.set_cons_zero, List.set_cons_succ, i64_w, i32_w]
                      rfl
                    refine take_ (i := 9) (N := some 49) (v := ?_) (a' := ?_) #[true, true, true, true, true, true, true, true, true, true, false, false] rfl rfl (take_ofW HT_.out HW_.out (by kernel_rfl)) (fun _ _ _ h => h) (Or.inl ⟨by rfl, ?_⟩) hHeld ?_ ?_
                    rotate_left
                    · rintro w' ⟨s0, s1, s2, s3, s4, s5, s6, s7⟩
                      go_simp
                      with_reducible rfl
                    rotate_left
                    · simp only [Act.put, List.setIfInBounds_toArray, List.set_cons_zero, List.set_cons_succ, i64_w, i32_w]
                      rfl
                    refine one_ (i := 10) (N := some 50) #[true, true, true, true, true, true, true, true, true, true, true, false] rfl rfl (one_of HT_.out (by kernel_rfl)) (by decide) (fun K hK => ?_)
                    refine goes_ Try.func89 (by kernel_rfl) rfl #[.slice A133_0 (rd_L13 l0_0 x5_2).length c133_0, .slice A134_0 (rd_L13 l1_0 x5_2).length c134_0] (by rfl) rfl rfl (by (try simp only [List.map_toArray, List.map_cons, List.map_nil]); first | done | rfl | (simp only [List.length_drop, List.length_take]; rfl)) ?_
                    with_reducible refine (spec_l3Types.calls k2 _ _ (rd_L13 l0_0 x5_2) _ _ (rd_L13 l1_0 x5_2) true _ ?side1 ?side2 ?side3 ?side4 A22.out).mono ?_
                    (case side1 => repeat (first | exact (Kd.C_below HR133_0.out HB.out) | (with_reducible refine Kd.C_alloc ?_ _) | (with_reducible refine Kd.C_drewN ?_ _) | (with_reducible refine Kd.C_drew ?_)))
                    (case side2 => exact HC133_0.out)
                    (case side3 => repeat (first | exact (Kd.C_below HR134_0.out HB.out) | (with_reducible refine Kd.C_alloc ?_ _) | (with_reducible refine Kd.C_drewN ?_ _) | (with_reducible refine Kd.C_drew ?_)))
                    (case side4 => exact HC134_0.out)
                    rintro e w27 ⟨rfl, hb⟩
                    refine ⟨_, rfl, ?_⟩
                    have n0_ := am (blk_below (g := gb130) (o := .cells #[.slice (some ad133) l0_0.length c0_0, .slice A0_1 l0_1.length c0_1, .slice A0_2 l0_2.length c0_2] 88 (0, 0)) (by (with_reducible repeat (first | apply qa | apply qb | apply qc)); exact BK130.out) hb)
                    have n1_ := am (blk_below (g := gb131) (o := .cells #[.slice (some ad134) l1_0.length c1_0, .slice A1_1 l1_1.length c1_1, .slice A1_2 l1_2.length c1_2] 88 (0, 0)) (by (with_reducible repeat (first | apply qa | apply qb | apply qc)); exact BK131.out) hb)
                    have n2_ := am (below_step (by repeat (first | (with_reducible first | exact HB.out | apply pa | apply pb | apply pc | refine below_set ?_ GE130.out | refine below_set ?_ GE131.out) | exact HB.out)) hb)
                    clear BK130
                    clear BK131
                    clear HB
                    have BK130 := n0_
                    have BK131 := n1_
                    have HB := n2_
                    clear n0_ n1_ n2_
                    (try clear hb)
                    (try clear hb2)
                    (try clear hk)
                    (try clear hi)
                    refine hK.out _ _ ⟨(blk_cell BK130.out 0).trans rfl, (blk_cell BK130.out 1).trans rfl, (blk_cell BK130.out 2).trans rfl, (blk_cell BK131.out 0).trans rfl, (blk_cell BK131.out 1).trans rfl, (blk_cell BK131.out 2).trans rfl, ((HB.out.cell (World.block_lt_of_cell? w _ hw133_0)).trans hw133_0), ((HB.out.cell (World.block_lt_of_cell? w _ hw134_0)).trans hw134_0)⟩ (fun hHeld => ?_)
                    clear hK K
                    refine norm_ (a' := ?_) ?_ ?_
                    rotate_left
                    · show Act.put _ (some 50) _ = _
                      simp only [Act.put, List.setIfInBounds_toArray, List.set_cons_zero, List.set_cons_succ, i64_w, i32_w]
                      rfl
                    refine pure_ (i := 11) (N := some 51) (v := ?_) (a' := ?_) #[true, true, true, true, true, true, true, true, true, true, true, true] rfl rfl (any_of HT_.out (by kernel_rfl)) (fun _ _ _ h => h) (Or.inl ⟨by rfl, ?_⟩) ?_ ?_
                    rotate_left
                    · intro w'
                      go_simp
                      with_reducible rfl
                    rotate_left
                    · simp only [Act.put, List.setIfInBounds_toArray, List.set_cons_zero, List.set_cons_succ, i64_w, i32_w]
                      rfl
                    refine done_ (done_of HT_.out (by kernel_rfl)) ?_
                    try go_wp2
                    go_roundg k2
                    case measure => have := HJ2.out; have := HK2.out; omega
                    case rel => exact ⟨(wrap64 (x5_2 + 1)), (by first | rfl | (simp; done) | (simp [*]; done)), H', ⟨by have := HJ2.out; have := HK2.out; omega⟩, ⟨by (with_reducible repeat (first | apply qa | apply qb | apply qc)); exact BK130.out⟩, ⟨by (with_reducible repeat (first | apply qa | apply qb | apply qc)); exact BK131.out⟩, ⟨by repeat (first | (with_reducible first | exact HB.out | apply pa | apply pb | apply pc | refine below_set ?_ GE130.out | refine below_set ?_ GE131.out) | exact HB.out)⟩⟩
                  · replace c23 := Bool.eq_false_iff.mpr c23
                    subst c23
                    have H1 : (some false) = some r := by rw [if_neg (show ¬ (false = true) by decide)] at H; exact H
                    clear H
                    have H := H1
                    clear H1
                    obtain rfl := Option.some.inj H
                    have hnb28 := NB130_131.out
                    have hnc28 := NB131_130.out
                    have hcz29_0 := bc BK130.out 0 (.slice A0_0 l0_0.length c0_0) rfl
                    have hcz29_1 := bc BK130.out 1 (.slice A0_1 l0_1.length c0_1) rfl
                    have hcz29_2 := bc BK130.out 2 (.slice A0_2 l0_2.length c0_2) rfl
                    have hfz29_0 := bf BK130.out 0
                    have hfz29_1 := bf BK130.out 1
                    have hfz29_2 := bf BK130.out 2
                    try go_wp2
                    have n0_ := am (blk_drew BK130.out)
                    have n1_ := am (blk_drew BK131.out)
                    have n2_ := am (below_drew1 HB.out)
                    clear BK130
                    clear BK131
                    clear HB
                    have BK130 := n0_
                    have BK131 := n1_
                    have HB := n2_
                    clear n0_ n1_ n2_
                    have p133 : 0 ≤ (x5_2 : Int) := od (by assumption)
                    have q133 : x5_2 < (l0_0.length : Int) := od (by assumption)
                    obtain ⟨ad133, A133_0, c133_0, e133, hx133_0, hl133_0, hi133_0⟩ := at_L13 HR0_0.out x5_2 p133 q133
                    have hw133_0 := hx133_0
                    cases e133
                    replace hx133_0 := (HB.out.cell (World.block_lt_of_cell? w _ hx133_0)).trans hx133_0
                    have HR133_0 := am hi133_0
                    have HC133_0 := am hl133_0
                    clear hi133_0 hl133_0
                    replace p133 := eq_true p133
                    replace q133 := eq_true q133
                    have p134 : 0 ≤ (x5_2 : Int) := od (by assumption)
                    have q134 : x5_2 < (l1_0.length : Int) := od (by assumption)
                    obtain ⟨ad134, A134_0, c134_0, e134, hx134_0, hl134_0, hi134_0⟩ := at_L13 HR1_0.out x5_2 p134 q134
                    have hw134_0 := hx134_0
                    cases e134
                    replace hx134_0 := (HB.out.cell (World.block_lt_of_cell? w _ hx134_0)).trans hx134_0
                    have HR134_0 := am hi134_0
                    have HC134_0 := am hl134_0
                    clear hi134_0 hl134_0
                    replace p134 := eq_true p134
                    replace q134 := eq_true q134
                    refine start_ (n := 12) (S := fun w' => w'.cell? ⟨gb130, 0, none⟩ = some (.slice (some ad133) l0_0.length c0_0) ∧ w'.cell? ⟨gb130, 1, none⟩ = some (.slice A0_1 l0_1.length c0_1) ∧ w'.cell? ⟨gb130, 2, none⟩ = some (.slice A0_2 l0_2.length c0_2) ∧ w'.cell? ⟨gb131, 0, none⟩ = some (.slice (some ad134) l1_0.length c1_0) ∧ w'.cell? ⟨gb131, 1, none⟩ = some (.slice A1_1 l1_1.length c1_1) ∧ w'.cell? ⟨gb131, 2, none⟩ = some (.slice A1_2 l1_2.length c1_2) ∧ w'.cell? (ad133.add (x5_2).toNat) = some (.slice A133_0 (rd_L13 l0_0 x5_2).length c133_0) ∧ w'.cell? (ad134.add (x5_2).toNat) = some (.slice A134_0 (rd_L13 l1_0 x5_2).length c134_0)) (ds := []) #[false, false, false, false, false, false, false, false, false, false, false, false] (by kernel_rfl) rfl rfl ⟨(blk_cell BK130.out 0).trans rfl, (blk_cell BK130.out 1).trans rfl, (blk_cell BK130.out 2).trans rfl, (blk_cell BK131.out 0).trans rfl, (blk_cell BK131.out 1).trans rfl, (blk_cell BK131.out 2).trans rfl, ((HB.out.cell (World.block_lt_of_cell? w _ hw133_0)).trans hw133_0), ((HB.out.cell (World.block_lt_of_cell? w _ hw134_0)).trans hw134_0)⟩ (fun hHeld => ?_); refine with_tabW spec_ProgSame.tab6 spec_ProgSame.bits6 (fun HT_ HW_ => ?_)
                    generalize wr.drew = w30 at BK130 BK131 HB HR133_0 HR134_0 hx133_0 hx134_0 hHeld ⊢
                    refine pure_ (i := 0) (N := some 40) (v := ?_) (a' := ?_) #[true, false, false, false, false, false, false, false, false, false, false, false] rfl rfl (any_of HT_.out (by kernel_rfl)) (fun _ _ _ h => h) (Or.inl ⟨by rfl, ?_⟩) ?_ ?_
                    rotate_left
                    · intro w'
                      go_simp
                      with_reducible rfl
                    rotate_left
                    · simp only [Act.put, List.setIfInBounds_toArray, List.set_cons_zero, List.set_cons_succ, i64_w, i32_w]
                      rfl
                    refine pure_ (i := 2) (N := some 42) (v := ?_) (a' := ?_) #[true, false, true, false, false, false, false, false, false, false, false, false] rfl rfl (any_of HT_.out (by kernel_rfl)) (fun _ _ _ h => h) (Or.inl ⟨by rfl, ?_⟩) ?_ ?_
                    rotate_left
                    · intro w'
                      go_simp
                      with_reducible rfl
                    rotate_left
                    · simp only [Act.put, List.setIfInBounds_toArray, List.set_cons_zero, List.set_cons_succ, i64_w, i32_w]
                      rfl
                    refine pure_ (i := 5) (N := some 45) (v := ?_) (a' := ?_) #[true, false, true, false, false, true, false, false, false, false, false, false] rfl rfl (any_of HT_.out (by kernel_rfl)) (fun _ _ _ h => h) (Or.inl ⟨by rfl, ?_⟩) ?_ ?_
                    rotate_left
                    · intro w'
                      go_simp
                      with_reducible rfl
                    rotate_left
                    · simp only [Act.put, List.setIfInBounds_toArray, List.set_cons_zero, List.set_cons_succ, i64_w, i32_w]
                      rfl
                    refine pure_ (i := 7) (N := some 47) (v := ?_) (a' := ?_) #[true, false, true, false, false, true, false, true, false, false, false, false] rfl rfl (any_of HT_.out (by kernel_rfl)) (fun _ _ _ h => h) (Or.inl ⟨by rfl, ?_⟩) ?_ ?_
                    rotate_left
                    · intro w'
                      go_simp
                      with_reducible rfl
                    rotate_left
                    · simp only [Act.put, List.setIfInBounds_toArray, List.set_cons_zero, List.set_cons_succ, i64_w, i32_w]
                      rfl
                    refine take_ (i := 1) (N := some 41) (v := ?_) (a' := ?_) #[true, true, true, false, false, true, false, true, false, false, false, false] rfl rfl (take_ofW HT_.out HW_.out (by kernel_rfl)) (fun _ _ _ h => h) (Or.inl ⟨by rfl, ?_⟩) hHeld ?_ ?_
                    rotate_left
                    · rintro w' ⟨s0, s1, s2, s3, s4, s5, s6, s7⟩
                      go_simp
                      with_reducible rfl
                    rotate_left
                    · simp only [Act.put, List.setIfInBounds_toArray, List.set_cons_zero, List.set_cons_succ, i64_w, i32_w]
                      rfl
                    refine pure_ (i := 3) (N := some 43) (v := ?_) (a' := ?_) #[true, true, true, true, false, true, false, true, false, false, false, false] rfl rfl (any_of HT_.out (by kernel_rfl)) (fun _ _ _ h => h) (Or.inl ⟨by rfl, ?_⟩) ?_ ?_
                    rotate_left
                    · intro w'
                      go_simp
                      with_reducible rfl
                    rotate_left
                    · simp only [Act.put, List.setIfInBounds_toArray, List.set_cons_zero, List.set_cons_succ, i64_w, i32_w]
                      rfl
                    refine take_ (i := 4) (N := some 44) (v := ?_) (a' := ?_) #[true, true, true, true, true, true, false, true, false, false, false, false] rfl rfl (take_ofW HT_.out HW_.out (by kernel_rfl)) (fun _ _ _ h => h) (Or.inl ⟨by rfl, ?_⟩) hHeld ?_ ?_
                    rotate_left
                    · rintro w' ⟨s0, s1, s2, s3, s4, s5, s6, s7⟩
                      go_simp
                      with_reducible rfl
                    rotate_left
                    · simp only [Act.put, List.setIfInBounds_toArray, List.set_cons_zero, List.set_cons_succ, i64_w, i32_w]
                      rfl
                    refine take_ (i := 6) (N := some 46) (v := ?_) (a' := ?_) #[true, true, true, true, true, true, true, true, false, false, false, false] rfl rfl (take_ofW HT_.out HW_.out (by kernel_rfl)) (fun _ _ _ h => h) (Or.inl ⟨by rfl, ?_⟩) hHeld ?_ ?_
                    rotate_left
                    · rintro w' ⟨s0, s1, s2, s3, s4, s5, s6, s7⟩
                      go_simp
                      with_reducible rfl
                    rotate_left
                    · simp only [Act.put, List.setIfInBounds_toArray, List.set_cons_zero, List.set_cons_succ, i64_w, i32_w]
                      rfl
                    refine pure_ (i := 8) (N := some 48) (v := ?_) (a' := ?_) #[true, true, true, true, true, true, true, true, true, false, false, false] rfl rfl (any_of HT_.out (by kernel_rfl)) (fun _ _ _ h => h) (Or.inl ⟨by rfl, ?_⟩) ?_ ?_
                    rotate_left
                    · intro w'
                      go_simp
                      with_reducible rfl
                    rotate_left
                    · simp only [Act.put, List.setIfInBounds_toArray, List.set_cons_zero, List.set_cons_succ, i64_w, i32_w]
                      rfl
                    refine take_ (i := 9) (N := some 49) (v := ?_) (a' := ?_) #[true, true, true, true, true, true, true, true, true, true, false, false] rfl rfl (take_ofW HT_.out HW_.out (by kernel_rfl)) (fun _ _ _ h => h) (Or.inl ⟨by rfl, ?_⟩) hHeld ?_ ?_
                    rotate_left
                    · rintro w' ⟨s0, s1, s2, s3, s4, s5, s6, s7⟩
                      go_simp
                      with_reducible rfl
                    rotate_left
                    · simp only [Act.put, List.setIfInBounds_toArray, List.set_cons_zero, List.set_cons_succ, i64_w, i32_w]
                      rfl
                    refine one_ (i := 10) (N := some 50) #[true, true, true, true, true, true, true, true, true, true, true, false] rfl rfl (one_of HT_.out (by kernel_rfl)) (by decide) (fun K hK => ?_)
                    refine goes_ Try.func89 (by kernel_rfl) rfl #[.slice A133_0 (rd_L13 l0_0 x5_2).length c133_0, .slice A134_0 (rd_L13 l1_0 x5_2).length c134_0] (by rfl) rfl rfl (by (try simp only [List.map_toArray, List.map_cons, List.map_nil]); first | done | rfl | (simp only [List.length_drop, List.length_take]; rfl)) ?_
                    with_reducible refine (spec_l3Types.calls k2 _ _ (rd_L13 l0_0 x5_2) _ _ (rd_L13 l1_0 x5_2) false _ ?side1 ?side2 ?side3 ?side4 A22.out).mono ?_
                    (case side1 => repeat (first | exact (Kd.C_below HR133_0.out HB.out) | (with_reducible refine Kd.C_alloc ?_ _) | (with_reducible refine Kd.C_drewN ?_ _) | (with_reducible refine Kd.C_drew ?_)))
                    (case side2 => exact HC133_0.out)
                    (case side3 => repeat (first | exact (Kd.C_below HR134_0.out HB.out) | (with_reducible refine Kd.C_alloc ?_ _) | (with_reducible refine Kd.C_drewN ?_ _) | (with_reducible refine Kd.C_drew ?_)))
                    (case side4 => exact HC134_0.out)
                    rintro e w31 ⟨rfl, hb⟩
                    refine ⟨_, rfl, ?_⟩
                    have n0_ := am (blk_below (g := gb130) (o := .cells #[.slice (some ad133) l0_0.length c0_0, .slice A0_1 l0_1.length c0_1, .slice A0_2 l0_2.length c0_2] 88 (0, 0)) (by (with_reducible repeat (first | apply qa | apply qb | apply qc)); exact BK130.out) hb)
                    have n1_ := am (blk_below (g := gb131) (o := .cells #[.slice (some ad134) l1_0.length c1_0, .slice A1_1 l1_1.length c1_1, .slice A1_2 l1_2.length c1_2] 88 (0, 0)) (by (with_reducible repeat (first | apply qa | apply qb | apply qc)); exact BK131.out) hb)
                    have n2_ := am (below_step (by repeat (first | (with_reducible first | exact HB.out | apply pa | apply pb | apply pc | refine below_set ?_ GE130.out | refine below_set ?_ GE131.out) | exact HB.out)) hb)
                    clear BK130
                    clear BK131
                    clear HB
                    have BK130 := n0_
                    have BK131 := n1_
                    have HB := n2_
                    clear n0_ n1_ n2_
                    (try clear hb)
                    (try clear hb2)
                    (try clear hk)
                    (try clear hi)
                    refine hK.out _ _ ⟨(blk_cell BK130.out 0).trans rfl, (blk_cell BK130.out 1).trans rfl, (blk_cell BK130.out 2).trans rfl, (blk_cell BK131.out 0).trans rfl, (blk_cell BK131.out 1).trans rfl, (blk_cell BK131.out 2).trans rfl, ((HB.out.cell (World.block_lt_of_cell? w _ hw133_0)).trans hw133_0), ((HB.out.cell (World.block_lt_of_cell? w _ hw134_0)).trans hw134_0)⟩ (fun hHeld => ?_)
                    clear hK K
                    refine norm_ (a' := ?_) ?_ ?_
                    rotate_left
                    · show Act.put _ (some 50) _ = _
                      simp only [Act.put, List.setIfInBounds_toArray, List.set_cons_zero, List.set_cons_succ, i64_w, i32_w]
                      rfl
                    refine pure_ (i := 11) (N := some 51) (v := ?_) (a' := ?_) #[true, true, true, true, true, true, true, true, true, true, true, true] rfl rfl (any_of HT_.out (by kernel_rfl)) (fun _ _ _ h => h) (Or.inl ⟨by rfl, ?_⟩) ?_ ?_
                    rotate_left
                    · intro w'
                      go_simp
                      with_reducible rfl
                    rotate_left
                    · simp only [Act.put, List.setIfInBounds_toArray, List.set_cons_zero, List.set_cons_succ, i64_w, i32_w]
                      rfl
                    refine done_ (done_of HT_.out (by kernel_rfl)) ?_
                    try go_wp2
                    go_ret
                    exact ⟨by first | rfl | (simp [errW_none, errW_some] <;> rfl) | (simp [*, errW_none, errW_some] <;> rfl), by repeat (first | (with_reducible first | exact HB.out | apply pa | apply pb | apply pc | refine below_set ?_ GE130.out | refine below_set ?_ GE131.out) | exact HB.out)⟩
                · rw [if_neg c21] at H
                  exact absurd H (by simp)
              · rw [if_neg c20] at H
                exact absurd H (by simp)
            · rw [if_neg c19] at H
              have c19b0 : decide (x5_2 < (l0_0.length : Int)) = false := decide_eq_false c19
              clear c19
              have H' := am H
              clear H
              have hnb32 := NB130_131.out
              have hnc32 := NB131_130.out
              have hcz33_0 := bc BK130.out 0 (.slice A0_0 l0_0.length c0_0) rfl
              have hcz33_1 := bc BK130.out 1 (.slice A0_1 l0_1.length c0_1) rfl
              have hcz33_2 := bc BK130.out 2 (.slice A0_2 l0_2.length c0_2) rfl
              have hfz33_0 := bf BK130.out 0
              have hfz33_1 := bf BK130.out 1
              have hfz33_2 := bf BK130.out 2
              go_wp2
              go_loopg [6] k2 (fun kq v6 w' => ∃ (x6_3 : Int), v6 = .int .i64 x6_3 ∧ Aside0 (spec_ProgSame.l1 kq x6_3 l0_0 l0_1 l0_2 l1_0 l1_1 l1_2 = some r) ∧ Aside0 (kq ≤ k2) ∧ Aside0 (w'.heap[gb130]? = some (.cells #[(.slice A0_0 l0_0.length c0_0), (.slice A0_1 l0_1.length c0_1), (.slice A0_2 l0_2.length c0_2)] 88 (0, 0))) ∧ Aside0 (w'.heap[gb131]? = some (.cells #[(.slice A1_0 l1_0.length c1_0), (.slice A1_1 l1_1.length c1_1), (.slice A1_2 l1_2.length c1_2)] 88 (0, 0))) ∧ Aside0 (Below w.heap.size w w'))
              case atStart => exact ⟨(0), (by first | rfl | (simp; done) | (simp [*]; done)), H', ⟨Nat.le_refl _⟩, ⟨by (with_reducible repeat (first | apply qa | apply qb | apply qc)); exact BK130.out⟩, ⟨by (with_reducible repeat (first | apply qa | apply qb | apply qc)); exact BK131.out⟩, ⟨by repeat (first | (with_reducible first | exact HB.out | apply pa | apply pb | apply pc | refine below_set ?_ GE130.out | refine below_set ?_ GE131.out) | exact HB.out)⟩⟩
              case round =>
                clear H'
                try clear c1
                try clear p1
                try clear q1
                try clear hx1
                try clear c2
                try clear p2
                try clear c3
                try clear c5
                try clear c6
                try clear c6b0
                try clear c6b1
                try clear c6b2
                try clear p6
                try clear c7
                try clear c7b0
                try clear c7b1
                try clear c7b2
                try clear c8
                try clear c9
                try clear c12
                try clear c13
                try clear p13
                try clear q13
                try clear hx13
                try clear c15
                try clear c18
                try clear c19
                try clear c19b0
                try clear c20
                try clear c20b0
                try clear c21
                try clear c21b0
                try clear c23
                try clear c24
                try clear c28
                try clear c32
                try clear hcz10_0
                try clear hcz10_1
                try clear hcz10_2
                try clear hcz11_0
                try clear hcz11_1
                try clear hcz11_2
                try clear hcz13_0
                try clear hcz13_1
                try clear hcz13_2
                try clear hcz14_0
                try clear hcz14_1
                try clear hcz14_2
                try clear hcz16_0
                try clear hcz16_1
                try clear hcz16_2
                try clear hcz17_0
                try clear hcz17_1
                try clear hcz17_2
                try clear hcz25_0
                try clear hcz25_1
                try clear hcz25_2
                try clear hcz29_0
                try clear hcz29_1
                try clear hcz29_2
                try clear hcz33_0
                try clear hcz33_1
                try clear hcz33_2
                try clear hfz10_0
                try clear hfz10_1
                try clear hfz10_2
                try clear hfz11_0
                try clear hfz11_1
                try clear hfz11_2
                try clear hfz13_0
                try clear hfz13_1
                try clear hfz13_2
                try clear hfz14_0
                try clear hfz14_1
                try clear hfz14_2
                try clear hfz16_0
                try clear hfz16_1
                try clear hfz16_2
                try clear hfz17_0
                try clear hfz17_1
                try clear hfz17_2
                try clear hfz25_0
                try clear hfz25_1
                try clear hfz25_2
                try clear hfz29_0
                try clear hfz29_1
                try clear hfz29_2
                try clear hfz33_0
                try clear hfz33_1
                try clear hfz33_2
                try clear hx133_0
                try clear hx134_0
                try clear p133
                try clear p134
                try clear p2
                try clear q133
                try clear q134
                obtain ⟨x6_3, rfl, HA, HK3, BK130, BK131, HB⟩ := hrel
                cases gk with
                | zero => exact absurd HA.out (by simp [spec_ProgSame.l1])
                | succ k3 =>
                  have H := HA.out
                  clear HA
                  simp only [spec_ProgSame.l1] at H
                  by_cases c34 : x6_3 < (l0_2.length : Int)
                  · rw [if_pos c34] at H
                    have c34b0 : decide (x6_3 < (l0_2.length : Int)) = true := decide_eq_true c34
                    clear c34
                    by_cases c35 : 0 ≤ x6_3
                    · rw [if_pos c35] at H
                      have c35b0 : decide (0 ≤ x6_3) = true := decide_eq_true c35
                      clear c35
                      by_cases c36 : x6_3 < (l1_2.length : Int)
                      · rw [if_pos c36] at H
                        have c36b0 : decide (x6_3 < (l1_2.length : Int)) = true := decide_eq_true c36
                        clear c36
                        have HC37 := am H
                        clear H
                        have hnb38 := NB130_131.out
                        have hnc38 := NB131_130.out
                        have hcz39_0 := bc BK130.out 0 (.slice A0_0 l0_0.length c0_0) rfl
                        have hcz39_1 := bc BK130.out 1 (.slice A0_1 l0_1.length c0_1) rfl
                        have hcz39_2 := bc BK130.out 2 (.slice A0_2 l0_2.length c0_2) rfl
                        have hfz39_0 := bf BK130.out 0
                        have hfz39_1 := bf BK130.out 1
                        have hfz39_2 := bf BK130.out 2
                        have p136 : 0 ≤ (x6_3 : Int) := od (by assumption)
                        have q136 : x6_3 < (l0_2.length : Int) := od (by assumption)
                        obtain ⟨ad136, A136_0, c136_0, A136_4, c136_4, A136_5, c136_5, e136, hx136_0, hx136_1, hx136_2, hx136_3, hx136_4, hx136_5, hl136_0, hi136_0, hl136_4, hi136_4, hl136_5, hi136_5⟩ := at_T124 HR0_2.out x6_3 p136 q136
                        cases e136
                        replace hx136_0 := (HB.out.cell (World.block_lt_of_cell? w _ hx136_0)).trans hx136_0
                        replace hx136_1 := (HB.out.cell (World.block_lt_of_cell? w _ hx136_1)).trans hx136_1
                        replace hx136_2 := (HB.out.cell (World.block_lt_of_cell? w _ hx136_2)).trans hx136_2
                        replace hx136_3 := (HB.out.cell (World.block_lt_of_cell? w _ hx136_3)).trans hx136_3
                        replace hx136_4 := (HB.out.cell (World.block_lt_of_cell? w _ hx136_4)).trans hx136_4
                        replace hx136_5 := (HB.out.cell (World.block_lt_of_cell? w _ hx136_5)).trans hx136_5
                        have HR136_0 := am hi136_0
                        have HC136_0 := am hl136_0
                        clear hi136_0 hl136_0
                        have HR136_4 := am hi136_4
                        have HC136_4 := am hl136_4
                        clear hi136_4 hl136_4
                        have HR136_5 := am hi136_5
                        have HC136_5 := am hl136_5
                        clear hi136_5 hl136_5
                        replace p136 := eq_true p136
                        replace q136 := eq_true q136
                        go_upto_region 13 with (first | ((with_reducible refine gate_dst (N := 7) rfl ?_); (try (refine gate_guard (by rfl) ?_; dsimp only)); refine box_event ?hg (N := 7) ?hd (cs := #[.slice none 0 0, .int .i64 0, .int .i64 0, .bool false, .slice none 0 0, .slice none 0 0]) (t := 124) ?hr ?_; (case hd => rfl); (case hg => rfl); (case hr => first | (go_simp; done) | (go_simp; rfl)); intro gb137 hg w40 hbox hb; have n0_ := am (blk_below (g := gb130) (o := .cells #[.slice A0_0 l0_0.length c0_0, .slice A0_1 l0_1.length c0_1, .slice (some ad136) l0_2.length c0_2] 88 (0, 0)) (by (with_reducible repeat (first | apply qa | apply qb | apply qc)); exact BK130.out) hb); have n1_ := am (blk_below (g := gb131) (o := .cells #[.slice A1_0 l1_0.length c1_0, .slice A1_1 l1_1.length c1_1, .slice A1_2 l1_2.length c1_2] 88 (0, 0)) (by (with_reducible repeat (first | apply qa | apply qb | apply qc)); exact BK131.out) hb); have n2_ := am (below_step (by repeat (first | (with_reducible first | exact HB.out | apply pa | apply pb | apply pc | refine below_set ?_ GE130.out | refine below_set ?_ GE131.out) | exact HB.out)) hb); have n3_ := am (hbox); have n4_ := am ((by rw [hg]; exact (below_size (by repeat (first | (with_reducible first | exact HB.out | apply pa | apply pb | apply pc | refine below_set ?_ GE130.out | refine below_set ?_ GE131.out) | exact HB.out))) : w.heap.size ≤ gb137)); have n5_ := am ((by rw [hg]; exact (below_size (by repeat (first | (with_reducible first | exact HB.out | apply pa | apply pb | apply pc | refine below_set ?_ GE130.out | refine below_set ?_ GE131.out) | exact HB.out))) : w.heap.size ≤ gb137)); have n6_ := am ((by rw [hg]; exact Nat.ne_of_lt (blk_lt (g := gb130) (o := .cells #[.slice A0_0 l0_0.length c0_0, .slice A0_1 l0_1.length c0_1, .slice (some ad136) l0_2.length c0_2] 88 (0, 0)) (by (with_reducible repeat (first | apply qa | apply qb | apply qc)); exact BK130.out)) : gb130 ≠ gb137)); have n7_ := am ((by rw [hg]; exact Nat.ne_of_gt (blk_lt (g := gb130) (o := .cells #[.slice A0_0 l0_0.length c0_0, .slice A0_1 l0_1.length c0_1, .slice (some ad136) l0_2.length c0_2] 88 (0, 0)) (by (with_reducible repeat (first | apply qa | apply qb | apply qc)); exact BK130.out)) : gb137 ≠ gb130)); have n8_ := am ((by rw [hg]; exact Nat.ne_of_lt (blk_lt (g := gb131) (o := .cells #[.slice A1_0 l1_0.length c1_0, .slice A1_1 l1_1.length c1_1, .slice A1_2 l1_2.length c1_2] 88 (0, 0)) (by (with_reducible repeat (first | apply qa | apply qb | apply qc)); exact BK131.out)) : gb131 ≠ gb137)); have n9_ := am ((by rw [hg]; exact Nat.ne_of_gt (blk_lt (g := gb131) (o := .cells #[.slice A1_0 l1_0.length c1_0, .slice A1_1 l1_1.length c1_1, .slice A1_2 l1_2.length c1_2] 88 (0, 0)) (by (with_reducible repeat (first | apply qa | apply qb | apply qc)); exact BK131.out)) : gb137 ≠ gb131)); clear BK130; clear BK131; clear HB; have BK130 := n0_; have BK131 := n1_; have HB := n2_; have BK137 := n3_; have GW137 := n4_; have GE137 := n5_; have NB130_137 := n6_; have NB137_130 := n7_; have NB131_137 := n8_; have NB137_131 := n9_; clear n0_ n1_ n2_ n3_ n4_ n5_ n6_ n7_ n8_ n9_; clear hb hbox hg; have hnb41 := NB137_130.out; have hnc41 := NB130_137.out; have hnb42 := NB137_131.out; have hnc42 := NB131_137.out; have hcz43_0 := bc BK137.out 0 (.slice none 0 0) rfl; have hcz43_1 := bc BK137.out 1 (.int .i64 0) rfl; have hcz43_2 := bc BK137.out 2 (.int .i64 0) rfl; have hcz43_3 := bc BK137.out 3 (.bool false) rfl; have hcz43_4 := bc BK137.out 4 (.slice none 0 0) rfl; have hcz43_5 := bc BK137.out 5 (.slice none 0 0) rfl; have hfz43_0 := bf BK137.out 0; have hfz43_1 := bf BK137.out 1; have hfz43_2 := bf BK137.out 2; have hfz43_3 := bf BK137.out 3; have hfz43_4 := bf BK137.out 4; have hfz43_5 := bf BK137.out 5; have hcz44_0 := bc BK131.out 0 (.slice A1_0 l1_0.length c1_0) rfl; have hcz44_1 := bc BK131.out 1 (.slice A1_1 l1_1.length c1_1) rfl; have hcz44_2 := bc BK131.out 2 (.slice A1_2 l1_2.length c1_2) rfl; have hfz44_0 := bf BK131.out 0; have hfz44_1 := bf BK131.out 1; have hfz44_2 := bf BK131.out 2; have p138 : 0 ≤ (x6_3 : Int) := od (by assumption); have q138 : x6_3 < (l1_2.length : Int) := od (by assumption); obtain ⟨ad138, A138_0, c138_0, A138_4, c138_4, A138_5, c138_5, e138, hx138_0, hx138_1, hx138_2, hx138_3, hx138_4, hx138_5, hl138_0, hi138_0, hl138_4, hi138_4, hl138_5, hi138_5⟩ := at_T124 HR1_2.out x6_3 p138 q138; cases e138; have hn138_0 : ad138.block ≠ gb137 := Nat.ne_of_lt (Nat.lt_of_lt_of_le (by have := World.block_lt_of_cell? _ _ hx138_0; first | rwa [add_block] at this | exact this) GW137.out); have hn138_1 : ad138.block ≠ gb137 := Nat.ne_of_lt (Nat.lt_of_lt_of_le (by have := World.block_lt_of_cell? _ _ hx138_0; first | rwa [add_block] at this | exact this) GW137.out); have hn138_2 : ad138.block ≠ gb137 := Nat.ne_of_lt (Nat.lt_of_lt_of_le (by have := World.block_lt_of_cell? _ _ hx138_0; first | rwa [add_block] at this | exact this) GW137.out); have hn138_3 : ad138.block ≠ gb137 := Nat.ne_of_lt (Nat.lt_of_lt_of_le (by have := World.block_lt_of_cell? _ _ hx138_0; first | rwa [add_block] at this | exact this) GW137.out); have hn138_4 : ad138.block ≠ gb137 := Nat.ne_of_lt (Nat.lt_of_lt_of_le (by have := World.block_lt_of_cell? _ _ hx138_0; first | rwa [add_block] at this | exact this) GW137.out); have hn138_5 : ad138.block ≠ gb137 := Nat.ne_of_lt (Nat.lt_of_lt_of_le (by have := World.block_lt_of_cell? _ _ hx138_0; first | rwa [add_block] at this | exact this) GW137.out); replace hx138_0 := (HB.out.cell (World.block_lt_of_cell? w _ hx138_0)).trans hx138_0; replace hx138_1 := (HB.out.cell (World.block_lt_of_cell? w _ hx138_1)).trans hx138_1; replace hx138_2 := (HB.out.cell (World.block_lt_of_cell? w _ hx138_2)).trans hx138_2; replace hx138_3 := (HB.out.cell (World.block_lt_of_cell? w _ hx138_3)).trans hx138_3; replace hx138_4 := (HB.out.cell (World.block_lt_of_cell? w _ hx138_4)).trans hx138_4; replace hx138_5 := (HB.out.cell (World.block_lt_of_cell? w _ hx138_5)).trans hx138_5; have HR138_0 := am hi138_0; have HC138_0 := am hl138_0; clear hi138_0 hl138_0; have HR138_4 := am hi138_4; have HC138_4 := am hl138_4; clear hi138_4 hl138_4; have HR138_5 := am hi138_5; have HC138_5 := am hl138_5; clear hi138_5 hl138_5; replace hx138_0 := (cell_far (p := ⟨gb137, 0, none⟩) (by first | (rw [add_block]; exact hn138_0) | (show (Addr.add _ _).block ≠ _; rw [add_block]; exact hn138_0) | exact hn138_0) (.slice A136_0 ((rd_T124 l0_2 x6_3).f0).length c136_0)).trans hx138_0; replace hx138_1 := (cell_far (p := ⟨gb137, 0, none⟩) (by first | (rw [add_block]; exact hn138_0) | (show (Addr.add _ _).block ≠ _; rw [add_block]; exact hn138_0) | exact hn138_0) (.slice A136_0 ((rd_T124 l0_2 x6_3).f0).length c136_0)).trans hx138_1; replace hx138_2 := (cell_far (p := ⟨gb137, 0, none⟩) (by first | (rw [add_block]; exact hn138_0) | (show (Addr.add _ _).block ≠ _; rw [add_block]; exact hn138_0) | exact hn138_0) (.slice A136_0 ((rd_T124 l0_2 x6_3).f0).length c136_0)).trans hx138_2; replace hx138_3 := (cell_far (p := ⟨gb137, 0, none⟩) (by first | (rw [add_block]; exact hn138_0) | (show (Addr.add _ _).block ≠ _; rw [add_block]; exact hn138_0) | exact hn138_0) (.slice A136_0 ((rd_T124 l0_2 x6_3).f0).length c136_0)).trans hx138_3; replace hx138_4 := (cell_far (p := ⟨gb137, 0, none⟩) (by first | (rw [add_block]; exact hn138_0) | (show (Addr.add _ _).block ≠ _; rw [add_block]; exact hn138_0) | exact hn138_0) (.slice A136_0 ((rd_T124 l0_2 x6_3).f0).length c136_0)).trans hx138_4; replace hx138_5 := (cell_far (p := ⟨gb137, 0, none⟩) (by first | (rw [add_block]; exact hn138_0) | (show (Addr.add _ _).block ≠ _; rw [add_block]; exact hn138_0) | exact hn138_0) (.slice A136_0 ((rd_T124 l0_2 x6_3).f0).length c136_0)).trans hx138_5; replace hx138_0 := (cell_far (p := ⟨gb137, 1, none⟩) (by first | (rw [add_block]; exact hn138_1) | (show (Addr.add _ _).block ≠ _; rw [add_block]; exact hn138_1) | exact hn138_1) (.int .i64 ((rd_T124 l0_2 x6_3).f1.f0))).trans hx138_0; replace hx138_1 := (cell_far (p := ⟨gb137, 1, none⟩) (by first | (rw [add_block]; exact hn138_1) | (show (Addr.add _ _).block ≠ _; rw [add_block]; exact hn138_1) | exact hn138_1) (.int .i64 ((rd_T124 l0_2 x6_3).f1.f0))).trans hx138_1; replace hx138_2 := (cell_far (p := ⟨gb137, 1, none⟩) (by first | (rw [add_block]; exact hn138_1) | (show (Addr.add _ _).block ≠ _; rw [add_block]; exact hn138_1) | exact hn138_1) (.int .i64 ((rd_T124 l0_2 x6_3).f1.f0))).trans hx138_2; replace hx138_3 := (cell_far (p := ⟨gb137, 1, none⟩) (by first | (rw [add_block]; exact hn138_1) | (show (Addr.add _ _).block ≠ _; rw [add_block]; exact hn138_1) | exact hn138_1) (.int .i64 ((rd_T124 l0_2 x6_3).f1.f0))).trans hx138_3; replace hx138_4 := (cell_far (p := ⟨gb137, 1, none⟩) (by first | (rw [add_block]; exact hn138_1) | (show (Addr.add _ _).block ≠ _; rw [add_block]; exact hn138_1) | exact hn138_1) (.int .i64 ((rd_T124 l0_2 x6_3).f1.f0))).trans hx138_4; replace hx138_5 := (cell_far (p := ⟨gb137, 1, none⟩) (by first | (rw [add_block]; exact hn138_1) | (show (Addr.add _ _).block ≠ _; rw [add_block]; exact hn138_1) | exact hn138_1) (.int .i64 ((rd_T124 l0_2 x6_3).f1.f0))).trans hx138_5; replace hx138_0 := (cell_far (p := ⟨gb137, 2, none⟩) (by first | (rw [add_block]; exact hn138_2) | (show (Addr.add _ _).block ≠ _; rw [add_block]; exact hn138_2) | exact hn138_2) (.int .i64 ((rd_T124 l0_2 x6_3).f1.f1))).trans hx138_0; replace hx138_1 := (cell_far (p := ⟨gb137, 2, none⟩) (by first | (rw [add_block]; exact hn138_2) | (show (Addr.add _ _).block ≠ _; rw [add_block]; exact hn138_2) | exact hn138_2) (.int .i64 ((rd_T124 l0_2 x6_3).f1.f1))).trans hx138_1; replace hx138_2 := (cell_far (p := ⟨gb137, 2, none⟩) (by first | (rw [add_block]; exact hn138_2) | (show (Addr.add _ _).block ≠ _; rw [add_block]; exact hn138_2) | exact hn138_2) (.int .i64 ((rd_T124 l0_2 x6_3).f1.f1))).trans hx138_2; replace hx138_3 := (cell_far (p := ⟨gb137, 2, none⟩) (by first | (rw [add_block]; exact hn138_2) | (show (Addr.add _ _).block ≠ _; rw [add_block]; exact hn138_2) | exact hn138_2) (.int .i64 ((rd_T124 l0_2 x6_3).f1.f1))).trans hx138_3; replace hx138_4 := (cell_far (p := ⟨gb137, 2, none⟩) (by first | (rw [add_block]; exact hn138_2) | (show (Addr.add _ _).block ≠ _; rw [add_block]; exact hn138_2) | exact hn138_2) (.int .i64 ((rd_T124 l0_2 x6_3).f1.f1))).trans hx138_4; replace hx138_5 := (cell_far (p := ⟨gb137, 2, none⟩) (by first | (rw [add_block]; exact hn138_2) | (show (Addr.add _ _).block ≠ _; rw [add_block]; exact hn138_2) | exact hn138_2) (.int .i64 ((rd_T124 l0_2 x6_3).f1.f1))).trans hx138_5; replace hx138_0 := (cell_far (p := ⟨gb137, 3, none⟩) (by first | (rw [add_block]; exact hn138_3) | (show (Addr.add _ _).block ≠ _; rw [add_block]; exact hn138_3) | exact hn138_3) (.bool ((rd_T124 l0_2 x6_3).f1.f2))).trans hx138_0; replace hx138_1 := (cell_far (p := ⟨gb137, 3, none⟩) (by first | (rw [add_block]; exact hn138_3) | (show (Addr.add _ _).block ≠ _; rw [add_block]; exact hn138_3) | exact hn138_3) (.bool ((rd_T124 l0_2 x6_3).f1.f2))).trans hx138_1; replace hx138_2 := (cell_far (p := ⟨gb137, 3, none⟩) (by first | (rw [add_block]; exact hn138_3) | (show (Addr.add _ _).block ≠ _; rw [add_block]; exact hn138_3) | exact hn138_3) (.bool ((rd_T124 l0_2 x6_3).f1.f2))).trans hx138_2; replace hx138_3 := (cell_far (p := ⟨gb137, 3, none⟩) (by first | (rw [add_block]; exact hn138_3) | (show (Addr.add _ _).block ≠ _; rw [add_block]; exact hn138_3) | exact hn138_3) (.bool ((rd_T124 l0_2 x6_3).f1.f2))).trans hx138_3; replace hx138_4 := (cell_far (p := ⟨gb137, 3, none⟩) (by first | (rw [add_block]; exact hn138_3) | (show (Addr.add _ _).block ≠ _; rw [add_block]; exact hn138_3) | exact hn138_3) (.bool ((rd_T124 l0_2 x6_3).f1.f2))).trans hx138_4; replace hx138_5 := (cell_far (p := ⟨gb137, 3, none⟩) (by first | (rw [add_block]; exact hn138_3) | (show (Addr.add _ _).block ≠ _; rw [add_block]; exact hn138_3) | exact hn138_3) (.bool ((rd_T124 l0_2 x6_3).f1.f2))).trans hx138_5; replace hx138_0 := (cell_far (p := ⟨gb137, 4, none⟩) (by first | (rw [add_block]; exact hn138_4) | (show (Addr.add _ _).block ≠ _; rw [add_block]; exact hn138_4) | exact hn138_4) (.slice A136_4 ((rd_T124 l0_2 x6_3).f2).length c136_4)).trans hx138_0; replace hx138_1 := (cell_far (p := ⟨gb137, 4, none⟩) (by first | (rw [add_block]; exact hn138_4) | (show (Addr.add _ _).block ≠ _; rw [add_block]; exact hn138_4) | exact hn138_4) (.slice A136_4 ((rd_T124 l0_2 x6_3).f2).length c136_4)).trans hx138_1; replace hx138_2 := (cell_far (p := ⟨gb137, 4, none⟩) (by first | (rw [add_block]; exact hn138_4) | (show (Addr.add _ _).block ≠ _; rw [add_block]; exact hn138_4) | exact hn138_4) (.slice A136_4 ((rd_T124 l0_2 x6_3).f2).length c136_4)).trans hx138_2; replace hx138_3 := (cell_far (p := ⟨gb137, 4, none⟩) (by first | (rw [add_block]; exact hn138_4) | (show (Addr.add _ _).block ≠ _; rw [add_block]; exact hn138_4) | exact hn138_4) (.slice A136_4 ((rd_T124 l0_2 x6_3).f2).length c136_4)).trans hx138_3; replace hx138_4 := (cell_far (p := ⟨gb137, 4, none⟩) (by first | (rw [add_block]; exact hn138_4) | (show (Addr.add _ _).block ≠ _; rw [add_block]; exact hn138_4) | exact hn138_4) (.slice A136_4 ((rd_T124 l0_2 x6_3).f2).length c136_4)).trans hx138_4; replace hx138_5 := (cell_far (p := ⟨gb137, 4, none⟩) (by first | (rw [add_block]; exact hn138_4) | (show (Addr.add _ _).block ≠ _; rw [add_block]; exact hn138_4) | exact hn138_4) (.slice A136_4 ((rd_T124 l0_2 x6_3).f2).length c136_4)).trans hx138_5; replace hx138_0 := (cell_far (p := ⟨gb137, 5, none⟩) (by first | (rw [add_block]; exact hn138_5) | (show (Addr.add _ _).block ≠ _; rw [add_block]; exact hn138_5) | exact hn138_5) (.slice A136_5 ((rd_T124 l0_2 x6_3).f3).length c136_5)).trans hx138_0; replace hx138_1 := (cell_far (p := ⟨gb137, 5, none⟩) (by first | (rw [add_block]; exact hn138_5) | (show (Addr.add _ _).block ≠ _; rw [add_block]; exact hn138_5) | exact hn138_5) (.slice A136_5 ((rd_T124 l0_2 x6_3).f3).length c136_5)).trans hx138_1; replace hx138_2 := (cell_far (p := ⟨gb137, 5, none⟩) (by first | (rw [add_block]; exact hn138_5) | (show (Addr.add _ _).block ≠ _; rw [add_block]; exact hn138_5) | exact hn138_5) (.slice A136_5 ((rd_T124 l0_2 x6_3).f3).length c136_5)).trans hx138_2; replace hx138_3 := (cell_far (p := ⟨gb137, 5, none⟩) (by first | (rw [add_block]; exact hn138_5) | (show (Addr.add _ _).block ≠ _; rw [add_block]; exact hn138_5) | exact hn138_5) (.slice A136_5 ((rd_T124 l0_2 x6_3).f3).length c136_5)).trans hx138_3; replace hx138_4 := (cell_far (p := ⟨gb137, 5, none⟩) (by first | (rw [add_block]; exact hn138_5) | (show (Addr.add _ _).block ≠ _; rw [add_block]; exact hn138_5) | exact hn138_5) (.slice A136_5 ((rd_T124 l0_2 x6_3).f3).length c136_5)).trans hx138_4; replace hx138_5 := (cell_far (p := ⟨gb137, 5, none⟩) (by first | (rw [add_block]; exact hn138_5) | (show (Addr.add _ _).block ≠ _; rw [add_block]; exact hn138_5) | exact hn138_5) (.slice A136_5 ((rd_T124 l0_2 x6_3).f3).length c136_5)).trans hx138_5; clear hn138_0; clear hn138_1; clear hn138_2; clear hn138_3; clear hn138_4; clear hn138_5; replace p138 := eq_true p138; replace q138 := eq_true q138) | ((with_reducible refine gate_dst (N := 8) rfl ?_); (try (refine gate_guard (by rfl) ?_; dsimp only)); refine box_event ?hg (N := 8) ?hd (cs := #[.slice none 0 0, .int .i64 0, .int .i64 0, .bool false, .slice none 0 0, .slice none 0 0]) (t := 124) ?hr ?_; (case hd => rfl); (case hg => rfl); (case hr => first | (go_simp; done) | (go_simp; rfl)); intro gb139 hg w45 hbox hb; have n0_ := am (blk_below (g := gb130) (o := .cells #[.slice A0_0 l0_0.length c0_0, .slice A0_1 l0_1.length c0_1, .slice (some ad136) l0_2.length c0_2] 88 (0, 0)) (by (with_reducible repeat (first | apply qa | apply qb | apply qc)); refine qf ?_ NB130_137.out _; (with_reducible repeat (first | apply qa | apply qb | apply qc)); refine qf ?_ NB130_137.out _; (with_reducible repeat (first | apply qa | apply qb | apply qc)); refine qf ?_ NB130_137.out _; (with_reducible repeat (first | apply qa | apply qb | apply qc)); refine qf ?_ NB130_137.out _; (with_reducible repeat (first | apply qa | apply qb | apply qc)); refine qf ?_ NB130_137.out _; (with_reducible repeat (first | apply qa | apply qb | apply qc)); refine qf ?_ NB130_137.out _; (with_reducible repeat (first | apply qa | apply qb | apply qc)); exact BK130.out) hb); have n1_ := am (blk_below (g := gb131) (o := .cells #[.slice A1_0 l1_0.length c1_0, .slice A1_1 l1_1.length c1_1, .slice (some ad138) l1_2.length c1_2] 88 (0, 0)) (by (with_reducible repeat (first | apply qa | apply qb | apply qc)); refine qf ?_ NB131_137.out _; (with_reducible repeat (first | apply qa | apply qb | apply qc)); refine qf ?_ NB131_137.out _; (with_reducible repeat (first | apply qa | apply qb | apply qc)); refine qf ?_ NB131_137.out _; (with_reducible repeat (first | apply qa | apply qb | apply qc)); refine qf ?_ NB131_137.out _; (with_reducible repeat (first | apply qa | apply qb | apply qc)); refine qf ?_ NB131_137.out _; (with_reducible repeat (first | apply qa | apply qb | apply qc)); refine qf ?_ NB131_137.out _; (with_reducible repeat (first | apply qa | apply qb | apply qc)); exact BK131.out) hb); have n2_ := am (blk_below (g := gb137) (o := .cells #[.slice A136_0 ((rd_T124 l0_2 x6_3).f0).length c136_0, .int .i64 ((rd_T124 l0_2 x6_3).f1.f0), .int .i64 ((rd_T124 l0_2 x6_3).f1.f1), .bool ((rd_T124 l0_2 x6_3).f1.f2), .slice A136_4 ((rd_T124 l0_2 x6_3).f2).length c136_4, .slice A136_5 ((rd_T124 l0_2 x6_3).f3).length c136_5] 124 (0, 0)) (by (with_reducible repeat (first | apply qa | apply qb | apply qc)); refine blk_put (cs := #[.slice A136_0 ((rd_T124 l0_2 x6_3).f0).length c136_0, .int .i64 ((rd_T124 l0_2 x6_3).f1.f0), .int .i64 ((rd_T124 l0_2 x6_3).f1.f1), .bool ((rd_T124 l0_2 x6_3).f1.f2), .slice A136_4 ((rd_T124 l0_2 x6_3).f2).length c136_4, .slice none 0 0]) ?_ 5 _ rfl; (with_reducible repeat (first | apply qa | apply qb | apply qc)); refine blk_put (cs := #[.slice A136_0 ((rd_T124 l0_2 x6_3).f0).length c136_0, .int .i64 ((rd_T124 l0_2 x6_3).f1.f0), .int .i64 ((rd_T124 l0_2 x6_3).f1.f1), .bool ((rd_T124 l0_2 x6_3).f1.f2), .slice none 0 0, .slice none 0 0]) ?_ 4 _ rfl; (with_reducible repeat (first | apply qa | apply qb | apply qc)); refine blk_put (cs := #[.slice A136_0 ((rd_T124 l0_2 x6_3).f0).length c136_0, .int .i64 ((rd_T124 l0_2 x6_3).f1.f0), .int .i64 ((rd_T124 l0_2 x6_3).f1.f1), .bool false, .slice none 0 0, .slice none 0 0]) ?_ 3 _ rfl; (with_reducible repeat (first | apply qa | apply qb | apply qc)); refine blk_put (cs := #[.slice A136_0 ((rd_T124 l0_2 x6_3).f0).length c136_0, .int .i64 ((rd_T124 l0_2 x6_3).f1.f0), .int .i64 0, .bool false, .slice none 0 0, .slice none 0 0]) ?_ 2 _ rfl; (with_reducible repeat (first | apply qa | apply qb | apply qc)); refine blk_put (cs := #[.slice A136_0 ((rd_T124 l0_2 x6_3).f0).length c136_0, .int .i64 0, .int .i64 0, .bool false, .slice none 0 0, .slice none 0 0]) ?_ 1 _ rfl; (with_reducible repeat (first | apply qa | apply qb | apply qc)); refine blk_put (cs := #[.slice none 0 0, .int .i64 0, .int .i64 0, .bool false, .slice none 0 0, .slice none 0 0]) ?_ 0 _ rfl; (with_reducible repeat (first | apply qa | apply qb | apply qc)); exact BK137.out) hb); have n3_ := am (below_step (by repeat (first | (with_reducible first | exact HB.out | apply pa | apply pb | apply pc | refine below_set ?_ GE130.out | refine below_set ?_ GE131.out | refine below_set ?_ GE137.out) | exact HB.out)) hb); have n4_ := am (hbox); have n5_ := am ((by rw [hg]; exact (below_size (by repeat (first | (with_reducible first | exact HB.out | apply pa | apply pb | apply pc | refine below_set ?_ GE130.out | refine below_set ?_ GE131.out | refine below_set ?_ GE137.out) | exact HB.out))) : w.heap.size ≤ gb139)); have n6_ := am ((by rw [hg]; exact (below_size (by repeat (first | (with_reducible first | exact HB.out | apply pa | apply pb | apply pc | refine below_set ?_ GE130.out | refine below_set ?_ GE131.out | refine below_set ?_ GE137.out) | exact HB.out))) : w.heap.size ≤ gb139)); have n7_ := am ((by rw [hg]; exact Nat.ne_of_lt (blk_lt (g := gb130) (o := .cells #[.slice A0_0 l0_0.length c0_0, .slice A0_1 l0_1.length c0_1, .slice (some ad136) l0_2.length c0_2] 88 (0, 0)) (by (with_reducible repeat (first | apply qa | apply qb | apply qc)); refine qf ?_ NB130_137.out _; (with_reducible repeat (first | apply qa | apply qb | apply qc)); refine qf ?_ NB130_137.out _; (with_reducible repeat (first | apply qa | apply qb | apply qc)); refine qf ?_ NB130_137.out _; (with_reducible repeat (first | apply qa | apply qb | apply qc)); refine qf ?_ NB130_137.out _; (with_reducible repeat (first | apply qa | apply qb | apply qc)); refine qf ?_ NB130_137.out _; (with_reducible repeat (first | apply qa | apply qb | apply qc)); refine qf ?_ NB130_137.out _; (with_reducible repeat (first | apply qa | apply qb | apply qc)); exact BK130.out)) : gb130 ≠ gb139)); have n8_ := am ((by rw [hg]; exact Nat.ne_of_gt (blk_lt (g := gb130) (o := .cells #[.slice A0_0 l0_0.length c0_0, .slice A0_1 l0_1.length c0_1, .slice (some ad136) l0_2.length c0_2] 88 (0, 0)) (by (with_reducible repeat (first | apply qa | apply qb | apply qc)); refine qf ?_ NB130_137.out _; (with_reducible repeat (first | apply qa | apply qb | apply qc)); refine qf ?_ NB130_137.out _; (with_reducible repeat (first | apply qa | apply qb | apply qc)); refine qf ?_ NB130_137.out _; (with_reducible repeat (first | apply qa | apply qb | apply qc)); refine qf ?_ NB130_137.out _; (with_reducible repeat (first | apply qa | apply qb | apply qc)); refine qf ?_ NB130_137.out _; (with_reducible repeat (first | apply qa | apply qb | apply qc)); refine qf ?_ NB130_137.out _; (with_reducible repeat (first | apply qa | apply qb | apply qc)); exact BK130.out)) : gb139 ≠ gb130)); have n9_ := am ((by rw [hg]; exact Nat.ne_of_lt (blk_lt (g := gb131) (o := .cells #[.slice A1_0 l1_0.length c1_0, .slice A1_1 l1_1.length c1_1, .slice (some ad138) l1_2.length c1_2] 88 (0, 0)) (by (with_reducible repeat (first | apply qa | apply qb | apply qc)); refine qf ?_ NB131_137.out _; (with_reducible repeat (first | apply qa | apply qb | apply qc)); refine qf ?_ NB131_137.out _; (with_reducible repeat (first | apply qa | apply qb | apply qc)); refine qf ?_ NB131_137.out _; (with_reducible repeat (first | apply qa | apply qb | apply qc)); refine qf ?_ NB131_137.out _; (with_reducible repeat (first | apply qa | apply qb | apply qc)); refine qf ?_ NB131_137.out _; (with_reducible repeat (first | apply qa | apply qb | apply qc)); refine qf ?_ NB131_137.out _; (with_reducible repeat (first | apply qa | apply qb | apply qc)); exact BK131.out)) : gb131 ≠ gb139)); have n10_ := am ((by rw [hg]; exact Nat.ne_of_gt (blk_lt (g := gb131) (o := .cells #[.slice A1_0 l1_0.length c1_0, .slice A1_1 l1_1.length c1_1, .slice (some ad138) l1_2.length c1_2] 88 (0, 0)) (by (with_reducible repeat (first | apply qa | apply qb | apply qc)); refine qf ?_ NB131_137.out _; (with_reducible repeat (first | apply qa | apply qb | apply qc)); refine qf ?_ NB131_137.out _; (with_reducible repeat (first | apply qa | apply qb | apply qc)); refine qf ?_ NB131_137.out _; (with_reducible repeat (first | apply qa | apply qb | apply qc)); refine qf ?_ NB131_137.out _; (with_reducible repeat (first | apply qa | apply qb | apply qc)); refine qf ?_ NB131_137.out _; (with_reducible repeat (first | apply qa | apply qb | apply qc)); refine qf ?_ NB131_137.out _; (with_reducible repeat (first | apply qa | apply qb | apply qc)); exact BK131.out)) : gb139 ≠ gb131)); have n11_ := am ((by rw [hg]; exact Nat.ne_of_lt (blk_lt (g := gb137) (o := .cells #[.slice A136_0 ((rd_T124 l0_2 x6_3).f0).length c136_0, .int .i64 ((rd_T124 l0_2 x6_3).f1.f0), .int .i64 ((rd_T124 l0_2 x6_3).f1.f1), .bool ((rd_T124 l0_2 x6_3).f1.f2), .slice A136_4 ((rd_T124 l0_2 x6_3).f2).length c136_4, .slice A136_5 ((rd_T124 l0_2 x6_3).f3).length c136_5] 124 (0, 0)) (by (with_reducible repeat (first | apply qa | apply qb | apply qc)); refine blk_put (cs := #[.slice A136_0 ((rd_T124 l0_2 x6_3).f0).length c136_0, .int .i64 ((rd_T124 l0_2 x6_3).f1.f0), .int .i64 ((rd_T124 l0_2 x6_3).f1.f1), .bool ((rd_T124 l0_2 x6_3).f1.f2), .slice A136_4 ((rd_T124 l0_2 x6_3).f2).length c136_4, .slice none 0 0]) ?_ 5 _ rfl; (with_reducible repeat (first | apply qa | apply qb | apply qc)); refine blk_put (cs := #[.slice A136_0 ((rd_T124 l0_2 x6_3).f0).length c136_0, .int .i64 ((rd_T124 l0_2 x6_3).f1.f0), .int .i64 ((rd_T124 l0_2 x6_3).f1.f1), .bool ((rd_T124 l0_2 x6_3).f1.f2), .slice none 0 0, .slice none 0 0]) ?_ 4 _ rfl; (with_reducible repeat (first | apply qa | apply qb | apply qc)); refine blk_put (cs := #[.slice A136_0 ((rd_T124 l0_2 x6_3).f0).length c136_0, .int .i64 ((rd_T124 l0_2 x6_3).f1.f0), .int .i64 ((rd_T124 l0_2 x6_3).f1.f1), .bool false, .slice none 0 0, .slice none 0 0]) ?_ 3 _ rfl; (with_reducible repeat (first | apply qa | apply qb | apply qc)); refine blk_put (cs := #[.slice A136_0 ((rd_T124 l0_2 x6_3).f0).length c136_0, .int .i64 ((rd_T124 l0_2 x6_3).f1.f0), .int .i64 0, .bool false, .slice none 0 0, .slice none 0 0]) ?_ 2 _ rfl; (with_reducible repeat (first | apply qa | apply qb | apply qc)); refine blk_put (cs := #[.slice A136_0 ((rd_T124 l0_2 x6_3).f0).length c136_0, .int .i64 0, .int .i64 0, .bool false, .slice none 0 0, .slice none 0 0]) ?_ 1 _ rfl; (with_reducible repeat (first | apply qa | apply qb | apply qc)); refine blk_put (cs := #[.slice none 0 0, .int .i64 0, .int .i64 0, .bool false, .slice none 0 0, .slice none 0 0]) ?_ 0 _ rfl; (with_reducible repeat (first | apply qa | apply qb | apply qc)); exact BK137.out)) : gb137 ≠ gb139)); have n12_ := am ((by rw [hg]; exact Nat.ne_of_gt (blk_lt (g := gb137) (o := .cells #[.slice A136_0 ((rd_T124 l0_2 x6_3).f0).length c136_0, .int .i64 ((rd_T124 l0_2 x6_3).f1.f0), .int .i64 ((rd_T124 l0_2 x6_3).f1.f1), .bool ((rd_T124 l0_2 x6_3).f1.f2), .slice A136_4 ((rd_T124 l0_2 x6_3).f2).length c136_4, .slice A136_5 ((rd_T124 l0_2 x6_3).f3).length c136_5] 124 (0, 0)) (by (with_reducible repeat (first | apply qa | apply qb | apply qc)); refine blk_put (cs := #[.slice A136_0 ((rd_T124 l0_2 x6_3).f0).length c136_0, .int .i64 ((rd_T124 l0_2 x6_3).f1.f0), .int .i64 ((rd_T124 l0_2 x6_3).f1.f1), .bool ((rd_T124 l0_2 x6_3).f1.f2), .slice A136_4 ((rd_T124 l0_2 x6_3).f2).length c136_4, .slice none 0 0]) ?_ 5 _ rfl; (with_reducible repeat (first | apply qa | apply qb | apply qc)); refine blk_put (cs := #[.slice A136_0 ((rd_T124 l0_2 x6_3).f0).length c136_0, .int .i64 ((rd_T124 l0_2 x6_3).f1.f0), .int .i64 ((rd_T124 l0_2 x6_3).f1.f1), .bool ((rd_T124 l0_2 x6_3).f1.f2), .slice none 0 0, .slice none 0 0]) ?_ 4 _ rfl; (with_reducible repeat (first | apply qa | apply qb | apply qc)); refine blk_put (cs := #[.slice A136_0 ((rd_T124 l0_2 x6_3).f0).length c136_0, .int .i64 ((rd_T124 l0_2 x6_3).f1.f0), .int .i64 ((rd_T124 l0_2 x6_3).f1.f1), .bool false, .slice none 0 0, .slice none 0 0]) ?_ 3 _ rfl; (with_reducible repeat (first | apply qa | apply qb | apply qc)); refine blk_put (cs := #[.slice A136_0 ((rd_T124 l0_2 x6_3).f0).length c136_0, .int .i64 ((rd_T124 l0_2 x6_3).f1.f0), .int .i64 0, .bool false, .slice none 0 0, .slice none 0 0]) ?_ 2 _ rfl; (with_reducible repeat (first | apply qa | apply qb | apply qc)); refine blk_put (cs := #[.slice A136_0 ((rd_T124 l0_2 x6_3).f0).length c136_0, .int .i64 0, .int .i64 0, .bool false, .slice none 0 0, .slice none 0 0]) ?_ 1 _ rfl; (with_reducible repeat (first | apply qa | apply qb | apply qc)); refine blk_put (cs := #[.slice none 0 0, .int .i64 0, .int .i64 0, .bool false, .slice none 0 0, .slice none 0 0]) ?_ 0 _ rfl; (with_reducible repeat (first | apply qa | apply qb | apply qc)); exact BK137.out)) : gb139 ≠ gb137)); clear BK130; clear BK131; clear BK137; clear HB; have BK130 := n0_; have BK131 := n1_; have BK137 := n2_; have HB := n3_; have BK139 := n4_; have GW139 := n5_; have GE139 := n6_; have NB130_139 := n7_; have NB139_130 := n8_; have NB131_139 := n9_; have NB139_131 := n10_; have NB137_139 := n11_; have NB139_137 := n12_; clear n0_ n1_ n2_ n3_ n4_ n5_ n6_ n7_ n8_ n9_ n10_ n11_ n12_; clear hb hbox hg; have hnb46 := NB139_130.out; have hnc46 := NB130_139.out; have hnb47 := NB139_131.out; have hnc47 := NB131_139.out; have hnb48 := NB139_137.out; have hnc48 := NB137_139.out; have hcz49_0 := bc BK139.out 0 (.slice none 0 0) rfl; have hcz49_1 := bc BK139.out 1 (.int .i64 0) rfl; have hcz49_2 := bc BK139.out 2 (.int .i64 0) rfl; have hcz49_3 := bc BK139.out 3 (.bool false) rfl; have hcz49_4 := bc BK139.out 4 (.slice none 0 0) rfl; have hcz49_5 := bc BK139.out 5 (.slice none 0 0) rfl; have hfz49_0 := bf BK139.out 0; have hfz49_1 := bf BK139.out 1; have hfz49_2 := bf BK139.out 2; have hfz49_3 := bf BK139.out 3; have hfz49_4 := bf BK139.out 4; have hfz49_5 := bf BK139.out 5))
                        (try simp only [Act.put, List.setIfInBounds_toArray, List.set_cons_zero, List.set_cons_succ])
                        go_cut [97] (fun v97 wc => ∃ (kq : Nat) (x97_36 : Bool), v97 = .bool x97_36 ∧ Aside0 (spec_ProgSame.j3 kq x6_3 x97_36 l0_0 l0_1 l0_2 l1_0 l1_1 l1_2 = some r) ∧ Aside0 (kq ≤ k3) ∧ Aside0 (wc.heap[gb130]? = some (.cells #[(.slice A0_0 l0_0.length c0_0), (.slice A0_1 l0_1.length c0_1), (.slice (some ad136) l0_2.length c0_2)] 88 (0, 0))) ∧ Aside0 (wc.heap[gb131]? = some (.cells #[(.slice A1_0 l1_0.length c1_0), (.slice A1_1 l1_1.length c1_1), (.slice (some ad138) l1_2.length c1_2)] 88 (0, 0))) ∧ Aside0 (wc.heap[gb137]? = some (.cells #[(.slice A136_0 ((rd_T124 l0_2 x6_3).f0).length c136_0), .int .i64 ((rd_T124 l0_2 x6_3).f1.f0), .int .i64 ((rd_T124 l0_2 x6_3).f1.f1), .bool ((rd_T124 l0_2 x6_3).f1.f2), (.slice A136_4 ((rd_T124 l0_2 x6_3).f2).length c136_4), (.slice A136_5 ((rd_T124 l0_2 x6_3).f3).length c136_5)] 124 (0, 0))) ∧ Aside0 (wc.heap[gb139]? = some (.cells #[(.slice A138_0 ((rd_T124 l1_2 x6_3).f0).length c138_0), .int .i64 ((rd_T124 l1_2 x6_3).f1.f0), .int .i64 ((rd_T124 l1_2 x6_3).f1.f1), .bool ((rd_T124 l1_2 x6_3).f1.f2), (.slice A138_4 ((rd_T124 l1_2 x6_3).f2).length c138_4), (.slice A138_5 ((rd_T124 l1_2 x6_3).f3).length c138_5)] 124 (0, 0))) ∧ Aside0 (Below w.heap.size w wc))
                        case first =>
                          have H := HC37.out
                          clear HC37
                          by_cases c50 : (!(((rd_T124 l0_2 x6_3).f1.f0) == ((rd_T124 l1_2 x6_3).f1.f0)) || (!(((rd_T124 l0_2 x6_3).f1.f1) == ((rd_T124 l1_2 x6_3).f1.f1)) || (!(((rd_T124 l0_2 x6_3).f1.f2) == ((rd_T124 l1_2 x6_3).f1.f2))))) = true
                          · rw [if_pos c50] at H
                            have c50b0 : (!(((rd_T124 l0_2 x6_3).f1.f0) == ((rd_T124 l1_2 x6_3).f1.f0)) || (!(((rd_T124 l0_2 x6_3).f1.f1) == ((rd_T124 l1_2 x6_3).f1.f1)) || (!(((rd_T124 l0_2 x6_3).f1.f2) == ((rd_T124 l1_2 x6_3).f1.f2))))) = true := c50
                            clear c50
                            (first | rw [c50b0] | (simp only [i64_w, i32_w]; rw [c50b0]) | skip)
                            have H' := am H
                            clear H
                            have hnb51 := NB137_130.out
                            have hnc51 := NB130_137.out
                            have hnb52 := NB137_131.out
                            have hnc52 := NB131_137.out
                            have hnb53 := NB137_139.out
                            have hnc53 := NB139_137.out
                            have hcz54_0 : w45.cell? ⟨gb137, 0, none⟩ = some (.slice A136_0 ((rd_T124 l0_2 x6_3).f0).length c136_0) := (blk_cell BK137.out 0).trans rfl
                            have hcz54_1 : w45.cell? ⟨gb137, 1, none⟩ = some (.int .i64 ((rd_T124 l0_2 x6_3).f1.f0)) := (blk_cell BK137.out 1).trans rfl
                            have hcz54_2 : w45.cell? ⟨gb137, 2, none⟩ = some (.int .i64 ((rd_T124 l0_2 x6_3).f1.f1)) := (blk_cell BK137.out 2).trans rfl
                            have hcz54_3 : w45.cell? ⟨gb137, 3, none⟩ = some (.bool ((rd_T124 l0_2 x6_3).f1.f2)) := (blk_cell BK137.out 3).trans rfl
                            have hcz54_4 : w45.cell? ⟨gb137, 4, none⟩ = some (.slice A136_4 ((rd_T124 l0_2 x6_3).f2).length c136_4) := (blk_cell BK137.out 4).trans rfl
                            have hcz54_5 : w45.cell? ⟨gb137, 5, none⟩ = some (.slice A136_5 ((rd_T124 l0_2 x6_3).f3).length c136_5) := (blk_cell BK137.out 5).trans rfl
                            have hfz54_0 := bf BK137.out 0
                            have hfz54_1 := bf BK137.out 1
                            have hfz54_2 := bf BK137.out 2
                            have hfz54_3 := bf BK137.out 3
                            have hfz54_4 := bf BK137.out 4
                            have hfz54_5 := bf BK137.out 5
                            have hnb55 := NB139_130.out
                            have hnc55 := NB130_139.out
                            have hnb56 := NB139_131.out
                            have hnc56 := NB131_139.out
                            have hcz57_0 := bc BK139.out 0 (.slice none 0 0) rfl
                            have hcz57_1 := bc BK139.out 1 (.int .i64 0) rfl
                            have hcz57_2 := bc BK139.out 2 (.int .i64 0) rfl
                            have hcz57_3 := bc BK139.out 3 (.bool false) rfl
                            have hcz57_4 := bc BK139.out 4 (.slice none 0 0) rfl
                            have hcz57_5 := bc BK139.out 5 (.slice none 0 0) rfl
                            have hfz57_0 := bf BK139.out 0
                            have hfz57_1 := bf BK139.out 1
                            have hfz57_2 := bf BK139.out 2
                            have hfz57_3 := bf BK139.out 3
                            have hfz57_4 := bf BK139.out 4
                            have hfz57_5 := bf BK139.out 5
                            go_wp2
                            go_meet
                            case rel => exact ⟨_, (true), (by first | rfl | (simp; done) | (simp [*]; done)), H', ⟨by have := HJ2.out; have := HK2.out; have := HK3.out; first | omega | exact Nat.le_refl _⟩, ⟨by (with_reducible repeat (first | apply qa | apply qb | apply qc)); refine qf ?_ NB130_139.out _; (with_reducible repeat (first | apply qa | apply qb | apply qc)); refine qf ?_ NB130_139.out _; (with_reducible repeat (first | apply qa | apply qb | apply qc)); refine qf ?_ NB130_139.out _; (with_reducible repeat (first | apply qa | apply qb | apply qc)); refine qf ?_ NB130_139.out _; (with_reducible repeat (first | apply qa | apply qb | apply qc)); refine qf ?_ NB130_139.out _; (with_reducible repeat (first | apply qa | apply qb | apply qc)); refine qf ?_ NB130_139.out _; (with_reducible repeat (first | apply qa | apply qb | apply qc)); exact BK130.out⟩, ⟨by (with_reducible repeat (first | apply qa | apply qb | apply qc)); refine qf ?_ NB131_139.out _; (with_reducible repeat (first | apply qa | apply qb | apply qc)); refine qf ?_ NB131_139.out _; (with_reducible repeat (first | apply qa | apply qb | apply qc)); refine qf ?_ NB131_139.out _; (with_reducible repeat (first | apply qa | apply qb | apply qc)); refine qf ?_ NB131_139.out _; (with_reducible repeat (first | apply qa | apply qb | apply qc)); refine qf ?_ NB131_139.out _; (with_reducible repeat (first | apply qa | apply qb | apply qc)); refine qf ?_ NB131_139.out _; (with_reducible repeat (first | apply qa | apply qb | apply qc)); exact BK131.out⟩, ⟨by (with_reducible repeat (first | apply qa | apply qb | apply qc)); refine qf ?_ NB137_139.out _; (with_reducible repeat (first | apply qa | apply qb | apply qc)); refine qf ?_ NB137_139.out _; (with_reducible repeat (first | apply qa | apply qb | apply qc)); refine qf ?_ NB137_139.out _; (with_reducible repeat (first | apply qa | apply qb | apply qc)); refine qf ?_ NB137_139.out _; (with_reducible repeat (first | apply qa | apply qb | apply qc)); refine qf ?_ NB137_139.out _; (with_reducible repeat (first | apply qa | apply qb | apply qc)); refine qf ?_ NB137_139.out _; (with_reducible repeat (first | apply qa | apply qb | apply qc)); exact BK137.out⟩, ⟨by (with_reducible repeat (first | apply qa | apply qb | apply qc)); refine blk_put (cs := #[.slice A138_0 ((rd_T124 l1_2 x6_3).f0).length c138_0, .int .i64 ((rd_T124 l1_2 x6_3).f1.f0), .int .i64 ((rd_T124 l1_2 x6_3).f1.f1), .bool ((rd_T124 l1_2 x6_3).f1.f2), .slice A138_4 ((rd_T124 l1_2 x6_3).f2).length c138_4, .slice none 0 0]) ?_ 5 _ rfl; (with_reducible repeat (first | apply qa | apply qb | apply qc)); refine blk_put (cs := #[.slice A138_0 ((rd_T124 l1_2 x6_3).f0).length c138_0, .int .i64 ((rd_T124 l1_2 x6_3).f1.f0), .int .i64 ((rd_T124 l1_2 x6_3).f1.f1), .bool ((rd_T124 l1_2 x6_3).f1.f2), .slice none 0 0, .slice none 0 0]) ?_ 4 _ rfl; (with_reducible repeat (first | apply qa | apply qb | apply qc)); refine blk_put (cs := #[.slice A138_0 ((rd_T124 l1_2 x6_3).f0).length c138_0, .int .i64 ((rd_T124 l1_2 x6_3).f1.f0), .int .i64 ((rd_T124 l1_2 x6_3).f1.f1), .bool false, .slice none 0 0, .slice none 0 0]) ?_ 3 _ rfl; (with_reducible repeat (first | apply qa | apply qb | apply qc)); refine blk_put (cs := #[.slice A138_0 ((rd_T124 l1_2 x6_3).f0).length c138_0, .int .i64 ((rd_T124 l1_2 x6_3).f1.f0), .int .i64 0, .bool false, .slice none 0 0, .slice none 0 0]) ?_ 2 _ rfl; (with_reducible repeat (first | apply qa | apply qb | apply qc)); refine blk_put (cs := #[.slice A138_0 ((rd_T124 l1_2 x6_3).f0).length c138_0, .int .i64 0, .int .i64 0, .bool false, .slice none 0 0, .slice none 0 0]) ?_ 1 _ rfl; (with_reducible repeat (first | apply qa | apply qb | apply qc)); refine blk_put (cs := #[.slice none 0 0, .int .i64 0, .int .i64 0, .bool false, .slice none 0 0, .slice none 0 0]) ?_ 0 _ rfl; (with_reducible repeat (first | apply qa | apply qb | apply qc)); exact BK139.out⟩, ⟨by repeat (first | (with_reducible first | exact HB.out | apply pa | apply pb | apply pc | refine below_set ?_ GE130.out | refine below_set ?_ GE131.out | refine below_set ?_ GE137.out | refine below_set ?_ GE139.out) | exact HB.out)⟩⟩
                          · rw [if_neg c50] at H
                            have c50b0 : (!(((rd_T124 l0_2 x6_3).f1.f0) == ((rd_T124 l1_2 x6_3).f1.f0)) || (!(((rd_T124 l0_2 x6_3).f1.f1) == ((rd_T124 l1_2 x6_3).f1.f1)) || (!(((rd_T124 l0_2 x6_3).f1.f2) == ((rd_T124 l1_2 x6_3).f1.f2))))) = false := by simpa using c50
                            clear c50
                            (first | rw [c50b0] | (simp only [i64_w, i32_w]; rw [c50b0]) | skip)
                            replace H := Option.bind_eq_some_iff.mp H
                            obtain ⟨t140, A580, H⟩ := H
                            replace H : (if t140 = true then ((spec_l3Fields.f k3 ((rd_T124 l0_2 x6_3).f2) ((rd_T124 l1_2 x6_3).f2)).bind fun t141 => (if t141 = true then ((spec_l3Body.f k3 ((rd_T124 l0_2 x6_3).f3) ((rd_T124 l1_2 x6_3).f3)).bind fun t142 => (spec_ProgSame.j3 k3 x6_3 (!t142) l0_0 l0_1 l0_2 l1_0 l1_1 l1_2)) else (spec_ProgSame.j3 k3 x6_3 true l0_0 l0_1 l0_2 l1_0 l1_1 l1_2))) else (spec_ProgSame.j3 k3 x6_3 true l0_0 l0_1 l0_2 l1_0 l1_1 l1_2)) = some r := H
                            have A58 := am A580
                            clear A580
                            by_cases c59 : t140 = true
                            · subst c59
                              have H1 : ((spec_l3Fields.f k3 ((rd_T124 l0_2 x6_3).f2) ((rd_T124 l1_2 x6_3).f2)).bind fun t141 => (if t141 = true then ((spec_l3Body.f k3 ((rd_T124 l0_2 x6_3).f3) ((rd_T124 l1_2 x6_3).f3)).bind fun t142 => (spec_ProgSame.j3 k3 x6_3 (!t142) l0_0 l0_1 l0_2 l1_0 l1_1 l1_2)) else (spec_ProgSame.j3 k3 x6_3 true l0_0 l0_1 l0_2 l1_0 l1_1 l1_2))) = some r := by rw [if_pos rfl] at H; exact H
                              clear H
                              have H := H1
                              clear H1
                              replace H := Option.bind_eq_some_iff.mp H
                              obtain ⟨t141, A600, H⟩ := H
                              replace H : (if t141 = true then ((spec_l3Body.f k3 ((rd_T124 l0_2 x6_3).f3) ((rd_T124 l1_2 x6_3).f3)).bind fun t142 => (spec_ProgSame.j3 k3 x6_3 (!t142) l0_0 l0_1 l0_2 l1_0 l1_1 l1_2)) else (spec_ProgSame.j3 k3 x6_3 true l0_0 l0_1 l0_2 l1_0 l1_1 l1_2)) = some r := H
                              have A60 := am A600
                              clear A600
                              by_cases c61 : t141 = true
                              · subst c61
                                have H1 : ((spec_l3Body.f k3 ((rd_T124 l0_2 x6_3).f3) ((rd_T124 l1_2 x6_3).f3)).bind fun t142 => (spec_ProgSame.j3 k3 x6_3 (!t142) l0_0 l0_1 l0_2 l1_0 l1_1 l1_2)) = some r := by rw [if_pos rfl] at H; exact H
                                clear H
                                have H := H1
                                clear H1
                                replace H := Option.bind_eq_some_iff.mp H
                                obtain ⟨t142, A620, H⟩ := H
                                replace H : (spec_ProgSame.j3 k3 x6_3 (!t142) l0_0 l0_1 l0_2 l1_0 l1_1 l1_2) = some r := H
                                have A62 := am A620
                                clear A620
                                have H' := am H
                                clear H
                                have hnb63 := NB137_130.out
                                have hnc63 := NB130_137.out
                                have hnb64 := NB137_131.out
                                have hnc64 := NB131_137.out
                                have hnb65 := NB137_139.out
                                have hnc65 := NB139_137.out
                                have hcz66_0 : w45.cell? ⟨gb137, 0, none⟩ = some (.slice A136_0 ((rd_T124 l0_2 x6_3).f0).length c136_0) := (blk_cell BK137.out 0).trans rfl
                                have hcz66_1 : w45.cell? ⟨gb137, 1, none⟩ = some (.int .i64 ((rd_T124 l0_2 x6_3).f1.f0)) := (blk_cell BK137.out 1).trans rfl
                                have hcz66_2 : w45.cell? ⟨gb137, 2, none⟩ = some (.int .i64 ((rd_T124 l0_2 x6_3).f1.f1)) := (blk_cell BK137.out 2).trans rfl
                                have hcz66_3 : w45.cell? ⟨gb137, 3, none⟩ = some (.bool ((rd_T124 l0_2 x6_3).f1.f2)) := (blk_cell BK137.out 3).trans rfl
                                have hcz66_4 : w45.cell? ⟨gb137, 4, none⟩ = some (.slice A136_4 ((rd_T124 l0_2 x6_3).f2).length c136_4) := (blk_cell BK137.out 4).trans rfl
                                have hcz66_5 : w45.cell? ⟨gb137, 5, none⟩ = some (.slice A136_5 ((rd_T124 l0_2 x6_3).f3).length c136_5) := (blk_cell BK137.out 5).trans rfl
                                have hfz66_0 := bf BK137.out 0
                                have hfz66_1 := bf BK137.out 1
                                have hfz66_2 := bf BK137.out 2
                                have hfz66_3 := bf BK137.out 3
                                have hfz66_4 := bf BK137.out 4
                                have hfz66_5 := bf BK137.out 5
                                have hnb67 := NB139_130.out
                                have hnc67 := NB130_139.out
                                have hnb68 := NB139_131.out
                                have hnc68 := NB131_139.out
                                have hcz69_0 := bc BK139.out 0 (.slice none 0 0) rfl
                                have hcz69_1 := bc BK139.out 1 (.int .i64 0) rfl
                                have hcz69_2 := bc BK139.out 2 (.int .i64 0) rfl
                                have hcz69_3 := bc BK139.out 3 (.bool false) rfl
                                have hcz69_4 := bc BK139.out 4 (.slice none 0 0) rfl
                                have hcz69_5 := bc BK139.out 5 (.slice none 0 0) rfl
                                have hfz69_0 := bf BK139.out 0
                                have hfz69_1 := bf BK139.out 1
                                have hfz69_2 := bf BK139.out 2
                                have hfz69_3 := bf BK139.out 3
                                have hfz69_4 := bf BK139.out 4
                                have hfz69_5 := bf BK139.out 5
                                go_wp2_with (first | (go_at_call 88; (with_reducible refine (spec_l3Fields.calls k3 _ _ ((rd_T124 l0_2 x6_3).f0) _ _ ((rd_T124 l1_2 x6_3).f0) true _ ?side1 ?side2 ?side3 ?side4 A58.out).mono ?_); (case side1 => exact Kd.C_below HR136_0.out (by repeat (first | (with_reducible first | exact HB.out | apply pa | apply pb | apply pc | refine below_set ?_ GE130.out | refine below_set ?_ GE131.out | refine below_set ?_ GE137.out | refine below_set ?_ GE139.out) | exact HB.out))); (case side2 => exact HC136_0.out); (case side3 => exact Kd.C_below HR138_0.out (by repeat (first | (with_reducible first | exact HB.out | apply pa | apply pb | apply pc | refine below_set ?_ GE130.out | refine below_set ?_ GE131.out | refine below_set ?_ GE137.out | refine below_set ?_ GE139.out) | exact HB.out))); (case side4 => exact HC138_0.out); rintro e w' ⟨rfl, ⟨nd, rfl⟩⟩) | (go_at_call 88; (with_reducible refine (spec_l3Fields.calls k3 _ _ ((rd_T124 l0_2 x6_3).f2) _ _ ((rd_T124 l1_2 x6_3).f2) true _ ?side1 ?side2 ?side3 ?side4 A60.out).mono ?_); (case side1 => exact Kd.C_below HR136_4.out (by repeat (first | (with_reducible first | exact HB.out | apply pa | apply pb | apply pc | refine below_set ?_ GE130.out | refine below_set ?_ GE131.out | refine below_set ?_ GE137.out | refine below_set ?_ GE139.out) | exact HB.out))); (case side2 => exact HC136_4.out); (case side3 => exact Kd.C_below HR138_4.out (by repeat (first | (with_reducible first | exact HB.out | apply pa | apply pb | apply pc | refine below_set ?_ GE130.out | refine below_set ?_ GE131.out | refine below_set ?_ GE137.out | refine below_set ?_ GE139.out) | exact HB.out))); (case side4 => exact HC138_4.out); rintro e w' ⟨rfl, ⟨nd, rfl⟩⟩) | (go_at_call 90; (with_reducible refine (spec_l3Body.calls k3 _ _ ((rd_T124 l0_2 x6_3).f3) _ _ ((rd_T124 l1_2 x6_3).f3) t142 _ ?side1 ?side2 ?side3 ?side4 A62.out).mono ?_); (case side1 => exact Kd.C_below HR136_5.out (by repeat (first | (with_reducible first | exact HB.out | apply pa | apply pb | apply pc | refine below_set ?_ GE130.out | refine below_set ?_ GE131.out | refine below_set ?_ GE137.out | refine below_set ?_ GE139.out) | exact HB.out))); (case side2 => exact HC136_5.out); (case side3 => exact Kd.C_below HR138_5.out (by repeat (first | (with_reducible first | exact HB.out | apply pa | apply pb | apply pc | refine below_set ?_ GE130.out | refine below_set ?_ GE131.out | refine below_set ?_ GE137.out | refine below_set ?_ GE139.out) | exact HB.out))); (case side4 => exact HC138_5.out); rintro e w' ⟨rfl, ⟨nd, rfl⟩⟩))
                                go_meet
                                case rel => exact ⟨_, (!t142), (by first | rfl | (simp; done) | (simp [*]; done)), H', ⟨by have := HJ2.out; have := HK2.out; have := HK3.out; first | omega | exact Nat.le_refl _⟩, ⟨by (with_reducible repeat (first | apply qa | apply qb | apply qc)); refine qf ?_ NB130_139.out _; (with_reducible repeat (first | apply qa | apply qb | apply qc)); refine qf ?_ NB130_139.out _; (with_reducible repeat (first | apply qa | apply qb | apply qc)); refine qf ?_ NB130_139.out _; (with_reducible repeat (first | apply qa | apply qb | apply qc)); refine qf ?_ NB130_139.out _; (with_reducible repeat (first | apply qa | apply qb | apply qc)); refine qf ?_ NB130_139.out _; (with_reducible repeat (first | apply qa | apply qb | apply qc)); refine qf ?_ NB130_139.out _; (with_reducible repeat (first | apply qa | apply qb | apply qc)); exact BK130.out⟩, ⟨by (with_reducible repeat (first | apply qa | apply qb | apply qc)); refine qf ?_ NB131_139.out _; (with_reducible repeat (first | apply qa | apply qb | apply qc)); refine qf ?_ NB131_139.out _; (with_reducible repeat (first | apply qa | apply qb | apply qc)); refine qf ?_ NB131_139.out _; (with_reducible repeat (first | apply qa | apply qb | apply qc)); refine qf ?_ NB131_139.out _; (with_reducible repeat (first | apply qa | apply qb | apply qc)); refine qf ?_ NB131_139.out _; (with_reducible repeat (first | apply qa | apply qb | apply qc)); refine qf ?_ NB131_139.out _; (with_reducible repeat (first | apply qa | apply qb | apply qc)); exact BK131.out⟩, ⟨by (with_reducible repeat (first | apply qa | apply qb | apply qc)); refine qf ?_ NB137_139.out _; (with_reducible repeat (first | apply qa | apply qb | apply qc)); refine qf ?_ NB137_139.out _; (with_reducible repeat (first | apply qa | apply qb | apply qc)); refine qf ?_ NB137_139.out _; (with_reducible repeat (first | apply qa | apply qb | apply qc)); refine qf ?_ NB137_139.out _; (with_reducible repeat (first | apply qa | apply qb | apply qc)); refine qf ?_ NB137_139.out _; (with_reducible repeat (first | apply qa | apply qb | apply qc)); refine qf ?_ NB137_139.out _; (with_reducible repeat (first | apply qa | apply qb | apply qc)); exact BK137.out⟩, ⟨by (with_reducible repeat (first | apply qa | apply qb | apply qc)); refine blk_put (cs := #[.slice A138_0 ((rd_T124 l1_2 x6_3).f0).length c138_0, .int .i64 ((rd_T124 l1_2 x6_3).f1.f0), .int .i64 ((rd_T124 l1_2 x6_3).f1.f1), .bool ((rd_T124 l1_2 x6_3).f1.f2), .slice A138_4 ((rd_T124 l1_2 x6_3).f2).length c138_4, .slice none 0 0]) ?_ 5 _ rfl; (with_reducible repeat (first | apply qa | apply qb | apply qc)); refine blk_put (cs := #[.slice A138_0 ((rd_T124 l1_2 x6_3).f0).length c138_0, .int .i64 ((rd_T124 l1_2 x6_3).f1.f0), .int .i64 ((rd_T124 l1_2 x6_3).f1.f1), .bool ((rd_T124 l1_2 x6_3).f1.f2), .slice none 0 0, .slice none 0 0]) ?_ 4 _ rfl; (with_reducible repeat (first | apply qa | apply qb | apply qc)); refine blk_put (cs := #[.slice A138_0 ((rd_T124 l1_2 x6_3).f0).length c138_0, .int .i64 ((rd_T124 l1_2 x6_3).f1.f0), .int .i64 ((rd_T124 l1_2 x6_3).f1.f1), .bool false, .slice none 0 0, .slice none 0 0]) ?_ 3 _ rfl; (with_reducible repeat (first | apply qa | apply qb | apply qc)); refine blk_put (cs := #[.slice A138_0 ((rd_T124 l1_2 x6_3).f0).length c138_0, .int .i64 ((rd_T124 l1_2 x6_3).f1.f0), .int .i64 0, .bool false, .slice none 0 0, .slice none 0 0]) ?_ 2 _ rfl; (with_reducible repeat (first | apply qa | apply qb | apply qc)); refine blk_put (cs := #[.slice A138_0 ((rd_T124 l1_2 x6_3).f0).length c138_0, .int .i64 0, .int .i64 0, .bool false, .slice none 0 0, .slice none 0 0]) ?_ 1 _ rfl; (with_reducible repeat (first | apply qa | apply qb | apply qc)); refine blk_put (cs := #[.slice none 0 0, .int .i64 0, .int .i64 0, .bool false, .slice none 0 0, .slice none 0 0]) ?_ 0 _ rfl; (with_reducible repeat (first | apply qa | apply qb | apply qc)); exact BK139.out⟩, ⟨by repeat (first | (with_reducible first | exact HB.out | apply pa | apply pb | apply pc | refine below_set ?_ GE130.out | refine below_set ?_ GE131.out | refine below_set ?_ GE137.out | refine below_set ?_ GE139.out) | exact HB.out)⟩⟩
                              · replace c61 := Bool.eq_false_iff.mpr c61
                                subst c61
                                have H1 : (spec_ProgSame.j3 k3 x6_3 true l0_0 l0_1 l0_2 l1_0 l1_1 l1_2) = some r := by rw [if_neg (show ¬ (false = true) by decide)] at H; exact H
                                clear H
                                have H := H1
                                clear H1
                                have H' := am H
                                clear H
                                have hnb70 := NB137_130.out
                                have hnc70 := NB130_137.out
                                have hnb71 := NB137_131.out
                                have hnc71 := NB131_137.out
                                have hnb72 := NB137_139.out
                                have hnc72 := NB139_137.out
                                have hcz73_0 : w45.cell? ⟨gb137, 0, none⟩ = some (.slice A136_0 ((rd_T124 l0_2 x6_3).f0).length c136_0) := (blk_cell BK137.out 0).trans rfl
                                have hcz73_1 : w45.cell? ⟨gb137, 1, none⟩ = some (.int .i64 ((rd_T124 l0_2 x6_3).f1.f0)) := (blk_cell BK137.out 1).trans rfl
                                have hcz73_2 : w45.cell? ⟨gb137, 2, none⟩ = some (.int .i64 ((rd_T124 l0_2 x6_3).f1.f1)) := (blk_cell BK137.out 2).trans rfl
                                have hcz73_3 : w45.cell? ⟨gb137, 3, none⟩ = some (.bool ((rd_T124 l0_2 x6_3).f1.f2)) := (blk_cell BK137.out 3).trans rfl
                                have hcz73_4 : w45.cell? ⟨gb137, 4, none⟩ = some (.slice A136_4 ((rd_T124 l0_2 x6_3).f2).length c136_4) := (blk_cell BK137.out 4).trans rfl
                                have hcz73_5 : w45.cell? ⟨gb137, 5, none⟩ = some (.slice A136_5 ((rd_T124 l0_2 x6_3).f3).length c136_5) := (blk_cell BK137.out 5).trans rfl
                                have hfz73_0 := bf BK137.out 0
                                have hfz73_1 := bf BK137.out 1
                                have hfz73_2 := bf BK137.out 2
                                have hfz73_3 := bf BK137.out 3
                                have hfz73_4 := bf BK137.out 4
                                have hfz73_5 := bf BK137.out 5
                                have hnb74 := NB139_130.out
                                have hnc74 := NB130_139.out
                                have hnb75 := NB139_131.out
                                have hnc75 := NB131_139.out
                                have hcz76_0 := bc BK139.out 0 (.slice none 0 0) rfl
                                have hcz76_1 := bc BK139.out 1 (.int .i64 0) rfl
                                have hcz76_2 := bc BK139.out 2 (.int .i64 0) rfl
                                have hcz76_3 := bc BK139.out 3 (.bool false) rfl
                                have hcz76_4 := bc BK139.out 4 (.slice none 0 0) rfl
                                have hcz76_5 := bc BK139.out 5 (.slice none 0 0) rfl
                                have hfz76_0 := bf BK139.out 0
                                have hfz76_1 := bf BK139.out 1
                                have hfz76_2 := bf BK139.out 2
                                have hfz76_3 := bf BK139.out 3
                                have hfz76_4 := bf BK139.out 4
                                have hfz76_5 := bf BK139.out 5
                                go_wp2_with (first | (go_at_call 88; (with_reducible refine (spec_l3Fields.calls k3 _ _ ((rd_T124 l0_2 x6_3).f0) _ _ ((rd_T124 l1_2 x6_3).f0) true _ ?side1 ?side2 ?side3 ?side4 A58.out).mono ?_); (case side1 => exact Kd.C_below HR136_0.out (by repeat (first | (with_reducible first | exact HB.out | apply pa | apply pb | apply pc | refine below_set ?_ GE130.out | refine below_set ?_ GE131.out | refine below_set ?_ GE137.out | refine below_set ?_ GE139.out) | exact HB.out))); (case side2 => exact HC136_0.out); (case side3 => exact Kd.C_below HR138_0.out (by repeat (first | (with_reducible first | exact HB.out | apply pa | apply pb | apply pc | refine below_set ?_ GE130.out | refine below_set ?_ GE131.out | refine below_set ?_ GE137.out | refine below_set ?_ GE139.out) | exact HB.out))); (case side4 => exact HC138_0.out); rintro e w' ⟨rfl, ⟨nd, rfl⟩⟩) | (go_at_call 88; (with_reducible refine (spec_l3Fields.calls k3 _ _ ((rd_T124 l0_2 x6_3).f2) _ _ ((rd_T124 l1_2 x6_3).f2) false _ ?side1 ?side2 ?side3 ?side4 A60.out).mono ?_); (case side1 => exact Kd.C_below HR136_4.out (by repeat (first | (with_reducible first | exact HB.out | apply pa | apply pb | apply pc | refine below_set ?_ GE130.out | refine below_set ?_ GE131.out | refine below_set ?_ GE137.out | refine below_set ?_ GE139.out) | exact HB.out))); (case side2 => exact HC136_4.out); (case side3 => exact Kd.C_below HR138_4.out (by repeat (first | (with_reducible first | exact HB.out | apply pa | apply pb | apply pc | refine below_set ?_ GE130.out | refine below_set ?_ GE131.out | refine below_set ?_ GE137.out | refine below_set ?_ GE139.out) | exact HB.out))); (case side4 => exact HC138_4.out); rintro e w' ⟨rfl, ⟨nd, rfl⟩⟩))
                                go_meet
                                case rel => exact ⟨_, (true), (by first | rfl | (simp; done) | (simp [*]; done)), H', ⟨by have := HJ2.out; have := HK2.out; have := HK3.out; first | omega | exact Nat.le_refl _⟩, ⟨by (with_reducible repeat (first | apply qa | apply qb | apply qc)); refine qf ?_ NB130_139.out _; (with_reducible repeat (first | apply qa | apply qb | apply qc)); refine qf ?_ NB130_139.out _; (with_reducible repeat (first | apply qa | apply qb | apply qc)); refine qf ?_ NB130_139.out _; (with_reducible repeat (first | apply qa | apply qb | apply qc)); refine qf ?_ NB130_139.out _; (with_reducible repeat (first | apply qa | apply qb | apply qc)); refine qf ?_ NB130_139.out _; (with_reducible repeat (first | apply qa | apply qb | apply qc)); refine qf ?_ NB130_139.out _; (with_reducible repeat (first | apply qa | apply qb | apply qc)); exact BK130.out⟩, ⟨by (with_reducible repeat (first | apply qa | apply qb | apply qc)); refine qf ?_ NB131_139.out _; (with_reducible repeat (first | apply qa | apply qb | apply qc)); refine qf ?_ NB131_139.out _; (with_reducible repeat (first | apply qa | apply qb | apply qc)); refine qf ?_ NB131_139.out _; (with_reducible repeat (first | apply qa | apply qb | apply qc)); refine qf ?_ NB131_139.out _; (with_reducible repeat (first | apply qa | apply qb | apply qc)); refine qf ?_ NB131_139.out _; (with_reducible repeat (first | apply qa | apply qb | apply qc)); refine qf ?_ NB131_139.out _; (with_reducible repeat (first | apply qa | apply qb | apply qc)); exact BK131.out⟩, ⟨by (with_reducible repeat (first | apply qa | apply qb | apply qc)); refine qf ?_ NB137_139.out _; (with_reducible repeat (first | apply qa | apply qb | apply qc)); refine qf ?_ NB137_139.out _; (with_reducible repeat (first | apply qa | apply qb | apply qc)); refine qf ?_ NB137_139.out _; (with_reducible repeat (first | apply qa | apply qb | apply qc)); refine qf ?_ NB137_139.out _; (with_reducible repeat (first | apply qa | apply qb | apply qc)); refine qf ?_ NB137_139.out _; (with_reducible repeat (first | apply qa | apply qb | apply qc)); refine qf ?_ NB137_139.out _; (with_reducible repeat (first | apply qa | apply qb | apply qc)); exact BK137.out⟩, ⟨by (with_reducible repeat (first | apply qa | apply qb | apply qc)); refine blk_put (cs := #[.slice A138_0 ((rd_T124 l1_2 x6_3).f0).length c138_0, .int .i64 ((rd_T124 l1_2 x6_3).f1.f0), .int .i64 ((rd_T124 l1_2 x6_3).f1.f1), .bool ((rd_T124 l1_2 x6_3).f1.f2), .slice A138_4 ((rd_T124 l1_2 x6_3).f2).length c138_4, .slice none 0 0]) ?_ 5 _ rfl; (with_reducible repeat (first | apply qa | apply qb | apply qc)); refine blk_put (cs := #[.slice A138_0 ((rd_T124 l1_2 x6_3).f0).length c138_0, .int .i64 ((rd_T124 l1_2 x6_3).f1.f0), .int .i64 ((rd_T124 l1_2 x6_3).f1.f1), .bool ((rd_T124 l1_2 x6_3).f1.f2), .slice none 0 0, .slice none 0 0]) ?_ 4 _ rfl; (with_reducible repeat (first | apply qa | apply qb | apply qc)); refine blk_put (cs := #[.slice A138_0 ((rd_T124 l1_2 x6_3).f0).length c138_0, .int .i64 ((rd_T124 l1_2 x6_3).f1.f0), .int .i64 ((rd_T124 l1_2 x6_3).f1.f1), .bool false, .slice none 0 0, .slice none 0 0]) ?_ 3 _ rfl; (with_reducible repeat (first | apply qa | apply qb | apply qc)); refine blk_put (cs := #[.slice A138_0 ((rd_T124 l1_2 x6_3).f0).length c138_0, .int .i64 ((rd_T124 l1_2 x6_3).f1.f0), .int .i64 0, .bool false, .slice none 0 0, .slice none 0 0]) ?_ 2 _ rfl; (with_reducible repeat (first | apply qa | apply qb | apply qc)); refine blk_put (cs := #[.slice A138_0 ((rd_T124 l1_2 x6_3).f0).length c138_0, .int .i64 0, .int .i64 0, .bool false, .slice none 0 0, .slice none 0 0]) ?_ 1 _ rfl; (with_reducible repeat (first | apply qa | apply qb | apply qc)); refine blk_put (cs := #[.slice none 0 0, .int .i64 0, .int .i64 0, .bool false, .slice none 0 0, .slice none 0 0]) ?_ 0 _ rfl; (with_reducible repeat (first | apply qa | apply qb | apply qc)); exact BK139.out⟩, ⟨by repeat (first | (with_reducible first | exact HB.out | apply pa | apply pb | apply pc | refine below_set ?_ GE130.out | refine below_set ?_ GE131.out | refine below_set ?_ GE137.out | refine below_set ?_ GE139.out) | exact HB.out)⟩⟩
                            · replace c59 := Bool.eq_false_iff.mpr c59
                              subst c59
                              have H1 : (spec_ProgSame.j3 k3 x6_3 true l0_0 l0_1 l0_2 l1_0 l1_1 l1_2) = some r := by rw [if_neg (show ¬ (false = true) by decide)] at H; exact H
                              clear H
                              have H := H1
                              clear H1
                              have H' := am H
                              clear H
                              have hnb77 := NB137_130.out
                              have hnc77 := NB130_137.out
                              have hnb78 := NB137_131.out
                              have hnc78 := NB131_137.out
                              have hnb79 := NB137_139.out
                              have hnc79 := NB139_137.out
                              have hcz80_0 : w45.cell? ⟨gb137, 0, none⟩ = some (.slice A136_0 ((rd_T124 l0_2 x6_3).f0).length c136_0) := (blk_cell BK137.out 0).trans rfl
                              have hcz80_1 : w45.cell? ⟨gb137, 1, none⟩ = some (.int .i64 ((rd_T124 l0_2 x6_3).f1.f0)) := (blk_cell BK137.out 1).trans rfl
                              have hcz80_2 : w45.cell? ⟨gb137, 2, none⟩ = some (.int .i64 ((rd_T124 l0_2 x6_3).f1.f1)) := (blk_cell BK137.out 2).trans rfl
                              have hcz80_3 : w45.cell? ⟨gb137, 3, none⟩ = some (.bool ((rd_T124 l0_2 x6_3).f1.f2)) := (blk_cell BK137.out 3).trans rfl
                              have hcz80_4 : w45.cell? ⟨gb137, 4, none⟩ = some (.slice A136_4 ((rd_T124 l0_2 x6_3).f2).length c136_4) := (blk_cell BK137.out 4).trans rfl
                              have hcz80_5 : w45.cell? ⟨gb137, 5, none⟩ = some (.slice A136_5 ((rd_T124 l0_2 x6_3).f3).length c136_5) := (blk_cell BK137.out 5).trans rfl
                              have hfz80_0 := bf BK137.out 0
                              have hfz80_1 := bf BK137.out 1
                              have hfz80_2 := bf BK137.out 2
                              have hfz80_3 := bf BK137.out 3
                              have hfz80_4 := bf BK137.out 4
                              have hfz80_5 := bf BK137.out 5
                              have hnb81 := NB139_130.out
                              have hnc81 := NB130_139.out
                              have hnb82 := NB139_131.out
                              have hnc82 := NB131_139.out
                              have hcz83_0 := bc BK139.out 0 (.slice none 0 0) rfl
                              have hcz83_1 := bc BK139.out 1 (.int .i64 0) rfl
                              have hcz83_2 := bc BK139.out 2 (.int .i64 0) rfl
                              have hcz83_3 := bc BK139.out 3 (.bool false) rfl
                              have hcz83_4 := bc BK139.out 4 (.slice none 0 0) rfl
                              have hcz83_5 := bc BK139.out 5 (.slice none 0 0) rfl
                              have hfz83_0 := bf BK139.out 0
                              have hfz83_1 := bf BK139.out 1
                              have hfz83_2 := bf BK139.out 2
                              have hfz83_3 := bf BK139.out 3
                              have hfz83_4 := bf BK139.out 4
                              have hfz83_5 := bf BK139.out 5
                              go_wp2_with (first | (go_at_call 88; (with_reducible refine (spec_l3Fields.calls k3 _ _ ((rd_T124 l0_2 x6_3).f0) _ _ ((rd_T124 l1_2 x6_3).f0) false _ ?side1 ?side2 ?side3 ?side4 A58.out).mono ?_); (case side1 => exact Kd.C_below HR136_0.out (by repeat (first | (with_reducible first | exact HB.out | apply pa | apply pb | apply pc | refine below_set ?_ GE130.out | refine below_set ?_ GE131.out | refine below_set ?_ GE137.out | refine below_set ?_ GE139.out) | exact HB.out))); (case side2 => exact HC136_0.out); (case side3 => exact Kd.C_below HR138_0.out (by repeat (first | (with_reducible first | exact HB.out | apply pa | apply pb | apply pc | refine below_set ?_ GE130.out | refine below_set ?_ GE131.out | refine below_set ?_ GE137.out | refine below_set ?_ GE139.out) | exact HB.out))); (case side4 => exact HC138_0.out); rintro e w' ⟨rfl, ⟨nd, rfl⟩⟩))
                              go_meet
                              case rel => exact ⟨_, (true), (by first | rfl | (simp; done) | (simp [*]; done)), H', ⟨by have := HJ2.out; have := HK2.out; have := HK3.out; first | omega | exact Nat.le_refl _⟩, ⟨by (with_reducible repeat (first | apply qa | apply qb | apply qc)); refine qf ?_ NB130_139.out _; (with_reducible repeat (first | apply qa | apply qb | apply qc)); refine qf ?_ NB130_139.out _; (with_reducible repeat (first | apply qa | apply qb | apply qc)); refine qf ?_ NB130_139.out _; (with_reducible repeat (first | apply qa | apply qb | apply qc)); refine qf ?_ NB130_139.out _; (with_reducible repeat (first | apply qa | apply qb | apply qc)); refine qf ?_ NB130_139.out _; (with_reducible repeat (first | apply qa | apply qb | apply qc)); refine qf ?_ NB130_139.out _; (with_reducible repeat (first | apply qa | apply qb | apply qc)); exact BK130.out⟩, ⟨by (with_reducible repeat (first | apply qa | apply qb | apply qc)); refine qf ?_ NB131_139.out _; (with_reducible repeat (first | apply qa | apply qb | apply qc)); refine qf ?_ NB131_139.out _; (with_reducible repeat (first | apply qa | apply qb | apply qc)); refine qf ?_ NB131_139.out _; (with_reducible repeat (first | apply qa | apply qb | apply qc)); refine qf ?_ NB131_139.out _; (with_reducible repeat (first | apply qa | apply qb | apply qc)); refine qf ?_ NB131_139.out _; (with_reducible repeat (first | apply qa | apply qb | apply qc)); refine qf ?_ NB131_139.out _; (with_reducible repeat (first | apply qa | apply qb | apply qc)); exact BK131.out⟩, ⟨by (with_reducible repeat (first | apply qa | apply qb | apply qc)); refine qf ?_ NB137_139.out _; (with_reducible repeat (first | apply qa | apply qb | apply qc)); refine qf ?_ NB137_139.out _; (with_reducible repeat (first | apply qa | apply qb | apply qc)); refine qf ?_ NB137_139.out _; (with_reducible repeat (first | apply qa | apply qb | apply qc)); refine qf ?_ NB137_139.out _; (with_reducible repeat (first | apply qa | apply qb | apply qc)); refine qf ?_ NB137_139.out _; (with_reducible repeat (first | apply qa | apply qb | apply qc)); refine qf ?_ NB137_139.out _; (with_reducible repeat (first | apply qa | apply qb | apply qc)); exact BK137.out⟩, ⟨by (with_reducible repeat (first | apply qa | apply qb | apply qc)); refine blk_put (cs := #[.slice A138_0 ((rd_T124 l1_2 x6_3).f0).length c138_0, .int .i64 ((rd_T124 l1_2 x6_3).f1.f0), .int .i64 ((rd_T124 l1_2 x6_3).f1.f1), .bool ((rd_T124 l1_2 x6_3).f1.f2), .slice A138_4 ((rd_T124 l1_2 x6_3).f2).length c138_4, .slice none 0 0]) ?_ 5 _ rfl; (with_reducible repeat (first | apply qa | apply qb | apply qc)); refine blk_put (cs := #[.slice A138_0 ((rd_T124 l1_2 x6_3).f0).length c138_0, .int .i64 ((rd_T124 l1_2 x6_3).f1.f0), .int .i64 ((rd_T124 l1_2 x6_3).f1.f1), .bool ((rd_T124 l1_2 x6_3).f1.f2), .slice none 0 0, .slice none 0 0]) ?_ 4 _ rfl; (with_reducible repeat (first | apply qa | apply qb | apply qc)); refine blk_put (cs := #[.slice A138_0 ((rd_T124 l1_2 x6_3).f0).length c138_0, .int .i64 ((rd_T124 l1_2 x6_3).f1.f0), .int .i64 ((rd_T124 l1_2 x6_3).f1.f1), .bool false, .slice none 0 0, .slice none 0 0]) ?_ 3 _ rfl; (with_reducible repeat (first | apply qa | apply qb | apply qc)); refine blk_put (cs := #[.slice A138_0 ((rd_T124 l1_2 x6_3).f0).length c138_0, .int .i64 ((rd_T124 l1_2 x6_3).f1.f0), .int .i64 0, .bool false, .slice none 0 0, .slice none 0 0]) ?_ 2 _ rfl; (with_reducible repeat (first | apply qa | apply qb | apply qc)); refine blk_put (cs := #[.slice A138_0 ((rd_T124 l1_2 x6_3).f0).length c138_0, .int .i64 0, .int .i64 0, .bool false, .slice none 0 0, .slice none 0 0]) ?_ 1 _ rfl; (with_reducible repeat (first | apply qa | apply qb | apply qc)); refine blk_put (cs := #[.slice none 0 0, .int .i64 0, .int .i64 0, .bool false, .slice none 0 0, .slice none 0 0]) ?_ 0 _ rfl; (with_reducible repeat (first | apply qa | apply qb | apply qc)); exact BK139.out⟩, ⟨by repeat (first | (with_reducible first | exact HB.out | apply pa | apply pb | apply pc | refine below_set ?_ GE130.out | refine below_set ?_ GE131.out | refine below_set ?_ GE137.out | refine below_set ?_ GE139.out) | exact HB.out)⟩⟩
                        case rest =>
                          clear HC37
                          try clear c1
                          try clear p1
                          try clear q1
                          try clear hx1
                          try clear c2
                          try clear p2
                          try clear c3
                          try clear c4
                          try clear c5
                          try clear c6
                          try clear c6b0
                          try clear c6b1
                          try clear c6b2
                          try clear p6
                          try clear c7
                          try clear c7b0
                          try clear c7b1
                          try clear c7b2
                          try clear c8
                          try clear c9
                          try clear c12
                          try clear c13
                          try clear p13
                          try clear q13
                          try clear hx13
                          try clear c15
                          try clear c18
                          try clear c19
                          try clear c19b0
                          try clear c20
                          try clear c20b0
                          try clear c21
                          try clear c21b0
                          try clear c23
                          try clear c24
                          try clear c28
                          try clear c32
                          try clear c34
                          try clear c34b0
                          try clear c35
                          try clear c35b0
                          try clear c36
                          try clear c36b0
                          try clear c38
                          try clear c41
                          try clear c42
                          try clear c46
                          try clear c47
                          try clear c48
                          try clear c50
                          try clear c50b0
                          try clear c51
                          try clear c52
                          try clear c53
                          try clear c55
                          try clear c56
                          try clear c59
                          try clear c61
                          try clear c63
                          try clear c64
                          try clear p64
                          try clear c65
                          try clear c67
                          try clear c68
                          try clear c70
                          try clear c71
                          try clear c72
                          try clear c74
                          try clear c75
                          try clear c77
                          try clear c78
                          try clear c79
                          try clear c81
                          try clear c82
                          try clear hcz10_0
                          try clear hcz10_1
                          try clear hcz10_2
                          try clear hcz11_0
                          try clear hcz11_1
                          try clear hcz11_2
                          try clear hcz13_0
                          try clear hcz13_1
                          try clear hcz13_2
                          try clear hcz14_0
                          try clear hcz14_1
                          try clear hcz14_2
                          try clear hcz16_0
                          try clear hcz16_1
                          try clear hcz16_2
                          try clear hcz17_0
                          try clear hcz17_1
                          try clear hcz17_2
                          try clear hcz25_0
                          try clear hcz25_1
                          try clear hcz25_2
                          try clear hcz29_0
                          try clear hcz29_1
                          try clear hcz29_2
                          try clear hcz33_0
                          try clear hcz33_1
                          try clear hcz33_2
                          try clear hcz39_0
                          try clear hcz39_1
                          try clear hcz39_2
                          try clear hcz43_0
                          try clear hcz43_1
                          try clear hcz43_2
                          try clear hcz43_3
                          try clear hcz43_4
                          try clear hcz43_5
                          try clear hcz44_0
                          try clear hcz44_1
                          try clear hcz44_2
                          try clear hcz49_0
                          try clear hcz49_1
                          try clear hcz49_2
                          try clear hcz49_3
                          try clear hcz49_4
                          try clear hcz49_5
                          try clear hcz54_0
                          try clear hcz54_1
                          try clear hcz54_2
                          try clear hcz54_3
                          try clear hcz54_4
                          try clear hcz54_5
                          try clear hcz57_0
                          try clear hcz57_1
                          try clear hcz57_2
                          try clear hcz57_3
                          try clear hcz57_4
                          try clear hcz57_5
                          try clear hcz66_0
                          try clear hcz66_1
                          try clear hcz66_2
                          try clear hcz66_3
                          try clear hcz66_4
                          try clear hcz66_5
                          try clear hcz69_0
                          try clear hcz69_1
                          try clear hcz69_2
                          try clear hcz69_3
                          try clear hcz69_4
                          try clear hcz69_5
                          try clear hcz73_0
                          try clear hcz73_1
                          try clear hcz73_2
                          try clear hcz73_3
                          try clear hcz73_4
                          try clear hcz73_5
                          try clear hcz76_0
                          try clear hcz76_1
                          try clear hcz76_2
                          try clear hcz76_3
                          try clear hcz76_4
                          try clear hcz76_5
                          try clear hcz80_0
                          try clear hcz80_1
                          try clear hcz80_2
                          try clear hcz80_3
                          try clear hcz80_4
                          try clear hcz80_5
                          try clear hcz83_0
                          try clear hcz83_1
                          try clear hcz83_2
                          try clear hcz83_3
                          try clear hcz83_4
                          try clear hcz83_5
                          try clear hfz10_0
                          try clear hfz10_1
                          try clear hfz10_2
                          try clear hfz11_0
                          try clear hfz11_1
                          try clear hfz11_2
                          try clear hfz13_0
                          try clear hfz13_1
                          try clear hfz13_2
                          try clear hfz14_0
                          try clear hfz14_1
                          try clear hfz14_2
                          try clear hfz16_0
                          try clear hfz16_1
                          try clear hfz16_2
                          try clear hfz17_0
                          try clear hfz17_1
                          try clear hfz17_2
                          try clear hfz25_0
                          try clear hfz25_1
                          try clear hfz25_2
                          try clear hfz29_0
                          try clear hfz29_1
                          try clear hfz29_2
                          try clear hfz33_0
                          try clear hfz33_1
                          try clear hfz33_2
                          try clear hfz39_0
                          try clear hfz39_1
                          try clear hfz39_2
                          try clear hfz43_0
                          try clear hfz43_1
                          try clear hfz43_2
                          try clear hfz43_3
                          try clear hfz43_4
                          try clear hfz43_5
                          try clear hfz44_0
                          try clear hfz44_1
                          try clear hfz44_2
                          try clear hfz49_0
                          try clear hfz49_1
                          try clear hfz49_2
                          try clear hfz49_3
                          try clear hfz49_4
                          try clear hfz49_5
                          try clear hfz54_0
                          try clear hfz54_1
                          try clear hfz54_2
                          try clear hfz54_3
                          try clear hfz54_4
                          try clear hfz54_5
                          try clear hfz57_0
                          try clear hfz57_1
                          try clear hfz57_2
                          try clear hfz57_3
                          try clear hfz57_4
                          try clear hfz57_5
                          try clear hfz66_0
                          try clear hfz66_1
                          try clear hfz66_2
                          try clear hfz66_3
                          try clear hfz66_4
                          try clear hfz66_5
                          try clear hfz69_0
                          try clear hfz69_1
                          try clear hfz69_2
                          try clear hfz69_3
                          try clear hfz69_4
                          try clear hfz69_5
                          try clear hfz73_0
                          try clear hfz73_1
                          try clear hfz73_2
                          try clear hfz73_3
                          try clear hfz73_4
                          try clear hfz73_5
                          try clear hfz76_0
                          try clear hfz76_1
                          try clear hfz76_2
                          try clear hfz76_3
                          try clear hfz76_4
                          try clear hfz76_5
                          try clear hfz80_0
                          try clear hfz80_1
                          try clear hfz80_2
                          try clear hfz80_3
                          try clear hfz80_4
                          try clear hfz80_5
                          try clear hfz83_0
                          try clear hfz83_1
                          try clear hfz83_2
                          try clear hfz83_3
                          try clear hfz83_4
                          try clear hfz83_5
                          try clear hx133_0
                          try clear hx134_0
                          try clear hx136_0
                          try clear hx136_1
                          try clear hx136_2
                          try clear hx136_3
                          try clear hx136_4
                          try clear hx136_5
                          try clear hx138_0
                          try clear hx138_1
                          try clear hx138_2
                          try clear hx138_3
                          try clear hx138_4
                          try clear hx138_5
                          try clear p1
                          try clear p13
                          try clear p133
                          try clear p134
                          try clear p136
                          try clear p138
                          try clear p2
                          try clear p6
                          try clear q1
                          try clear q13
                          try clear q133
                          try clear q134
                          try clear q136
                          try clear q138
                          obtain ⟨kq, x97_36, rfl, HA, HJ36, BK130, BK131, BK137, BK139, HB⟩ := hcut
                          cases kq with
                          | zero => exact absurd HA.out (by simp [spec_ProgSame.j3])
                          | succ kj36 =>
                            have H := HA.out
                            clear HA
                            simp only [spec_ProgSame.j3] at H
                            by_cases c84 : x97_36 = true
                            · subst c84
                              have H1 : (some false) = some r := by rw [if_pos rfl] at H; exact H
                              clear H
                              have H := H1
                              clear H1
                              obtain rfl := Option.some.inj H
                              go_wp2
                              go_ret
                              exact ⟨by first | rfl | (simp [errW_none, errW_some] <;> rfl) | (simp [*, errW_none, errW_some] <;> rfl), by repeat (first | (with_reducible first | exact HB.out | apply pa | apply pb | apply pc | refine below_set ?_ GE130.out | refine below_set ?_ GE131.out | refine below_set ?_ GE137.out | refine below_set ?_ GE139.out) | exact HB.out)⟩
                            · replace c84 := Bool.eq_false_iff.mpr c84
                              subst c84
                              have H1 : (spec_ProgSame.l1 kj36 (wrap64 (x6_3 + 1)) l0_0 l0_1 l0_2 l1_0 l1_1 l1_2) = some r := by rw [if_neg (show ¬ (false = true) by decide)] at H; exact H
                              clear H
                              have H := H1
                              clear H1
                              have H' := am H
                              clear H
                              go_wp2
                              go_roundg kj36
                              case measure => have := HJ2.out; have := HK2.out; have := HK3.out; have := HJ36.out; omega
                              case rel => exact ⟨(wrap64 (x6_3 + 1)), (by first | rfl | (simp; done) | (simp [*]; done)), H', ⟨by have := HJ2.out; have := HK2.out; have := HK3.out; have := HJ36.out; omega⟩, ⟨by (with_reducible repeat (first | apply qa | apply qb | apply qc)); exact BK130.out⟩, ⟨by (with_reducible repeat (first | apply qa | apply qb | apply qc)); exact BK131.out⟩, ⟨by repeat (first | (with_reducible first | exact HB.out | apply pa | apply pb | apply pc | refine below_set ?_ GE130.out | refine below_set ?_ GE131.out | refine below_set ?_ GE137.out | refine below_set ?_ GE139.out) | exact HB.out)⟩⟩
                      · rw [if_neg c36] at H
                        exact absurd H (by simp)
                    · rw [if_neg c35] at H
                      exact absurd H (by simp)
                  · rw [if_neg c34] at H
                    have c34b0 : decide (x6_3 < (l0_2.length : Int)) = false := decide_eq_false c34
                    clear c34
                    obtain rfl := Option.some.inj H
                    have hnb85 := NB130_131.out
                    have hnc85 := NB131_130.out
                    have hcz86_0 := bc BK130.out 0 (.slice A0_0 l0_0.length c0_0) rfl
                    have hcz86_1 := bc BK130.out 1 (.slice A0_1 l0_1.length c0_1) rfl
                    have hcz86_2 := bc BK130.out 2 (.slice A0_2 l0_2.length c0_2) rfl
                    have hfz86_0 := bf BK130.out 0
                    have hfz86_1 := bf BK130.out 1
                    have hfz86_2 := bf BK130.out 2
                    go_wp2
                    go_ret
                    exact ⟨by first | rfl | (simp [errW_none, errW_some] <;> rfl) | (simp [*, errW_none, errW_some] <;> rfl), by repeat (first | (with_reducible first | exact HB.out | apply pa | apply pb | apply pc | refine below_set ?_ GE130.out | refine below_set ?_ GE131.out) | exact HB.out)⟩
end Go.Proofs.Ytgbmfkfmimpaaaa.PFnExactProgSame
