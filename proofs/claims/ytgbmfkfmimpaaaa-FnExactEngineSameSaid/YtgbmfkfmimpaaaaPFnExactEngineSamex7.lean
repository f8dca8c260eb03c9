/- Functions of the program as plain Lean functions, and that the machine's calls come to what these tell: by the kit's print, turned by this session (NOTES.md). No condition beyond each theorem's own. -/
import Derived.Test.YtgbmfkfmimpaaaaVFnExactEngineSamea
import Derived.Test.YtgbmfkfmimpaaaaPFnExactEngineSamex0
import Derived.Test.YtgbmfkfmimpaaaaPFnExactEngineSamex5
import Derived.Test.YtgbmfkfmimpaaaaPFnExactEngineSamex6
namespace Go.Proofs.Ytgbmfkfmimpaaaa.PFnExactEngineSame
open Go.RowKit Go.Proofs.YtgbmfkfmimpaaaaW.PrintWords Go.Proofs.YtgbmfkfmimpaaaaW.PrintLast Go.Proofs.YtgbmfkfmimpaaaaW.PrintMore Go.Proofs.Ytgbmfkfmimpaaaa.Aid3
set_option linter.unusedVariables false
set_option linter.unusedSimpArgs false
mutual
def spec_MeanSame.j0 : Nat → Bool → List (S114) → List (S104) → List (S98) → List Int → Int → Int → List (S114) → List (S104) → List (S98) → List Int → Int → Int → Option (Bool)
  | 0, _, _, _, _, _, _, _, _, _, _, _, _, _ => none
  | k + 1, x52, x219000, x219001, x219002, x219003, x219004, x219005, x220000, x220001, x220002, x220003, x220004, x220005 => if x52 = true then (some false) else (spec_MeanSame.l0 k 0 x219000 x219001 x219002 x219003 x219004 x219005 x220000 x220001 x220002 x220003 x220004 x220005)
def spec_MeanSame.l0 : Nat → Int → List (S114) → List (S104) → List (S98) → List Int → Int → Int → List (S114) → List (S104) → List (S98) → List Int → Int → Int → Option (Bool)
  | 0, _, _, _, _, _, _, _, _, _, _, _, _, _ => none
  | k + 1, x5, x219000, x219001, x219002, x219003, x219004, x219005, x220000, x220001, x220002, x220003, x220004, x220005 => if x5 < (x219002.length : Int) then (if 0 ≤ x5 then (if x5 < (x220002.length : Int) then (if ((rd_T98 x219002 x5).f0) = ((rd_T98 x220002 x5).f0) then (if ((rd_T98 x219002 x5).f1) = ((rd_T98 x220002 x5).f1) then ((spec_l5Vals.f k ((rd_T98 x219002 x5).f2) ((rd_T98 x220002 x5).f2)).bind fun t227 => (if t227 = true then ((spec_l5Vals.f k ((rd_T98 x219002 x5).f3) ((rd_T98 x220002 x5).f3)).bind fun t228 => (spec_MeanSame.j2 k x5 (!t228) x219000 x219001 x219002 x219003 x219004 x219005 x220000 x220001 x220002 x220003 x220004 x220005)) else (spec_MeanSame.j2 k x5 true x219000 x219001 x219002 x219003 x219004 x219005 x220000 x220001 x220002 x220003 x220004 x220005))) else (spec_MeanSame.j2 k x5 true x219000 x219001 x219002 x219003 x219004 x219005 x220000 x220001 x220002 x220003 x220004 x220005)) else (spec_MeanSame.j2 k x5 true x219000 x219001 x219002 x219003 x219004 x219005 x220000 x220001 x220002 x220003 x220004 x220005)) else (none)) else (none)) else (some true)
def spec_MeanSame.j2 : Nat → Int → Bool → List (S114) → List (S104) → List (S98) → List Int → Int → Int → List (S114) → List (S104) → List (S98) → List Int → Int → Int → Option (Bool)
  | 0, _, _, _, _, _, _, _, _, _, _, _, _, _, _ => none
  | k + 1, x5, x97, x219000, x219001, x219002, x219003, x219004, x219005, x220000, x220001, x220002, x220003, x220004, x220005 => if x97 = true then (some false) else (spec_MeanSame.l0 k (wrap64 (x5 + 1)) x219000 x219001 x219002 x219003 x219004 x219005 x220000 x220001 x220002 x220003 x220004 x220005)
end
def spec_MeanSame.f (k : Nat) (l0_0 : List (S114)) (l0_1 : List (S104)) (l0_2 : List (S98)) (l0_3 : List Int) (a0_4 : Int) (a0_5 : Int) (l1_0 : List (S114)) (l1_1 : List (S104)) (l1_2 : List (S98)) (l1_3 : List Int) (a1_4 : Int) (a1_5 : Int) : Option (Bool) := if a0_4 = a1_4 then (if a0_5 = a1_5 then (if (l0_2.length : Int) = (l1_2.length : Int) then ((spec_l5Ints.f k l0_3 l1_3).bind fun t220 => (if t220 = true then ((spec_l5Vals.f k l0_1 l1_1).bind fun t221 => (if t221 = true then ((spec_l5Things.f k l0_0 l1_0).bind fun t222 => (spec_MeanSame.j0 k (!t222) l0_0 l0_1 l0_2 l0_3 a0_4 a0_5 l1_0 l1_1 l1_2 l1_3 a1_4 a1_5)) else (spec_MeanSame.j0 k true l0_0 l0_1 l0_2 l0_3 a0_4 a0_5 l1_0 l1_1 l1_2 l1_3 a1_4 a1_5))) else (spec_MeanSame.j0 k true l0_0 l0_1 l0_2 l0_3 a0_4 a0_5 l1_0 l1_1 l1_2 l1_3 a1_4 a1_5))) else (spec_MeanSame.j0 k true l0_0 l0_1 l0_2 l0_3 a0_4 a0_5 l1_0 l1_1 l1_2 l1_3 a1_4 a1_5)) else (spec_MeanSame.j0 k true l0_0 l0_1 l0_2 l0_3 a0_4 a0_5 l1_0 l1_1 l1_2 l1_3 a1_4 a1_5)) else (spec_MeanSame.j0 k true l0_0 l0_1 l0_2 l0_3 a0_4 a0_5 l1_0 l1_1 l1_2 l1_3 a1_4 a1_5)
set_option maxHeartbeats 8000000 in
set_option maxRecDepth 100000 in
theorem spec_MeanSame.calls (k : Nat) (A0_0 : Option Addr) (c0_0 : Nat) (l0_0 : List (S114)) (A0_1 : Option Addr) (c0_1 : Nat) (l0_1 : List (S104)) (A0_2 : Option Addr) (c0_2 : Nat) (l0_2 : List (S98)) (A0_3 : Option Addr) (c0_3 : Nat) (l0_3 : List Int) (a0_4 : Int) (a0_5 : Int) (A1_0 : Option Addr) (c1_0 : Nat) (l1_0 : List (S114)) (A1_1 : Option Addr) (c1_1 : Nat) (l1_1 : List (S104)) (A1_2 : Option Addr) (c1_2 : Nat) (l1_2 : List (S98)) (A1_3 : Option Addr) (c1_3 : Nat) (l1_3 : List Int) (a1_4 : Int) (a1_5 : Int) (r : Bool) (w : World) (hr0_0 : Kd.C k114 w A0_0 l0_0.length l0_0) (hc0_0 : l0_0.length ≤ c0_0) (hr0_1 : Kd.C k104 w A0_1 l0_1.length l0_1) (hc0_1 : l0_1.length ≤ c0_1) (hr0_2 : Kd.C k98 w A0_2 l0_2.length l0_2) (hc0_2 : l0_2.length ≤ c0_2) (hr0_3 : Kd.C (Kd.int .i64) w A0_3 l0_3.length l0_3) (hc0_3 : l0_3.length ≤ c0_3) (hr1_0 : Kd.C k114 w A1_0 l1_0.length l1_0) (hc1_0 : l1_0.length ≤ c1_0) (hr1_1 : Kd.C k104 w A1_1 l1_1.length l1_1) (hc1_1 : l1_1.length ≤ c1_1) (hr1_2 : Kd.C k98 w A1_2 l1_2.length l1_2) (hc1_2 : l1_2.length ≤ c1_2) (hr1_3 : Kd.C (Kd.int .i64) w A1_3 l1_3.length l1_3) (hc1_3 : l1_3.length ≤ c1_3) (h : spec_MeanSame.f k l0_0 l0_1 l0_2 l0_3 a0_4 a0_5 l1_0 l1_1 l1_2 l1_3 a1_4 a1_5 = some r) :
    Calls Try.prog 47 #[.agg #[.slice A0_0 l0_0.length c0_0, .slice A0_1 l0_1.length c0_1, .slice A0_2 l0_2.length c0_2, .slice A0_3 l0_3.length c0_3, .int .i64 a0_4, .int .i64 a0_5], .agg #[.slice A1_0 l1_0.length c1_0, .slice A1_1 l1_1.length c1_1, .slice A1_2 l1_2.length c1_2, .slice A1_3 l1_3.length c1_3, .int .i64 a1_4, .int .i64 a1_5]] w fun e w' => e = .returned (.bool r) ∧ Below w.heap.size w w' := by
  have hu74 := Try.underlying74
  have hu98 := Try.underlying98
  have HR0_0 := am hr0_0
  have HC0_0 := am hc0_0
  clear hr0_0 hc0_0
  have HR0_1 := am hr0_1
  have HC0_1 := am hc0_1
  clear hr0_1 hc0_1
  have HR0_2 := am hr0_2
  have HC0_2 := am hc0_2
  clear hr0_2 hc0_2
  have HR0_3 := am hr0_3
  have HC0_3 := am hc0_3
  clear hr0_3 hc0_3
  have HR1_0 := am hr1_0
  have HC1_0 := am hc1_0
  clear hr1_0 hc1_0
  have HR1_1 := am hr1_1
  have HC1_1 := am hc1_1
  clear hr1_1 hc1_1
  have HR1_2 := am hr1_2
  have HC1_2 := am hc1_2
  clear hr1_2 hc1_2
  have HR1_3 := am hr1_3
  have HC1_3 := am hc1_3
  clear hr1_3 hc1_3
  have HB := am (Below.refl w.heap.size w)
  have H : (if a0_4 = a1_4 then (if a0_5 = a1_5 then (if (l0_2.length : Int) = (l1_2.length : Int) then ((spec_l5Ints.f k l0_3 l1_3).bind fun t220 => (if t220 = true then ((spec_l5Vals.f k l0_1 l1_1).bind fun t221 => (if t221 = true then ((spec_l5Things.f k l0_0 l1_0).bind fun t222 => (spec_MeanSame.j0 k (!t222) l0_0 l0_1 l0_2 l0_3 a0_4 a0_5 l1_0 l1_1 l1_2 l1_3 a1_4 a1_5)) else (spec_MeanSame.j0 k true l0_0 l0_1 l0_2 l0_3 a0_4 a0_5 l1_0 l1_1 l1_2 l1_3 a1_4 a1_5))) else (spec_MeanSame.j0 k true l0_0 l0_1 l0_2 l0_3 a0_4 a0_5 l1_0 l1_1 l1_2 l1_3 a1_4 a1_5))) else (spec_MeanSame.j0 k true l0_0 l0_1 l0_2 l0_3 a0_4 a0_5 l1_0 l1_1 l1_2 l1_3 a1_4 a1_5)) else (spec_MeanSame.j0 k true l0_0 l0_1 l0_2 l0_3 a0_4 a0_5 l1_0 l1_1 l1_2 l1_3 a1_4 a1_5)) else (spec_MeanSame.j0 k true l0_0 l0_1 l0_2 l0_3 a0_4 a0_5 l1_0 l1_1 l1_2 l1_3 a1_4 a1_5)) = some r := h
  clear h
  have HC3 := am H
  clear H
  go_enter Try.func47, Try.ntmps47
  go_upto_region 1 with (first | ((with_reducible refine gate_dst (N := 2) rfl ?_); (try (refine gate_guard (by rfl) ?_; dsimp only)); refine box_event ?hg (N := 2) ?hd (cs := #[.slice A0_0 l0_0.length c0_0, .slice A0_1 l0_1.length c0_1, .slice A0_2 l0_2.length c0_2, .slice A0_3 l0_3.length c0_3, .int .i64 a0_4, .int .i64 a0_5]) (t := 74) ?hr ?_; (case hd => rfl); (case hg => rfl); (case hr => first | (go_simp; done) | (go_simp; rfl)); intro gb218 hg w4 hbox hb; have n0_ := am (below_step (by repeat (first | (with_reducible first | exact HB.out | apply pa | apply pb | apply pc) | exact HB.out)) hb); have n1_ := am (hbox); have n2_ := am ((by rw [hg]; exact (below_size (by repeat (first | (with_reducible first | exact HB.out | apply pa | apply pb | apply pc) | exact HB.out))) : w.heap.size ≤ gb218)); have n3_ := am ((by rw [hg]; exact (below_size (by repeat (first | (with_reducible first | exact HB.out | apply pa | apply pb | apply pc) | exact HB.out))) : w.heap.size ≤ gb218)); clear HB; have HB := n0_; have BK218 := n1_; have GW218 := n2_; have GE218 := n3_; clear n0_ n1_ n2_ n3_; clear hb hbox hg) | ((with_reducible refine gate_dst (N := 3) rfl ?_); (try (refine gate_guard (by rfl) ?_; dsimp only)); refine box_event ?hg (N := 3) ?hd (cs := #[.slice A1_0 l1_0.length c1_0, .slice A1_1 l1_1.length c1_1, .slice A1_2 l1_2.length c1_2, .slice A1_3 l1_3.length c1_3, .int .i64 a1_4, .int .i64 a1_5]) (t := 74) ?hr ?_; (case hd => rfl); (case hg => rfl); (case hr => first | (go_simp; done) | (go_simp; rfl)); intro gb219 hg w5 hbox hb; have n0_ := am (blk_below (g := gb218) (o := .cells #[.slice A0_0 l0_0.length c0_0, .slice A0_1 l0_1.length c0_1, .slice A0_2 l0_2.length c0_2, .slice A0_3 l0_3.length c0_3, .int .i64 a0_4, .int .i64 a0_5] 74 (0, 0)) (by (with_reducible repeat (first | apply qa | apply qb | apply qc)); exact BK218.out) hb); have n1_ := am (below_step (by repeat (first | (with_reducible first | exact HB.out | apply pa | apply pb | apply pc | refine below_set ?_ GE218.out) | exact HB.out)) hb); have n2_ := am (hbox); have n3_ := am ((by rw [hg]; exact (below_size (by repeat (first | (with_reducible first | exact HB.out | apply pa | apply pb | apply pc | refine below_set ?_ GE218.out) | exact HB.out))) : w.heap.size ≤ gb219)); have n4_ := am ((by rw [hg]; exact (below_size (by repeat (first | (with_reducible first | exact HB.out | apply pa | apply pb | apply pc | refine below_set ?_ GE218.out) | exact HB.out))) : w.heap.size ≤ gb219)); have n5_ := am ((by rw [hg]; exact Nat.ne_of_lt (blk_lt (g := gb218) (o := .cells #[.slice A0_0 l0_0.length c0_0, .slice A0_1 l0_1.length c0_1, .slice A0_2 l0_2.length c0_2, .slice A0_3 l0_3.length c0_3, .int .i64 a0_4, .int .i64 a0_5] 74 (0, 0)) (by (with_reducible repeat (first | apply qa | apply qb | apply qc)); exact BK218.out)) : gb218 ≠ gb219)); have n6_ := am ((by rw [hg]; exact Nat.ne_of_gt (blk_lt (g := gb218) (o := .cells #[.slice A0_0 l0_0.length c0_0, .slice A0_1 l0_1.length c0_1, .slice A0_2 l0_2.length c0_2, .slice A0_3 l0_3.length c0_3, .int .i64 a0_4, .int .i64 a0_5] 74 (0, 0)) (by (with_reducible repeat (first | apply qa | apply qb | apply qc)); exact BK218.out)) : gb219 ≠ gb218)); clear BK218; clear HB; have BK218 := n0_; have HB := n1_; have BK219 := n2_; have GW219 := n3_; have GE219 := n4_; have NB218_219 := n5_; have NB219_218 := n6_; clear n0_ n1_ n2_ n3_ n4_ n5_ n6_; clear hb hbox hg))
  (try simp only [Act.put, List.setIfInBounds_toArray, List.set_cons_zero, List.set_cons_succ])
  go_cut [52] (fun v52 wc => ∃ (kq : Nat) (x52_2 : Bool), v52 = .bool x52_2 ∧ Aside0 (spec_MeanSame.j0 kq x52_2 l0_0 l0_1 l0_2 l0_3 a0_4 a0_5 l1_0 l1_1 l1_2 l1_3 a1_4 a1_5 = some r) ∧ Aside0 (kq ≤ k) ∧ Aside0 (wc.heap[gb218]? = some (.cells #[(.slice A0_0 l0_0.length c0_0), (.slice A0_1 l0_1.length c0_1), (.slice A0_2 l0_2.length c0_2), (.slice A0_3 l0_3.length c0_3), .int .i64 a0_4, .int .i64 a0_5] 74 (0, 0))) ∧ Aside0 (wc.heap[gb219]? = some (.cells #[(.slice A1_0 l1_0.length c1_0), (.slice A1_1 l1_1.length c1_1), (.slice A1_2 l1_2.length c1_2), (.slice A1_3 l1_3.length c1_3), .int .i64 a1_4, .int .i64 a1_5] 74 (0, 0))) ∧ Aside0 (Below w.heap.size w wc))
  case first =>
    have H := HC3.out
    clear HC3
    by_cases c6 : a0_4 = a1_4
    · rw [if_pos c6] at H
      have c6b0 : (a0_4 == a1_4) = true := beq_iff_eq.mpr c6
      have c6b1 : (a0_4 != a1_4) = false := bne_eq_false_iff_eq.mpr c6
      clear c6
      (first | rw [c6b0] | (simp only [i64_w, i32_w]; rw [c6b0]) | skip)
      by_cases c7 : a0_5 = a1_5
      · rw [if_pos c7] at H
        have c7b0 : (a0_5 == a1_5) = true := beq_iff_eq.mpr c7
        have c7b1 : (a0_5 != a1_5) = false := bne_eq_false_iff_eq.mpr c7
        clear c7
        by_cases c8 : (l0_2.length : Int) = (l1_2.length : Int)
        · rw [if_pos c8] at H
          have c8b0 : ((l0_2.length : Int) == (l1_2.length : Int)) = true := beq_iff_eq.mpr c8
          have c8b1 : ((l0_2.length : Int) != (l1_2.length : Int)) = false := bne_eq_false_iff_eq.mpr c8
          have c8b2 : (l0_2.length == l1_2.length) = true := by first | simpa using c8 | (simp at c8 ⊢; omega)
          clear c8
          replace H := Option.bind_eq_some_iff.mp H
          obtain ⟨t220, A90, H⟩ := H
          replace H : (if t220 = true then ((spec_l5Vals.f k l0_1 l1_1).bind fun t221 => (if t221 = true then ((spec_l5Things.f k l0_0 l1_0).bind fun t222 => (spec_MeanSame.j0 k (!t222) l0_0 l0_1 l0_2 l0_3 a0_4 a0_5 l1_0 l1_1 l1_2 l1_3 a1_4 a1_5)) else (spec_MeanSame.j0 k true l0_0 l0_1 l0_2 l0_3 a0_4 a0_5 l1_0 l1_1 l1_2 l1_3 a1_4 a1_5))) else (spec_MeanSame.j0 k true l0_0 l0_1 l0_2 l0_3 a0_4 a0_5 l1_0 l1_1 l1_2 l1_3 a1_4 a1_5)) = some r := H
          have A9 := am A90
          clear A90
          by_cases c10 : t220 = true
          · subst c10
            have H1 : ((spec_l5Vals.f k l0_1 l1_1).bind fun t221 => (if t221 = true then ((spec_l5Things.f k l0_0 l1_0).bind fun t222 => (spec_MeanSame.j0 k (!t222) l0_0 l0_1 l0_2 l0_3 a0_4 a0_5 l1_0 l1_1 l1_2 l1_3 a1_4 a1_5)) else (spec_MeanSame.j0 k true l0_0 l0_1 l0_2 l0_3 a0_4 a0_5 l1_0 l1_1 l1_2 l1_3 a1_4 a1_5))) = some r := by rw [if_pos rfl] at H; exact H
            clear H
            have H := H1
            clear H1
            replace H := Option.bind_eq_some_iff.mp H
            obtain ⟨t221, A110, H⟩ := H
            replace H : (if t221 = true then ((spec_l5Things.f k l0_0 l1_0).bind fun t222 => (spec_MeanSame.j0 k (!t222) l0_0 l0_1 l0_2 l0_3 a0_4 a0_5 l1_0 l1_1 l1_2 l1_3 a1_4 a1_5)) else (spec_MeanSame.j0 k true l0_0 l0_1 l0_2 l0_3 a0_4 a0_5 l1_0 l1_1 l1_2 l1_3 a1_4 a1_5)) = some r := H
            have A11 := am A110
            clear A110
            by_cases c12 : t221 = true
            · subst c12
              have H1 : ((spec_l5Things.f k l0_0 l1_0).bind fun t222 => (spec_MeanSame.j0 k (!t222) l0_0 l0_1 l0_2 l0_3 a0_4 a0_5 l1_0 l1_1 l1_2 l1_3 a1_4 a1_5)) = some r := by rw [if_pos rfl] at H; exact H
              clear H
              have H := H1
              clear H1
              replace H := Option.bind_eq_some_iff.mp H
              obtain ⟨t222, A130, H⟩ := H
              replace H : (spec_MeanSame.j0 k (!t222) l0_0 l0_1 l0_2 l0_3 a0_4 a0_5 l1_0 l1_1 l1_2 l1_3 a1_4 a1_5) = some r := H
              have A13 := am A130
              clear A130
              have H' := am H
              clear H
              have hnb14 := NB218_219.out
              have hnc14 := NB219_218.out
              have hcz15_0 := bc BK218.out 0 (.slice A0_0 l0_0.length c0_0) rfl
              have hcz15_1 := bc BK218.out 1 (.slice A0_1 l0_1.length c0_1) rfl
              have hcz15_2 := bc BK218.out 2 (.slice A0_2 l0_2.length c0_2) rfl
              have hcz15_3 := bc BK218.out 3 (.slice A0_3 l0_3.length c0_3) rfl
              have hcz15_4 := bc BK218.out 4 (.int .i64 a0_4) rfl
              have hcz15_5 := bc BK218.out 5 (.int .i64 a0_5) rfl
              have hfz15_0 := bf BK218.out 0
              have hfz15_1 := bf BK218.out 1
              have hfz15_2 := bf BK218.out 2
              have hfz15_3 := bf BK218.out 3
              have hfz15_4 := bf BK218.out 4
              have hfz15_5 := bf BK218.out 5
              have hcz16_0 := bc BK219.out 0 (.slice A1_0 l1_0.length c1_0) rfl
              have hcz16_1 := bc BK219.out 1 (.slice A1_1 l1_1.length c1_1) rfl
              have hcz16_2 := bc BK219.out 2 (.slice A1_2 l1_2.length c1_2) rfl
              have hcz16_3 := bc BK219.out 3 (.slice A1_3 l1_3.length c1_3) rfl
              have hcz16_4 := bc BK219.out 4 (.int .i64 a1_4) rfl
              have hcz16_5 := bc BK219.out 5 (.int .i64 a1_5) rfl
              have hfz16_0 := bf BK219.out 0
              have hfz16_1 := bf BK219.out 1
              have hfz16_2 := bf BK219.out 2
              have hfz16_3 := bf BK219.out 3
              have hfz16_4 := bf BK219.out 4
              have hfz16_5 := bf BK219.out 5
              go_wp2_with (first | (go_at_call 65; (with_reducible refine (spec_l5Ints.calls k _ _ l0_3 _ _ l1_3 true _ ?side1 ?side2 ?side3 ?side4 A9.out).mono ?_); (case side1 => repeat (first | exact (Kd.C_below HR0_3.out HB.out) | (with_reducible refine Kd.C_alloc ?_ _) | (with_reducible refine Kd.C_drewN ?_ _) | (with_reducible refine Kd.C_drew ?_))); (case side2 => exact HC0_3.out); (case side3 => repeat (first | exact (Kd.C_below HR1_3.out HB.out) | (with_reducible refine Kd.C_alloc ?_ _) | (with_reducible refine Kd.C_drewN ?_ _) | (with_reducible refine Kd.C_drew ?_))); (case side4 => exact HC1_3.out); rintro e w' ⟨rfl, ⟨nd, rfl⟩⟩) | (go_at_call 79; (with_reducible refine (spec_l5Vals.calls k _ _ l0_1 _ _ l1_1 true _ ?side1 ?side2 ?side3 ?side4 A11.out).mono ?_); (case side1 => repeat (first | exact (Kd.C_below HR0_1.out (by repeat (first | (with_reducible first | exact HB.out | apply pa | apply pb | apply pc | refine below_set ?_ GE218.out | refine below_set ?_ GE219.out) | exact HB.out))) | (with_reducible refine Kd.C_alloc ?_ _) | (with_reducible refine Kd.C_drewN ?_ _) | (with_reducible refine Kd.C_drew ?_))); (case side2 => exact HC0_1.out); (case side3 => repeat (first | exact (Kd.C_below HR1_1.out (by repeat (first | (with_reducible first | exact HB.out | apply pa | apply pb | apply pc | refine below_set ?_ GE218.out | refine below_set ?_ GE219.out) | exact HB.out))) | (with_reducible refine Kd.C_alloc ?_ _) | (with_reducible refine Kd.C_drewN ?_ _) | (with_reducible refine Kd.C_drew ?_))); (case side4 => exact HC1_1.out); rintro e w' ⟨rfl, ⟨nd, rfl⟩⟩) | (go_at_call 80; (with_reducible refine (spec_l5Things.calls k _ _ l0_0 _ _ l1_0 t222 _ ?side1 ?side2 ?side3 ?side4 A13.out).mono ?_); (case side1 => repeat (first | exact (Kd.C_below HR0_0.out (by repeat (first | (with_reducible first | exact HB.out | apply pa | apply pb | apply pc | refine below_set ?_ GE218.out | refine below_set ?_ GE219.out) | exact HB.out))) | (with_reducible refine Kd.C_alloc ?_ _) | (with_reducible refine Kd.C_drewN ?_ _) | (with_reducible refine Kd.C_drew ?_))); (case side2 => exact HC0_0.out); (case side3 => repeat (first | exact (Kd.C_below HR1_0.out (by repeat (first | (with_reducible first | exact HB.out | apply pa | apply pb | apply pc | refine below_set ?_ GE218.out | refine below_set ?_ GE219.out) | exact HB.out))) | (with_reducible refine Kd.C_alloc ?_ _) | (with_reducible refine Kd.C_drewN ?_ _) | (with_reducible refine Kd.C_drew ?_))); (case side4 => exact HC1_0.out); rintro e w' ⟨rfl, ⟨nd, rfl⟩⟩))
              go_meet
              case rel => exact ⟨_, (!t222), (by first | rfl | (simp; done) | (simp [*]; done)), H', ⟨by first | omega | exact Nat.le_refl _⟩, ⟨by (with_reducible repeat (first | apply qa | apply qb | apply qc)); exact BK218.out⟩, ⟨by (with_reducible repeat (first | apply qa | apply qb | apply qc)); exact BK219.out⟩, ⟨by repeat (first | (with_reducible first | exact HB.out | apply pa | apply pb | apply pc | refine below_set ?_ GE218.out | refine below_set ?_ GE219.out) | exact HB.out)⟩⟩
            · replace c12 := Bool.eq_false_iff.mpr c12
              subst c12
              have H1 : (spec_MeanSame.j0 k true l0_0 l0_1 l0_2 l0_3 a0_4 a0_5 l1_0 l1_1 l1_2 l1_3 a1_4 a1_5) = some r := by rw [if_neg (show ¬ (false = true) by decide)] at H; exact H
              clear H
              have H := H1
              clear H1
              have H' := am H
              clear H
              have hnb17 := NB218_219.out
              have hnc17 := NB219_218.out
              have hcz18_0 := bc BK218.out 0 (.slice A0_0 l0_0.length c0_0) rfl
              have hcz18_1 := bc BK218.out 1 (.slice A0_1 l0_1.length c0_1) rfl
              have hcz18_2 := bc BK218.out 2 (.slice A0_2 l0_2.length c0_2) rfl
              have hcz18_3 := bc BK218.out 3 (.slice A0_3 l0_3.length c0_3) rfl
              have hcz18_4 := bc BK218.out 4 (.int .i64 a0_4) rfl
              have hcz18_5 := bc BK218.out 5 (.int .i64 a0_5) rfl
              have hfz18_0 := bf BK218.out 0
              have hfz18_1 := bf BK218.out 1
              have hfz18_2 := bf BK218.out 2
              have hfz18_3 := bf BK218.out 3
              have hfz18_4 := bf BK218.out 4
              have hfz18_5 := bf BK218.out 5
              have hcz19_0 := bc BK219.out 0 (.slice A1_0 l1_0.length c1_0) rfl
              have hcz19_1 := bc BK219.out 1 (.slice A1_1 l1_1.length c1_1) rfl
              have hcz19_2 := bc BK219.out 2 (.slice A1_2 l1_2.length c1_2) rfl
              have hcz19_3 := bc BK219.out 3 (.slice A1_3 l1_3.length c1_3) rfl
              have hcz19_4 := bc BK219.out 4 (.int .i64 a1_4) rfl
              have hcz19_5 := bc BK219.out 5 (.int .i64 a1_5) rfl
              have hfz19_0 := bf BK219.out 0
              have hfz19_1 := bf BK219.out 1
              have hfz19_2 := bf BK219.out 2
              have hfz19_3 := bf BK219.out 3
              have hfz19_4 := bf BK219.out 4
              have hfz19_5 := bf BK219.out 5
              go_wp2_with (first | (go_at_call 65; (with_reducible refine (spec_l5Ints.calls k _ _ l0_3 _ _ l1_3 true _ ?side1 ?side2 ?side3 ?side4 A9.out).mono ?_); (case side1 => repeat (first | exact (Kd.C_below HR0_3.out HB.out) | (with_reducible refine Kd.C_alloc ?_ _) | (with_reducible refine Kd.C_drewN ?_ _) | (with_reducible refine Kd.C_drew ?_))); (case side2 => exact HC0_3.out); (case side3 => repeat (first | exact (Kd.C_below HR1_3.out HB.out) | (with_reducible refine Kd.C_alloc ?_ _) | (with_reducible refine Kd.C_drewN ?_ _) | (with_reducible refine Kd.C_drew ?_))); (case side4 => exact HC1_3.out); rintro e w' ⟨rfl, ⟨nd, rfl⟩⟩) | (go_at_call 79; (with_reducible refine (spec_l5Vals.calls k _ _ l0_1 _ _ l1_1 false _ ?side1 ?side2 ?side3 ?side4 A11.out).mono ?_); (case side1 => repeat (first | exact (Kd.C_below HR0_1.out (by repeat (first | (with_reducible first | exact HB.out | apply pa | apply pb | apply pc | refine below_set ?_ GE218.out | refine below_set ?_ GE219.out) | exact HB.out))) | (with_reducible refine Kd.C_alloc ?_ _) | (with_reducible refine Kd.C_drewN ?_ _) | (with_reducible refine Kd.C_drew ?_))); (case side2 => exact HC0_1.out); (case side3 => repeat (first | exact (Kd.C_below HR1_1.out (by repeat (first | (with_reducible first | exact HB.out | apply pa | apply pb | apply pc | refine below_set ?_ GE218.out | refine below_set ?_ GE219.out) | exact HB.out))) | (with_reducible refine Kd.C_alloc ?_ _) | (with_reducible refine Kd.C_drewN ?_ _) | (with_reducible refine Kd.C_drew ?_))); (case side4 => exact HC1_1.out); rintro e w' ⟨rfl, ⟨nd, rfl⟩⟩))
              go_meet
              case rel => exact ⟨_, (true), (by first | rfl | (simp; done) | (simp [*]; done)), H', ⟨by first | omega | exact Nat.le_refl _⟩, ⟨by (with_reducible repeat (first | apply qa | apply qb | apply qc)); exact BK218.out⟩, ⟨by (with_reducible repeat (first | apply qa | apply qb | apply qc)); exact BK219.out⟩, ⟨by repeat (first | (with_reducible first | exact HB.out | apply pa | apply pb | apply pc | refine below_set ?_ GE218.out | refine below_set ?_ GE219.out) | exact HB.out)⟩⟩
          · replace c10 := Bool.eq_false_iff.mpr c10
            subst c10
            have H1 : (spec_MeanSame.j0 k true l0_0 l0_1 l0_2 l0_3 a0_4 a0_5 l1_0 l1_1 l1_2 l1_3 a1_4 a1_5) = some r := by rw [if_neg (show ¬ (false = true) by decide)] at H; exact H
            clear H
            have H := H1
            clear H1
            have H' := am H
            clear H
            have hnb20 := NB218_219.out
            have hnc20 := NB219_218.out
            have hcz21_0 := bc BK218.out 0 (.slice A0_0 l0_0.length c0_0) rfl
            have hcz21_1 := bc BK218.out 1 (.slice A0_1 l0_1.length c0_1) rfl
            have hcz21_2 := bc BK218.out 2 (.slice A0_2 l0_2.length c0_2) rfl
            have hcz21_3 := bc BK218.out 3 (.slice A0_3 l0_3.length c0_3) rfl
            have hcz21_4 := bc BK218.out 4 (.int .i64 a0_4) rfl
            have hcz21_5 := bc BK218.out 5 (.int .i64 a0_5) rfl
            have hfz21_0 := bf BK218.out 0
            have hfz21_1 := bf BK218.out 1
            have hfz21_2 := bf BK218.out 2
            have hfz21_3 := bf BK218.out 3
            have hfz21_4 := bf BK218.out 4
            have hfz21_5 := bf BK218.out 5
            have hcz22_0 := bc BK219.out 0 (.slice A1_0 l1_0.length c1_0) rfl
            have hcz22_1 := bc BK219.out 1 (.slice A1_1 l1_1.length c1_1) rfl
            have hcz22_2 := bc BK219.out 2 (.slice A1_2 l1_2.length c1_2) rfl
            have hcz22_3 := bc BK219.out 3 (.slice A1_3 l1_3.length c1_3) rfl
            have hcz22_4 := bc BK219.out 4 (.int .i64 a1_4) rfl
            have hcz22_5 := bc BK219.out 5 (.int .i64 a1_5) rfl
            have hfz22_0 := bf BK219.out 0
            have hfz22_1 := bf BK219.out 1
            have hfz22_2 := bf BK219.out 2
            have hfz22_3 := bf BK219.out 3
            have hfz22_4 := bf BK219.out 4
            have hfz22_5 := bf BK219.out 5
            go_wp2_with (first | (go_at_call 65; (with_reducible refine (spec_l5Ints.calls k _ _ l0_3 _ _ l1_3 false _ ?side1 ?side2 ?side3 ?side4 A9.out).mono ?_); (case side1 => repeat (first | exact (Kd.C_below HR0_3.out HB.out) | (with_reducible refine Kd.C_alloc ?_ _) | (with_reducible refine Kd.C_drewN ?_ _) | (with_reducible refine Kd.C_drew ?_))); (case side2 => exact HC0_3.out); (case side3 => repeat (first | exact (Kd.C_below HR1_3.out HB.out) | (with_reducible refine Kd.C_alloc ?_ _) | (with_reducible refine Kd.C_drewN ?_ _) | (with_reducible refine Kd.C_drew ?_))); (case side4 => exact HC1_3.out); rintro e w' ⟨rfl, ⟨nd, rfl⟩⟩))
            go_meet
            case rel => exact ⟨_, (true), (by first | rfl | (simp; done) | (simp [*]; done)), H', ⟨by first | omega | exact Nat.le_refl _⟩, ⟨by (with_reducible repeat (first | apply qa | apply qb | apply qc)); exact BK218.out⟩, ⟨by (with_reducible repeat (first | apply qa | apply qb | apply qc)); exact BK219.out⟩, ⟨by repeat (first | (with_reducible first | exact HB.out | apply pa | apply pb | apply pc | refine below_set ?_ GE218.out | refine below_set ?_ GE219.out) | exact HB.out)⟩⟩
        · rw [if_neg c8] at H
          have c8b0 : ((l0_2.length : Int) == (l1_2.length : Int)) = false := beq_eq_false_iff_ne.mpr c8
          have c8b1 : ((l0_2.length : Int) != (l1_2.length : Int)) = true := bne_iff_ne.mpr c8
          have c8b2 : (l0_2.length == l1_2.length) = false := by first | simpa using c8 | (simp at c8 ⊢; omega)
          have H' := am H
          clear H
          have hnb23 := NB218_219.out
          have hnc23 := NB219_218.out
          have hcz24_0 := bc BK218.out 0 (.slice A0_0 l0_0.length c0_0) rfl
          have hcz24_1 := bc BK218.out 1 (.slice A0_1 l0_1.length c0_1) rfl
          have hcz24_2 := bc BK218.out 2 (.slice A0_2 l0_2.length c0_2) rfl
          have hcz24_3 := bc BK218.out 3 (.slice A0_3 l0_3.length c0_3) rfl
          have hcz24_4 := bc BK218.out 4 (.int .i64 a0_4) rfl
          have hcz24_5 := bc BK218.out 5 (.int .i64 a0_5) rfl
          have hfz24_0 := bf BK218.out 0
          have hfz24_1 := bf BK218.out 1
          have hfz24_2 := bf BK218.out 2
          have hfz24_3 := bf BK218.out 3
          have hfz24_4 := bf BK218.out 4
          have hfz24_5 := bf BK218.out 5
          have hcz25_0 := bc BK219.out 0 (.slice A1_0 l1_0.length c1_0) rfl
          have hcz25_1 := bc BK219.out 1 (.slice A1_1 l1_1.length c1_1) rfl
          have hcz25_2 := bc BK219.out 2 (.slice A1_2 l1_2.length c1_2) rfl
          have hcz25_3 := bc BK219.out 3 (.slice A1_3 l1_3.length c1_3) rfl
          have hcz25_4 := bc BK219.out 4 (.int .i64 a1_4) rfl
          have hcz25_5 := bc BK219.out 5 (.int .i64 a1_5) rfl
          have hfz25_0 := bf BK219.out 0
          have hfz25_1 := bf BK219.out 1
          have hfz25_2 := bf BK219.out 2
          have hfz25_3 := bf BK219.out 3
          have hfz25_4 := bf BK219.out 4
          have hfz25_5 := bf BK219.out 5
          go_wp2
          go_meet
          case rel => exact ⟨_, (true), (by first | rfl | (simp; done) | (simp [*]; done)), H', ⟨by first | omega | exact Nat.le_refl _⟩, ⟨by (with_reducible repeat (first | apply qa | apply qb | apply qc)); exact BK218.out⟩, ⟨by (with_reducible repeat (first | apply qa | apply qb | apply qc)); exact BK219.out⟩, ⟨by repeat (first | (with_reducible first | exact HB.out | apply pa | apply pb | apply pc | refine below_set ?_ GE218.out | refine below_set ?_ GE219.out) | exact HB.out)⟩⟩
      · rw [if_neg c7] at H
        have c7b0 : (a0_5 == a1_5) = false := beq_eq_false_iff_ne.mpr c7
        have c7b1 : (a0_5 != a1_5) = true := bne_iff_ne.mpr c7
        have H' := am H
        clear H
        have hnb26 := NB218_219.out
        have hnc26 := NB219_218.out
        have hcz27_0 := bc BK218.out 0 (.slice A0_0 l0_0.length c0_0) rfl
        have hcz27_1 := bc BK218.out 1 (.slice A0_1 l0_1.length c0_1) rfl
        have hcz27_2 := bc BK218.out 2 (.slice A0_2 l0_2.length c0_2) rfl
        have hcz27_3 := bc BK218.out 3 (.slice A0_3 l0_3.length c0_3) rfl
        have hcz27_4 := bc BK218.out 4 (.int .i64 a0_4) rfl
        have hcz27_5 := bc BK218.out 5 (.int .i64 a0_5) rfl
        have hfz27_0 := bf BK218.out 0
        have hfz27_1 := bf BK218.out 1
        have hfz27_2 := bf BK218.out 2
        have hfz27_3 := bf BK218.out 3
        have hfz27_4 := bf BK218.out 4
        have hfz27_5 := bf BK218.out 5
        have hcz28_0 := bc BK219.out 0 (.slice A1_0 l1_0.length c1_0) rfl
        have hcz28_1 := bc BK219.out 1 (.slice A1_1 l1_1.length c1_1) rfl
        have hcz28_2 := bc BK219.out 2 (.slice A1_2 l1_2.length c1_2) rfl
        have hcz28_3 := bc BK219.out 3 (.slice A1_3 l1_3.length c1_3) rfl
        have hcz28_4 := bc BK219.out 4 (.int .i64 a1_4) rfl
        have hcz28_5 := bc BK219.out 5 (.int .i64 a1_5) rfl
        have hfz28_0 := bf BK219.out 0
        have hfz28_1 := bf BK219.out 1
        have hfz28_2 := bf BK219.out 2
        have hfz28_3 := bf BK219.out 3
        have hfz28_4 := bf BK219.out 4
        have hfz28_5 := bf BK219.out 5
        go_wp2
        go_meet
        case rel => exact ⟨_, (true), (by first | rfl | (simp; done) | (simp [*]; done)), H', ⟨by first | omega | exact Nat.le_refl _⟩, ⟨by (with_reducible repeat (first | apply qa | apply qb | apply qc)); exact BK218.out⟩, ⟨by (with_reducible repeat (first | apply qa | apply qb | apply qc)); exact BK219.out⟩, ⟨by repeat (first | (with_reducible first | exact HB.out | apply pa | apply pb | apply pc | refine below_set ?_ GE218.out | refine below_set ?_ GE219.out) | exact HB.out)⟩⟩
    · rw [if_neg c6] at H
      have c6b0 : (a0_4 == a1_4) = false := beq_eq_false_iff_ne.mpr c6
      have c6b1 : (a0_4 != a1_4) = true := bne_iff_ne.mpr c6
      (first | rw [c6b0] | (simp only [i64_w, i32_w]; rw [c6b0]) | skip)
      have H' := am H
      clear H
      have hnb29 := NB218_219.out
      have hnc29 := NB219_218.out
      have hcz30_0 := bc BK218.out 0 (.slice A0_0 l0_0.length c0_0) rfl
      have hcz30_1 := bc BK218.out 1 (.slice A0_1 l0_1.length c0_1) rfl
      have hcz30_2 := bc BK218.out 2 (.slice A0_2 l0_2.length c0_2) rfl
      have hcz30_3 := bc BK218.out 3 (.slice A0_3 l0_3.length c0_3) rfl
      have hcz30_4 := bc BK218.out 4 (.int .i64 a0_4) rfl
      have hcz30_5 := bc BK218.out 5 (.int .i64 a0_5) rfl
      have hfz30_0 := bf BK218.out 0
      have hfz30_1 := bf BK218.out 1
      have hfz30_2 := bf BK218.out 2
      have hfz30_3 := bf BK218.out 3
      have hfz30_4 := bf BK218.out 4
      have hfz30_5 := bf BK218.out 5
      have hcz31_0 := bc BK219.out 0 (.slice A1_0 l1_0.length c1_0) rfl
      have hcz31_1 := bc BK219.out 1 (.slice A1_1 l1_1.length c1_1) rfl
      have hcz31_2 := bc BK219.out 2 (.slice A1_2 l1_2.length c1_2) rfl
      have hcz31_3 := bc BK219.out 3 (.slice A1_3 l1_3.length c1_3) rfl
      have hcz31_4 := bc BK219.out 4 (.int .i64 a1_4) rfl
      have hcz31_5 := bc BK219.out 5 (.int .i64 a1_5) rfl
      have hfz31_0 := bf BK219.out 0
      have hfz31_1 := bf BK219.out 1
      have hfz31_2 := bf BK219.out 2
      have hfz31_3 := bf BK219.out 3
      have hfz31_4 := bf BK219.out 4
      have hfz31_5 := bf BK219.out 5
      go_wp2
      go_meet
      case rel => exact ⟨_, (true), (by first | rfl | (simp; done) | (simp [*]; done)), H', ⟨by first | omega | exact Nat.le_refl _⟩, ⟨by (with_reducible repeat (first | apply qa | apply qb | apply qc)); exact BK218.out⟩, ⟨by (with_reducible repeat (first | apply qa | apply qb | apply qc)); exact BK219.out⟩, ⟨by repeat (first | (with_reducible first | exact HB.out | apply pa | apply pb | apply pc | refine below_set ?_ GE218.out | refine below_set ?_ GE219.out) | exact HB.out)⟩⟩
  case rest =>
    clear HC3
    try clear c1
    try clear c2
    try clear p2
    try clear c4
    try clear c6
    try clear c6b0
    try clear c6b1
    try clear c7
    try clear c7b0
    try clear c7b1
    try clear c8
    try clear c8b0
    try clear c8b1
    try clear c8b2
    try clear c10
    try clear c12
    try clear c14
    try clear c17
    try clear c20
    try clear c23
    try clear c26
    try clear c29
    try clear hcz15_0
    try clear hcz15_1
    try clear hcz15_2
    try clear hcz15_3
    try clear hcz15_4
    try clear hcz15_5
    try clear hcz16_0
    try clear hcz16_1
    try clear hcz16_2
    try clear hcz16_3
    try clear hcz16_4
    try clear hcz16_5
    try clear hcz18_0
    try clear hcz18_1
    try clear hcz18_2
    try clear hcz18_3
    try clear hcz18_4
    try clear hcz18_5
    try clear hcz19_0
    try clear hcz19_1
    try clear hcz19_2
    try clear hcz19_3
    try clear hcz19_4
    try clear hcz19_5
    try clear hcz21_0
    try clear hcz21_1
    try clear hcz21_2
    try clear hcz21_3
    try clear hcz21_4
    try clear hcz21_5
    try clear hcz22_0
    try clear hcz22_1
    try clear hcz22_2
    try clear hcz22_3
    try clear hcz22_4
    try clear hcz22_5
    try clear hcz24_0
    try clear hcz24_1
    try clear hcz24_2
    try clear hcz24_3
    try clear hcz24_4
    try clear hcz24_5
    try clear hcz25_0
    try clear hcz25_1
    try clear hcz25_2
    try clear hcz25_3
    try clear hcz25_4
    try clear hcz25_5
    try clear hcz27_0
    try clear hcz27_1
    try clear hcz27_2
    try clear hcz27_3
    try clear hcz27_4
    try clear hcz27_5
    try clear hcz28_0
    try clear hcz28_1
    try clear hcz28_2
    try clear hcz28_3
    try clear hcz28_4
    try clear hcz28_5
    try clear hcz30_0
    try clear hcz30_1
    try clear hcz30_2
    try clear hcz30_3
    try clear hcz30_4
    try clear hcz30_5
    try clear hcz31_0
    try clear hcz31_1
    try clear hcz31_2
    try clear hcz31_3
    try clear hcz31_4
    try clear hcz31_5
    try clear hfz15_0
    try clear hfz15_1
    try clear hfz15_2
    try clear hfz15_3
    try clear hfz15_4
    try clear hfz15_5
    try clear hfz16_0
    try clear hfz16_1
    try clear hfz16_2
    try clear hfz16_3
    try clear hfz16_4
    try clear hfz16_5
    try clear hfz18_0
    try clear hfz18_1
    try clear hfz18_2
    try clear hfz18_3
    try clear hfz18_4
    try clear hfz18_5
    try clear hfz19_0
    try clear hfz19_1
    try clear hfz19_2
    try clear hfz19_3
    try clear hfz19_4
    try clear hfz19_5
    try clear hfz21_0
    try clear hfz21_1
    try clear hfz21_2
    try clear hfz21_3
    try clear hfz21_4
    try clear hfz21_5
    try clear hfz22_0
    try clear hfz22_1
    try clear hfz22_2
    try clear hfz22_3
    try clear hfz22_4
    try clear hfz22_5
    try clear hfz24_0
    try clear hfz24_1
    try clear hfz24_2
    try clear hfz24_3
    try clear hfz24_4
    try clear hfz24_5
    try clear hfz25_0
    try clear hfz25_1
    try clear hfz25_2
    try clear hfz25_3
    try clear hfz25_4
    try clear hfz25_5
    try clear hfz27_0
    try clear hfz27_1
    try clear hfz27_2
    try clear hfz27_3
    try clear hfz27_4
    try clear hfz27_5
    try clear hfz28_0
    try clear hfz28_1
    try clear hfz28_2
    try clear hfz28_3
    try clear hfz28_4
    try clear hfz28_5
    try clear hfz30_0
    try clear hfz30_1
    try clear hfz30_2
    try clear hfz30_3
    try clear hfz30_4
    try clear hfz30_5
    try clear hfz31_0
    try clear hfz31_1
    try clear hfz31_2
    try clear hfz31_3
    try clear hfz31_4
    try clear hfz31_5
    obtain ⟨kq, x52_2, rfl, HA, HJ2, BK218, BK219, HB⟩ := hcut
    cases kq with
    | zero => exact absurd HA.out (by simp [spec_MeanSame.j0])
    | succ kj2 =>
      have H := HA.out
      clear HA
      simp only [spec_MeanSame.j0] at H
      by_cases c32 : x52_2 = true
      · subst c32
        have H1 : (some false) = some r := by rw [if_pos rfl] at H; exact H
        clear H
        have H := H1
        clear H1
        obtain rfl := Option.some.inj H
        go_wp2
        go_ret
        exact ⟨by first | rfl | (simp [errW_none, errW_some] <;> rfl) | (simp [*, errW_none, errW_some] <;> rfl), by repeat (first | (with_reducible first | exact HB.out | apply pa | apply pb | apply pc | refine below_set ?_ GE218.out | refine below_set ?_ GE219.out) | exact HB.out)⟩
      · replace c32 := Bool.eq_false_iff.mpr c32
        subst c32
        have H1 : (spec_MeanSame.l0 kj2 0 l0_0 l0_1 l0_2 l0_3 a0_4 a0_5 l1_0 l1_1 l1_2 l1_3 a1_4 a1_5) = some r := by rw [if_neg (show ¬ (false = true) by decide)] at H; exact H
        clear H
        have H := H1
        clear H1
        have H' := am H
        clear H
        go_wp2
        go_loopg [5] kj2 (fun kq v5 w' => ∃ (x5_2 : Int), v5 = .int .i64 x5_2 ∧ Aside0 (spec_MeanSame.l0 kq x5_2 l0_0 l0_1 l0_2 l0_3 a0_4 a0_5 l1_0 l1_1 l1_2 l1_3 a1_4 a1_5 = some r) ∧ Aside0 (kq ≤ kj2) ∧ Aside0 (w'.heap[gb218]? = some (.cells #[(.slice A0_0 l0_0.length c0_0), (.slice A0_1 l0_1.length c0_1), (.slice A0_2 l0_2.length c0_2), (.slice A0_3 l0_3.length c0_3), .int .i64 a0_4, .int .i64 a0_5] 74 (0, 0))) ∧ Aside0 (w'.heap[gb219]? = some (.cells #[(.slice A1_0 l1_0.length c1_0), (.slice A1_1 l1_1.length c1_1), (.slice A1_2 l1_2.length c1_2), (.slice A1_3 l1_3.length c1_3), .int .i64 a1_4, .int .i64 a1_5] 74 (0, 0))) ∧ Aside0 (Below w.heap.size w w'))
        case atStart => exact ⟨(0), (by first | rfl | (simp; done) | (simp [*]; done)), H', ⟨Nat.le_refl _⟩, ⟨by (with_reducible repeat (first | apply qa | apply qb | apply qc)); exact BK218.out⟩, ⟨by (with_reducible repeat (first | apply qa | apply qb | apply qc)); exact BK219.out⟩, ⟨by repeat (first | (with_reducible first | exact HB.out | apply pa | apply pb | apply pc | refine below_set ?_ GE218.out | refine below_set ?_ GE219.out) | exact HB.out)⟩⟩
        case round =>
          clear H'
          try clear c1
          try clear c2
          try clear p2
          try clear c3
          try clear c4
          try clear c6
          try clear c6b0
          try clear c6b1
          try clear c7
          try clear c7b0
          try clear c7b1
          try clear c8
          try clear c8b0
          try clear c8b1
          try clear c8b2
          try clear c10
          try clear c12
          try clear c14
          try clear c17
          try clear c20
          try clear c23
          try clear c26
          try clear c29
          try clear c32
          try clear hcz15_0
          try clear hcz15_1
          try clear hcz15_2
          try clear hcz15_3
          try clear hcz15_4
          try clear hcz15_5
          try clear hcz16_0
          try clear hcz16_1
          try clear hcz16_2
          try clear hcz16_3
          try clear hcz16_4
          try clear hcz16_5
          try clear hcz18_0
          try clear hcz18_1
          try clear hcz18_2
          try clear hcz18_3
          try clear hcz18_4
          try clear hcz18_5
          try clear hcz19_0
          try clear hcz19_1
          try clear hcz19_2
          try clear hcz19_3
          try clear hcz19_4
          try clear hcz19_5
          try clear hcz21_0
          try clear hcz21_1
          try clear hcz21_2
          try clear hcz21_3
          try clear hcz21_4
          try clear hcz21_5
          try clear hcz22_0
          try clear hcz22_1
          try clear hcz22_2
          try clear hcz22_3
          try clear hcz22_4
          try clear hcz22_5
          try clear hcz24_0
          try clear hcz24_1
          try clear hcz24_2
          try clear hcz24_3
          try clear hcz24_4
          try clear hcz24_5
          try clear hcz25_0
          try clear hcz25_1
          try clear hcz25_2
          try clear hcz25_3
          try clear hcz25_4
          try clear hcz25_5
          try clear hcz27_0
          try clear hcz27_1
          try clear hcz27_2
          try clear hcz27_3
          try clear hcz27_4
          try clear hcz27_5
          try clear hcz28_0
          try clear hcz28_1
          try clear hcz28_2
          try clear hcz28_3
          try clear hcz28_4
          try clear hcz28_5
          try clear hcz30_0
          try clear hcz30_1
          try clear hcz30_2
          try clear hcz30_3
          try clear hcz30_4
          try clear hcz30_5
          try clear hcz31_0
          try clear hcz31_1
          try clear hcz31_2
          try clear hcz31_3
          try clear hcz31_4
          try clear hcz31_5
          try clear hfz15_0
          try clear hfz15_1
          try clear hfz15_2
          try clear hfz15_3
          try clear hfz15_4
          try clear hfz15_5
          try clear hfz16_0
          try clear hfz16_1
          try clear hfz16_2
          try clear hfz16_3
          try clear hfz16_4
          try clear hfz16_5
          try clear hfz18_0
          try clear hfz18_1
          try clear hfz18_2
          try clear hfz18_3
          try clear hfz18_4
          try clear hfz18_5
          try clear hfz19_0
          try clear hfz19_1
          try clear hfz19_2
          try clear hfz19_3
          try clear hfz19_4
          try clear hfz19_5
          try clear hfz21_0
          try clear hfz21_1
          try clear hfz21_2
          try clear hfz21_3
          try clear hfz21_4
          try clear hfz21_5
          try clear hfz22_0
          try clear hfz22_1
          try clear hfz22_2
          try clear hfz22_3
          try clear hfz22_4
          try clear hfz22_5
          try clear hfz24_0
          try clear hfz24_1
          try clear hfz24_2
          try clear hfz24_3
          try clear hfz24_4
          try clear hfz24_5
          try clear hfz25_0
          try clear hfz25_1
          try clear hfz25_2
          try clear hfz25_3
          try clear hfz25_4
          try clear hfz25_5
          try clear hfz27_0
          try clear hfz27_1
          try clear hfz27_2
          try clear hfz27_3
          try clear hfz27_4
          try clear hfz27_5
          try clear hfz28_0
          try clear hfz28_1
          try clear hfz28_2
          try clear hfz28_3
          try clear hfz28_4
          try clear hfz28_5
          try clear hfz30_0
          try clear hfz30_1
          try clear hfz30_2
          try clear hfz30_3
          try clear hfz30_4
          try clear hfz30_5
          try clear hfz31_0
          try clear hfz31_1
          try clear hfz31_2
          try clear hfz31_3
          try clear hfz31_4
          try clear hfz31_5
          try clear p2
          obtain ⟨x5_2, rfl, HA, HK2, BK218, BK219, HB⟩ := hrel
          cases gk with
          | zero => exact absurd HA.out (by simp [spec_MeanSame.l0])
          | succ k2 =>
            have H := HA.out
            clear HA
            simp only [spec_MeanSame.l0] at H
            by_cases c33 : x5_2 < (l0_2.length : Int)
            · rw [if_pos c33] at H
              have c33b0 : decide (x5_2 < (l0_2.length : Int)) = true := decide_eq_true c33
              clear c33
              by_cases c34 : 0 ≤ x5_2
              · rw [if_pos c34] at H
                have c34b0 : decide (0 ≤ x5_2) = true := decide_eq_true c34
                clear c34
                by_cases c35 : x5_2 < (l1_2.length : Int)
                · rw [if_pos c35] at H
                  have c35b0 : decide (x5_2 < (l1_2.length : Int)) = true := decide_eq_true c35
                  clear c35
                  have HC36 := am H
                  clear H
                  have hnb37 := NB218_219.out
                  have hnc37 := NB219_218.out
                  have hcz38_0 := bc BK218.out 0 (.slice A0_0 l0_0.length c0_0) rfl
                  have hcz38_1 := bc BK218.out 1 (.slice A0_1 l0_1.length c0_1) rfl
                  have hcz38_2 := bc BK218.out 2 (.slice A0_2 l0_2.length c0_2) rfl
                  have hcz38_3 := bc BK218.out 3 (.slice A0_3 l0_3.length c0_3) rfl
                  have hcz38_4 := bc BK218.out 4 (.int .i64 a0_4) rfl
                  have hcz38_5 := bc BK218.out 5 (.int .i64 a0_5) rfl
                  have hfz38_0 := bf BK218.out 0
                  have hfz38_1 := bf BK218.out 1
                  have hfz38_2 := bf BK218.out 2
                  have hfz38_3 := bf BK218.out 3
                  have hfz38_4 := bf BK218.out 4
                  have hfz38_5 := bf BK218.out 5
                  have p223 : 0 ≤ (x5_2 : Int) := od (by assumption)
                  have q223 : x5_2 < (l0_2.length : Int) := od (by assumption)
                  obtain ⟨ad223, A223_2, c223_2, A223_3, c223_3, e223, hx223_0, hx223_1, hx223_2, hx223_3, hl223_2, hi223_2, hl223_3, hi223_3⟩ := at_T98 HR0_2.out x5_2 p223 q223
                  cases e223
                  replace hx223_0 := (HB.out.cell (World.block_lt_of_cell? w _ hx223_0)).trans hx223_0
                  replace hx223_1 := (HB.out.cell (World.block_lt_of_cell? w _ hx223_1)).trans hx223_1
                  replace hx223_2 := (HB.out.cell (World.block_lt_of_cell? w _ hx223_2)).trans hx223_2
                  replace hx223_3 := (HB.out.cell (World.block_lt_of_cell? w _ hx223_3)).trans hx223_3
                  have HR223_2 := am hi223_2
                  have HC223_2 := am hl223_2
                  clear hi223_2 hl223_2
                  have HR223_3 := am hi223_3
                  have HC223_3 := am hl223_3
                  clear hi223_3 hl223_3
                  replace p223 := eq_true p223
                  replace q223 := eq_true q223
                  go_upto_region 8 with (first | ((with_reducible refine gate_dst (N := 6) rfl ?_); (try (refine gate_guard (by rfl) ?_; dsimp only)); refine box_event ?hg (N := 6) ?hd (cs := #[.int .i64 0, .int .i64 0, .slice none 0 0, .slice none 0 0]) (t := 98) ?hr ?_; (case hd => rfl); (case hg => rfl); (case hr => first | (go_simp; done) | (go_simp; rfl)); intro gb224 hg w39 hbox hb; have n0_ := am (blk_below (g := gb218) (o := .cells #[.slice A0_0 l0_0.length c0_0, .slice A0_1 l0_1.length c0_1, .slice (some ad223) l0_2.length c0_2, .slice A0_3 l0_3.length c0_3, .int .i64 a0_4, .int .i64 a0_5] 74 (0, 0)) (by (with_reducible repeat (first | apply qa | apply qb | apply qc)); exact BK218.out) hb); have n1_ := am (blk_below (g := gb219) (o := .cells #[.slice A1_0 l1_0.length c1_0, .slice A1_1 l1_1.length c1_1, .slice A1_2 l1_2.length c1_2, .slice A1_3 l1_3.length c1_3, .int .i64 a1_4, .int .i64 a1_5] 74 (0, 0)) (by (with_reducible repeat (first | apply qa | apply qb | apply qc)); exact BK219.out) hb); have n2_ := am (below_step (by repeat (first | (with_reducible first | exact HB.out | apply pa | apply pb | apply pc | refine below_set ?_ GE218.out | refine below_set ?_ GE219.out) | exact HB.out)) hb); have n3_ := am (hbox); have n4_ := am ((by rw [hg]; exact (below_size (by repeat (first | (with_reducible first | exact HB.out | apply pa | apply pb | apply pc | refine below_set ?_ GE218.out | refine below_set ?_ GE219.out) | exact HB.out))) : w.heap.size ≤ gb224)); have n5_ := am ((by rw [hg]; exact (below_size (by repeat (first | (with_reducible first | exact HB.out | apply pa | apply pb | apply pc | refine below_set ?_ GE218.out | refine below_set ?_ GE219.out) | exact HB.out))) : w.heap.size ≤ gb224)); have n6_ := am ((by rw [hg]; exact Nat.ne_of_lt (blk_lt (g := gb218) (o := .cells #[.slice A0_0 l0_0.length c0_0, .slice A0_1 l0_1.length c0_1, .slice (some ad223) l0_2.length c0_2, .slice A0_3 l0_3.length c0_3, .int .i64 a0_4, .int .i64 a0_5] 74 (0, 0)) (by (with_reducible repeat (first | apply qa | apply qb | apply qc)); exact BK218.out)) : gb218 ≠ gb224)); have n7_ := am ((by rw [hg]; exact Nat.ne_of_gt (blk_lt (g := gb218) (o := .cells #[.slice A0_0 l0_0.length c0_0, .slice A0_1 l0_1.length c0_1, .slice (some ad223) l0_2.length c0_2, .slice A0_3 l0_3.length c0_3, .int .i64 a0_4, .int .i64 a0_5] 74 (0, 0)) (by (with_reducible repeat (first | apply qa | apply qb | apply qc)); exact BK218.out)) : gb224 ≠ gb218)); have n8_ := am ((by rw [hg]; exact Nat.ne_of_lt (blk_lt (g := gb219) (o := .cells #[.slice A1_0 l1_0.length c1_0, .slice A1_1 l1_1.length c1_1, .slice A1_2 l1_2.length c1_2, .slice A1_3 l1_3.length c1_3, .int .i64 a1_4, .int .i64 a1_5] 74 (0, 0)) (by (with_reducible repeat (first | apply qa | apply qb | apply qc)); exact BK219.out)) : gb219 ≠ gb224)); have n9_ := am ((by rw [hg]; exact Nat.ne_of_gt (blk_lt (g := gb219) (o := .cells #[.slice A1_0 l1_0.length c1_0, .slice A1_1 l1_1.length c1_1, .slice A1_2 l1_2.length c1_2, .slice A1_3 l1_3.length c1_3, .int .i64 a1_4, .int .i64 a1_5] 74 (0, 0)) (by (with_reducible repeat (first | apply qa | apply qb | apply qc)); exact BK219.out)) : gb224 ≠ gb219)); clear BK218; clear BK219; clear HB; have BK218 := n0_; have BK219 := n1_; have HB := n2_; have BK224 := n3_; have GW224 := n4_; have GE224 := n5_; have NB218_224 := n6_; have NB224_218 := n7_; have NB219_224 := n8_; have NB224_219 := n9_; clear n0_ n1_ n2_ n3_ n4_ n5_ n6_ n7_ n8_ n9_; clear hb hbox hg; have hnb40 := NB224_218.out; have hnc40 := NB218_224.out; have hnb41 := NB224_219.out; have hnc41 := NB219_224.out; have hcz42_0 := bc BK224.out 0 (.int .i64 0) rfl; have hcz42_1 := bc BK224.out 1 (.int .i64 0) rfl; have hcz42_2 := bc BK224.out 2 (.slice none 0 0) rfl; have hcz42_3 := bc BK224.out 3 (.slice none 0 0) rfl; have hfz42_0 := bf BK224.out 0; have hfz42_1 := bf BK224.out 1; have hfz42_2 := bf BK224.out 2; have hfz42_3 := bf BK224.out 3; have hcz43_0 := bc BK219.out 0 (.slice A1_0 l1_0.length c1_0) rfl; have hcz43_1 := bc BK219.out 1 (.slice A1_1 l1_1.length c1_1) rfl; have hcz43_2 := bc BK219.out 2 (.slice A1_2 l1_2.length c1_2) rfl; have hcz43_3 := bc BK219.out 3 (.slice A1_3 l1_3.length c1_3) rfl; have hcz43_4 := bc BK219.out 4 (.int .i64 a1_4) rfl; have hcz43_5 := bc BK219.out 5 (.int .i64 a1_5) rfl; have hfz43_0 := bf BK219.out 0; have hfz43_1 := bf BK219.out 1; have hfz43_2 := bf BK219.out 2; have hfz43_3 := bf BK219.out 3; have hfz43_4 := bf BK219.out 4; have hfz43_5 := bf BK219.out 5; have p225 : 0 ≤ (x5_2 : Int) := od (by assumption); have q225 : x5_2 < (l1_2.length : Int) := od (by assumption); obtain ⟨ad225, A225_2, c225_2, A225_3, c225_3, e225, hx225_0, hx225_1, hx225_2, hx225_3, hl225_2, hi225_2, hl225_3, hi225_3⟩ := at_T98 HR1_2.out x5_2 p225 q225; cases e225; have hn225_0 : ad225.block ≠ gb224 := Nat.ne_of_lt (Nat.lt_of_lt_of_le (by have := World.block_lt_of_cell? _ _ hx225_0; first | rwa [add_block] at this | exact this) GW224.out); have hn225_1 : ad225.block ≠ gb224 := Nat.ne_of_lt (Nat.lt_of_lt_of_le (by have := World.block_lt_of_cell? _ _ hx225_0; first | rwa [add_block] at this | exact this) GW224.out); have hn225_2 : ad225.block ≠ gb224 := Nat.ne_of_lt (Nat.lt_of_lt_of_le (by have := World.block_lt_of_cell? _ _ hx225_0; first | rwa [add_block] at this | exact this) GW224.out); have hn225_3 : ad225.block ≠ gb224 := Nat.ne_of_lt (Nat.lt_of_lt_of_le (by have := World.block_lt_of_cell? _ _ hx225_0; first | rwa [add_block] at this | exact this) GW224.out); replace hx225_0 := (HB.out.cell (World.block_lt_of_cell? w _ hx225_0)).trans hx225_0; replace hx225_1 := (HB.out.cell (World.block_lt_of_cell? w _ hx225_1)).trans hx225_1; replace hx225_2 := (HB.out.cell (World.block_lt_of_cell? w _ hx225_2)).trans hx225_2; replace hx225_3 := (HB.out.cell (World.block_lt_of_cell? w _ hx225_3)).trans hx225_3; have HR225_2 := am hi225_2; have HC225_2 := am hl225_2; clear hi225_2 hl225_2; have HR225_3 := am hi225_3; have HC225_3 := am hl225_3; clear hi225_3 hl225_3; replace hx225_0 := (cell_far (p := ⟨gb224, 0, none⟩) (by first | (rw [add_block]; exact hn225_0) | (show (Addr.add _ _).block ≠ _; rw [add_block]; exact hn225_0) | exact hn225_0) (.int .i64 ((rd_T98 l0_2 x5_2).f0))).trans hx225_0; replace hx225_1 := (cell_far (p := ⟨gb224, 0, none⟩) (by first | (rw [add_block]; exact hn225_0) | (show (Addr.add _ _).block ≠ _; rw [add_block]; exact hn225_0) | exact hn225_0) (.int .i64 ((rd_T98 l0_2 x5_2).f0))).trans hx225_1; replace hx225_2 := (cell_far (p := ⟨gb224, 0, none⟩) (by first | (rw [add_block]; exact hn225_0) | (show (Addr.add _ _).block ≠ _; rw [add_block]; exact hn225_0) | exact hn225_0) (.int .i64 ((rd_T98 l0_2 x5_2).f0))).trans hx225_2; replace hx225_3 := (cell_far (p := ⟨gb224, 0, none⟩) (by first | (rw [add_block]; exact hn225_0) | (show (Addr.add _ _).block ≠ _; rw [add_block]; exact hn225_0) | exact hn225_0) (.int .i64 ((rd_T98 l0_2 x5_2).f0))).trans hx225_3; replace hx225_0 := (cell_far (p := ⟨gb224, 1, none⟩) (by first | (rw [add_block]; exact hn225_1) | (show (Addr.add _ _).block ≠ _; rw [add_block]; exact hn225_1) | exact hn225_1) (.int .i64 ((rd_T98 l0_2 x5_2).f1))).trans hx225_0; replace hx225_1 := (cell_far (p := ⟨gb224, 1, none⟩) (by first | (rw [add_block]; exact hn225_1) | (show (Addr.add _ _).block ≠ _; rw [add_block]; exact hn225_1) | exact hn225_1) (.int .i64 ((rd_T98 l0_2 x5_2).f1))).trans hx225_1; replace hx225_2 := (cell_far (p := ⟨gb224, 1, none⟩) (by first | (rw [add_block]; exact hn225_1) | (show (Addr.add _ _).block ≠ _; rw [add_block]; exact hn225_1) | exact hn225_1) (.int .i64 ((rd_T98 l0_2 x5_2).f1))).trans hx225_2; replace hx225_3 := (cell_far (p := ⟨gb224, 1, none⟩) (by first | (rw [add_block]; exact hn225_1) | (show (Addr.add _ _).block ≠ _; rw [add_block]; exact hn225_1) | exact hn225_1) (.int .i64 ((rd_T98 l0_2 x5_2).f1))).trans hx225_3; replace hx225_0 := (cell_far (p := ⟨gb224, 2, none⟩) (by first | (rw [add_block]; exact hn225_2) | (show (Addr.add _ _).block ≠ _; rw [add_block]; exact hn225_2) | exact hn225_2) (.slice A223_2 ((rd_T98 l0_2 x5_2).f2).length c223_2)).trans hx225_0; replace hx225_1 := (cell_far (p := ⟨gb224, 2, none⟩) (by first | (rw [add_block]; exact hn225_2) | (show (Addr.add _ _).block ≠ _; rw [add_block]; exact hn225_2) | exact hn225_2) (.slice A223_2 ((rd_T98 l0_2 x5_2).f2).length c223_2)).trans hx225_1; replace hx225_2 := (cell_far (p := ⟨gb224, 2, none⟩) (by first | (rw [add_block]; exact hn225_2) | (show (Addr.add _ _).block ≠ _; rw [add_block]; exact hn225_2) | exact hn225_2) (.slice A223_2 ((rd_T98 l0_2 x5_2).f2).length c223_2)).trans hx225_2; replace hx225_3 := (cell_far (p := ⟨gb224, 2, none⟩) (by first | (rw [add_block]; exact hn225_2) | (show (Addr.add _ _).block ≠ _; rw [add_block]; exact hn225_2) | exact hn225_2) (.slice A223_2 ((rd_T98 l0_2 x5_2).f2).length c223_2)).trans hx225_3; replace hx225_0 := (cell_far (p := ⟨gb224, 3, none⟩) (by first | (rw [add_block]; exact hn225_3) | (show (Addr.add _ _).block ≠ _; rw [add_block]; exact hn225_3) | exact hn225_3) (.slice A223_3 ((rd_T98 l0_2 x5_2).f3).length c223_3)).trans hx225_0; replace hx225_1 := (cell_far (p := ⟨gb224, 3, none⟩) (by first | (rw [add_block]; exact hn225_3) | (show (Addr.add _ _).block ≠ _; rw [add_block]; exact hn225_3) | exact hn225_3) (.slice A223_3 ((rd_T98 l0_2 x5_2).f3).length c223_3)).trans hx225_1; replace hx225_2 := (cell_far (p := ⟨gb224, 3, none⟩) (by first | (rw [add_block]; exact hn225_3) | (show (Addr.add _ _).block ≠ _; rw [add_block]; exact hn225_3) | exact hn225_3) (.slice A223_3 ((rd_T98 l0_2 x5_2).f3).length c223_3)).trans hx225_2; replace hx225_3 := (cell_far (p := ⟨gb224, 3, none⟩) (by first | (rw [add_block]; exact hn225_3) | (show (Addr.add _ _).block ≠ _; rw [add_block]; exact hn225_3) | exact hn225_3) (.slice A223_3 ((rd_T98 l0_2 x5_2).f3).length c223_3)).trans hx225_3; clear hn225_0; clear hn225_1; clear hn225_2; clear hn225_3; replace p225 := eq_true p225; replace q225 := eq_true q225) | ((with_reducible refine gate_dst (N := 7) rfl ?_); (try (refine gate_guard (by rfl) ?_; dsimp only)); refine box_event ?hg (N := 7) ?hd (cs := #[.int .i64 0, .int .i64 0, .slice none 0 0, .slice none 0 0]) (t := 98) ?hr ?_; (case hd => rfl); (case hg => rfl); (case hr => first | (go_simp; done) | (go_simp; rfl)); intro gb226 hg w44 hbox hb; have n0_ := am (blk_below (g := gb218) (o := .cells #[.slice A0_0 l0_0.length c0_0, .slice A0_1 l0_1.length c0_1, .slice (some ad223) l0_2.length c0_2, .slice A0_3 l0_3.length c0_3, .int .i64 a0_4, .int .i64 a0_5] 74 (0, 0)) (by (with_reducible repeat (first | apply qa | apply qb | apply qc)); refine qf ?_ NB218_224.out _; (with_reducible repeat (first | apply qa | apply qb | apply qc)); refine qf ?_ NB218_224.out _; (with_reducible repeat (first | apply qa | apply qb | apply qc)); refine qf ?_ NB218_224.out _; (with_reducible repeat (first | apply qa | apply qb | apply qc)); refine qf ?_ NB218_224.out _; (with_reducible repeat (first | apply qa | apply qb | apply qc)); exact BK218.out) hb); have n1_ := am (blk_below (g := gb219) (o := .cells #[.slice A1_0 l1_0.length c1_0, .slice A1_1 l1_1.length c1_1, .slice (some ad225) l1_2.length c1_2, .slice A1_3 l1_3.length c1_3, .int .i64 a1_4, .int .i64 a1_5] 74 (0, 0)) (by (with_reducible repeat (first | apply qa | apply qb | apply qc)); refine qf ?_ NB219_224.out _; (with_reducible repeat (first | apply qa | apply qb | apply qc)); refine qf ?_ NB219_224.out _; (with_reducible repeat (first | apply qa | apply qb | apply qc)); refine qf ?_ NB219_224.out _; (with_reducible repeat (first | apply qa | apply qb | apply qc)); refine qf ?_ NB219_224.out _; (with_reducible repeat (first | apply qa | apply qb | apply qc)); exact BK219.out) hb); have n2_ := am (blk_below (g := gb224) (o := .cells #[.int .i64 ((rd_T98 l0_2 x5_2).f0), .int .i64 ((rd_T98 l0_2 x5_2).f1), .slice A223_2 ((rd_T98 l0_2 x5_2).f2).length c223_2, .slice A223_3 ((rd_T98 l0_2 x5_2).f3).length c223_3] 98 (0, 0)) (by (with_reducible repeat (first | apply qa | apply qb | apply qc)); refine blk_put (cs := #[.int .i64 ((rd_T98 l0_2 x5_2).f0), .int .i64 ((rd_T98 l0_2 x5_2).f1), .slice A223_2 ((rd_T98 l0_2 x5_2).f2).length c223_2, .slice none 0 0]) ?_ 3 _ rfl; (with_reducible repeat (first | apply qa | apply qb | apply qc)); refine blk_put (cs := #[.int .i64 ((rd_T98 l0_2 x5_2).f0), .int .i64 ((rd_T98 l0_2 x5_2).f1), .slice none 0 0, .slice none 0 0]) ?_ 2 _ rfl; (with_reducible repeat (first | apply qa | apply qb | apply qc)); refine blk_put (cs := #[.int .i64 ((rd_T98 l0_2 x5_2).f0), .int .i64 0, .slice none 0 0, .slice none 0 0]) ?_ 1 _ rfl; (with_reducible repeat (first | apply qa | apply qb | apply qc)); refine blk_put (cs := #[.int .i64 0, .int .i64 0, .slice none 0 0, .slice none 0 0]) ?_ 0 _ rfl; (with_reducible repeat (first | apply qa | apply qb | apply qc)); exact BK224.out) hb); have n3_ := am (below_step (by repeat (first | (with_reducible first | exact HB.out | apply pa | apply pb | apply pc | refine below_set ?_ GE218.out | refine below_set ?_ GE219.out | refine below_set ?_ GE224.out) | exact HB.out)) hb); have n4_ := am (hbox); have n5_ := am ((by rw [hg]; exact (below_size (by repeat (first | (with_reducible first | exact HB.out | apply pa | apply pb | apply pc | refine below_set ?_ GE218.out | refine below_set ?_ GE219.out | refine below_set ?_ GE224.out) | exact HB.out))) : w.heap.size ≤ gb226)); have n6_ := am ((by rw [hg]; exact (below_size (by repeat (first | (with_reducible first | exact HB.out | apply pa | apply pb | apply pc | refine below_set ?_ GE218.out | refine below_set ?_ GE219.out | refine below_set ?_ GE224.out) | exact HB.out))) : w.heap.size ≤ gb226)); have n7_ := am ((by rw [hg]; exact Nat.ne_of_lt (blk_lt (g := gb218) (o := .cells #[.slice A0_0 l0_0.length c0_0, .slice A0_1 l0_1.length c0_1, .slice (some ad223) l0_2.length c0_2, .slice A0_3 l0_3.length c0_3, .int .i64 a0_4, .int .i64 a0_5] 74 (0, 0)) (by (with_reducible repeat (first | apply qa | apply qb | apply qc)); refine qf ?_ NB218_224.out _; (with_reducible repeat (first | apply qa | apply qb | apply qc)); refine qf ?_ NB218_224.out _; (with_reducible repeat (first | apply qa | apply qb | apply qc)); refine qf ?_ NB218_224.out _; (with_reducible repeat (first | apply qa | apply qb | apply qc)); refine qf ?_ NB218_224.out _; (with_reducible repeat (first | apply qa | apply qb | apply qc)); exact BK218.out)) : gb218 ≠ gb226)); have n8_ := am ((by rw [hg]; exact Nat.ne_of_gt (blk_lt (g := gb218) (o := .cells #[.slice A0_0 l0_0.length c0_0, .slice A0_1 l0_1.length c0_1, .slice (some ad223) l0_2.length c0_2, .slice A0_3 l0_3.length c0_3, .int .i64 a0_4, .int .i64 a0_5] 74 (0, 0)) (by (with_reducible repeat (first | apply qa | apply qb | apply qc)); refine qf ?_ NB218_224.out _; (with_reducible repeat (first | apply qa | apply qb | apply qc)); refine qf ?_ NB218_224.out _; (with_reducible repeat (first | apply qa | apply qb | apply qc)); refine qf ?_ NB218_224.out _; (with_reducible repeat (first | apply qa | apply qb | apply qc)); refine qf ?_ NB218_224.out _; (with_reducible repeat (first | apply qa | apply qb | apply qc)); exact BK218.out)) : gb226 ≠ gb218)); have n9_ := am ((by rw [hg]; exact Nat.ne_of_lt (blk_lt (g := gb219) (o := .cells #[.slice A1_0 l1_0.length c1_0, .slice A1_1 l1_1.length c1_1, .slice (some ad225) l1_2.length c1_2, .slice A1_3 l1_3.length c1_3, .int .i64 a1_4, .int .i64 a1_5] 74 (0, 0)) (by (with_reducible repeat (first | apply qa | apply qb | apply qc)); refine qf ?_ NB219_224.out _; (with_reducible repeat (first | apply qa | apply qb | apply qc)); refine qf ?_ NB219_224.out _; (with_reducible repeat (first | apply qa | apply qb | apply qc)); refine qf ?_ NB219_224.out _; (with_reducible repeat (first | apply qa | apply qb | apply qc)); refine qf ?_ NB219_224.out _; (with_reducible repeat (first | apply qa | apply qb | apply qc)); exact BK219.out)) : gb219 ≠ gb226)); have n10_ := am ((by rw [hg]; exact Nat.ne_of_gt (blk_lt (g := gb219) (o := .cells #[.slice A1_0 l1_0.length c1_0, .slice A1_1 l1_1.length c1_1, .slice (some ad225) l1_2.length c1_2, .slice A1_3 l1_3.length c1_3, .int .i64 a1_4, .int .i64 a1_5] 74 (0, 0)) (by (with_reducible repeat (first | apply qa | apply qb | apply qc)); refine qf ?_ NB219_224.out _; (with_reducible repeat (first | apply qa | apply qb | apply qc)); refine qf ?_ NB219_224.out _; (with_reducible repeat (first | apply qa | apply qb | apply qc)); refine qf ?_ NB219_224.out _; (with_reducible repeat (first | apply qa | apply qb | apply qc)); refine qf ?_ NB219_224.out _; (with_reducible repeat (first | apply qa | apply qb | apply qc)); exact BK219.out)) : gb226 ≠ gb219)); have n11_ := am ((by rw [hg]; exact Nat.ne_of_lt (blk_lt (g := gb224) (o := .cells #[.int .i64 ((rd_T98 l0_2 x5_2).f0), .int .i64 ((rd_T98 l0_2 x5_2).f1), .slice A223_2 ((rd_T98 l0_2 x5_2).f2).length c223_2, .slice A223_3 ((rd_T98 l0_2 x5_2).f3).length c223_3] 98 (0, 0)) (by (with_reducible repeat (first | apply qa | apply qb | apply qc)); refine blk_put (cs := #[.int .i64 ((rd_T98 l0_2 x5_2).f0), .int .i64 ((rd_T98 l0_2 x5_2).f1), .slice A223_2 ((rd_T98 l0_2 x5_2).f2).length c223_2, .slice none 0 0]) ?_ 3 _ rfl; (with_reducible repeat (first | apply qa | apply qb | apply qc)); refine blk_put (cs := #[.int .i64 ((rd_T98 l0_2 x5_2).f0), .int .i64 ((rd_T98 l0_2 x5_2).f1), .slice none 0 0, .slice none 0 0]) ?_ 2 _ rfl; (with_reducible repeat (first | apply qa | apply qb | apply qc)); refine blk_put (cs := #[.int .i64 ((rd_T98 l0_2 x5_2).f0), .int .i64 0, .slice none 0 0, .slice none 0 0]) ?_ 1 _ rfl; (with_reducible repeat (first | apply qa | apply qb | apply qc)); refine blk_put (cs := #[.int .i64 0, .int .i64 0, .slice none 0 0, .slice none 0 0]) ?_ 0 _ rfl; (with_reducible repeat (first | apply qa | apply qb | apply qc)); exact BK224.out)) : gb224 ≠ gb226)); have n12_ := am ((by rw [hg]; exact Nat.ne_of_gt (blk_lt (g := gb224) (o := .cells #[.int .i64 ((rd_T98 l0_2 x5_2).f0), .int .i64 ((rd_T98 l0_2 x5_2).f1), .slice A223_2 ((rd_T98 l0_2 x5_2).f2).length c223_2, .slice A223_3 ((rd_T98 l0_2 x5_2).f3).length c223_3] 98 (0, 0)) (by (with_reducible repeat (first | apply qa | apply qb | apply qc)); refine blk_put (cs := #[.int .i64 ((rd_T98 l0_2 x5_2).f0), .int .i64 ((rd_T98 l0_2 x5_2).f1), .slice A223_2 ((rd_T98 l0_2 x5_2).f2).length c223_2, .slice none 0 0]) ?_ 3 _ rfl; (with_reducible repeat (first | apply qa | apply qb | apply qc)); refine blk_put (cs := #[.int .i64 ((rd_T98 l0_2 x5_2).f0), .int .i64 ((rd_T98 l0_2 x5_2).f1), .slice none 0 0, .slice none 0 0]) ?_ 2 _ rfl; (with_reducible repeat (first | apply qa | apply qb | apply qc)); refine blk_put (cs := #[.int .i64 ((rd_T98 l0_2 x5_2).f0), .int .i64 0, .slice none 0 0, .slice none 0 0]) ?_ 1 _ rfl; (with_reducible repeat (first | apply qa | apply qb | apply qc)); refine blk_put (cs := #[.int .i64 0, .int .i64 0, .slice none 0 0, .slice none 0 0]) ?_ 0 _ rfl; (with_reducible repeat (first | apply qa | apply qb | apply qc)); exact BK224.out)) : gb226 ≠ gb224)); clear BK218; clear BK219; clear BK224; clear HB; have BK218 := n0_; have BK219 := n1_; have BK224 := n2_; have HB := n3_; have BK226 := n4_; have GW226 := n5_; have GE226 := n6_; have NB218_226 := n7_; have NB226_218 := n8_; have NB219_226 := n9_; have NB226_219 := n10_; have NB224_226 := n11_; have NB226_224 := n12_; clear n0_ n1_ n2_ n3_ n4_ n5_ n6_ n7_ n8_ n9_ n10_ n11_ n12_; clear hb hbox hg; have hnb45 := NB226_218.out; have hnc45 := NB218_226.out; have hnb46 := NB226_219.out; have hnc46 := NB219_226.out; have hnb47 := NB226_224.out; have hnc47 := NB224_226.out; have hcz48_0 := bc BK226.out 0 (.int .i64 0) rfl; have hcz48_1 := bc BK226.out 1 (.int .i64 0) rfl; have hcz48_2 := bc BK226.out 2 (.slice none 0 0) rfl; have hcz48_3 := bc BK226.out 3 (.slice none 0 0) rfl; have hfz48_0 := bf BK226.out 0; have hfz48_1 := bf BK226.out 1; have hfz48_2 := bf BK226.out 2; have hfz48_3 := bf BK226.out 3))
                  (try simp only [Act.put, List.setIfInBounds_toArray, List.set_cons_zero, List.set_cons_succ])
                  go_cut [97] (fun v97 wc => ∃ (kq : Nat) (x97_35 : Bool), v97 = .bool x97_35 ∧ Aside0 (spec_MeanSame.j2 kq x5_2 x97_35 l0_0 l0_1 l0_2 l0_3 a0_4 a0_5 l1_0 l1_1 l1_2 l1_3 a1_4 a1_5 = some r) ∧ Aside0 (kq ≤ k2) ∧ Aside0 (wc.heap[gb218]? = some (.cells #[(.slice A0_0 l0_0.length c0_0), (.slice A0_1 l0_1.length c0_1), (.slice (some ad223) l0_2.length c0_2), (.slice A0_3 l0_3.length c0_3), .int .i64 a0_4, .int .i64 a0_5] 74 (0, 0))) ∧ Aside0 (wc.heap[gb219]? = some (.cells #[(.slice A1_0 l1_0.length c1_0), (.slice A1_1 l1_1.length c1_1), (.slice (some ad225) l1_2.length c1_2), (.slice A1_3 l1_3.length c1_3), .int .i64 a1_4, .int .i64 a1_5] 74 (0, 0))) ∧ Aside0 (wc.heap[gb224]? = some (.cells #[.int .i64 ((rd_T98 l0_2 x5_2).f0), .int .i64 ((rd_T98 l0_2 x5_2).f1), (.slice A223_2 ((rd_T98 l0_2 x5_2).f2).length c223_2), (.slice A223_3 ((rd_T98 l0_2 x5_2).f3).length c223_3)] 98 (0, 0))) ∧ Aside0 (wc.heap[gb226]? = some (.cells #[.int .i64 ((rd_T98 l1_2 x5_2).f0), .int .i64 ((rd_T98 l1_2 x5_2).f1), (.slice A225_2 ((rd_T98 l1_2 x5_2).f2).length c225_2), (.slice A225_3 ((rd_T98 l1_2 x5_2).f3).length c225_3)] 98 (0, 0))) ∧ Aside0 (Below w.heap.size w wc))
                  case first =>
                    have H := HC36.out
                    clear HC36
                    by_cases c49 : ((rd_T98 l0_2 x5_2).f0) = ((rd_T98 l1_2 x5_2).f0)
                    · rw [if_pos c49] at H
                      have c49b0 : (((rd_T98 l0_2 x5_2).f0) == ((rd_T98 l1_2 x5_2).f0)) = true := beq_iff_eq.mpr c49
                      have c49b1 : (((rd_T98 l0_2 x5_2).f0) != ((rd_T98 l1_2 x5_2).f0)) = false := bne_eq_false_iff_eq.mpr c49
                      clear c49
                      (first | rw [c49b0] | (simp only [i64_w, i32_w]; rw [c49b0]) | skip)
                      by_cases c50 : ((rd_T98 l0_2 x5_2).f1) = ((rd_T98 l1_2 x5_2).f1)
                      · rw [if_pos c50] at H
                        have c50b0 : (((rd_T98 l0_2 x5_2).f1) == ((rd_T98 l1_2 x5_2).f1)) = true := beq_iff_eq.mpr c50
                        have c50b1 : (((rd_T98 l0_2 x5_2).f1) != ((rd_T98 l1_2 x5_2).f1)) = false := bne_eq_false_iff_eq.mpr c50
                        clear c50
                        replace H := Option.bind_eq_some_iff.mp H
                        obtain ⟨t227, A510, H⟩ := H
                        replace H : (if t227 = true then ((spec_l5Vals.f k2 ((rd_T98 l0_2 x5_2).f3) ((rd_T98 l1_2 x5_2).f3)).bind fun t228 => (spec_MeanSame.j2 k2 x5_2 (!t228) l0_0 l0_1 l0_2 l0_3 a0_4 a0_5 l1_0 l1_1 l1_2 l1_3 a1_4 a1_5)) else (spec_MeanSame.j2 k2 x5_2 true l0_0 l0_1 l0_2 l0_3 a0_4 a0_5 l1_0 l1_1 l1_2 l1_3 a1_4 a1_5)) = some r := H
                        have A51 := am A510
                        clear A510
                        by_cases c52 : t227 = true
                        · subst c52
                          have H1 : ((spec_l5Vals.f k2 ((rd_T98 l0_2 x5_2).f3) ((rd_T98 l1_2 x5_2).f3)).bind fun t228 => (spec_MeanSame.j2 k2 x5_2 (!t228) l0_0 l0_1 l0_2 l0_3 a0_4 a0_5 l1_0 l1_1 l1_2 l1_3 a1_4 a1_5)) = some r := by rw [if_pos rfl] at H; exact H
                          clear H
                          have H := H1
                          clear H1
                          replace H := Option.bind_eq_some_iff.mp H
                          obtain ⟨t228, A530, H⟩ := H
                          replace H : (spec_MeanSame.j2 k2 x5_2 (!t228) l0_0 l0_1 l0_2 l0_3 a0_4 a0_5 l1_0 l1_1 l1_2 l1_3 a1_4 a1_5) = some r := H
                          have A53 := am A530
                          clear A530
                          have H' := am H
                          clear H
                          have hnb54 := NB224_218.out
                          have hnc54 := NB218_224.out
                          have hnb55 := NB224_219.out
                          have hnc55 := NB219_224.out
                          have hnb56 := NB224_226.out
                          have hnc56 := NB226_224.out
                          have hcz57_0 : w44.cell? ⟨gb224, 0, none⟩ = some (.int .i64 ((rd_T98 l0_2 x5_2).f0)) := (blk_cell BK224.out 0).trans rfl
                          have hcz57_1 : w44.cell? ⟨gb224, 1, none⟩ = some (.int .i64 ((rd_T98 l0_2 x5_2).f1)) := (blk_cell BK224.out 1).trans rfl
                          have hcz57_2 : w44.cell? ⟨gb224, 2, none⟩ = some (.slice A223_2 ((rd_T98 l0_2 x5_2).f2).length c223_2) := (blk_cell BK224.out 2).trans rfl
                          have hcz57_3 : w44.cell? ⟨gb224, 3, none⟩ = some (.slice A223_3 ((rd_T98 l0_2 x5_2).f3).length c223_3) := (blk_cell BK224.out 3).trans rfl
                          have hfz57_0 := bf BK224.out 0
                          have hfz57_1 := bf BK224.out 1
                          have hfz57_2 := bf BK224.out 2
                          have hfz57_3 := bf BK224.out 3
                          have hnb58 := NB226_218.out
                          have hnc58 := NB218_226.out
                          have hnb59 := NB226_219.out
                          have hnc59 := NB219_226.out
                          have hcz60_0 := bc BK226.out 0 (.int .i64 0) rfl
                          have hcz60_1 := bc BK226.out 1 (.int .i64 0) rfl
                          have hcz60_2 := bc BK226.out 2 (.slice none 0 0) rfl
                          have hcz60_3 := bc BK226.out 3 (.slice none 0 0) rfl
                          have hfz60_0 := bf BK226.out 0
                          have hfz60_1 := bf BK226.out 1
                          have hfz60_2 := bf BK226.out 2
                          have hfz60_3 := bf BK226.out 3
                          go_wp2_with (first | (go_at_call 79; (with_reducible refine (spec_l5Vals.calls k2 _ _ ((rd_T98 l0_2 x5_2).f2) _ _ ((rd_T98 l1_2 x5_2).f2) true _ ?side1 ?side2 ?side3 ?side4 A51.out).mono ?_); (case side1 => exact Kd.C_below HR223_2.out (by repeat (first | (with_reducible first | exact HB.out | apply pa | apply pb | apply pc | refine below_set ?_ GE218.out | refine below_set ?_ GE219.out | refine below_set ?_ GE224.out | refine below_set ?_ GE226.out) | exact HB.out))); (case side2 => exact HC223_2.out); (case side3 => exact Kd.C_below HR225_2.out (by repeat (first | (with_reducible first | exact HB.out | apply pa | apply pb | apply pc | refine below_set ?_ GE218.out | refine below_set ?_ GE219.out | refine below_set ?_ GE224.out | refine below_set ?_ GE226.out) | exact HB.out))); (case side4 => exact HC225_2.out); rintro e w' ⟨rfl, ⟨nd, rfl⟩⟩) | (go_at_call 79; (with_reducible refine (spec_l5Vals.calls k2 _ _ ((rd_T98 l0_2 x5_2).f3) _ _ ((rd_T98 l1_2 x5_2).f3) t228 _ ?side1 ?side2 ?side3 ?side4 A53.out).mono ?_); (case side1 => exact Kd.C_below HR223_3.out (by repeat (first | (with_reducible first | exact HB.out | apply pa | apply pb | apply pc | refine below_set ?_ GE218.out | refine below_set ?_ GE219.out | refine below_set ?_ GE224.out | refine below_set ?_ GE226.out) | exact HB.out))); (case side2 => exact HC223_3.out); (case side3 => exact Kd.C_below HR225_3.out (by repeat (first | (with_reducible first | exact HB.out | apply pa | apply pb | apply pc | refine below_set ?_ GE218.out | refine below_set ?_ GE219.out | refine below_set ?_ GE224.out | refine below_set ?_ GE226.out) | exact HB.out))); (case side4 => exact HC225_3.out); rintro e w' ⟨rfl, ⟨nd, rfl⟩⟩))
                          go_meet
                          case rel => exact ⟨_, (!t228), (by first | rfl | (simp; done) | (simp [*]; done)), H', ⟨by have := HJ2.out; have := HK2.out; first | omega | exact Nat.le_refl _⟩, ⟨by (with_reducible repeat (first | apply qa | apply qb | apply qc)); refine qf ?_ NB218_226.out _; (with_reducible repeat (first | apply qa | apply qb | apply qc)); refine qf ?_ NB218_226.out _; (with_reducible repeat (first | apply qa | apply qb | apply qc)); refine qf ?_ NB218_226.out _; (with_reducible repeat (first | apply qa | apply qb | apply qc)); refine qf ?_ NB218_226.out _; (with_reducible repeat (first | apply qa | apply qb | apply qc)); exact BK218.out⟩, ⟨by (with_reducible repeat (first | apply qa | apply qb | apply qc)); refine qf ?_ NB219_226.out _; (with_reducible repeat (first | apply qa | apply qb | apply qc)); refine qf ?_ NB219_226.out _; (with_reducible repeat (first | apply qa | apply qb | apply qc)); refine qf ?_ NB219_226.out _; (with_reducible repeat (first | apply qa | apply qb | apply qc)); refine qf ?_ NB219_226.out _; (with_reducible repeat (first | apply qa | apply qb | apply qc)); exact BK219.out⟩, ⟨by (with_reducible repeat (first | apply qa | apply qb | apply qc)); refine qf ?_ NB224_226.out _; (with_reducible repeat (first | apply qa | apply qb | apply qc)); refine qf ?_ NB224_226.out _; (with_reducible repeat (first | apply qa | apply qb | apply qc)); refine qf ?_ NB224_226.out _; (with_reducible repeat (first | apply qa | apply qb | apply qc)); refine qf ?_ NB224_226.out _; (with_reducible repeat (first | apply qa | apply qb | apply qc)); exact BK224.out⟩, ⟨by (with_reducible repeat (first | apply qa | apply qb | apply qc)); refine blk_put (cs := #[.int .i64 ((rd_T98 l1_2 x5_2).f0), .int .i64 ((rd_T98 l1_2 x5_2).f1), .slice A225_2 ((rd_T98 l1_2 x5_2).f2).length c225_2, .slice none 0 0]) ?_ 3 _ rfl; (with_reducible repeat (first | apply qa | apply qb | apply qc)); refine blk_put (cs := #[.int .i64 ((rd_T98 l1_2 x5_2).f0), .int .i64 ((rd_T98 l1_2 x5_2).f1), .slice none 0 0, .slice none 0 0]) ?_ 2 _ rfl; (with_reducible repeat (first | apply qa | apply qb | apply qc)); refine blk_put (cs := #[.int .i64 ((rd_T98 l1_2 x5_2).f0), .int .i64 0, .slice none 0 0, .slice none 0 0]) ?_ 1 _ rfl; (with_reducible repeat (first | apply qa | apply qb | apply qc)); refine blk_put (cs := #[.int .i64 0, .int .i64 0, .slice none 0 0, .slice none 0 0]) ?_ 0 _ rfl; (with_reducible repeat (first | apply qa | apply qb | apply qc)); exact BK226.out⟩, ⟨by repeat (first | (with_reducible first | exact HB.out | apply pa | apply pb | apply pc | refine below_set ?_ GE218.out | refine below_set ?_ GE219.out | refine below_set ?_ GE224.out | refine below_set ?_ GE226.out) | exact HB.out)⟩⟩
                        · replace c52 := Bool.eq_false_iff.mpr c52
                          subst c52
                          have H1 : (spec_MeanSame.j2 k2 x5_2 true l0_0 l0_1 l0_2 l0_3 a0_4 a0_5 l1_0 l1_1 l1_2 l1_3 a1_4 a1_5) = some r := by rw [if_neg (show ¬ (false = true) by decide)] at H; exact H
                          clear H
                          have H := H1
                          clear H1
                          have H' := am H
                          clear H
                          have hnb61 := NB224_218.out
                          have hnc61 := NB218_224.out
                          have hnb62 := NB224_219.out
                          have hnc62 := NB219_224.out
                          have hnb63 := NB224_226.out
                          have hnc63 := NB226_224.out
                          have hcz64_0 : w44.cell? ⟨gb224, 0, none⟩ = some (.int .i64 ((rd_T98 l0_2 x5_2).f0)) := (blk_cell BK224.out 0).trans rfl
                          have hcz64_1 : w44.cell? ⟨gb224, 1, none⟩ = some (.int .i64 ((rd_T98 l0_2 x5_2).f1)) := (blk_cell BK224.out 1).trans rfl
                          have hcz64_2 : w44.cell? ⟨gb224, 2, none⟩ = some (.slice A223_2 ((rd_T98 l0_2 x5_2).f2).length c223_2) := (blk_cell BK224.out 2).trans rfl
                          have hcz64_3 : w44.cell? ⟨gb224, 3, none⟩ = some (.slice A223_3 ((rd_T98 l0_2 x5_2).f3).length c223_3) := (blk_cell BK224.out 3).trans rfl
                          have hfz64_0 := bf BK224.out 0
                          have hfz64_1 := bf BK224.out 1
                          have hfz64_2 := bf BK224.out 2
                          have hfz64_3 := bf BK224.out 3
                          have hnb65 := NB226_218.out
                          have hnc65 := NB218_226.out
                          have hnb66 := NB226_219.out
                          have hnc66 := NB219_226.out
                          have hcz67_0 := bc BK226.out 0 (.int .i64 0) rfl
                          have hcz67_1 := bc BK226.out 1 (.int .i64 0) rfl
                          have hcz67_2 := bc BK226.out 2 (.slice none 0 0) rfl
                          have hcz67_3 := bc BK226.out 3 (.slice none 0 0) rfl
                          have hfz67_0 := bf BK226.out 0
                          have hfz67_1 := bf BK226.out 1
                          have hfz67_2 := bf BK226.out 2
                          have hfz67_3 := bf BK226.out 3
                          go_wp2_with (first | (go_at_call 79; (with_reducible refine (spec_l5Vals.calls k2 _ _ ((rd_T98 l0_2 x5_2).f2) _ _ ((rd_T98 l1_2 x5_2).f2) false _ ?side1 ?side2 ?side3 ?side4 A51.out).mono ?_); (case side1 => exact Kd.C_below HR223_2.out (by repeat (first | (with_reducible first | exact HB.out | apply pa | apply pb | apply pc | refine below_set ?_ GE218.out | refine below_set ?_ GE219.out | refine below_set ?_ GE224.out | refine below_set ?_ GE226.out) | exact HB.out))); (case side2 => exact HC223_2.out); (case side3 => exact Kd.C_below HR225_2.out (by repeat (first | (with_reducible first | exact HB.out | apply pa | apply pb | apply pc | refine below_set ?_ GE218.out | refine below_set ?_ GE219.out | refine below_set ?_ GE224.out | refine below_set ?_ GE226.out) | exact HB.out))); (case side4 => exact HC225_2.out); rintro e w' ⟨rfl, ⟨nd, rfl⟩⟩))
                          go_meet
                          case rel => exact ⟨_, (true), (by first | rfl | (simp; done) | (simp [*]; done)), H', ⟨by have := HJ2.out; have := HK2.out; first | omega | exact Nat.le_refl _⟩, ⟨by (with_reducible repeat (first | apply qa | apply qb | apply qc)); refine qf ?_ NB218_226.out _; (with_reducible repeat (first | apply qa | apply qb | apply qc)); refine qf ?_ NB218_226.out _; (with_reducible repeat (first | apply qa | apply qb | apply qc)); refine qf ?_ NB218_226.out _; (with_reducible repeat (first | apply qa | apply qb | apply qc)); refine qf ?_ NB218_226.out _; (with_reducible repeat (first | apply qa | apply qb | apply qc)); exact BK218.out⟩, ⟨by (with_reducible repeat (first | apply qa | apply qb | apply qc)); refine qf ?_ NB219_226.out _; (with_reducible repeat (first | apply qa | apply qb | apply qc)); refine qf ?_ NB219_226.out _; (with_reducible repeat (first | apply qa | apply qb | apply qc)); refine qf ?_ NB219_226.out _; (with_reducible repeat (first | apply qa | apply qb | apply qc)); refine qf ?_ NB219_226.out _; (with_reducible repeat (first | apply qa | apply qb | apply qc)); exact BK219.out⟩, ⟨by (with_reducible repeat (first | apply qa | apply qb | apply qc)); refine qf ?_ NB224_226.out _; (with_reducible repeat (first | apply qa | apply qb | apply qc)); refine qf ?_ NB224_226.out _; (with_reducible repeat (first | apply qa | apply qb | apply qc)); refine qf ?_ NB224_226.out _; (with_reducible repeat (first | apply qa | apply qb | apply qc)); refine qf ?_ NB224_226.out _; (with_reducible repeat (first | apply qa | apply qb | apply qc)); exact BK224.out⟩, ⟨by (with_reducible repeat (first | apply qa | apply qb | apply qc)); refine blk_put (cs := #[.int .i64 ((rd_T98 l1_2 x5_2).f0), .int .i64 ((rd_T98 l1_2 x5_2).f1), .slice A225_2 ((rd_T98 l1_2 x5_2).f2).length c225_2, .slice none 0 0]) ?_ 3 _ rfl; (with_reducible repeat (first | apply qa | apply qb | apply qc)); refine blk_put (cs := #[.int .i64 ((rd_T98 l1_2 x5_2).f0), .int .i64 ((rd_T98 l1_2 x5_2).f1), .slice none 0 0, .slice none 0 0]) ?_ 2 _ rfl; (with_reducible repeat (first | apply qa | apply qb | apply qc)); refine blk_put (cs := #[.int .i64 ((rd_T98 l1_2 x5_2).f0), .int .i64 0, .slice none 0 0, .slice none 0 0]) ?_ 1 _ rfl; (with_reducible repeat (first | apply qa | apply qb | apply qc)); refine blk_put (cs := #[.int .i64 0, .int .i64 0, .slice none 0 0, .slice none 0 0]) ?_ 0 _ rfl; (with_reducible repeat (first | apply qa | apply qb | apply qc)); exact BK226.out⟩, ⟨by repeat (first | (with_reducible first | exact HB.out | apply pa | apply pb | apply pc | refine below_set ?_ GE218.out | refine below_set ?_ GE219.out | refine below_set ?_ GE224.out | refine below_set ?_ GE226.out) | exact HB.out)⟩⟩
                      · rw [if_neg c50] at H
                        have c50b0 : (((rd_T98 l0_2 x5_2).f1) == ((rd_T98 l1_2 x5_2).f1)) = false := beq_eq_false_iff_ne.mpr c50
                        have c50b1 : (((rd_T98 l0_2 x5_2).f1) != ((rd_T98 l1_2 x5_2).f1)) = true := bne_iff_ne.mpr c50
                        have H' := am H
                        clear H
                        have hnb68 := NB224_218.out
                        have hnc68 := NB218_224.out
                        have hnb69 := NB224_219.out
                        have hnc69 := NB219_224.out
                        have hnb70 := NB224_226.out
                        have hnc70 := NB226_224.out
                        have hcz71_0 : w44.cell? ⟨gb224, 0, none⟩ = some (.int .i64 ((rd_T98 l0_2 x5_2).f0)) := (blk_cell BK224.out 0).trans rfl
                        have hcz71_1 : w44.cell? ⟨gb224, 1, none⟩ = some (.int .i64 ((rd_T98 l0_2 x5_2).f1)) := (blk_cell BK224.out 1).trans rfl
                        have hcz71_2 : w44.cell? ⟨gb224, 2, none⟩ = some (.slice A223_2 ((rd_T98 l0_2 x5_2).f2).length c223_2) := (blk_cell BK224.out 2).trans rfl
                        have hcz71_3 : w44.cell? ⟨gb224, 3, none⟩ = some (.slice A223_3 ((rd_T98 l0_2 x5_2).f3).length c223_3) := (blk_cell BK224.out 3).trans rfl
                        have hfz71_0 := bf BK224.out 0
                        have hfz71_1 := bf BK224.out 1
                        have hfz71_2 := bf BK224.out 2
                        have hfz71_3 := bf BK224.out 3
                        have hnb72 := NB226_218.out
                        have hnc72 := NB218_226.out
                        have hnb73 := NB226_219.out
                        have hnc73 := NB219_226.out
                        have hcz74_0 := bc BK226.out 0 (.int .i64 0) rfl
                        have hcz74_1 := bc BK226.out 1 (.int .i64 0) rfl
                        have hcz74_2 := bc BK226.out 2 (.slice none 0 0) rfl
                        have hcz74_3 := bc BK226.out 3 (.slice none 0 0) rfl
                        have hfz74_0 := bf BK226.out 0
                        have hfz74_1 := bf BK226.out 1
                        have hfz74_2 := bf BK226.out 2
                        have hfz74_3 := bf BK226.out 3
                        go_wp2
                        go_meet
                        case rel => exact ⟨_, (true), (by first | rfl | (simp; done) | (simp [*]; done)), H', ⟨by have := HJ2.out; have := HK2.out; first | omega | exact Nat.le_refl _⟩, ⟨by (with_reducible repeat (first | apply qa | apply qb | apply qc)); refine qf ?_ NB218_226.out _; (with_reducible repeat (first | apply qa | apply qb | apply qc)); refine qf ?_ NB218_226.out _; (with_reducible repeat (first | apply qa | apply qb | apply qc)); refine qf ?_ NB218_226.out _; (with_reducible repeat (first | apply qa | apply qb | apply qc)); refine qf ?_ NB218_226.out _; (with_reducible repeat (first | apply qa | apply qb | apply qc)); exact BK218.out⟩, ⟨by (with_reducible repeat (first | apply qa | apply qb | apply qc)); refine qf ?_ NB219_226.out _; (with_reducible repeat (first | apply qa | apply qb | apply qc)); refine qf ?_ NB219_226.out _; (with_reducible repeat (first | apply qa | apply qb | apply qc)); refine qf ?_ NB219_226.out _; (with_reducible repeat (first | apply qa | apply qb | apply qc)); refine qf ?_ NB219_226.out _; (with_reducible repeat (first | apply qa | apply qb | apply qc)); exact BK219.out⟩, ⟨by (with_reducible repeat (first | apply qa | apply qb | apply qc)); refine qf ?_ NB224_226.out _; (with_reducible repeat (first | apply qa | apply qb | apply qc)); refine qf ?_ NB224_226.out _; (with_reducible repeat (first | apply qa | apply qb | apply qc)); refine qf ?_ NB224_226.out _; (with_reducible repeat (first | apply qa | apply qb | apply qc)); refine qf ?_ NB224_226.out _; (with_reducible repeat (first | apply qa | apply qb | apply qc)); exact BK224.out⟩, ⟨by (with_reducible repeat (first | apply qa | apply qb | apply qc)); refine blk_put (cs := #[.int .i64 ((rd_T98 l1_2 x5_2).f0), .int .i64 ((rd_T98 l1_2 x5_2).f1), .slice A225_2 ((rd_T98 l1_2 x5_2).f2).length c225_2, .slice none 0 0]) ?_ 3 _ rfl; (with_reducible repeat (first | apply qa | apply qb | apply qc)); refine blk_put (cs := #[.int .i64 ((rd_T98 l1_2 x5_2).f0), .int .i64 ((rd_T98 l1_2 x5_2).f1), .slice none 0 0, .slice none 0 0]) ?_ 2 _ rfl; (with_reducible repeat (first | apply qa | apply qb | apply qc)); refine blk_put (cs := #[.int .i64 ((rd_T98 l1_2 x5_2).f0), .int .i64 0, .slice none 0 0, .slice none 0 0]) ?_ 1 _ rfl; (with_reducible repeat (first | apply qa | apply qb | apply qc)); refine blk_put (cs := #[.int .i64 0, .int .i64 0, .slice none 0 0, .slice none 0 0]) ?_ 0 _ rfl; (with_reducible repeat (first | apply qa | apply qb | apply qc)); exact BK226.out⟩, ⟨by repeat (first | (with_reducible first | exact HB.out | apply pa | apply pb | apply pc | refine below_set ?_ GE218.out | refine below_set ?_ GE219.out | refine below_set ?_ GE224.out | refine below_set ?_ GE226.out) | exact HB.out)⟩⟩
                    · rw [if_neg c49] at H
                      have c49b0 : (((rd_T98 l0_2 x5_2).f0) == ((rd_T98 l1_2 x5_2).f0)) = false := beq_eq_false_iff_ne.mpr c49
                      have c49b1 : (((rd_T98 l0_2 x5_2).f0) != ((rd_T98 l1_2 x5_2).f0)) = true := bne_iff_ne.mpr c49
                      (first | rw [c49b0] | (simp only [i64_w, i32_w]; rw [c49b0]) | skip)
                      have H' := am H
                      clear H
                      have hnb75 := NB224_218.out
                      have hnc75 := NB218_224.out
                      have hnb76 := NB224_219.out
                      have hnc76 := NB219_224.out
                      have hnb77 := NB224_226.out
                      have hnc77 := NB226_224.out
                      have hcz78_0 : w44.cell? ⟨gb224, 0, none⟩ = some (.int .i64 ((rd_T98 l0_2 x5_2).f0)) := (blk_cell BK224.out 0).trans rfl
                      have hcz78_1 : w44.cell? ⟨gb224, 1, none⟩ = some (.int .i64 ((rd_T98 l0_2 x5_2).f1)) := (blk_cell BK224.out 1).trans rfl
                      have hcz78_2 : w44.cell? ⟨gb224, 2, none⟩ = some (.slice A223_2 ((rd_T98 l0_2 x5_2).f2).length c223_2) := (blk_cell BK224.out 2).trans rfl
                      have hcz78_3 : w44.cell? ⟨gb224, 3, none⟩ = some (.slice A223_3 ((rd_T98 l0_2 x5_2).f3).length c223_3) := (blk_cell BK224.out 3).trans rfl
                      have hfz78_0 := bf BK224.out 0
                      have hfz78_1 := bf BK224.out 1
                      have hfz78_2 := bf BK224.out 2
                      have hfz78_3 := bf BK224.out 3
                      have hnb79 := NB226_218.out
                      have hnc79 := NB218_226.out
                      have hnb80 := NB226_219.out
                      have hnc80 := NB219_226.out
                      have hcz81_0 := bc BK226.out 0 (.int .i64 0) rfl
                      have hcz81_1 := bc BK226.out 1 (.int .i64 0) rfl
                      have hcz81_2 := bc BK226.out 2 (.slice none 0 0) rfl
                      have hcz81_3 := bc BK226.out 3 (.slice none 0 0) rfl
                      have hfz81_0 := bf BK226.out 0
                      have hfz81_1 := bf BK226.out 1
                      have hfz81_2 := bf BK226.out 2
                      have hfz81_3 := bf BK226.out 3
                      go_wp2
                      go_meet
                      case rel => exact ⟨_, (true), (by first | rfl | (simp; done) | (simp [*]; done)), H', ⟨by have := HJ2.out; have := HK2.out; first | omega | exact Nat.le_refl _⟩, ⟨by (with_reducible repeat (first | apply qa | apply qb | apply qc)); refine qf ?_ NB218_226.out _; (with_reducible repeat (first | apply qa | apply qb | apply qc)); refine qf ?_ NB218_226.out _; (with_reducible repeat (first | apply qa | apply qb | apply qc)); refine qf ?_ NB218_226.out _; (with_reducible repeat (first | apply qa | apply qb | apply qc)); refine qf ?_ NB218_226.out _; (with_reducible repeat (first | apply qa | apply qb | apply qc)); exact BK218.out⟩, ⟨by (with_reducible repeat (first | apply qa | apply qb | apply qc)); refine qf ?_ NB219_226.out _; (with_reducible repeat (first | apply qa | apply qb | apply qc)); refine qf ?_ NB219_226.out _; (with_reducible repeat (first | apply qa | apply qb | apply qc)); refine qf ?_ NB219_226.out _; (with_reducible repeat (first | apply qa | apply qb | apply qc)); refine qf ?_ NB219_226.out _; (with_reducible repeat (first | apply qa | apply qb | apply qc)); exact BK219.out⟩, ⟨by (with_reducible repeat (first | apply qa | apply qb | apply qc)); refine qf ?_ NB224_226.out _; (with_reducible repeat (first | apply qa | apply qb | apply qc)); refine qf ?_ NB224_226.out _; (with_reducible repeat (first | apply qa | apply qb | apply qc)); refine qf ?_ NB224_226.out _; (with_reducible repeat (first | apply qa | apply qb | apply qc)); refine qf ?_ NB224_226.out _; (with_reducible repeat (first | apply qa | apply qb | apply qc)); exact BK224.out⟩, ⟨by (with_reducible repeat (first | apply qa | apply qb | apply qc)); refine blk_put (cs := #[.int .i64 ((rd_T98 l1_2 x5_2).f0), .int .i64 ((rd_T98 l1_2 x5_2).f1), .slice A225_2 ((rd_T98 l1_2 x5_2).f2).length c225_2, .slice none 0 0]) ?_ 3 _ rfl; (with_reducible repeat (first | apply qa | apply qb | apply qc)); refine blk_put (cs := #[.int .i64 ((rd_T98 l1_2 x5_2).f0), .int .i64 ((rd_T98 l1_2 x5_2).f1), .slice none 0 0, .slice none 0 0]) ?_ 2 _ rfl; (with_reducible repeat (first | apply qa | apply qb | apply qc)); refine blk_put (cs := #[.int .i64 ((rd_T98 l1_2 x5_2).f0), .int .i64 0, .slice none 0 0, .slice none 0 0]) ?_ 1 _ rfl; (with_reducible repeat (first | apply qa | apply qb | apply qc)); refine blk_put (cs := #[.int .i64 0, .int .i64 0, .slice none 0 0, .slice none 0 0]) ?_ 0 _ rfl; (with_reducible repeat (first | apply qa | apply qb | apply qc)); exact BK226.out⟩, ⟨by repeat (first | (with_reducible first | exact HB.out | apply pa | apply pb | apply pc | refine below_set ?_ GE218.out | refine below_set ?_ GE219.out | refine below_set ?_ GE224.out | refine below_set ?_ GE226.out) | exact HB.out)⟩⟩
                  case rest =>
                    clear HC36
                    try clear c1
                    try clear c2
                    try clear p2
                    try clear q2
                    try clear hx2
                    try clear c3
                    try clear c4
                    try clear c5
                    try clear c6
                    try clear c6b0
                    try clear c6b1
                    try clear c7
                    try clear c7b0
                    try clear c7b1
                    try clear c8
                    try clear c8b0
                    try clear c8b1
                    try clear c8b2
                    try clear c10
                    try clear c12
                    try clear c14
                    try clear c17
                    try clear c20
                    try clear c22
                    try clear p22
                    try clear q22
                    try clear hx22
                    try clear c23
                    try clear c26
                    try clear c29
                    try clear c32
                    try clear c33
                    try clear c33b0
                    try clear c34
                    try clear c34b0
                    try clear c35
                    try clear c35b0
                    try clear c37
                    try clear c40
                    try clear c41
                    try clear c45
                    try clear c46
                    try clear c47
                    try clear c49
                    try clear c49b0
                    try clear c49b1
                    try clear c50
                    try clear c50b0
                    try clear c50b1
                    try clear c52
                    try clear c54
                    try clear c55
                    try clear c56
                    try clear c58
                    try clear c59
                    try clear c61
                    try clear c62
                    try clear c63
                    try clear c65
                    try clear c66
                    try clear c68
                    try clear c69
                    try clear c70
                    try clear c72
                    try clear c73
                    try clear c75
                    try clear c76
                    try clear c77
                    try clear c79
                    try clear c80
                    try clear hcz15_0
                    try clear hcz15_1
                    try clear hcz15_2
                    try clear hcz15_3
                    try clear hcz15_4
                    try clear hcz15_5
                    try clear hcz16_0
                    try clear hcz16_1
                    try clear hcz16_2
                    try clear hcz16_3
                    try clear hcz16_4
                    try clear hcz16_5
                    try clear hcz18_0
                    try clear hcz18_1
                    try clear hcz18_2
                    try clear hcz18_3
                    try clear hcz18_4
                    try clear hcz18_5
                    try clear hcz19_0
                    try clear hcz19_1
                    try clear hcz19_2
                    try clear hcz19_3
                    try clear hcz19_4
                    try clear hcz19_5
                    try clear hcz21_0
                    try clear hcz21_1
                    try clear hcz21_2
                    try clear hcz21_3
                    try clear hcz21_4
                    try clear hcz21_5
                    try clear hcz22_0
                    try clear hcz22_1
                    try clear hcz22_2
                    try clear hcz22_3
                    try clear hcz22_4
                    try clear hcz22_5
                    try clear hcz24_0
                    try clear hcz24_1
                    try clear hcz24_2
                    try clear hcz24_3
                    try clear hcz24_4
                    try clear hcz24_5
                    try clear hcz25_0
                    try clear hcz25_1
                    try clear hcz25_2
                    try clear hcz25_3
                    try clear hcz25_4
                    try clear hcz25_5
                    try clear hcz27_0
                    try clear hcz27_1
                    try clear hcz27_2
                    try clear hcz27_3
                    try clear hcz27_4
                    try clear hcz27_5
                    try clear hcz28_0
                    try clear hcz28_1
                    try clear hcz28_2
                    try clear hcz28_3
                    try clear hcz28_4
                    try clear hcz28_5
                    try clear hcz30_0
                    try clear hcz30_1
                    try clear hcz30_2
                    try clear hcz30_3
                    try clear hcz30_4
                    try clear hcz30_5
                    try clear hcz31_0
                    try clear hcz31_1
                    try clear hcz31_2
                    try clear hcz31_3
                    try clear hcz31_4
                    try clear hcz31_5
                    try clear hcz38_0
                    try clear hcz38_1
                    try clear hcz38_2
                    try clear hcz38_3
                    try clear hcz38_4
                    try clear hcz38_5
                    try clear hcz42_0
                    try clear hcz42_1
                    try clear hcz42_2
                    try clear hcz42_3
                    try clear hcz43_0
                    try clear hcz43_1
                    try clear hcz43_2
                    try clear hcz43_3
                    try clear hcz43_4
                    try clear hcz43_5
                    try clear hcz48_0
                    try clear hcz48_1
                    try clear hcz48_2
                    try clear hcz48_3
                    try clear hcz57_0
                    try clear hcz57_1
                    try clear hcz57_2
                    try clear hcz57_3
                    try clear hcz60_0
                    try clear hcz60_1
                    try clear hcz60_2
                    try clear hcz60_3
                    try clear hcz64_0
                    try clear hcz64_1
                    try clear hcz64_2
                    try clear hcz64_3
                    try clear hcz67_0
                    try clear hcz67_1
                    try clear hcz67_2
                    try clear hcz67_3
                    try clear hcz71_0
                    try clear hcz71_1
                    try clear hcz71_2
                    try clear hcz71_3
                    try clear hcz74_0
                    try clear hcz74_1
                    try clear hcz74_2
                    try clear hcz74_3
                    try clear hcz78_0
                    try clear hcz78_1
                    try clear hcz78_2
                    try clear hcz78_3
                    try clear hcz81_0
                    try clear hcz81_1
                    try clear hcz81_2
                    try clear hcz81_3
                    try clear hfz15_0
                    try clear hfz15_1
                    try clear hfz15_2
                    try clear hfz15_3
                    try clear hfz15_4
                    try clear hfz15_5
                    try clear hfz16_0
                    try clear hfz16_1
                    try clear hfz16_2
                    try clear hfz16_3
                    try clear hfz16_4
                    try clear hfz16_5
                    try clear hfz18_0
                    try clear hfz18_1
                    try clear hfz18_2
                    try clear hfz18_3
                    try clear hfz18_4
                    try clear hfz18_5
                    try clear hfz19_0
                    try clear hfz19_1
                    try clear hfz19_2
                    try clear hfz19_3
                    try clear hfz19_4
                    try clear hfz19_5
                    try clear hfz21_0
                    try clear hfz21_1
                    try clear hfz21_2
                    try clear hfz21_3
                    try clear hfz21_4
                    try clear hfz21_5
                    try clear hfz22_0
                    try clear hfz22_1
                    try clear hfz22_2
                    try clear hfz22_3
                    try clear hfz22_4
                    try clear hfz22_5
                    try clear hfz24_0
                    try clear hfz24_1
                    try clear hfz24_2
                    try clear hfz24_3
                    try clear hfz24_4
                    try clear hfz24_5
                    try clear hfz25_0
                    try clear hfz25_1
                    try clear hfz25_2
                    try clear hfz25_3
                    try clear hfz25_4
                    try clear hfz25_5
                    try clear hfz27_0
                    try clear hfz27_1
                    try clear hfz27_2
                    try clear hfz27_3
                    try clear hfz27_4
                    try clear hfz27_5
                    try clear hfz28_0
                    try clear hfz28_1
                    try clear hfz28_2
                    try clear hfz28_3
                    try clear hfz28_4
                    try clear hfz28_5
                    try clear hfz30_0
                    try clear hfz30_1
                    try clear hfz30_2
                    try clear hfz30_3
                    try clear hfz30_4
                    try clear hfz30_5
                    try clear hfz31_0
                    try clear hfz31_1
                    try clear hfz31_2
                    try clear hfz31_3
                    try clear hfz31_4
                    try clear hfz31_5
                    try clear hfz38_0
                    try clear hfz38_1
                    try clear hfz38_2
                    try clear hfz38_3
                    try clear hfz38_4
                    try clear hfz38_5
                    try clear hfz42_0
                    try clear hfz42_1
                    try clear hfz42_2
                    try clear hfz42_3
                    try clear hfz43_0
                    try clear hfz43_1
                    try clear hfz43_2
                    try clear hfz43_3
                    try clear hfz43_4
                    try clear hfz43_5
                    try clear hfz48_0
                    try clear hfz48_1
                    try clear hfz48_2
                    try clear hfz48_3
                    try clear hfz57_0
                    try clear hfz57_1
                    try clear hfz57_2
                    try clear hfz57_3
                    try clear hfz60_0
                    try clear hfz60_1
                    try clear hfz60_2
                    try clear hfz60_3
                    try clear hfz64_0
                    try clear hfz64_1
                    try clear hfz64_2
                    try clear hfz64_3
                    try clear hfz67_0
                    try clear hfz67_1
                    try clear hfz67_2
                    try clear hfz67_3
                    try clear hfz71_0
                    try clear hfz71_1
                    try clear hfz71_2
                    try clear hfz71_3
                    try clear hfz74_0
                    try clear hfz74_1
                    try clear hfz74_2
                    try clear hfz74_3
                    try clear hfz78_0
                    try clear hfz78_1
                    try clear hfz78_2
                    try clear hfz78_3
                    try clear hfz81_0
                    try clear hfz81_1
                    try clear hfz81_2
                    try clear hfz81_3
                    try clear hx223_0
                    try clear hx223_1
                    try clear hx223_2
                    try clear hx223_3
                    try clear hx225_0
                    try clear hx225_1
                    try clear hx225_2
                    try clear hx225_3
                    try clear p2
                    try clear p223
                    try clear p225
                    try clear q223
                    try clear q225
                    obtain ⟨kq, x97_35, rfl, HA, HJ35, BK218, BK219, BK224, BK226, HB⟩ := hcut
                    cases kq with
                    | zero => exact absurd HA.out (by simp [spec_MeanSame.j2])
                    | succ kj35 =>
                      have H := HA.out
                      clear HA
                      simp only [spec_MeanSame.j2] at H
                      by_cases c82 : x97_35 = true
                      · subst c82
                        have H1 : (some false) = some r := by rw [if_pos rfl] at H; exact H
                        clear H
                        have H := H1
                        clear H1
                        obtain rfl := Option.some.inj H
                        go_wp2
                        go_ret
                        exact ⟨by first | rfl | (simp [errW_none, errW_some] <;> rfl) | (simp [*, errW_none, errW_some] <;> rfl), by repeat (first | (with_reducible first | exact HB.out | apply pa | apply pb | apply pc | refine below_set ?_ GE218.out | refine below_set ?_ GE219.out | refine below_set ?_ GE224.out | refine below_set ?_ GE226.out) | exact HB.out)⟩
                      · replace c82 := Bool.eq_false_iff.mpr c82
                        subst c82
                        have H1 : (spec_MeanSame.l0 kj35 (wrap64 (x5_2 + 1)) l0_0 l0_1 l0_2 l0_3 a0_4 a0_5 l1_0 l1_1 l1_2 l1_3 a1_4 a1_5) = some r := by rw [if_neg (show ¬ (false = true) by decide)] at H; exact H
                        clear H
                        have H := H1
                        clear H1
                        have H' := am H
                        clear H
                        go_wp2
                        go_roundg kj35
                        case measure => have := HJ2.out; have := HK2.out; have := HJ35.out; omega
                        case rel => exact ⟨(wrap64 (x5_2 + 1)), (by first | rfl | (simp; done) | (simp [*]; done)), H', ⟨by have := HJ2.out; have := HK2.out; have := HJ35.out; omega⟩, ⟨by (with_reducible repeat (first | apply qa | apply qb | apply qc)); exact BK218.out⟩, ⟨by (with_reducible repeat (first | apply qa | apply qb | apply qc)); exact BK219.out⟩, ⟨by repeat (first | (with_reducible first | exact HB.out | apply pa | apply pb | apply pc | refine below_set ?_ GE218.out | refine below_set ?_ GE219.out | refine below_set ?_ GE224.out | refine below_set ?_ GE226.out) | exact HB.out)⟩⟩
                · rw [if_neg c35] at H
                  exact absurd H (by simp)
              · rw [if_neg c34] at H
                exact absurd H (by simp)
            · rw [if_neg c33] at H
              have c33b0 : decide (x5_2 < (l0_2.length : Int)) = false := decide_eq_false c33
              clear c33
              obtain rfl := Option.some.inj H
              have hnb83 := NB218_219.out
              have hnc83 := NB219_218.out
              have hcz84_0 := bc BK218.out 0 (.slice A0_0 l0_0.length c0_0) rfl
              have hcz84_1 := bc BK218.out 1 (.slice A0_1 l0_1.length c0_1) rfl
              have hcz84_2 := bc BK218.out 2 (.slice A0_2 l0_2.length c0_2) rfl
              have hcz84_3 := bc BK218.out 3 (.slice A0_3 l0_3.length c0_3) rfl
              have hcz84_4 := bc BK218.out 4 (.int .i64 a0_4) rfl
              have hcz84_5 := bc BK218.out 5 (.int .i64 a0_5) rfl
              have hfz84_0 := bf BK218.out 0
              have hfz84_1 := bf BK218.out 1
              have hfz84_2 := bf BK218.out 2
              have hfz84_3 := bf BK218.out 3
              have hfz84_4 := bf BK218.out 4
              have hfz84_5 := bf BK218.out 5
              go_wp2
              go_ret
              exact ⟨by first | rfl | (simp [errW_none, errW_some] <;> rfl) | (simp [*, errW_none, errW_some] <;> rfl), by repeat (first | (with_reducible first | exact HB.out | apply pa | apply pb | apply pc | refine below_set ?_ GE218.out | refine below_set ?_ GE219.out) | exact HB.out)⟩
end Go.Proofs.Ytgbmfkfmimpaaaa.PFnExactEngineSame
