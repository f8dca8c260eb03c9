/- Functions of the program as plain Lean functions, and that the machine's calls come to what these tell: by the kit's print, turned by this session (NOTES.md). No condition beyond each theorem's own. -/
import Derived.Test.YtgbmfkfmimpaaaaVFnExactProgSamea
import Derived.Test.YtgbmfkfmimpaaaaPFnExactProgSamex0
import Derived.Test.YtgbmfkfmimpaaaaPFnExactProgSamex3
import Derived.Test.YtgbmfkfmimpaaaaPFnExactProgSamex6
import Derived.Test.YtgbmfkfmimpaaaaPFnExactProgSamex7
import Derived.Test.YtgbmfkfmimpaaaaPFnExactProgSamex9
import Derived.Test.YtgbmfkfmimpaaaaPFnExactProgSamex12
namespace Go.Proofs.Ytgbmfkfmimpaaaa.PFnExactProgSame
open Go.RowKit Go.Proofs.YtgbmfkfmimpaaaaW.PrintWords Go.Proofs.YtgbmfkfmimpaaaaW.PrintLast Go.Proofs.YtgbmfkfmimpaaaaW.PrintMore Go.Proofs.Ytgbmfkfmimpaaaa.Aid3
set_option linter.unusedVariables false
set_option linter.unusedSimpArgs false
def laws_FnExactProgSame.f (k : Nat) (l0_0 : List (List (S173))) (l0_1 : List (S161)) (l0_2 : List (S164)) (l1_0 : List (List (S173))) (l1_1 : List (S161)) (l1_2 : List (S164)) : Option (Bool) := (laws_szProg.f k l0_0 l0_1 l0_2 1048576).bind fun t300 => (if t300 < 0 then (some true) else ((laws_szProg.f k l1_0 l1_1 l1_2 t300).bind fun t301 => (if t301 < 0 then (some true) else ((laws_toProg.f k l0_0 l0_1 l0_2).bind fun bt302 => ((laws_toProg.f k l1_0 l1_1 l1_2).bind fun bt311 => ((spec_ProgSame.f k bt302.1 bt302.2.1 bt302.2.2 bt311.1 bt311.2.1 bt311.2.2).bind fun t320 => ((laws_toProg.f k l0_0 l0_1 l0_2).bind fun bt321 => ((laws_toProg.f k l1_0 l1_1 l1_2).bind fun bt331 => ((impl_ProgSame.f k bt321.1 bt321.2.1 bt321.2.2 bt331.1 bt331.2.1 bt331.2.2).bind fun t341 => (if (t341 != t320) = true then (some false) else ((laws_toProg.f k l0_0 l0_1 l0_2).bind fun bt342 => ((laws_eqProg.f k bt321.1 bt321.2.1 bt321.2.2 bt342.1 bt342.2.1 bt342.2.2).bind fun t351 => (if t351 = true then ((laws_toProg.f k l1_0 l1_1 l1_2).bind fun bt352 => ((laws_eqProg.f k bt331.1 bt331.2.1 bt331.2.2 bt352.1 bt352.2.1 bt352.2.2).bind fun t361 => (if t361 = true then (some true) else (some false)))) else (some false))))))))))))))
set_option maxHeartbeats 8000000 in
set_option maxRecDepth 100000 in
theorem laws_FnExactProgSame.calls (k : Nat) (A0_0 : Option Addr) (c0_0 : Nat) (l0_0 : List (List (S173))) (A0_1 : Option Addr) (c0_1 : Nat) (l0_1 : List (S161)) (A0_2 : Option Addr) (c0_2 : Nat) (l0_2 : List (S164)) (A1_0 : Option Addr) (c1_0 : Nat) (l1_0 : List (List (S173))) (A1_1 : Option Addr) (c1_1 : Nat) (l1_1 : List (S161)) (A1_2 : Option Addr) (c1_2 : Nat) (l1_2 : List (S164)) (r : Bool) (w : World) (hr0_0 : Kd.C (Kd.slice 173 k173) w A0_0 l0_0.length l0_0) (hc0_0 : l0_0.length ≤ c0_0) (hr0_1 : Kd.C k161 w A0_1 l0_1.length l0_1) (hc0_1 : l0_1.length ≤ c0_1) (hr0_2 : Kd.C k164 w A0_2 l0_2.length l0_2) (hc0_2 : l0_2.length ≤ c0_2) (hr1_0 : Kd.C (Kd.slice 173 k173) w A1_0 l1_0.length l1_0) (hc1_0 : l1_0.length ≤ c1_0) (hr1_1 : Kd.C k161 w A1_1 l1_1.length l1_1) (hc1_1 : l1_1.length ≤ c1_1) (hr1_2 : Kd.C k164 w A1_2 l1_2.length l1_2) (hc1_2 : l1_2.length ≤ c1_2) (hrt_ : r = true) (h : laws_FnExactProgSame.f k l0_0 l0_1 l0_2 l1_0 l1_1 l1_2 = some r) :
    Calls Try.prog 13 #[.agg #[.slice A0_0 l0_0.length c0_0, .slice A0_1 l0_1.length c0_1, .slice A0_2 l0_2.length c0_2], .agg #[.slice A1_0 l1_0.length c1_0, .slice A1_1 l1_1.length c1_1, .slice A1_2 l1_2.length c1_2]] w fun e w' => e = .returned (.bool r) ∧ Below w.heap.size w w' := by
  have hu81 := Try.underlying81
  have hu88 := Try.underlying88
  have HR_ := am hrt_
  clear hrt_
  have HR0_0 := am hr0_0
  have HC0_0 := am hc0_0
  clear hr0_0 hc0_0
  have HR0_1 := am hr0_1
  have HC0_1 := am hc0_1
  clear hr0_1 hc0_1
  have HR0_2 := am hr0_2
  have HC0_2 := am hc0_2
  clear hr0_2 hc0_2
  have HR1_0 := am hr1_0
  have HC1_0 := am hc1_0
  clear hr1_0 hc1_0
  have HR1_1 := am hr1_1
  have HC1_1 := am hc1_1
  clear hr1_1 hc1_1
  have HR1_2 := am hr1_2
  have HC1_2 := am hc1_2
  clear hr1_2 hc1_2
  have HB := am (Below.refl w.heap.size w)
  have H : ((laws_szProg.f k l0_0 l0_1 l0_2 1048576).bind fun t300 => (if t300 < 0 then (some true) else ((laws_szProg.f k l1_0 l1_1 l1_2 t300).bind fun t301 => (if t301 < 0 then (some true) else ((laws_toProg.f k l0_0 l0_1 l0_2).bind fun bt302 => ((laws_toProg.f k l1_0 l1_1 l1_2).bind fun bt311 => ((spec_ProgSame.f k bt302.1 bt302.2.1 bt302.2.2 bt311.1 bt311.2.1 bt311.2.2).bind fun t320 => ((laws_toProg.f k l0_0 l0_1 l0_2).bind fun bt321 => ((laws_toProg.f k l1_0 l1_1 l1_2).bind fun bt331 => ((impl_ProgSame.f k bt321.1 bt321.2.1 bt321.2.2 bt331.1 bt331.2.1 bt331.2.2).bind fun t341 => (if (t341 != t320) = true then (some false) else ((laws_toProg.f k l0_0 l0_1 l0_2).bind fun bt342 => ((laws_eqProg.f k bt321.1 bt321.2.1 bt321.2.2 bt342.1 bt342.2.1 bt342.2.2).bind fun t351 => (if t351 = true then ((laws_toProg.f k l1_0 l1_1 l1_2).bind fun bt352 => ((laws_eqProg.f k bt331.1 bt331.2.1 bt331.2.2 bt352.1 bt352.2.1 bt352.2.2).bind fun t361 => (if t361 = true then (some true) else (some false)))) else (some false))))))))))))))) = some r := h
  clear h
  replace H := Option.bind_eq_some_iff.mp H
  obtain ⟨t300, A30, H⟩ := H
  replace H : (if t300 < 0 then (some true) else ((laws_szProg.f k l1_0 l1_1 l1_2 t300).bind fun t301 => (if t301 < 0 then (some true) else ((laws_toProg.f k l0_0 l0_1 l0_2).bind fun bt302 => ((laws_toProg.f k l1_0 l1_1 l1_2).bind fun bt311 => ((spec_ProgSame.f k bt302.1 bt302.2.1 bt302.2.2 bt311.1 bt311.2.1 bt311.2.2).bind fun t320 => ((laws_toProg.f k l0_0 l0_1 l0_2).bind fun bt321 => ((laws_toProg.f k l1_0 l1_1 l1_2).bind fun bt331 => ((impl_ProgSame.f k bt321.1 bt321.2.1 bt321.2.2 bt331.1 bt331.2.1 bt331.2.2).bind fun t341 => (if (t341 != t320) = true then (some false) else ((laws_toProg.f k l0_0 l0_1 l0_2).bind fun bt342 => ((laws_eqProg.f k bt321.1 bt321.2.1 bt321.2.2 bt342.1 bt342.2.1 bt342.2.2).bind fun t351 => (if t351 = true then ((laws_toProg.f k l1_0 l1_1 l1_2).bind fun bt352 => ((laws_eqProg.f k bt331.1 bt331.2.1 bt331.2.2 bt352.1 bt352.2.1 bt352.2.2).bind fun t361 => (if t361 = true then (some true) else (some false)))) else (some false)))))))))))))) = some r := H
  have A3 := am A30
  clear A30
  by_cases c4 : t300 < 0
  · rw [if_pos c4] at H
    have c4b0 : decide (t300 < 0) = true := decide_eq_true c4
    clear c4
    obtain rfl := Option.some.inj H
    go_enter Try.func13, Try.ntmps13
    go_wp2_with (first | ((with_reducible refine gate_dst (N := 2) rfl ?_); refine box_event ?hg (N := 2) ?hd (cs := #[.slice A0_0 l0_0.length c0_0, .slice A0_1 l0_1.length c0_1, .slice A0_2 l0_2.length c0_2]) (t := 81) ?hr ?_; (case hd => rfl); (case hg => rfl); (case hr => first | (go_simp; done) | (go_simp; rfl)); intro gb298 hg w5 hbox hb; have n0_ := am (below_step (by repeat (first | (with_reducible first | exact HB.out | apply pa | apply pb | apply pc) | exact HB.out)) hb); have n1_ := am (hbox); have n2_ := am ((by rw [hg]; exact (below_size (by repeat (first | (with_reducible first | exact HB.out | apply pa | apply pb | apply pc) | exact HB.out))) : w.heap.size ≤ gb298)); have n3_ := am ((by rw [hg]; exact (below_size (by repeat (first | (with_reducible first | exact HB.out | apply pa | apply pb | apply pc) | exact HB.out))) : w.heap.size ≤ gb298)); clear HB; have HB := n0_; have BK298 := n1_; have GW298 := n2_; have GE298 := n3_; clear n0_ n1_ n2_ n3_; clear hb hbox hg) | ((with_reducible refine gate_dst (N := 3) rfl ?_); refine box_event ?hg (N := 3) ?hd (cs := #[.slice A1_0 l1_0.length c1_0, .slice A1_1 l1_1.length c1_1, .slice A1_2 l1_2.length c1_2]) (t := 81) ?hr ?_; (case hd => rfl); (case hg => rfl); (case hr => first | (go_simp; done) | (go_simp; rfl)); intro gb299 hg w6 hbox hb; have n0_ := am (blk_below (g := gb298) (o := .cells #[.slice A0_0 l0_0.length c0_0, .slice A0_1 l0_1.length c0_1, .slice A0_2 l0_2.length c0_2] 81 (0, 0)) (by (with_reducible repeat (first | apply qa | apply qb | apply qc)); exact BK298.out) hb); have n1_ := am (below_step (by repeat (first | (with_reducible first | exact HB.out | apply pa | apply pb | apply pc | refine below_set ?_ GE298.out) | exact HB.out)) hb); have n2_ := am (hbox); have n3_ := am ((by rw [hg]; exact (below_size (by repeat (first | (with_reducible first | exact HB.out | apply pa | apply pb | apply pc | refine below_set ?_ GE298.out) | exact HB.out))) : w.heap.size ≤ gb299)); have n4_ := am ((by rw [hg]; exact (below_size (by repeat (first | (with_reducible first | exact HB.out | apply pa | apply pb | apply pc | refine below_set ?_ GE298.out) | exact HB.out))) : w.heap.size ≤ gb299)); have n5_ := am ((by rw [hg]; exact Nat.ne_of_lt (blk_lt (g := gb298) (o := .cells #[.slice A0_0 l0_0.length c0_0, .slice A0_1 l0_1.length c0_1, .slice A0_2 l0_2.length c0_2] 81 (0, 0)) (by (with_reducible repeat (first | apply qa | apply qb | apply qc)); exact BK298.out)) : gb298 ≠ gb299)); have n6_ := am ((by rw [hg]; exact Nat.ne_of_gt (blk_lt (g := gb298) (o := .cells #[.slice A0_0 l0_0.length c0_0, .slice A0_1 l0_1.length c0_1, .slice A0_2 l0_2.length c0_2] 81 (0, 0)) (by (with_reducible repeat (first | apply qa | apply qb | apply qc)); exact BK298.out)) : gb299 ≠ gb298)); clear BK298; clear HB; have BK298 := n0_; have HB := n1_; have BK299 := n2_; have GW299 := n3_; have GE299 := n4_; have NB298_299 := n5_; have NB299_298 := n6_; clear n0_ n1_ n2_ n3_ n4_ n5_ n6_; clear hb hbox hg; have hnb7 := NB298_299.out; have hnc7 := NB299_298.out; have hcz8_0 := bc BK298.out 0 (.slice A0_0 l0_0.length c0_0) rfl; have hcz8_1 := bc BK298.out 1 (.slice A0_1 l0_1.length c0_1) rfl; have hcz8_2 := bc BK298.out 2 (.slice A0_2 l0_2.length c0_2) rfl; have hfz8_0 := bf BK298.out 0; have hfz8_1 := bf BK298.out 1; have hfz8_2 := bf BK298.out 2) | ((with_reducible refine gate_callee (f := 51) rfl ?_); refine goesL_ (some 12) rfl rfl Try.func51 (by kernel_rfl) rfl #[.agg #[.slice A0_0 l0_0.length c0_0, .slice A0_1 l0_1.length c0_1, .slice A0_2 l0_2.length c0_2], .int .i64 1048576] rfl (by (try simp only [List.map_toArray, List.map_cons, List.map_nil]); first | done | rfl | (simp only [List.length_drop, List.length_take]; rfl)) ?_; (with_reducible refine (laws_szProg.calls k _ _ l0_0 _ _ l0_1 _ _ l0_2 1048576 t300 _ ?side1 ?side2 ?side3 ?side4 ?side5 ?side6 A3.out).mono ?_); (case side1 => repeat (first | exact (Kd.C_below HR0_0.out HB.out) | (with_reducible refine Kd.C_alloc ?_ _) | (with_reducible refine Kd.C_drewN ?_ _) | (with_reducible refine Kd.C_drew ?_))); (case side2 => exact HC0_0.out); (case side3 => repeat (first | exact (Kd.C_below HR0_1.out HB.out) | (with_reducible refine Kd.C_alloc ?_ _) | (with_reducible refine Kd.C_drewN ?_ _) | (with_reducible refine Kd.C_drew ?_))); (case side4 => exact HC0_1.out); (case side5 => repeat (first | exact (Kd.C_below HR0_2.out HB.out) | (with_reducible refine Kd.C_alloc ?_ _) | (with_reducible refine Kd.C_drewN ?_ _) | (with_reducible refine Kd.C_drew ?_))); (case side6 => exact HC0_2.out); rintro e w9 ⟨rfl, hb⟩; refine ⟨_, rfl, ?_⟩; have n0_ := am (blk_below (g := gb298) (o := .cells #[.slice A0_0 l0_0.length c0_0, .slice A0_1 l0_1.length c0_1, .slice A0_2 l0_2.length c0_2] 81 (0, 0)) (by (with_reducible repeat (first | apply qa | apply qb | apply qc)); exact BK298.out) hb); have n1_ := am (blk_below (g := gb299) (o := .cells #[.slice A1_0 l1_0.length c1_0, .slice A1_1 l1_1.length c1_1, .slice A1_2 l1_2.length c1_2] 81 (0, 0)) (by (with_reducible repeat (first | apply qa | apply qb | apply qc)); exact BK299.out) hb); have n2_ := am (below_step (by repeat (first | (with_reducible first | exact HB.out | apply pa | apply pb | apply pc | refine below_set ?_ GE298.out | refine below_set ?_ GE299.out) | exact HB.out)) hb); clear BK298; clear BK299; clear HB; have BK298 := n0_; have BK299 := n1_; have HB := n2_; clear n0_ n1_ n2_; (try clear hb); (try clear hb2); (try clear hk); (try clear hi)))
    go_ret
    exact ⟨by first | rfl | (simp [errW_none, errW_some] <;> rfl) | (simp [*, errW_none, errW_some] <;> rfl), by repeat (first | (with_reducible first | exact HB.out | apply pa | apply pb | apply pc | refine below_set ?_ GE298.out | refine below_set ?_ GE299.out) | exact HB.out)⟩
  · rw [if_neg c4] at H
    have c4b0 : decide (t300 < 0) = false := decide_eq_false c4
    clear c4
    replace H := Option.bind_eq_some_iff.mp H
    obtain ⟨t301, A100, H⟩ := H
    replace H : (if t301 < 0 then (some true) else ((laws_toProg.f k l0_0 l0_1 l0_2).bind fun bt302 => ((laws_toProg.f k l1_0 l1_1 l1_2).bind fun bt311 => ((spec_ProgSame.f k bt302.1 bt302.2.1 bt302.2.2 bt311.1 bt311.2.1 bt311.2.2).bind fun t320 => ((laws_toProg.f k l0_0 l0_1 l0_2).bind fun bt321 => ((laws_toProg.f k l1_0 l1_1 l1_2).bind fun bt331 => ((impl_ProgSame.f k bt321.1 bt321.2.1 bt321.2.2 bt331.1 bt331.2.1 bt331.2.2).bind fun t341 => (if (t341 != t320) = true then (some false) else ((laws_toProg.f k l0_0 l0_1 l0_2).bind fun bt342 => ((laws_eqProg.f k bt321.1 bt321.2.1 bt321.2.2 bt342.1 bt342.2.1 bt342.2.2).bind fun t351 => (if t351 = true then ((laws_toProg.f k l1_0 l1_1 l1_2).bind fun bt352 => ((laws_eqProg.f k bt331.1 bt331.2.1 bt331.2.2 bt352.1 bt352.2.1 bt352.2.2).bind fun t361 => (if t361 = true then (some true) else (some false)))) else (some false)))))))))))) = some r := H
    have A10 := am A100
    clear A100
    by_cases c11 : t301 < 0
    · rw [if_pos c11] at H
      have c11b0 : decide (t301 < 0) = true := decide_eq_true c11
      clear c11
      obtain rfl := Option.some.inj H
      go_enter Try.func13, Try.ntmps13
      go_wp2_with (first | ((with_reducible refine gate_dst (N := 2) rfl ?_); refine box_event ?hg (N := 2) ?hd (cs := #[.slice A0_0 l0_0.length c0_0, .slice A0_1 l0_1.length c0_1, .slice A0_2 l0_2.length c0_2]) (t := 81) ?hr ?_; (case hd => rfl); (case hg => rfl); (case hr => first | (go_simp; done) | (go_simp; rfl)); intro gb298 hg w12 hbox hb; have n0_ := am (below_step (by repeat (first | (with_reducible first | exact HB.out | apply pa | apply pb | apply pc) | exact HB.out)) hb); have n1_ := am (hbox); have n2_ := am ((by rw [hg]; exact (below_size (by repeat (first | (with_reducible first | exact HB.out | apply pa | apply pb | apply pc) | exact HB.out))) : w.heap.size ≤ gb298)); have n3_ := am ((by rw [hg]; exact (below_size (by repeat (first | (with_reducible first | exact HB.out | apply pa | apply pb | apply pc) | exact HB.out))) : w.heap.size ≤ gb298)); clear HB; have HB := n0_; have BK298 := n1_; have GW298 := n2_; have GE298 := n3_; clear n0_ n1_ n2_ n3_; clear hb hbox hg) | ((with_reducible refine gate_dst (N := 3) rfl ?_); refine box_event ?hg (N := 3) ?hd (cs := #[.slice A1_0 l1_0.length c1_0, .slice A1_1 l1_1.length c1_1, .slice A1_2 l1_2.length c1_2]) (t := 81) ?hr ?_; (case hd => rfl); (case hg => rfl); (case hr => first | (go_simp; done) | (go_simp; rfl)); intro gb299 hg w13 hbox hb; have n0_ := am (blk_below (g := gb298) (o := .cells #[.slice A0_0 l0_0.length c0_0, .slice A0_1 l0_1.length c0_1, .slice A0_2 l0_2.length c0_2] 81 (0, 0)) (by (with_reducible repeat (first | apply qa | apply qb | apply qc)); exact BK298.out) hb); have n1_ := am (below_step (by repeat (first | (with_reducible first | exact HB.out | apply pa | apply pb | apply pc | refine below_set ?_ GE298.out) | exact HB.out)) hb); have n2_ := am (hbox); have n3_ := am ((by rw [hg]; exact (below_size (by repeat (first | (with_reducible first | exact HB.out | apply pa | apply pb | apply pc | refine below_set ?_ GE298.out) | exact HB.out))) : w.heap.size ≤ gb299)); have n4_ := am ((by rw [hg]; exact (below_size (by repeat (first | (with_reducible first | exact HB.out | apply pa | apply pb | apply pc | refine below_set ?_ GE298.out) | exact HB.out))) : w.heap.size ≤ gb299)); have n5_ := am ((by rw [hg]; exact Nat.ne_of_lt (blk_lt (g := gb298) (o := .cells #[.slice A0_0 l0_0.length c0_0, .slice A0_1 l0_1.length c0_1, .slice A0_2 l0_2.length c0_2] 81 (0, 0)) (by (with_reducible repeat (first | apply qa | apply qb | apply qc)); exact BK298.out)) : gb298 ≠ gb299)); have n6_ := am ((by rw [hg]; exact Nat.ne_of_gt (blk_lt (g := gb298) (o := .cells #[.slice A0_0 l0_0.length c0_0, .slice A0_1 l0_1.length c0_1, .slice A0_2 l0_2.length c0_2] 81 (0, 0)) (by (with_reducible repeat (first | apply qa | apply qb | apply qc)); exact BK298.out)) : gb299 ≠ gb298)); clear BK298; clear HB; have BK298 := n0_; have HB := n1_; have BK299 := n2_; have GW299 := n3_; have GE299 := n4_; have NB298_299 := n5_; have NB299_298 := n6_; clear n0_ n1_ n2_ n3_ n4_ n5_ n6_; clear hb hbox hg; have hnb14 := NB298_299.out; have hnc14 := NB299_298.out; have hcz15_0 := bc BK298.out 0 (.slice A0_0 l0_0.length c0_0) rfl; have hcz15_1 := bc BK298.out 1 (.slice A0_1 l0_1.length c0_1) rfl; have hcz15_2 := bc BK298.out 2 (.slice A0_2 l0_2.length c0_2) rfl; have hfz15_0 := bf BK298.out 0; have hfz15_1 := bf BK298.out 1; have hfz15_2 := bf BK298.out 2) | ((with_reducible refine gate_callee (f := 51) rfl ?_); refine goesL_ (some 12) rfl rfl Try.func51 (by kernel_rfl) rfl #[.agg #[.slice A0_0 l0_0.length c0_0, .slice A0_1 l0_1.length c0_1, .slice A0_2 l0_2.length c0_2], .int .i64 1048576] rfl (by (try simp only [List.map_toArray, List.map_cons, List.map_nil]); first | done | rfl | (simp only [List.length_drop, List.length_take]; rfl)) ?_; (with_reducible refine (laws_szProg.calls k _ _ l0_0 _ _ l0_1 _ _ l0_2 1048576 t300 _ ?side1 ?side2 ?side3 ?side4 ?side5 ?side6 A3.out).mono ?_); (case side1 => repeat (first | exact (Kd.C_below HR0_0.out HB.out) | (with_reducible refine Kd.C_alloc ?_ _) | (with_reducible refine Kd.C_drewN ?_ _) | (with_reducible refine Kd.C_drew ?_))); (case side2 => exact HC0_0.out); (case side3 => repeat (first | exact (Kd.C_below HR0_1.out HB.out) | (with_reducible refine Kd.C_alloc ?_ _) | (with_reducible refine Kd.C_drewN ?_ _) | (with_reducible refine Kd.C_drew ?_))); (case side4 => exact HC0_1.out); (case side5 => repeat (first | exact (Kd.C_below HR0_2.out HB.out) | (with_reducible refine Kd.C_alloc ?_ _) | (with_reducible refine Kd.C_drewN ?_ _) | (with_reducible refine Kd.C_drew ?_))); (case side6 => exact HC0_2.out); rintro e w16 ⟨rfl, hb⟩; refine ⟨_, rfl, ?_⟩; have n0_ := am (blk_below (g := gb298) (o := .cells #[.slice A0_0 l0_0.length c0_0, .slice A0_1 l0_1.length c0_1, .slice A0_2 l0_2.length c0_2] 81 (0, 0)) (by (with_reducible repeat (first | apply qa | apply qb | apply qc)); exact BK298.out) hb); have n1_ := am (blk_below (g := gb299) (o := .cells #[.slice A1_0 l1_0.length c1_0, .slice A1_1 l1_1.length c1_1, .slice A1_2 l1_2.length c1_2] 81 (0, 0)) (by (with_reducible repeat (first | apply qa | apply qb | apply qc)); exact BK299.out) hb); have n2_ := am (below_step (by repeat (first | (with_reducible first | exact HB.out | apply pa | apply pb | apply pc | refine below_set ?_ GE298.out | refine below_set ?_ GE299.out) | exact HB.out)) hb); clear BK298; clear BK299; clear HB; have BK298 := n0_; have BK299 := n1_; have HB := n2_; clear n0_ n1_ n2_; (try clear hb); (try clear hb2); (try clear hk); (try clear hi); have hcz17_0 := bc BK299.out 0 (.slice A1_0 l1_0.length c1_0) rfl; have hcz17_1 := bc BK299.out 1 (.slice A1_1 l1_1.length c1_1) rfl; have hcz17_2 := bc BK299.out 2 (.slice A1_2 l1_2.length c1_2) rfl; have hfz17_0 := bf BK299.out 0; have hfz17_1 := bf BK299.out 1; have hfz17_2 := bf BK299.out 2) | ((with_reducible refine gate_callee (f := 51) rfl ?_); refine goesL_ (some 17) rfl rfl Try.func51 (by kernel_rfl) rfl #[.agg #[.slice A1_0 l1_0.length c1_0, .slice A1_1 l1_1.length c1_1, .slice A1_2 l1_2.length c1_2], .int .i64 t300] rfl (by (try simp only [List.map_toArray, List.map_cons, List.map_nil]); first | done | rfl | (simp only [List.length_drop, List.length_take]; rfl)) ?_; (with_reducible refine (laws_szProg.calls k _ _ l1_0 _ _ l1_1 _ _ l1_2 t300 t301 _ ?side1 ?side2 ?side3 ?side4 ?side5 ?side6 A10.out).mono ?_); (case side1 => repeat (first | exact (Kd.C_below HR1_0.out HB.out) | (with_reducible refine Kd.C_alloc ?_ _) | (with_reducible refine Kd.C_drewN ?_ _) | (with_reducible refine Kd.C_drew ?_))); (case side2 => exact HC1_0.out); (case side3 => repeat (first | exact (Kd.C_below HR1_1.out HB.out) | (with_reducible refine Kd.C_alloc ?_ _) | (with_reducible refine Kd.C_drewN ?_ _) | (with_reducible refine Kd.C_drew ?_))); (case side4 => exact HC1_1.out); (case side5 => repeat (first | exact (Kd.C_below HR1_2.out HB.out) | (with_reducible refine Kd.C_alloc ?_ _) | (with_reducible refine Kd.C_drewN ?_ _) | (with_reducible refine Kd.C_drew ?_))); (case side6 => exact HC1_2.out); rintro e w18 ⟨rfl, hb⟩; refine ⟨_, rfl, ?_⟩; have n0_ := am (blk_below (g := gb298) (o := .cells #[.slice A0_0 l0_0.length c0_0, .slice A0_1 l0_1.length c0_1, .slice A0_2 l0_2.length c0_2] 81 (0, 0)) (by (with_reducible repeat (first | apply qa | apply qb | apply qc)); exact BK298.out) hb); have n1_ := am (blk_below (g := gb299) (o := .cells #[.slice A1_0 l1_0.length c1_0, .slice A1_1 l1_1.length c1_1, .slice A1_2 l1_2.length c1_2] 81 (0, 0)) (by (with_reducible repeat (first | apply qa | apply qb | apply qc)); exact BK299.out) hb); have n2_ := am (below_step (by repeat (first | (with_reducible first | exact HB.out | apply pa | apply pb | apply pc | refine below_set ?_ GE298.out | refine below_set ?_ GE299.out) | exact HB.out)) hb); clear BK298; clear BK299; clear HB; have BK298 := n0_; have BK299 := n1_; have HB := n2_; clear n0_ n1_ n2_; (try clear hb); (try clear hb2); (try clear hk); (try clear hi)))
      go_ret
      exact ⟨by first | rfl | (simp [errW_none, errW_some] <;> rfl) | (simp [*, errW_none, errW_some] <;> rfl), by repeat (first | (with_reducible first | exact HB.out | apply pa | apply pb | apply pc | refine below_set ?_ GE298.out | refine below_set ?_ GE299.out) | exact HB.out)⟩
    · rw [if_neg c11] at H
      have c11b0 : decide (t301 < 0) = false := decide_eq_false c11
      clear c11
      replace H := Option.bind_eq_some_iff.mp H
      obtain ⟨⟨t302, t305, t308⟩, A190, H⟩ := H
      replace H : ((laws_toProg.f k l1_0 l1_1 l1_2).bind fun bt311 => ((spec_ProgSame.f k t302 t305 t308 bt311.1 bt311.2.1 bt311.2.2).bind fun t320 => ((laws_toProg.f k l0_0 l0_1 l0_2).bind fun bt321 => ((laws_toProg.f k l1_0 l1_1 l1_2).bind fun bt331 => ((impl_ProgSame.f k bt321.1 bt321.2.1 bt321.2.2 bt331.1 bt331.2.1 bt331.2.2).bind fun t341 => (if (t341 != t320) = true then (some false) else ((laws_toProg.f k l0_0 l0_1 l0_2).bind fun bt342 => ((laws_eqProg.f k bt321.1 bt321.2.1 bt321.2.2 bt342.1 bt342.2.1 bt342.2.2).bind fun t351 => (if t351 = true then ((laws_toProg.f k l1_0 l1_1 l1_2).bind fun bt352 => ((laws_eqProg.f k bt331.1 bt331.2.1 bt331.2.2 bt352.1 bt352.2.1 bt352.2.2).bind fun t361 => (if t361 = true then (some true) else (some false)))) else (some false)))))))))) = some r := H
      have A19 := am A190
      clear A190
      replace H := Option.bind_eq_some_iff.mp H
      obtain ⟨⟨t311, t314, t317⟩, A200, H⟩ := H
      replace H : ((spec_ProgSame.f k t302 t305 t308 t311 t314 t317).bind fun t320 => ((laws_toProg.f k l0_0 l0_1 l0_2).bind fun bt321 => ((laws_toProg.f k l1_0 l1_1 l1_2).bind fun bt331 => ((impl_ProgSame.f k bt321.1 bt321.2.1 bt321.2.2 bt331.1 bt331.2.1 bt331.2.2).bind fun t341 => (if (t341 != t320) = true then (some false) else ((laws_toProg.f k l0_0 l0_1 l0_2).bind fun bt342 => ((laws_eqProg.f k bt321.1 bt321.2.1 bt321.2.2 bt342.1 bt342.2.1 bt342.2.2).bind fun t351 => (if t351 = true then ((laws_toProg.f k l1_0 l1_1 l1_2).bind fun bt352 => ((laws_eqProg.f k bt331.1 bt331.2.1 bt331.2.2 bt352.1 bt352.2.1 bt352.2.2).bind fun t361 => (if t361 = true then (some true) else (some false)))) else (some false))))))))) = some r := H
      have A20 := am A200
      clear A200
      replace H := Option.bind_eq_some_iff.mp H
      obtain ⟨t320, A210, H⟩ := H
      replace H : ((laws_toProg.f k l0_0 l0_1 l0_2).bind fun bt321 => ((laws_toProg.f k l1_0 l1_1 l1_2).bind fun bt331 => ((impl_ProgSame.f k bt321.1 bt321.2.1 bt321.2.2 bt331.1 bt331.2.1 bt331.2.2).bind fun t341 => (if (t341 != t320) = true then (some false) else ((laws_toProg.f k l0_0 l0_1 l0_2).bind fun bt342 => ((laws_eqProg.f k bt321.1 bt321.2.1 bt321.2.2 bt342.1 bt342.2.1 bt342.2.2).bind fun t351 => (if t351 = true then ((laws_toProg.f k l1_0 l1_1 l1_2).bind fun bt352 => ((laws_eqProg.f k bt331.1 bt331.2.1 bt331.2.2 bt352.1 bt352.2.1 bt352.2.2).bind fun t361 => (if t361 = true then (some true) else (some false)))) else (some false)))))))) = some r := H
      have A21 := am A210
      clear A210
      replace H := Option.bind_eq_some_iff.mp H
      obtain ⟨⟨t321, t324, t327⟩, A220, H⟩ := H
      replace H : ((laws_toProg.f k l1_0 l1_1 l1_2).bind fun bt331 => ((impl_ProgSame.f k t321 t324 t327 bt331.1 bt331.2.1 bt331.2.2).bind fun t341 => (if (t341 != t320) = true then (some false) else ((laws_toProg.f k l0_0 l0_1 l0_2).bind fun bt342 => ((laws_eqProg.f k t321 t324 t327 bt342.1 bt342.2.1 bt342.2.2).bind fun t351 => (if t351 = true then ((laws_toProg.f k l1_0 l1_1 l1_2).bind fun bt352 => ((laws_eqProg.f k bt331.1 bt331.2.1 bt331.2.2 bt352.1 bt352.2.1 bt352.2.2).bind fun t361 => (if t361 = true then (some true) else (some false)))) else (some false))))))) = some r := H
      have A22 := am A220
      clear A220
      replace H := Option.bind_eq_some_iff.mp H
      obtain ⟨⟨t331, t334, t337⟩, A230, H⟩ := H
      replace H : ((impl_ProgSame.f k t321 t324 t327 t331 t334 t337).bind fun t341 => (if (t341 != t320) = true then (some false) else ((laws_toProg.f k l0_0 l0_1 l0_2).bind fun bt342 => ((laws_eqProg.f k t321 t324 t327 bt342.1 bt342.2.1 bt342.2.2).bind fun t351 => (if t351 = true then ((laws_toProg.f k l1_0 l1_1 l1_2).bind fun bt352 => ((laws_eqProg.f k t331 t334 t337 bt352.1 bt352.2.1 bt352.2.2).bind fun t361 => (if t361 = true then (some true) else (some false)))) else (some false)))))) = some r := H
      have A23 := am A230
      clear A230
      replace H := Option.bind_eq_some_iff.mp H
      obtain ⟨t341, A240, H⟩ := H
      replace H : (if (t341 != t320) = true then (some false) else ((laws_toProg.f k l0_0 l0_1 l0_2).bind fun bt342 => ((laws_eqProg.f k t321 t324 t327 bt342.1 bt342.2.1 bt342.2.2).bind fun t351 => (if t351 = true then ((laws_toProg.f k l1_0 l1_1 l1_2).bind fun bt352 => ((laws_eqProg.f k t331 t334 t337 bt352.1 bt352.2.1 bt352.2.2).bind fun t361 => (if t361 = true then (some true) else (some false)))) else (some false))))) = some r := H
      have A24 := am A240
      clear A240
      by_cases c25 : (t341 != t320) = true
      · rw [if_pos c25] at H
        have c25b0 : (t341 != t320) = true := c25
        (try (have c25b1 : decide (t341 = t320) = false := by simpa using c25))
        (try (have c25b2 : (t341 == t320) = false := by simpa using c25))
        (try (have c25b3 : ¬ (t341 = t320) := by simpa using c25))
        clear c25
        exact absurd ((Option.some.inj H).trans HR_.out) (by decide)
      · rw [if_neg c25] at H
        have c25b0 : (t341 != t320) = false := by simpa using c25
        (try (have c25b1 : decide (t341 = t320) = true := by simpa using c25))
        (try (have c25b2 : (t341 == t320) = true := by simpa using c25))
        clear c25
        replace H := Option.bind_eq_some_iff.mp H
        obtain ⟨⟨t342, t345, t348⟩, A260, H⟩ := H
        replace H : ((laws_eqProg.f k t321 t324 t327 t342 t345 t348).bind fun t351 => (if t351 = true then ((laws_toProg.f k l1_0 l1_1 l1_2).bind fun bt352 => ((laws_eqProg.f k t331 t334 t337 bt352.1 bt352.2.1 bt352.2.2).bind fun t361 => (if t361 = true then (some true) else (some false)))) else (some false))) = some r := H
        have A26 := am A260
        clear A260
        replace H := Option.bind_eq_some_iff.mp H
        obtain ⟨t351, A270, H⟩ := H
        replace H : (if t351 = true then ((laws_toProg.f k l1_0 l1_1 l1_2).bind fun bt352 => ((laws_eqProg.f k t331 t334 t337 bt352.1 bt352.2.1 bt352.2.2).bind fun t361 => (if t361 = true then (some true) else (some false)))) else (some false)) = some r := H
        have A27 := am A270
        clear A270
        by_cases c28 : t351 = true
        · subst c28
          have H1 : ((laws_toProg.f k l1_0 l1_1 l1_2).bind fun bt352 => ((laws_eqProg.f k t331 t334 t337 bt352.1 bt352.2.1 bt352.2.2).bind fun t361 => (if t361 = true then (some true) else (some false)))) = some r := by rw [if_pos rfl] at H; exact H
          clear H
          have H := H1
          clear H1
          replace H := Option.bind_eq_some_iff.mp H
          obtain ⟨⟨t352, t355, t358⟩, A290, H⟩ := H
          replace H : ((laws_eqProg.f k t331 t334 t337 t352 t355 t358).bind fun t361 => (if t361 = true then (some true) else (some false))) = some r := H
          have A29 := am A290
          clear A290
          replace H := Option.bind_eq_some_iff.mp H
          obtain ⟨t361, A300, H⟩ := H
          replace H : (if t361 = true then (some true) else (some false)) = some r := H
          have A30 := am A300
          clear A300
          by_cases c31 : t361 = true
          · subst c31
            have H1 : (some true) = some r := by rw [if_pos rfl] at H; exact H
            clear H
            have H := H1
            clear H1
            obtain rfl := Option.some.inj H
            go_enter Try.func13, Try.ntmps13
            try go_wp2_with (first | ((with_reducible refine gate_dst (N := 2) rfl ?_); refine box_event ?hg (N := 2) ?hd (cs := #[.slice A0_0 l0_0.length c0_0, .slice A0_1 l0_1.length c0_1, .slice A0_2 l0_2.length c0_2]) (t := 81) ?hr ?_; (case hd => rfl); (case hg => rfl); (case hr => first | (go_simp; done) | (go_simp; rfl)); intro gb298 hg w32 hbox hb; have n0_ := am (below_step (by repeat (first | (with_reducible first | exact HB.out | apply pa | apply pb | apply pc) | exact HB.out)) hb); have n1_ := am (hbox); have n2_ := am ((by rw [hg]; exact (below_size (by repeat (first | (with_reducible first | exact HB.out | apply pa | apply pb | apply pc) | exact HB.out))) : w.heap.size ≤ gb298)); have n3_ := am ((by rw [hg]; exact (below_size (by repeat (first | (with_reducible first | exact HB.out | apply pa | apply pb | apply pc) | exact HB.out))) : w.heap.size ≤ gb298)); clear HB; have HB := n0_; have BK298 := n1_; have GW298 := n2_; have GE298 := n3_; clear n0_ n1_ n2_ n3_; clear hb hbox hg) | ((with_reducible refine gate_dst (N := 3) rfl ?_); refine box_event ?hg (N := 3) ?hd (cs := #[.slice A1_0 l1_0.length c1_0, .slice A1_1 l1_1.length c1_1, .slice A1_2 l1_2.length c1_2]) (t := 81) ?hr ?_; (case hd => rfl); (case hg => rfl); (case hr => first | (go_simp; done) | (go_simp; rfl)); intro gb299 hg w33 hbox hb; have n0_ := am (blk_below (g := gb298) (o := .cells #[.slice A0_0 l0_0.length c0_0, .slice A0_1 l0_1.length c0_1, .slice A0_2 l0_2.length c0_2] 81 (0, 0)) (by (with_reducible repeat (first | apply qa | apply qb | apply qc)); exact BK298.out) hb); have n1_ := am (below_step (by repeat (first | (with_reducible first | exact HB.out | apply pa | apply pb | apply pc | refine below_set ?_ GE298.out) | exact HB.out)) hb); have n2_ := am (hbox); have n3_ := am ((by rw [hg]; exact (below_size (by repeat (first | (with_reducible first | exact HB.out | apply pa | apply pb | apply pc | refine below_set ?_ GE298.out) | exact HB.out))) : w.heap.size ≤ gb299)); have n4_ := am ((by rw [hg]; exact (below_size (by repeat (first | (with_reducible first | exact HB.out | apply pa | apply pb | apply pc | refine below_set ?_ GE298.out) | exact HB.out))) : w.heap.size ≤ gb299)); have n5_ := am ((by rw [hg]; exact Nat.ne_of_lt (blk_lt (g := gb298) (o := .cells #[.slice A0_0 l0_0.length c0_0, .slice A0_1 l0_1.length c0_1, .slice A0_2 l0_2.length c0_2] 81 (0, 0)) (by (with_reducible repeat (first | apply qa | apply qb | apply qc)); exact BK298.out)) : gb298 ≠ gb299)); have n6_ := am ((by rw [hg]; exact Nat.ne_of_gt (blk_lt (g := gb298) (o := .cells #[.slice A0_0 l0_0.length c0_0, .slice A0_1 l0_1.length c0_1, .slice A0_2 l0_2.length c0_2] 81 (0, 0)) (by (with_reducible repeat (first | apply qa | apply qb | apply qc)); exact BK298.out)) : gb299 ≠ gb298)); clear BK298; clear HB; have BK298 := n0_; have HB := n1_; have BK299 := n2_; have GW299 := n3_; have GE299 := n4_; have NB298_299 := n5_; have NB299_298 := n6_; clear n0_ n1_ n2_ n3_ n4_ n5_ n6_; clear hb hbox hg; have hnb34 := NB298_299.out; have hnc34 := NB299_298.out; have hcz35_0 := bc BK298.out 0 (.slice A0_0 l0_0.length c0_0) rfl; have hcz35_1 := bc BK298.out 1 (.slice A0_1 l0_1.length c0_1) rfl; have hcz35_2 := bc BK298.out 2 (.slice A0_2 l0_2.length c0_2) rfl; have hfz35_0 := bf BK298.out 0; have hfz35_1 := bf BK298.out 1; have hfz35_2 := bf BK298.out 2) | ((with_reducible refine gate_callee (f := 51) rfl ?_); refine goesL_ (some 12) rfl rfl Try.func51 (by kernel_rfl) rfl #[.agg #[.slice A0_0 l0_0.length c0_0, .slice A0_1 l0_1.length c0_1, .slice A0_2 l0_2.length c0_2], .int .i64 1048576] rfl (by (try simp only [List.map_toArray, List.map_cons, List.map_nil]); first | done | rfl | (simp only [List.length_drop, List.length_take]; rfl)) ?_; (with_reducible refine (laws_szProg.calls k _ _ l0_0 _ _ l0_1 _ _ l0_2 1048576 t300 _ ?side1 ?side2 ?side3 ?side4 ?side5 ?side6 A3.out).mono ?_); (case side1 => repeat (first | exact (Kd.C_below HR0_0.out HB.out) | (with_reducible refine Kd.C_alloc ?_ _) | (with_reducible refine Kd.C_drewN ?_ _) | (with_reducible refine Kd.C_drew ?_))); (case side2 => exact HC0_0.out); (case side3 => repeat (first | exact (Kd.C_below HR0_1.out HB.out) | (with_reducible refine Kd.C_alloc ?_ _) | (with_reducible refine Kd.C_drewN ?_ _) | (with_reducible refine Kd.C_drew ?_))); (case side4 => exact HC0_1.out); (case side5 => repeat (first | exact (Kd.C_below HR0_2.out HB.out) | (with_reducible refine Kd.C_alloc ?_ _) | (with_reducible refine Kd.C_drewN ?_ _) | (with_reducible refine Kd.C_drew ?_))); (case side6 => exact HC0_2.out); rintro e w36 ⟨rfl, hb⟩; refine ⟨_, rfl, ?_⟩; have n0_ := am (blk_below (g := gb298) (o := .cells #[.slice A0_0 l0_0.length c0_0, .slice A0_1 l0_1.length c0_1, .slice A0_2 l0_2.length c0_2] 81 (0, 0)) (by (with_reducible repeat (first | apply qa | apply qb | apply qc)); exact BK298.out) hb); have n1_ := am (blk_below (g := gb299) (o := .cells #[.slice A1_0 l1_0.length c1_0, .slice A1_1 l1_1.length c1_1, .slice A1_2 l1_2.length c1_2] 81 (0, 0)) (by (with_reducible repeat (first | apply qa | apply qb | apply qc)); exact BK299.out) hb); have n2_ := am (below_step (by repeat (first | (with_reducible first | exact HB.out | apply pa | apply pb | apply pc | refine below_set ?_ GE298.out | refine below_set ?_ GE299.out) | exact HB.out)) hb); clear BK298; clear BK299; clear HB; have BK298 := n0_; have BK299 := n1_; have HB := n2_; clear n0_ n1_ n2_; (try clear hb); (try clear hb2); (try clear hk); (try clear hi); have hcz37_0 := bc BK299.out 0 (.slice A1_0 l1_0.length c1_0) rfl; have hcz37_1 := bc BK299.out 1 (.slice A1_1 l1_1.length c1_1) rfl; have hcz37_2 := bc BK299.out 2 (.slice A1_2 l1_2.length c1_2) rfl; have hfz37_0 := bf BK299.out 0; have hfz37_1 := bf BK299.out 1; have hfz37_2 := bf BK299.out 2) | ((with_reducible refine gate_callee (f := 51) rfl ?_); refine goesL_ (some 17) rfl rfl Try.func51 (by kernel_rfl) rfl #[.agg #[.slice A1_0 l1_0.length c1_0, .slice A1_1 l1_1.length c1_1, .slice A1_2 l1_2.length c1_2], .int .i64 t300] rfl (by (try simp only [List.map_toArray, List.map_cons, List.map_nil]); first | done | rfl | (simp only [List.length_drop, List.length_take]; rfl)) ?_; (with_reducible refine (laws_szProg.calls k _ _ l1_0 _ _ l1_1 _ _ l1_2 t300 t301 _ ?side1 ?side2 ?side3 ?side4 ?side5 ?side6 A10.out).mono ?_); (case side1 => repeat (first | exact (Kd.C_below HR1_0.out HB.out) | (with_reducible refine Kd.C_alloc ?_ _) | (with_reducible refine Kd.C_drewN ?_ _) | (with_reducible refine Kd.C_drew ?_))); (case side2 => exact HC1_0.out); (case side3 => repeat (first | exact (Kd.C_below HR1_1.out HB.out) | (with_reducible refine Kd.C_alloc ?_ _) | (with_reducible refine Kd.C_drewN ?_ _) | (with_reducible refine Kd.C_drew ?_))); (case side4 => exact HC1_1.out); (case side5 => repeat (first | exact (Kd.C_below HR1_2.out HB.out) | (with_reducible refine Kd.C_alloc ?_ _) | (with_reducible refine Kd.C_drewN ?_ _) | (with_reducible refine Kd.C_drew ?_))); (case side6 => exact HC1_2.out); rintro e w38 ⟨rfl, hb⟩; refine ⟨_, rfl, ?_⟩; have n0_ := am (blk_below (g := gb298) (o := .cells #[.slice A0_0 l0_0.length c0_0, .slice A0_1 l0_1.length c0_1, .slice A0_2 l0_2.length c0_2] 81 (0, 0)) (by (with_reducible repeat (first | apply qa | apply qb | apply qc)); exact BK298.out) hb); have n1_ := am (blk_below (g := gb299) (o := .cells #[.slice A1_0 l1_0.length c1_0, .slice A1_1 l1_1.length c1_1, .slice A1_2 l1_2.length c1_2] 81 (0, 0)) (by (with_reducible repeat (first | apply qa | apply qb | apply qc)); exact BK299.out) hb); have n2_ := am (below_step (by repeat (first | (with_reducible first | exact HB.out | apply pa | apply pb | apply pc | refine below_set ?_ GE298.out | refine below_set ?_ GE299.out) | exact HB.out)) hb); clear BK298; clear BK299; clear HB; have BK298 := n0_; have BK299 := n1_; have HB := n2_; clear n0_ n1_ n2_; (try clear hb); (try clear hb2); (try clear hk); (try clear hi)))
            have n0_ := am (blk_drew BK298.out)
            have n1_ := am (blk_drew BK299.out)
            have n2_ := am (below_drew1 HB.out)
            clear BK298
            clear BK299
            clear HB
            have BK298 := n0_
            have BK299 := n1_
            have HB := n2_
            clear n0_ n1_ n2_
            refine start_ (n := 6) (S := fun w' => w'.cell? ⟨gb298, 0, none⟩ = some (.slice A0_0 l0_0.length c0_0) ∧ w'.cell? ⟨gb298, 1, none⟩ = some (.slice A0_1 l0_1.length c0_1) ∧ w'.cell? ⟨gb298, 2, none⟩ = some (.slice A0_2 l0_2.length c0_2) ∧ w'.cell? ⟨gb299, 0, none⟩ = some (.slice A1_0 l1_0.length c1_0) ∧ w'.cell? ⟨gb299, 1, none⟩ = some (.slice A1_1 l1_1.length c1_1) ∧ w'.cell? ⟨gb299, 2, none⟩ = some (.slice A1_2 l1_2.length c1_2)) (ds := []) #[false, false, false, false, false, false] (by kernel_rfl) rfl rfl ⟨(blk_cell BK298.out 0).trans rfl, (blk_cell BK298.out 1).trans rfl, (blk_cell BK298.out 2).trans rfl, (blk_cell BK299.out 0).trans rfl, (blk_cell BK299.out 1).trans rfl, (blk_cell BK299.out 2).trans rfl⟩ (fun hHeld => ?_)
            generalize w38.drew = w39 at BK298 BK299 HB hHeld ⊢
            refine take_ (i := 0) (N := some 20) (v := ?_) (a' := ?_) #[true, false, false, false, false, false] rfl rfl (by kernel_rfl) (fun _ _ _ h => h) (Or.inl ⟨by rfl, ?_⟩) hHeld ?_ ?_
            rotate_left
            · rintro w' ⟨s0, s1, s2, s3, s4, s5⟩
              go_simp
              with_reducible rfl
            rotate_left
            · simp only [Act.put, List.setIfInBounds_toArray, List.set_cons_zero, List.set_cons_succ, i64_w, i32_w]
              rfl
            refine take_ (i := 2) (N := some 22) (v := ?_) (a' := ?_) #[true, false, true, false, false, false] rfl rfl (by kernel_rfl) (fun _ _ _ h => h) (Or.inl ⟨by rfl, ?_⟩) hHeld ?_ ?_
            rotate_left
            · rintro w' ⟨s0, s1, s2, s3, s4, s5⟩
              go_simp
              with_reducible rfl
            rotate_left
            · simp only [Act.put, List.setIfInBounds_toArray, List.set_cons_zero, List.set_cons_succ, i64_w, i32_w]
              rfl
            refine one_ (i := 1) (N := some 21) #[true, true, true, false, false, false] rfl rfl (by kernel_rfl) (by decide) (fun K hK => ?_)
            refine goes_ Try.func53 (by kernel_rfl) rfl #[.agg #[.slice A0_0 l0_0.length c0_0, .slice A0_1 l0_1.length c0_1, .slice A0_2 l0_2.length c0_2]] (by rfl) rfl rfl (by (try simp only [List.map_toArray, List.map_cons, List.map_nil]); first | done | rfl | (simp only [List.length_drop, List.length_take]; rfl)) ?_
            with_reducible refine (laws_toProg.calls k _ _ l0_0 _ _ l0_1 _ _ l0_2 t302 t305 t308 _ ?side1 ?side2 ?side3 ?side4 ?side5 ?side6 A19.out).mono ?_
            (case side1 => repeat (first | exact (Kd.C_below HR0_0.out HB.out) | (with_reducible refine Kd.C_alloc ?_ _) | (with_reducible refine Kd.C_drewN ?_ _) | (with_reducible refine Kd.C_drew ?_)))
            (case side2 => exact HC0_0.out)
            (case side3 => repeat (first | exact (Kd.C_below HR0_1.out HB.out) | (with_reducible refine Kd.C_alloc ?_ _) | (with_reducible refine Kd.C_drewN ?_ _) | (with_reducible refine Kd.C_drew ?_)))
            (case side4 => exact HC0_1.out)
            (case side5 => repeat (first | exact (Kd.C_below HR0_2.out HB.out) | (with_reducible refine Kd.C_alloc ?_ _) | (with_reducible refine Kd.C_drewN ?_ _) | (with_reducible refine Kd.C_drew ?_)))
            (case side6 => exact HC0_2.out)
            rintro e w40 ⟨v303, v306, v309, rfl, ho0, ho1, ho2, hb⟩
            refine ⟨_, rfl, ?_⟩
            have n0_ := am (Kd.R_lower ho0 (below_size (by repeat (first | (with_reducible first | exact HB.out | apply pa | apply pb | apply pc | refine below_set ?_ GE298.out | refine below_set ?_ GE299.out) | exact HB.out))))
            have n1_ := am (Kd.R_lower ho1 (below_size (by repeat (first | (with_reducible first | exact HB.out | apply pa | apply pb | apply pc | refine below_set ?_ GE298.out | refine below_set ?_ GE299.out) | exact HB.out))))
            have n2_ := am (Kd.S_lower ho2 (below_size (by repeat (first | (with_reducible first | exact HB.out | apply pa | apply pb | apply pc | refine below_set ?_ GE298.out | refine below_set ?_ GE299.out) | exact HB.out))))
            have n3_ := am (blk_below (g := gb298) (o := .cells #[.slice A0_0 l0_0.length c0_0, .slice A0_1 l0_1.length c0_1, .slice A0_2 l0_2.length c0_2] 81 (0, 0)) (by (with_reducible repeat (first | apply qa | apply qb | apply qc)); exact BK298.out) hb)
            have n4_ := am (blk_below (g := gb299) (o := .cells #[.slice A1_0 l1_0.length c1_0, .slice A1_1 l1_1.length c1_1, .slice A1_2 l1_2.length c1_2] 81 (0, 0)) (by (with_reducible repeat (first | apply qa | apply qb | apply qc)); exact BK299.out) hb)
            have n5_ := am (below_step (by repeat (first | (with_reducible first | exact HB.out | apply pa | apply pb | apply pc | refine below_set ?_ GE298.out | refine below_set ?_ GE299.out) | exact HB.out)) hb)
            clear BK298
            clear BK299
            clear HB
            have HO304 := n0_
            have HO307 := n1_
            have HO310 := n2_
            have BK298 := n3_
            have BK299 := n4_
            have HB := n5_
            clear n0_ n1_ n2_ n3_ n4_ n5_
            (try clear hb)
            (try clear hb2)
            (try clear hk)
            (try clear hi)
            (try clear ho0)
            (try clear ho1)
            (try clear ho2)
            refine hK.out _ _ ⟨(blk_cell BK298.out 0).trans rfl, (blk_cell BK298.out 1).trans rfl, (blk_cell BK298.out 2).trans rfl, (blk_cell BK299.out 0).trans rfl, (blk_cell BK299.out 1).trans rfl, (blk_cell BK299.out 2).trans rfl⟩ (fun hHeld => ?_)
            clear hK K
            refine norm_ (a' := ?_) ?_ ?_
            rotate_left
            · show Act.put _ (some 21) _ = _
              simp only [Act.put, List.setIfInBounds_toArray, List.set_cons_zero, List.set_cons_succ, i64_w, i32_w]
              rfl
            refine one_ (i := 3) (N := some 23) #[true, true, true, true, false, false] rfl rfl (by kernel_rfl) (by decide) (fun K hK => ?_)
            refine goes_ Try.func53 (by kernel_rfl) rfl #[.agg #[.slice A1_0 l1_0.length c1_0, .slice A1_1 l1_1.length c1_1, .slice A1_2 l1_2.length c1_2]] (by rfl) rfl rfl (by (try simp only [List.map_toArray, List.map_cons, List.map_nil]); first | done | rfl | (simp only [List.length_drop, List.length_take]; rfl)) ?_
            with_reducible refine (laws_toProg.calls k _ _ l1_0 _ _ l1_1 _ _ l1_2 t311 t314 t317 _ ?side1 ?side2 ?side3 ?side4 ?side5 ?side6 A20.out).mono ?_
            (case side1 => repeat (first | exact (Kd.C_below HR1_0.out HB.out) | (with_reducible refine Kd.C_alloc ?_ _) | (with_reducible refine Kd.C_drewN ?_ _) | (with_reducible refine Kd.C_drew ?_)))
            (case side2 => exact HC1_0.out)
            (case side3 => repeat (first | exact (Kd.C_below HR1_1.out HB.out) | (with_reducible refine Kd.C_alloc ?_ _) | (with_reducible refine Kd.C_drewN ?_ _) | (with_reducible refine Kd.C_drew ?_)))
            (case side4 => exact HC1_1.out)
            (case side5 => repeat (first | exact (Kd.C_below HR1_2.out HB.out) | (with_reducible refine Kd.C_alloc ?_ _) | (with_reducible refine Kd.C_drewN ?_ _) | (with_reducible refine Kd.C_drew ?_)))
            (case side6 => exact HC1_2.out)
            rintro e w41 ⟨v312, v315, v318, rfl, ho0, ho1, ho2, hb⟩
            refine ⟨_, rfl, ?_⟩
            have n0_ := am (Kd.R_mono (Kd.R_told (Kd.R_told (Kd.R_old (by (with_reducible repeat (first | apply Kd.R_alloc | apply Kd.R_drewN | apply Kd.R_drew)); exact HO304.out) hb) (Kd.R_base ho0)) (Kd.R_base ho1)) (fun _ h_ => h_.1))
            have n1_ := am (Kd.R_elder' (by (with_reducible repeat (first | apply Kd.R_alloc | apply Kd.R_drewN | apply Kd.R_drew)); exact HO307.out) (Kd.R_base ho1) hb)
            have n2_ := am (Kd.S_mono (Kd.S_told (Kd.S_told (Kd.S_old (by (with_reducible repeat (first | apply Kd.S_alloc | apply Kd.S_drewN | apply Kd.S_drew)); exact HO310.out) hb) (Kd.R_base ho1)) (Kd.S_base ho2)) (fun _ h_ => h_.1))
            have n3_ := am (Kd.R_lower (Kd.R_new' (Kd.R_new' ho0 (Kd.R_lt (by (with_reducible repeat (first | apply Kd.R_alloc | apply Kd.R_drewN | apply Kd.R_drew)); exact HO304.out))) (Kd.R_lt (by (with_reducible repeat (first | apply Kd.R_alloc | apply Kd.R_drewN | apply Kd.R_drew)); exact HO307.out))) (below_size (by repeat (first | (with_reducible first | exact HB.out | apply pa | apply pb | apply pc | refine below_set ?_ GE298.out | refine below_set ?_ GE299.out) | exact HB.out))))
            have n4_ := am (Kd.R_lower (Kd.R_new' ho1 (Kd.R_lt (by (with_reducible repeat (first | apply Kd.R_alloc | apply Kd.R_drewN | apply Kd.R_drew)); exact HO307.out))) (below_size (by repeat (first | (with_reducible first | exact HB.out | apply pa | apply pb | apply pc | refine below_set ?_ GE298.out | refine below_set ?_ GE299.out) | exact HB.out))))
            have n5_ := am (Kd.S_lower (Kd.S_new' (Kd.S_new' ho2 (Kd.R_lt (by (with_reducible repeat (first | apply Kd.R_alloc | apply Kd.R_drewN | apply Kd.R_drew)); exact HO307.out))) (Kd.S_lt (by (with_reducible repeat (first | apply Kd.S_alloc | apply Kd.S_drewN | apply Kd.S_drew)); exact HO310.out))) (below_size (by repeat (first | (with_reducible first | exact HB.out | apply pa | apply pb | apply pc | refine below_set ?_ GE298.out | refine below_set ?_ GE299.out) | exact HB.out))))
            have n6_ := am (blk_below (g := gb298) (o := .cells #[.slice A0_0 l0_0.length c0_0, .slice A0_1 l0_1.length c0_1, .slice A0_2 l0_2.length c0_2] 81 (0, 0)) (by (with_reducible repeat (first | apply qa | apply qb | apply qc)); exact BK298.out) hb)
            have n7_ := am (blk_below (g := gb299) (o := .cells #[.slice A1_0 l1_0.length c1_0, .slice A1_1 l1_1.length c1_1, .slice A1_2 l1_2.length c1_2] 81 (0, 0)) (by (with_reducible repeat (first | apply qa | apply qb | apply qc)); exact BK299.out) hb)
            have n8_ := am (below_step (by repeat (first | (with_reducible first | exact HB.out | apply pa | apply pb | apply pc | refine below_set ?_ GE298.out | refine below_set ?_ GE299.out) | exact HB.out)) hb)
            clear HO304
            clear HO307
            clear HO310
            clear BK298
            clear BK299
            clear HB
            have HO304 := n0_
            have HO307 := n1_
            have HO310 := n2_
            have HO313 := n3_
            have HO316 := n4_
            have HO319 := n5_
            have BK298 := n6_
            have BK299 := n7_
            have HB := n8_
            clear n0_ n1_ n2_ n3_ n4_ n5_ n6_ n7_ n8_
            (try clear hb)
            (try clear hb2)
            (try clear hk)
            (try clear hi)
            (try clear ho0)
            (try clear ho1)
            (try clear ho2)
            obtain ⟨Ao42, co42, eo42⟩ := Kd.R_slice HO304.out
            (first | subst eo42 | (injection eo42 with f1_ f2_ f3_; have f4_ := f1_.symm; have f5_ := f3_.symm; clear f1_ f2_ f3_; subst f4_; subst f5_))
            obtain ⟨Ao43, co43, eo43⟩ := Kd.R_slice HO307.out
            (first | subst eo43 | (injection eo43 with f1_ f2_ f3_; have f4_ := f1_.symm; have f5_ := f3_.symm; clear f1_ f2_ f3_; subst f4_; subst f5_))
            obtain ⟨Ao44, co44, eo44⟩ := Kd.S_slice HO310.out
            (first | subst eo44 | (injection eo44 with f1_ f2_ f3_; have f4_ := f1_.symm; have f5_ := f3_.symm; clear f1_ f2_ f3_; subst f4_; subst f5_))
            obtain ⟨Ao45, co45, eo45⟩ := Kd.R_slice HO313.out
            (first | subst eo45 | (injection eo45 with f1_ f2_ f3_; have f4_ := f1_.symm; have f5_ := f3_.symm; clear f1_ f2_ f3_; subst f4_; subst f5_))
            obtain ⟨Ao46, co46, eo46⟩ := Kd.R_slice HO316.out
            (first | subst eo46 | (injection eo46 with f1_ f2_ f3_; have f4_ := f1_.symm; have f5_ := f3_.symm; clear f1_ f2_ f3_; subst f4_; subst f5_))
            obtain ⟨Ao47, co47, eo47⟩ := Kd.S_slice HO319.out
            (first | subst eo47 | (injection eo47 with f1_ f2_ f3_; have f4_ := f1_.symm; have f5_ := f3_.symm; clear f1_ f2_ f3_; subst f4_; subst f5_))
            refine hK.out _ _ ⟨(blk_cell BK298.out 0).trans rfl, (blk_cell BK298.out 1).trans rfl, (blk_cell BK298.out 2).trans rfl, (blk_cell BK299.out 0).trans rfl, (blk_cell BK299.out 1).trans rfl, (blk_cell BK299.out 2).trans rfl⟩ (fun hHeld => ?_)
            clear hK K
            refine norm_ (a' := ?_) ?_ ?_
            rotate_left
            · show Act.put _ (some 23) _ = _
              simp only [Act.put, List.setIfInBounds_toArray, List.set_cons_zero, List.set_cons_succ, i64_w, i32_w]
              rfl
            refine one_ (i := 4) (N := some 24) #[true, true, true, true, true, false] rfl rfl (by kernel_rfl) (by decide) (fun K hK => ?_)
            refine goes_ Try.func52 (by kernel_rfl) rfl #[.agg #[.slice Ao42 t302.length co42, .slice Ao43 t305.length co43, .slice Ao44 t308.length co44], .agg #[.slice Ao45 t311.length co45, .slice Ao46 t314.length co46, .slice Ao47 t317.length co47]] (by rfl) rfl rfl (by (try simp only [List.map_toArray, List.map_cons, List.map_nil]); first | done | rfl | (simp only [List.length_drop, List.length_take]; rfl)) ?_
            with_reducible refine (spec_ProgSame.calls k _ _ t302 _ _ t305 _ _ t308 _ _ t311 _ _ t314 _ _ t317 t320 _ ?side1 ?side2 ?side3 ?side4 ?side5 ?side6 ?side7 ?side8 ?side9 ?side10 ?side11 ?side12 A21.out).mono ?_
            (case side1 => repeat (first | exact (Kd.R_reads' HO304.out).2.2 | (with_reducible refine Kd.C_alloc ?_ _) | (with_reducible refine Kd.C_drewN ?_ _) | (with_reducible refine Kd.C_drew ?_)))
            (case side2 => exact (Kd.R_reads' HO304.out).2.1)
            (case side3 => repeat (first | exact (Kd.R_reads' HO307.out).2.2 | (with_reducible refine Kd.C_alloc ?_ _) | (with_reducible refine Kd.C_drewN ?_ _) | (with_reducible refine Kd.C_drew ?_)))
            (case side4 => exact (Kd.R_reads' HO307.out).2.1)
            (case side5 => repeat (first | exact (Kd.S_reads' HO310.out).2.2 | (with_reducible refine Kd.C_alloc ?_ _) | (with_reducible refine Kd.C_drewN ?_ _) | (with_reducible refine Kd.C_drew ?_)))
            (case side6 => exact (Kd.S_reads' HO310.out).2.1)
            (case side7 => repeat (first | exact (Kd.R_reads' HO313.out).2.2 | (with_reducible refine Kd.C_alloc ?_ _) | (with_reducible refine Kd.C_drewN ?_ _) | (with_reducible refine Kd.C_drew ?_)))
            (case side8 => exact (Kd.R_reads' HO313.out).2.1)
            (case side9 => repeat (first | exact (Kd.R_reads' HO316.out).2.2 | (with_reducible refine Kd.C_alloc ?_ _) | (with_reducible refine Kd.C_drewN ?_ _) | (with_reducible refine Kd.C_drew ?_)))
            (case side10 => exact (Kd.R_reads' HO316.out).2.1)
            (case side11 => repeat (first | exact (Kd.S_reads' HO319.out).2.2 | (with_reducible refine Kd.C_alloc ?_ _) | (with_reducible refine Kd.C_drewN ?_ _) | (with_reducible refine Kd.C_drew ?_)))
            (case side12 => exact (Kd.S_reads' HO319.out).2.1)
            rintro e w48 ⟨rfl, hb⟩
            refine ⟨_, rfl, ?_⟩
            have n0_ := am (Kd.R_below (by (with_reducible repeat (first | apply Kd.R_alloc | apply Kd.R_drewN | apply Kd.R_drew)); exact HO304.out) hb)
            have n1_ := am (Kd.R_below (by (with_reducible repeat (first | apply Kd.R_alloc | apply Kd.R_drewN | apply Kd.R_drew)); exact HO307.out) hb)
            have n2_ := am (Kd.S_below (by (with_reducible repeat (first | apply Kd.S_alloc | apply Kd.S_drewN | apply Kd.S_drew)); exact HO310.out) hb)
            have n3_ := am (Kd.R_below (by (with_reducible repeat (first | apply Kd.R_alloc | apply Kd.R_drewN | apply Kd.R_drew)); exact HO313.out) hb)
            have n4_ := am (Kd.R_below (by (with_reducible repeat (first | apply Kd.R_alloc | apply Kd.R_drewN | apply Kd.R_drew)); exact HO316.out) hb)
            have n5_ := am (Kd.S_below (by (with_reducible repeat (first | apply Kd.S_alloc | apply Kd.S_drewN | apply Kd.S_drew)); exact HO319.out) hb)
            have n6_ := am (blk_below (g := gb298) (o := .cells #[.slice A0_0 l0_0.length c0_0, .slice A0_1 l0_1.length c0_1, .slice A0_2 l0_2.length c0_2] 81 (0, 0)) (by (with_reducible repeat (first | apply qa | apply qb | apply qc)); exact BK298.out) hb)
            have n7_ := am (blk_below (g := gb299) (o := .cells #[.slice A1_0 l1_0.length c1_0, .slice A1_1 l1_1.length c1_1, .slice A1_2 l1_2.length c1_2] 81 (0, 0)) (by (with_reducible repeat (first | apply qa | apply qb | apply qc)); exact BK299.out) hb)
            have n8_ := am (below_step (by repeat (first | (with_reducible first | exact HB.out | apply pa | apply pb | apply pc | refine below_set ?_ GE298.out | refine below_set ?_ GE299.out) | exact HB.out)) hb)
            clear HO304
            clear HO307
            clear HO310
            clear HO313
            clear HO316
            clear HO319
            clear BK298
            clear BK299
            clear HB
            have HO304 := n0_
            have HO307 := n1_
            have HO310 := n2_
            have HO313 := n3_
            have HO316 := n4_
            have HO319 := n5_
            have BK298 := n6_
            have BK299 := n7_
            have HB := n8_
            clear n0_ n1_ n2_ n3_ n4_ n5_ n6_ n7_ n8_
            (try clear hb)
            (try clear hb2)
            (try clear hk)
            (try clear hi)
            refine hK.out _ _ ⟨(blk_cell BK298.out 0).trans rfl, (blk_cell BK298.out 1).trans rfl, (blk_cell BK298.out 2).trans rfl, (blk_cell BK299.out 0).trans rfl, (blk_cell BK299.out 1).trans rfl, (blk_cell BK299.out 2).trans rfl⟩ (fun hHeld => ?_)
            clear hK K
            refine norm_ (a' := ?_) ?_ ?_
            rotate_left
            · show Act.put _ (some 24) _ = _
              simp only [Act.put, List.setIfInBounds_toArray, List.set_cons_zero, List.set_cons_succ, i64_w, i32_w]
              rfl
            refine pure_ (i := 5) (N := some 6) (v := ?_) (a' := ?_) #[true, true, true, true, true, true] rfl rfl (by kernel_rfl) (fun _ _ _ h => h) (Or.inl ⟨by rfl, ?_⟩) ?_ ?_
            rotate_left
            · intro w'
              go_simp
              with_reducible rfl
            rotate_left
            · simp only [Act.put, List.setIfInBounds_toArray, List.set_cons_zero, List.set_cons_succ, i64_w, i32_w]
              rfl
            refine done_ (by kernel_rfl) ?_
            have hcz49_0 := bc BK298.out 0 (.slice A0_0 l0_0.length c0_0) rfl
            have hcz49_1 := bc BK298.out 1 (.slice A0_1 l0_1.length c0_1) rfl
            have hcz49_2 := bc BK298.out 2 (.slice A0_2 l0_2.length c0_2) rfl
            have hfz49_0 := bf BK298.out 0
            have hfz49_1 := bf BK298.out 1
            have hfz49_2 := bf BK298.out 2
            try go_wp2_with (first | ((with_reducible refine gate_callee (f := 53) rfl ?_); refine goesL_ (some 26) rfl rfl Try.func53 (by kernel_rfl) rfl #[.agg #[.slice A0_0 l0_0.length c0_0, .slice A0_1 l0_1.length c0_1, .slice A0_2 l0_2.length c0_2]] rfl (by (try simp only [List.map_toArray, List.map_cons, List.map_nil]); first | done | rfl | (simp only [List.length_drop, List.length_take]; rfl)) ?_; (with_reducible refine (laws_toProg.calls k _ _ l0_0 _ _ l0_1 _ _ l0_2 t321 t324 t327 _ ?side1 ?side2 ?side3 ?side4 ?side5 ?side6 A22.out).mono ?_); (case side1 => repeat (first | exact (Kd.C_below HR0_0.out HB.out) | (with_reducible refine Kd.C_alloc ?_ _) | (with_reducible refine Kd.C_drewN ?_ _) | (with_reducible refine Kd.C_drew ?_))); (case side2 => exact HC0_0.out); (case side3 => repeat (first | exact (Kd.C_below HR0_1.out HB.out) | (with_reducible refine Kd.C_alloc ?_ _) | (with_reducible refine Kd.C_drewN ?_ _) | (with_reducible refine Kd.C_drew ?_))); (case side4 => exact HC0_1.out); (case side5 => repeat (first | exact (Kd.C_below HR0_2.out HB.out) | (with_reducible refine Kd.C_alloc ?_ _) | (with_reducible refine Kd.C_drewN ?_ _) | (with_reducible refine Kd.C_drew ?_))); (case side6 => exact HC0_2.out); rintro e w50 ⟨v322, v325, v328, rfl, ho0, ho1, ho2, hb⟩; refine ⟨_, rfl, ?_⟩; have n0_ := am (Kd.R_mono (Kd.R_told (Kd.R_told (Kd.R_old (by (with_reducible repeat (first | apply Kd.R_alloc | apply Kd.R_drewN | apply Kd.R_drew)); exact HO304.out) hb) (Kd.R_base ho0)) (Kd.R_base ho1)) (fun _ h_ => h_.1)); have n1_ := am (Kd.R_elder' (by (with_reducible repeat (first | apply Kd.R_alloc | apply Kd.R_drewN | apply Kd.R_drew)); exact HO307.out) (Kd.R_base ho1) hb); have n2_ := am (Kd.S_mono (Kd.S_told (Kd.S_told (Kd.S_old (by (with_reducible repeat (first | apply Kd.S_alloc | apply Kd.S_drewN | apply Kd.S_drew)); exact HO310.out) hb) (Kd.R_base ho1)) (Kd.S_base ho2)) (fun _ h_ => h_.1)); have n3_ := am (Kd.R_mono (Kd.R_told (Kd.R_told (Kd.R_old (by (with_reducible repeat (first | apply Kd.R_alloc | apply Kd.R_drewN | apply Kd.R_drew)); exact HO313.out) hb) (Kd.R_base ho0)) (Kd.R_base ho1)) (fun _ h_ => h_.1)); have n4_ := am (Kd.R_elder' (by (with_reducible repeat (first | apply Kd.R_alloc | apply Kd.R_drewN | apply Kd.R_drew)); exact HO316.out) (Kd.R_base ho1) hb); have n5_ := am (Kd.S_mono (Kd.S_told (Kd.S_told (Kd.S_old (by (with_reducible repeat (first | apply Kd.S_alloc | apply Kd.S_drewN | apply Kd.S_drew)); exact HO319.out) hb) (Kd.R_base ho1)) (Kd.S_base ho2)) (fun _ h_ => h_.1)); have n6_ := am (Kd.R_lower (Kd.R_new' (Kd.R_new' (Kd.R_new' (Kd.R_new' ho0 (Kd.R_lt (by (with_reducible repeat (first | apply Kd.R_alloc | apply Kd.R_drewN | apply Kd.R_drew)); exact HO304.out))) (Kd.R_lt (by (with_reducible repeat (first | apply Kd.R_alloc | apply Kd.R_drewN | apply Kd.R_drew)); exact HO307.out))) (Kd.R_lt (by (with_reducible repeat (first | apply Kd.R_alloc | apply Kd.R_drewN | apply Kd.R_drew)); exact HO313.out))) (Kd.R_lt (by (with_reducible repeat (first | apply Kd.R_alloc | apply Kd.R_drewN | apply Kd.R_drew)); exact HO316.out))) (below_size (by repeat (first | (with_reducible first | exact HB.out | apply pa | apply pb | apply pc | refine below_set ?_ GE298.out | refine below_set ?_ GE299.out) | exact HB.out)))); have n7_ := am (Kd.R_lower (Kd.R_new' (Kd.R_new' ho1 (Kd.R_lt (by (with_reducible repeat (first | apply Kd.R_alloc | apply Kd.R_drewN | apply Kd.R_drew)); exact HO307.out))) (Kd.R_lt (by (with_reducible repeat (first | apply Kd.R_alloc | apply Kd.R_drewN | apply Kd.R_drew)); exact HO316.out))) (below_size (by repeat (first | (with_reducible first | exact HB.out | apply pa | apply pb | apply pc | refine below_set ?_ GE298.out | refine below_set ?_ GE299.out) | exact HB.out)))); have n8_ := am (Kd.S_lower (Kd.S_new' (Kd.S_new' (Kd.S_new' (Kd.S_new' ho2 (Kd.R_lt (by (with_reducible repeat (first | apply Kd.R_alloc | apply Kd.R_drewN | apply Kd.R_drew)); exact HO307.out))) (Kd.S_lt (by (with_reducible repeat (first | apply Kd.S_alloc | apply Kd.S_drewN | apply Kd.S_drew)); exact HO310.out))) (Kd.R_lt (by (with_reducible repeat (first | apply Kd.R_alloc | apply Kd.R_drewN | apply Kd.R_drew)); exact HO316.out))) (Kd.S_lt (by (with_reducible repeat (first | apply Kd.S_alloc | apply Kd.S_drewN | apply Kd.S_drew)); exact HO319.out))) (below_size (by repeat (first | (with_reducible first | exact HB.out | apply pa | apply pb | apply pc | refine below_set ?_ GE298.out | refine below_set ?_ GE299.out) | exact HB.out)))); have n9_ := am (blk_below (g := gb298) (o := .cells #[.slice A0_0 l0_0.length c0_0, .slice A0_1 l0_1.length c0_1, .slice A0_2 l0_2.length c0_2] 81 (0, 0)) (by (with_reducible repeat (first | apply qa | apply qb | apply qc)); exact BK298.out) hb); have n10_ := am (blk_below (g := gb299) (o := .cells #[.slice A1_0 l1_0.length c1_0, .slice A1_1 l1_1.length c1_1, .slice A1_2 l1_2.length c1_2] 81 (0, 0)) (by (with_reducible repeat (first | apply qa | apply qb | apply qc)); exact BK299.out) hb); have n11_ := am (below_step (by repeat (first | (with_reducible first | exact HB.out | apply pa | apply pb | apply pc | refine below_set ?_ GE298.out | refine below_set ?_ GE299.out) | exact HB.out)) hb); clear HO304; clear HO307; clear HO310; clear HO313; clear HO316; clear HO319; clear BK298; clear BK299; clear HB; have HO304 := n0_; have HO307 := n1_; have HO310 := n2_; have HO313 := n3_; have HO316 := n4_; have HO319 := n5_; have HO323 := n6_; have HO326 := n7_; have HO329 := n8_; have BK298 := n9_; have BK299 := n10_; have HB := n11_; clear n0_ n1_ n2_ n3_ n4_ n5_ n6_ n7_ n8_ n9_ n10_ n11_; (try clear hb); (try clear hb2); (try clear hk); (try clear hi); (try clear ho0); (try clear ho1); (try clear ho2)) | ((with_reducible refine gate_dst (N := 7) rfl ?_); refine box_event ?hg (N := 7) ?hd (cs := #[.slice none 0 0, .slice none 0 0, .slice none 0 0]) (t := 88) ?hr ?_; (case hd => rfl); (case hg => rfl); (case hr => first | (go_simp; done) | (go_simp; rfl)); intro gb330 hg w51 hbox hb; have n0_ := am (Kd.R_below (by (with_reducible repeat (first | apply Kd.R_alloc | apply Kd.R_drewN | apply Kd.R_drew)); exact HO304.out) hb); have n1_ := am (Kd.R_below (by (with_reducible repeat (first | apply Kd.R_alloc | apply Kd.R_drewN | apply Kd.R_drew)); exact HO307.out) hb); have n2_ := am (Kd.S_below (by (with_reducible repeat (first | apply Kd.S_alloc | apply Kd.S_drewN | apply Kd.S_drew)); exact HO310.out) hb); have n3_ := am (Kd.R_below (by (with_reducible repeat (first | apply Kd.R_alloc | apply Kd.R_drewN | apply Kd.R_drew)); exact HO313.out) hb); have n4_ := am (Kd.R_below (by (with_reducible repeat (first | apply Kd.R_alloc | apply Kd.R_drewN | apply Kd.R_drew)); exact HO316.out) hb); have n5_ := am (Kd.S_below (by (with_reducible repeat (first | apply Kd.S_alloc | apply Kd.S_drewN | apply Kd.S_drew)); exact HO319.out) hb); have n6_ := am (Kd.R_below (by (with_reducible repeat (first | apply Kd.R_alloc | apply Kd.R_drewN | apply Kd.R_drew)); exact HO323.out) hb); have n7_ := am (Kd.R_below (by (with_reducible repeat (first | apply Kd.R_alloc | apply Kd.R_drewN | apply Kd.R_drew)); exact HO326.out) hb); have n8_ := am (Kd.S_below (by (with_reducible repeat (first | apply Kd.S_alloc | apply Kd.S_drewN | apply Kd.S_drew)); exact HO329.out) hb); have n9_ := am (blk_below (g := gb298) (o := .cells #[.slice A0_0 l0_0.length c0_0, .slice A0_1 l0_1.length c0_1, .slice A0_2 l0_2.length c0_2] 81 (0, 0)) (by (with_reducible repeat (first | apply qa | apply qb | apply qc)); exact BK298.out) hb); have n10_ := am (blk_below (g := gb299) (o := .cells #[.slice A1_0 l1_0.length c1_0, .slice A1_1 l1_1.length c1_1, .slice A1_2 l1_2.length c1_2] 81 (0, 0)) (by (with_reducible repeat (first | apply qa | apply qb | apply qc)); exact BK299.out) hb); have n11_ := am (below_step (by repeat (first | (with_reducible first | exact HB.out | apply pa | apply pb | apply pc | refine below_set ?_ GE298.out | refine below_set ?_ GE299.out) | exact HB.out)) hb); have n12_ := am (hbox); have n13_ := am ((by rw [hg]; exact (below_size (by repeat (first | (with_reducible first | exact HB.out | apply pa | apply pb | apply pc | refine below_set ?_ GE298.out | refine below_set ?_ GE299.out) | exact HB.out))) : w.heap.size ≤ gb330)); have n14_ := am ((by rw [hg]; exact (below_size (by repeat (first | (with_reducible first | exact HB.out | apply pa | apply pb | apply pc | refine below_set ?_ GE298.out | refine below_set ?_ GE299.out) | exact HB.out))) : w.heap.size ≤ gb330)); have n15_ := am ((by rw [hg]; exact Nat.ne_of_lt (blk_lt (g := gb298) (o := .cells #[.slice A0_0 l0_0.length c0_0, .slice A0_1 l0_1.length c0_1, .slice A0_2 l0_2.length c0_2] 81 (0, 0)) (by (with_reducible repeat (first | apply qa | apply qb | apply qc)); exact BK298.out)) : gb298 ≠ gb330)); have n16_ := am ((by rw [hg]; exact Nat.ne_of_gt (blk_lt (g := gb298) (o := .cells #[.slice A0_0 l0_0.length c0_0, .slice A0_1 l0_1.length c0_1, .slice A0_2 l0_2.length c0_2] 81 (0, 0)) (by (with_reducible repeat (first | apply qa | apply qb | apply qc)); exact BK298.out)) : gb330 ≠ gb298)); have n17_ := am ((by rw [hg]; exact Nat.ne_of_lt (blk_lt (g := gb299) (o := .cells #[.slice A1_0 l1_0.length c1_0, .slice A1_1 l1_1.length c1_1, .slice A1_2 l1_2.length c1_2] 81 (0, 0)) (by (with_reducible repeat (first | apply qa | apply qb | apply qc)); exact BK299.out)) : gb299 ≠ gb330)); have n18_ := am ((by rw [hg]; exact Nat.ne_of_gt (blk_lt (g := gb299) (o := .cells #[.slice A1_0 l1_0.length c1_0, .slice A1_1 l1_1.length c1_1, .slice A1_2 l1_2.length c1_2] 81 (0, 0)) (by (with_reducible repeat (first | apply qa | apply qb | apply qc)); exact BK299.out)) : gb330 ≠ gb299)); clear HO304; clear HO307; clear HO310; clear HO313; clear HO316; clear HO319; clear HO323; clear HO326; clear HO329; clear BK298; clear BK299; clear HB; have HO304 := n0_; have HO307 := n1_; have HO310 := n2_; have HO313 := n3_; have HO316 := n4_; have HO319 := n5_; have HO323 := n6_; have HO326 := n7_; have HO329 := n8_; have BK298 := n9_; have BK299 := n10_; have HB := n11_; have BK330 := n12_; have GW330 := n13_; have GE330 := n14_; have NB298_330 := n15_; have NB330_298 := n16_; have NB299_330 := n17_; have NB330_299 := n18_; clear n0_ n1_ n2_ n3_ n4_ n5_ n6_ n7_ n8_ n9_ n10_ n11_ n12_ n13_ n14_ n15_ n16_ n17_ n18_; clear hb hbox hg; obtain ⟨Ao52, co52, eo52⟩ := Kd.R_slice HO323.out; subst eo52; have hnb53 := NB330_298.out; have hnc53 := NB298_330.out; have hnb54 := NB330_299.out; have hnc54 := NB299_330.out; have hcz55_0 := bc BK330.out 0 (.slice none 0 0) rfl; have hcz55_1 := bc BK330.out 1 (.slice none 0 0) rfl; have hcz55_2 := bc BK330.out 2 (.slice none 0 0) rfl; have hfz55_0 := bf BK330.out 0; have hfz55_1 := bf BK330.out 1; have hfz55_2 := bf BK330.out 2; obtain ⟨Ao56, co56, eo56⟩ := Kd.R_slice HO326.out; subst eo56; obtain ⟨Ao57, co57, eo57⟩ := Kd.S_slice HO329.out; subst eo57; have hcz58_0 := bc BK299.out 0 (.slice A1_0 l1_0.length c1_0) rfl; have hcz58_1 := bc BK299.out 1 (.slice A1_1 l1_1.length c1_1) rfl; have hcz58_2 := bc BK299.out 2 (.slice A1_2 l1_2.length c1_2) rfl; have hfz58_0 := bf BK299.out 0; have hfz58_1 := bf BK299.out 1; have hfz58_2 := bf BK299.out 2) | ((with_reducible refine gate_callee (f := 53) rfl ?_); refine goesL_ (some 28) rfl rfl Try.func53 (by kernel_rfl) rfl #[.agg #[.slice A1_0 l1_0.length c1_0, .slice A1_1 l1_1.length c1_1, .slice A1_2 l1_2.length c1_2]] rfl (by (try simp only [List.map_toArray, List.map_cons, List.map_nil]); first | done | rfl | (simp only [List.length_drop, List.length_take]; rfl)) ?_; (with_reducible refine (laws_toProg.calls k _ _ l1_0 _ _ l1_1 _ _ l1_2 t331 t334 t337 _ ?side1 ?side2 ?side3 ?side4 ?side5 ?side6 A23.out).mono ?_); (case side1 => exact Kd.C_below HR1_0.out (by repeat (first | (with_reducible first | exact HB.out | apply pa | apply pb | apply pc | refine below_set ?_ GE298.out | refine below_set ?_ GE299.out | refine below_set ?_ GE330.out) | exact HB.out))); (case side2 => exact HC1_0.out); (case side3 => exact Kd.C_below HR1_1.out (by repeat (first | (with_reducible first | exact HB.out | apply pa | apply pb | apply pc | refine below_set ?_ GE298.out | refine below_set ?_ GE299.out | refine below_set ?_ GE330.out) | exact HB.out))); (case side4 => exact HC1_1.out); (case side5 => exact Kd.C_below HR1_2.out (by repeat (first | (with_reducible first | exact HB.out | apply pa | apply pb | apply pc | refine below_set ?_ GE298.out | refine below_set ?_ GE299.out | refine below_set ?_ GE330.out) | exact HB.out))); (case side6 => exact HC1_2.out); rintro e w59 ⟨v332, v335, v338, rfl, ho0, ho1, ho2, hb⟩; refine ⟨_, rfl, ?_⟩; have n0_ := am (Kd.R_mono (Kd.R_told (Kd.R_told (Kd.R_old (by (with_reducible repeat (first | apply Kd.R_alloc | apply Kd.R_drewN | apply Kd.R_drew)); exact (Kd.R_mono (Kd.R_far (p := ⟨gb330, 2, none⟩) (Kd.R_far (p := ⟨gb330, 1, none⟩) (Kd.R_far (p := ⟨gb330, 0, none⟩) (Kd.R_types HO304.out BK330.out (by decide)) (fun _ hk => hk.2) (.slice Ao52 t321.length co52)) (fun _ hk => hk.2) (.slice Ao56 t324.length co56)) (fun _ hk => hk.2) (.slice Ao57 t327.length co57)) (fun _ h_ => h_.1))) hb) (Kd.R_base ho0)) (Kd.R_base ho1)) (fun _ h_ => h_.1)); have n1_ := am (Kd.R_elder' (by (with_reducible repeat (first | apply Kd.R_alloc | apply Kd.R_drewN | apply Kd.R_drew)); exact (Kd.R_mono (Kd.R_far (p := ⟨gb330, 2, none⟩) (Kd.R_far (p := ⟨gb330, 1, none⟩) (Kd.R_far (p := ⟨gb330, 0, none⟩) (Kd.R_types HO307.out BK330.out (by decide)) (fun _ hk => hk.2) (.slice Ao52 t321.length co52)) (fun _ hk => hk.2) (.slice Ao56 t324.length co56)) (fun _ hk => hk.2) (.slice Ao57 t327.length co57)) (fun _ h_ => h_.1))) (Kd.R_base ho1) hb); have n2_ := am (Kd.S_mono (Kd.S_told (Kd.S_told (Kd.S_old (by (with_reducible repeat (first | apply Kd.S_alloc | apply Kd.S_drewN | apply Kd.S_drew)); exact (Kd.S_mono (Kd.S_far (p := ⟨gb330, 2, none⟩) (Kd.S_far (p := ⟨gb330, 1, none⟩) (Kd.S_far (p := ⟨gb330, 0, none⟩) (Kd.S_types HO310.out BK330.out (by decide)) (fun _ hk => hk.2) (.slice Ao52 t321.length co52)) (fun _ hk => hk.2) (.slice Ao56 t324.length co56)) (fun _ hk => hk.2) (.slice Ao57 t327.length co57)) (fun _ h_ => h_.1))) hb) (Kd.R_base ho1)) (Kd.S_base ho2)) (fun _ h_ => h_.1)); have n3_ := am (Kd.R_mono (Kd.R_told (Kd.R_told (Kd.R_old (by (with_reducible repeat (first | apply Kd.R_alloc | apply Kd.R_drewN | apply Kd.R_drew)); exact (Kd.R_mono (Kd.R_far (p := ⟨gb330, 2, none⟩) (Kd.R_far (p := ⟨gb330, 1, none⟩) (Kd.R_far (p := ⟨gb330, 0, none⟩) (Kd.R_types HO313.out BK330.out (by decide)) (fun _ hk => hk.2) (.slice Ao52 t321.length co52)) (fun _ hk => hk.2) (.slice Ao56 t324.length co56)) (fun _ hk => hk.2) (.slice Ao57 t327.length co57)) (fun _ h_ => h_.1))) hb) (Kd.R_base ho0)) (Kd.R_base ho1)) (fun _ h_ => h_.1)); have n4_ := am (Kd.R_elder' (by (with_reducible repeat (first | apply Kd.R_alloc | apply Kd.R_drewN | apply Kd.R_drew)); exact (Kd.R_mono (Kd.R_far (p := ⟨gb330, 2, none⟩) (Kd.R_far (p := ⟨gb330, 1, none⟩) (Kd.R_far (p := ⟨gb330, 0, none⟩) (Kd.R_types HO316.out BK330.out (by decide)) (fun _ hk => hk.2) (.slice Ao52 t321.length co52)) (fun _ hk => hk.2) (.slice Ao56 t324.length co56)) (fun _ hk => hk.2) (.slice Ao57 t327.length co57)) (fun _ h_ => h_.1))) (Kd.R_base ho1) hb); have n5_ := am (Kd.S_mono (Kd.S_told (Kd.S_told (Kd.S_old (by (with_reducible repeat (first | apply Kd.S_alloc | apply Kd.S_drewN | apply Kd.S_drew)); exact (Kd.S_mono (Kd.S_far (p := ⟨gb330, 2, none⟩) (Kd.S_far (p := ⟨gb330, 1, none⟩) (Kd.S_far (p := ⟨gb330, 0, none⟩) (Kd.S_types HO319.out BK330.out (by decide)) (fun _ hk => hk.2) (.slice Ao52 t321.length co52)) (fun _ hk => hk.2) (.slice Ao56 t324.length co56)) (fun _ hk => hk.2) (.slice Ao57 t327.length co57)) (fun _ h_ => h_.1))) hb) (Kd.R_base ho1)) (Kd.S_base ho2)) (fun _ h_ => h_.1)); have n6_ := am (Kd.R_mono (Kd.R_told (Kd.R_told (Kd.R_old (by (with_reducible repeat (first | apply Kd.R_alloc | apply Kd.R_drewN | apply Kd.R_drew)); exact (Kd.R_mono (Kd.R_far (p := ⟨gb330, 2, none⟩) (Kd.R_far (p := ⟨gb330, 1, none⟩) (Kd.R_far (p := ⟨gb330, 0, none⟩) (Kd.R_types HO323.out BK330.out (by decide)) (fun _ hk => hk.2) (.slice Ao52 t321.length co52)) (fun _ hk => hk.2) (.slice Ao56 t324.length co56)) (fun _ hk => hk.2) (.slice Ao57 t327.length co57)) (fun _ h_ => h_.1))) hb) (Kd.R_base ho0)) (Kd.R_base ho1)) (fun _ h_ => h_.1)); have n7_ := am (Kd.R_elder' (by (with_reducible repeat (first | apply Kd.R_alloc | apply Kd.R_drewN | apply Kd.R_drew)); exact (Kd.R_mono (Kd.R_far (p := ⟨gb330, 2, none⟩) (Kd.R_far (p := ⟨gb330, 1, none⟩) (Kd.R_far (p := ⟨gb330, 0, none⟩) (Kd.R_types HO326.out BK330.out (by decide)) (fun _ hk => hk.2) (.slice Ao52 t321.length co52)) (fun _ hk => hk.2) (.slice Ao56 t324.length co56)) (fun _ hk => hk.2) (.slice Ao57 t327.length co57)) (fun _ h_ => h_.1))) (Kd.R_base ho1) hb); have n8_ := am (Kd.S_mono (Kd.S_told (Kd.S_told (Kd.S_old (by (with_reducible repeat (first | apply Kd.S_alloc | apply Kd.S_drewN | apply Kd.S_drew)); exact (Kd.S_mono (Kd.S_far (p := ⟨gb330, 2, none⟩) (Kd.S_far (p := ⟨gb330, 1, none⟩) (Kd.S_far (p := ⟨gb330, 0, none⟩) (Kd.S_types HO329.out BK330.out (by decide)) (fun _ hk => hk.2) (.slice Ao52 t321.length co52)) (fun _ hk => hk.2) (.slice Ao56 t324.length co56)) (fun _ hk => hk.2) (.slice Ao57 t327.length co57)) (fun _ h_ => h_.1))) hb) (Kd.R_base ho1)) (Kd.S_base ho2)) (fun _ h_ => h_.1)); have n9_ := am (Kd.R_lower (Kd.R_new' (Kd.R_new' (Kd.R_new' (Kd.R_new' (Kd.R_new' (Kd.R_new' ho0 (Kd.R_lt (by (with_reducible repeat (first | apply Kd.R_alloc | apply Kd.R_drewN | apply Kd.R_drew)); exact (Kd.R_mono (Kd.R_far (p := ⟨gb330, 2, none⟩) (Kd.R_far (p := ⟨gb330, 1, none⟩) (Kd.R_far (p := ⟨gb330, 0, none⟩) (Kd.R_types HO304.out BK330.out (by decide)) (fun _ hk => hk.2) (.slice Ao52 t321.length co52)) (fun _ hk => hk.2) (.slice Ao56 t324.length co56)) (fun _ hk => hk.2) (.slice Ao57 t327.length co57)) (fun _ h_ => h_.1))))) (Kd.R_lt (by (with_reducible repeat (first | apply Kd.R_alloc | apply Kd.R_drewN | apply Kd.R_drew)); exact (Kd.R_mono (Kd.R_far (p := ⟨gb330, 2, none⟩) (Kd.R_far (p := ⟨gb330, 1, none⟩) (Kd.R_far (p := ⟨gb330, 0, none⟩) (Kd.R_types HO307.out BK330.out (by decide)) (fun _ hk => hk.2) (.slice Ao52 t321.length co52)) (fun _ hk => hk.2) (.slice Ao56 t324.length co56)) (fun _ hk => hk.2) (.slice Ao57 t327.length co57)) (fun _ h_ => h_.1))))) (Kd.R_lt (by (with_reducible repeat (first | apply Kd.R_alloc | apply Kd.R_drewN | apply Kd.R_drew)); exact (Kd.R_mono (Kd.R_far (p := ⟨gb330, 2, none⟩) (Kd.R_far (p := ⟨gb330, 1, none⟩) (Kd.R_far (p := ⟨gb330, 0, none⟩) (Kd.R_types HO313.out BK330.out (by decide)) (fun _ hk => hk.2) (.slice Ao52 t321.length co52)) (fun _ hk => hk.2) (.slice Ao56 t324.length co56)) (fun _ hk => hk.2) (.slice Ao57 t327.length co57)) (fun _ h_ => h_.1))))) (Kd.R_lt (by (with_reducible repeat (first | apply Kd.R_alloc | apply Kd.R_drewN | apply Kd.R_drew)); exact (Kd.R_mono (Kd.R_far (p := ⟨gb330, 2, none⟩) (Kd.R_far (p := ⟨gb330, 1, none⟩) (Kd.R_far (p := ⟨gb330, 0, none⟩) (Kd.R_types HO316.out BK330.out (by decide)) (fun _ hk => hk.2) (.slice Ao52 t321.length co52)) (fun _ hk => hk.2) (.slice Ao56 t324.length co56)) (fun _ hk => hk.2) (.slice Ao57 t327.length co57)) (fun _ h_ => h_.1))))) (Kd.R_lt (by (with_reducible repeat (first | apply Kd.R_alloc | apply Kd.R_drewN | apply Kd.R_drew)); exact (Kd.R_mono (Kd.R_far (p := ⟨gb330, 2, none⟩) (Kd.R_far (p := ⟨gb330, 1, none⟩) (Kd.R_far (p := ⟨gb330, 0, none⟩) (Kd.R_types HO323.out BK330.out (by decide)) (fun _ hk => hk.2) (.slice Ao52 t321.length co52)) (fun _ hk => hk.2) (.slice Ao56 t324.length co56)) (fun _ hk => hk.2) (.slice Ao57 t327.length co57)) (fun _ h_ => h_.1))))) (Kd.R_lt (by (with_reducible repeat (first | apply Kd.R_alloc | apply Kd.R_drewN | apply Kd.R_drew)); exact (Kd.R_mono (Kd.R_far (p := ⟨gb330, 2, none⟩) (Kd.R_far (p := ⟨gb330, 1, none⟩) (Kd.R_far (p := ⟨gb330, 0, none⟩) (Kd.R_types HO326.out BK330.out (by decide)) (fun _ hk => hk.2) (.slice Ao52 t321.length co52)) (fun _ hk => hk.2) (.slice Ao56 t324.length co56)) (fun _ hk => hk.2) (.slice Ao57 t327.length co57)) (fun _ h_ => h_.1))))) (below_size (by repeat (first | (with_reducible first | exact HB.out | apply pa | apply pb | apply pc | refine below_set ?_ GE298.out | refine below_set ?_ GE299.out | refine below_set ?_ GE330.out) | exact HB.out)))); have n10_ := am (Kd.R_lower (Kd.R_new' (Kd.R_new' (Kd.R_new' ho1 (Kd.R_lt (by (with_reducible repeat (first | apply Kd.R_alloc | apply Kd.R_drewN | apply Kd.R_drew)); exact (Kd.R_mono (Kd.R_far (p := ⟨gb330, 2, none⟩) (Kd.R_far (p := ⟨gb330, 1, none⟩) (Kd.R_far (p := ⟨gb330, 0, none⟩) (Kd.R_types HO307.out BK330.out (by decide)) (fun _ hk => hk.2) (.slice Ao52 t321.length co52)) (fun _ hk => hk.2) (.slice Ao56 t324.length co56)) (fun _ hk => hk.2) (.slice Ao57 t327.length co57)) (fun _ h_ => h_.1))))) (Kd.R_lt (by (with_reducible repeat (first | apply Kd.R_alloc | apply Kd.R_drewN | apply Kd.R_drew)); exact (Kd.R_mono (Kd.R_far (p := ⟨gb330, 2, none⟩) (Kd.R_far (p := ⟨gb330, 1, none⟩) (Kd.R_far (p := ⟨gb330, 0, none⟩) (Kd.R_types HO316.out BK330.out (by decide)) (fun _ hk => hk.2) (.slice Ao52 t321.length co52)) (fun _ hk => hk.2) (.slice Ao56 t324.length co56)) (fun _ hk => hk.2) (.slice Ao57 t327.length co57)) (fun _ h_ => h_.1))))) (Kd.R_lt (by (with_reducible repeat (first | apply Kd.R_alloc | apply Kd.R_drewN | apply Kd.R_drew)); exact (Kd.R_mono (Kd.R_far (p := ⟨gb330, 2, none⟩) (Kd.R_far (p := ⟨gb330, 1, none⟩) (Kd.R_far (p := ⟨gb330, 0, none⟩) (Kd.R_types HO326.out BK330.out (by decide)) (fun _ hk => hk.2) (.slice Ao52 t321.length co52)) (fun _ hk => hk.2) (.slice Ao56 t324.length co56)) (fun _ hk => hk.2) (.slice Ao57 t327.length co57)) (fun _ h_ => h_.1))))) (below_size (by repeat (first | (with_reducible first | exact HB.out | apply pa | apply pb | apply pc | refine below_set ?_ GE298.out | refine below_set ?_ GE299.out | refine below_set ?_ GE330.out) | exact HB.out)))); have n11_ := am (Kd.S_lower (Kd.S_new' (Kd.S_new' (Kd.S_new' (Kd.S_new' (Kd.S_new' (Kd.S_new' ho2 (Kd.R_lt (by (with_reducible repeat (first | apply Kd.R_alloc | apply Kd.R_drewN | apply Kd.R_drew)); exact (Kd.R_mono (Kd.R_far (p := ⟨gb330, 2, none⟩) (Kd.R_far (p := ⟨gb330, 1, none⟩) (Kd.R_far (p := ⟨gb330, 0, none⟩) (Kd.R_types HO307.out BK330.out (by decide)) (fun _ hk => hk.2) (.slice Ao52 t321.length co52)) (fun _ hk => hk.2) (.slice Ao56 t324.length co56)) (fun _ hk => hk.2) (.slice Ao57 t327.length co57)) (fun _ h_ => h_.1))))) (Kd.S_lt (by (with_reducible repeat (first | apply Kd.S_alloc | apply Kd.S_drewN | apply Kd.S_drew)); exact (Kd.S_mono (Kd.S_far (p := ⟨gb330, 2, none⟩) (Kd.S_far (p := ⟨gb330, 1, none⟩) (Kd.S_far (p := ⟨gb330, 0, none⟩) (Kd.S_types HO310.out BK330.out (by decide)) (fun _ hk => hk.2) (.slice Ao52 t321.length co52)) (fun _ hk => hk.2) (.slice Ao56 t324.length co56)) (fun _ hk => hk.2) (.slice Ao57 t327.length co57)) (fun _ h_ => h_.1))))) (Kd.R_lt (by (with_reducible repeat (first | apply Kd.R_alloc | apply Kd.R_drewN | apply Kd.R_drew)); exact (Kd.R_mono (Kd.R_far (p := ⟨gb330, 2, none⟩) (Kd.R_far (p := ⟨gb330, 1, none⟩) (Kd.R_far (p := ⟨gb330, 0, none⟩) (Kd.R_types HO316.out BK330.out (by decide)) (fun _ hk => hk.2) (.slice Ao52 t321.length co52)) (fun _ hk => hk.2) (.slice Ao56 t324.length co56)) (fun _ hk => hk.2) (.slice Ao57 t327.length co57)) (fun _ h_ => h_.1))))) (Kd.S_lt (by (with_reducible repeat (first | apply Kd.S_alloc | apply Kd.S_drewN | apply Kd.S_drew)); exact (Kd.S_mono (Kd.S_far (p := ⟨gb330, 2, none⟩) (Kd.S_far (p := ⟨gb330, 1, none⟩) (Kd.S_far (p := ⟨gb330, 0, none⟩) (Kd.S_types HO319.out BK330.out (by decide)) (fun _ hk => hk.2) (.slice Ao52 t321.length co52)) (fun _ hk => hk.2) (.slice Ao56 t324.length co56)) (fun _ hk => hk.2) (.slice Ao57 t327.length co57)) (fun _ h_ => h_.1))))) (Kd.R_lt (by (with_reducible repeat (first | apply Kd.R_alloc | apply Kd.R_drewN | apply Kd.R_drew)); exact (Kd.R_mono (Kd.R_far (p := ⟨gb330, 2, none⟩) (Kd.R_far (p := ⟨gb330, 1, none⟩) (Kd.R_far (p := ⟨gb330, 0, none⟩) (Kd.R_types HO326.out BK330.out (by decide)) (fun _ hk => hk.2) (.slice Ao52 t321.length co52)) (fun _ hk => hk.2) (.slice Ao56 t324.length co56)) (fun _ hk => hk.2) (.slice Ao57 t327.length co57)) (fun _ h_ => h_.1))))) (Kd.S_lt (by (with_reducible repeat (first | apply Kd.S_alloc | apply Kd.S_drewN | apply Kd.S_drew)); exact (Kd.S_mono (Kd.S_far (p := ⟨gb330, 2, none⟩) (Kd.S_far (p := ⟨gb330, 1, none⟩) (Kd.S_far (p := ⟨gb330, 0, none⟩) (Kd.S_types HO329.out BK330.out (by decide)) (fun _ hk => hk.2) (.slice Ao52 t321.length co52)) (fun _ hk => hk.2) (.slice Ao56 t324.length co56)) (fun _ hk => hk.2) (.slice Ao57 t327.length co57)) (fun _ h_ => h_.1))))) (below_size (by repeat (first | (with_reducible first | exact HB.out | apply pa | apply pb | apply pc | refine below_set ?_ GE298.out | refine below_set ?_ GE299.out | refine below_set ?_ GE330.out) | exact HB.out)))); have n12_ := am (blk_below (g := gb298) (o := .cells #[.slice A0_0 l0_0.length c0_0, .slice A0_1 l0_1.length c0_1, .slice A0_2 l0_2.length c0_2] 81 (0, 0)) (by (with_reducible repeat (first | apply qa | apply qb | apply qc)); refine qf ?_ NB298_330.out _; (with_reducible repeat (first | apply qa | apply qb | apply qc)); refine qf ?_ NB298_330.out _; (with_reducible repeat (first | apply qa | apply qb | apply qc)); refine qf ?_ NB298_330.out _; (with_reducible repeat (first | apply qa | apply qb | apply qc)); exact BK298.out) hb); have n13_ := am (blk_below (g := gb299) (o := .cells #[.slice A1_0 l1_0.length c1_0, .slice A1_1 l1_1.length c1_1, .slice A1_2 l1_2.length c1_2] 81 (0, 0)) (by (with_reducible repeat (first | apply qa | apply qb | apply qc)); refine qf ?_ NB299_330.out _; (with_reducible repeat (first | apply qa | apply qb | apply qc)); refine qf ?_ NB299_330.out _; (with_reducible repeat (first | apply qa | apply qb | apply qc)); refine qf ?_ NB299_330.out _; (with_reducible repeat (first | apply qa | apply qb | apply qc)); exact BK299.out) hb); have n14_ := am (blk_below (g := gb330) (o := .cells #[.slice Ao52 t321.length co52, .slice Ao56 t324.length co56, .slice Ao57 t327.length co57] 88 (0, 0)) (by (with_reducible repeat (first | apply qa | apply qb | apply qc)); refine blk_put (cs := #[.slice Ao52 t321.length co52, .slice Ao56 t324.length co56, .slice none 0 0]) ?_ 2 _ rfl; (with_reducible repeat (first | apply qa | apply qb | apply qc)); refine blk_put (cs := #[.slice Ao52 t321.length co52, .slice none 0 0, .slice none 0 0]) ?_ 1 _ rfl; (with_reducible repeat (first | apply qa | apply qb | apply qc)); refine blk_put (cs := #[.slice none 0 0, .slice none 0 0, .slice none 0 0]) ?_ 0 _ rfl; (with_reducible repeat (first | apply qa | apply qb | apply qc)); exact BK330.out) hb); have n15_ := am (below_step (by repeat (first | (with_reducible first | exact HB.out | apply pa | apply pb | apply pc | refine below_set ?_ GE298.out | refine below_set ?_ GE299.out | refine below_set ?_ GE330.out) | exact HB.out)) hb); clear HO304; clear HO307; clear HO310; clear HO313; clear HO316; clear HO319; clear HO323; clear HO326; clear HO329; clear BK298; clear BK299; clear BK330; clear HB; have HO304 := n0_; have HO307 := n1_; have HO310 := n2_; have HO313 := n3_; have HO316 := n4_; have HO319 := n5_; have HO323 := n6_; have HO326 := n7_; have HO329 := n8_; have HO333 := n9_; have HO336 := n10_; have HO339 := n11_; have BK298 := n12_; have BK299 := n13_; have BK330 := n14_; have HB := n15_; clear n0_ n1_ n2_ n3_ n4_ n5_ n6_ n7_ n8_ n9_ n10_ n11_ n12_ n13_ n14_ n15_; (try clear hb); (try clear hb2); (try clear hk); (try clear hi); (try clear ho0); (try clear ho1); (try clear ho2)) | ((with_reducible refine gate_dst (N := 8) rfl ?_); refine box_event ?hg (N := 8) ?hd (cs := #[.slice none 0 0, .slice none 0 0, .slice none 0 0]) (t := 88) ?hr ?_; (case hd => rfl); (case hg => rfl); (case hr => first | (go_simp; done) | (go_simp; rfl)); intro gb340 hg w60 hbox hb; have n0_ := am (Kd.R_below (by (with_reducible repeat (first | apply Kd.R_alloc | apply Kd.R_drewN | apply Kd.R_drew)); exact HO304.out) hb); have n1_ := am (Kd.R_below (by (with_reducible repeat (first | apply Kd.R_alloc | apply Kd.R_drewN | apply Kd.R_drew)); exact HO307.out) hb); have n2_ := am (Kd.S_below (by (with_reducible repeat (first | apply Kd.S_alloc | apply Kd.S_drewN | apply Kd.S_drew)); exact HO310.out) hb); have n3_ := am (Kd.R_below (by (with_reducible repeat (first | apply Kd.R_alloc | apply Kd.R_drewN | apply Kd.R_drew)); exact HO313.out) hb); have n4_ := am (Kd.R_below (by (with_reducible repeat (first | apply Kd.R_alloc | apply Kd.R_drewN | apply Kd.R_drew)); exact HO316.out) hb); have n5_ := am (Kd.S_below (by (with_reducible repeat (first | apply Kd.S_alloc | apply Kd.S_drewN | apply Kd.S_drew)); exact HO319.out) hb); have n6_ := am (Kd.R_below (by (with_reducible repeat (first | apply Kd.R_alloc | apply Kd.R_drewN | apply Kd.R_drew)); exact HO323.out) hb); have n7_ := am (Kd.R_below (by (with_reducible repeat (first | apply Kd.R_alloc | apply Kd.R_drewN | apply Kd.R_drew)); exact HO326.out) hb); have n8_ := am (Kd.S_below (by (with_reducible repeat (first | apply Kd.S_alloc | apply Kd.S_drewN | apply Kd.S_drew)); exact HO329.out) hb); have n9_ := am (Kd.R_below (by (with_reducible repeat (first | apply Kd.R_alloc | apply Kd.R_drewN | apply Kd.R_drew)); exact HO333.out) hb); have n10_ := am (Kd.R_below (by (with_reducible repeat (first | apply Kd.R_alloc | apply Kd.R_drewN | apply Kd.R_drew)); exact HO336.out) hb); have n11_ := am (Kd.S_below (by (with_reducible repeat (first | apply Kd.S_alloc | apply Kd.S_drewN | apply Kd.S_drew)); exact HO339.out) hb); have n12_ := am (blk_below (g := gb298) (o := .cells #[.slice A0_0 l0_0.length c0_0, .slice A0_1 l0_1.length c0_1, .slice A0_2 l0_2.length c0_2] 81 (0, 0)) (by (with_reducible repeat (first | apply qa | apply qb | apply qc)); exact BK298.out) hb); have n13_ := am (blk_below (g := gb299) (o := .cells #[.slice A1_0 l1_0.length c1_0, .slice A1_1 l1_1.length c1_1, .slice A1_2 l1_2.length c1_2] 81 (0, 0)) (by (with_reducible repeat (first | apply qa | apply qb | apply qc)); exact BK299.out) hb); have n14_ := am (blk_below (g := gb330) (o := .cells #[.slice Ao52 t321.length co52, .slice Ao56 t324.length co56, .slice Ao57 t327.length co57] 88 (0, 0)) (by (with_reducible repeat (first | apply qa | apply qb | apply qc)); exact BK330.out) hb); have n15_ := am (below_step (by repeat (first | (with_reducible first | exact HB.out | apply pa | apply pb | apply pc | refine below_set ?_ GE298.out | refine below_set ?_ GE299.out | refine below_set ?_ GE330.out) | exact HB.out)) hb); have n16_ := am (hbox); have n17_ := am ((by rw [hg]; exact (below_size (by repeat (first | (with_reducible first | exact HB.out | apply pa | apply pb | apply pc | refine below_set ?_ GE298.out | refine below_set ?_ GE299.out | refine below_set ?_ GE330.out) | exact HB.out))) : w.heap.size ≤ gb340)); have n18_ := am ((by rw [hg]; exact (below_size (by repeat (first | (with_reducible first | exact HB.out | apply pa | apply pb | apply pc | refine below_set ?_ GE298.out | refine below_set ?_ GE299.out | refine below_set ?_ GE330.out) | exact HB.out))) : w.heap.size ≤ gb340)); have n19_ := am ((by rw [hg]; exact Nat.ne_of_lt (blk_lt (g := gb298) (o := .cells #[.slice A0_0 l0_0.length c0_0, .slice A0_1 l0_1.length c0_1, .slice A0_2 l0_2.length c0_2] 81 (0, 0)) (by (with_reducible repeat (first | apply qa | apply qb | apply qc)); exact BK298.out)) : gb298 ≠ gb340)); have n20_ := am ((by rw [hg]; exact Nat.ne_of_gt (blk_lt (g := gb298) (o := .cells #[.slice A0_0 l0_0.length c0_0, .slice A0_1 l0_1.length c0_1, .slice A0_2 l0_2.length c0_2] 81 (0, 0)) (by (with_reducible repeat (first | apply qa | apply qb | apply qc)); exact BK298.out)) : gb340 ≠ gb298)); have n21_ := am ((by rw [hg]; exact Nat.ne_of_lt (blk_lt (g := gb299) (o := .cells #[.slice A1_0 l1_0.length c1_0, .slice A1_1 l1_1.length c1_1, .slice A1_2 l1_2.length c1_2] 81 (0, 0)) (by (with_reducible repeat (first | apply qa | apply qb | apply qc)); exact BK299.out)) : gb299 ≠ gb340)); have n22_ := am ((by rw [hg]; exact Nat.ne_of_gt (blk_lt (g := gb299) (o := .cells #[.slice A1_0 l1_0.length c1_0, .slice A1_1 l1_1.length c1_1, .slice A1_2 l1_2.length c1_2] 81 (0, 0)) (by (with_reducible repeat (first | apply qa | apply qb | apply qc)); exact BK299.out)) : gb340 ≠ gb299)); have n23_ := am ((by rw [hg]; exact Nat.ne_of_lt (blk_lt (g := gb330) (o := .cells #[.slice Ao52 t321.length co52, .slice Ao56 t324.length co56, .slice Ao57 t327.length co57] 88 (0, 0)) (by (with_reducible repeat (first | apply qa | apply qb | apply qc)); exact BK330.out)) : gb330 ≠ gb340)); have n24_ := am ((by rw [hg]; exact Nat.ne_of_gt (blk_lt (g := gb330) (o := .cells #[.slice Ao52 t321.length co52, .slice Ao56 t324.length co56, .slice Ao57 t327.length co57] 88 (0, 0)) (by (with_reducible repeat (first | apply qa | apply qb | apply qc)); exact BK330.out)) : gb340 ≠ gb330)); clear HO304; clear HO307; clear HO310; clear HO313; clear HO316; clear HO319; clear HO323; clear HO326; clear HO329; clear HO333; clear HO336; clear HO339; clear BK298; clear BK299; clear BK330; clear HB; have HO304 := n0_; have HO307 := n1_; have HO310 := n2_; have HO313 := n3_; have HO316 := n4_; have HO319 := n5_; have HO323 := n6_; have HO326 := n7_; have HO329 := n8_; have HO333 := n9_; have HO336 := n10_; have HO339 := n11_; have BK298 := n12_; have BK299 := n13_; have BK330 := n14_; have HB := n15_; have BK340 := n16_; have GW340 := n17_; have GE340 := n18_; have NB298_340 := n19_; have NB340_298 := n20_; have NB299_340 := n21_; have NB340_299 := n22_; have NB330_340 := n23_; have NB340_330 := n24_; clear n0_ n1_ n2_ n3_ n4_ n5_ n6_ n7_ n8_ n9_ n10_ n11_ n12_ n13_ n14_ n15_ n16_ n17_ n18_ n19_ n20_ n21_ n22_ n23_ n24_; clear hb hbox hg; obtain ⟨Ao61, co61, eo61⟩ := Kd.R_slice HO333.out; subst eo61; have hnb62 := NB340_298.out; have hnc62 := NB298_340.out; have hnb63 := NB340_299.out; have hnc63 := NB299_340.out; have hnb64 := NB340_330.out; have hnc64 := NB330_340.out; have hcz65_0 := bc BK340.out 0 (.slice none 0 0) rfl; have hcz65_1 := bc BK340.out 1 (.slice none 0 0) rfl; have hcz65_2 := bc BK340.out 2 (.slice none 0 0) rfl; have hfz65_0 := bf BK340.out 0; have hfz65_1 := bf BK340.out 1; have hfz65_2 := bf BK340.out 2; obtain ⟨Ao66, co66, eo66⟩ := Kd.R_slice HO336.out; subst eo66; obtain ⟨Ao67, co67, eo67⟩ := Kd.S_slice HO339.out; subst eo67; have hcz68_0 := bc BK330.out 0 (.slice Ao52 t321.length co52) rfl; have hcz68_1 := bc BK330.out 1 (.slice Ao56 t324.length co56) rfl; have hcz68_2 := bc BK330.out 2 (.slice Ao57 t327.length co57) rfl; have hfz68_0 := bf BK330.out 0; have hfz68_1 := bf BK330.out 1; have hfz68_2 := bf BK330.out 2) | ((with_reducible refine gate_callee (f := 54) rfl ?_); refine goesL_ (some 31) rfl rfl Try.func54 (by kernel_rfl) rfl #[.agg #[.slice Ao52 t321.length co52, .slice Ao56 t324.length co56, .slice Ao57 t327.length co57], .agg #[.slice Ao61 t331.length co61, .slice Ao66 t334.length co66, .slice Ao67 t337.length co67]] rfl (by (try simp only [List.map_toArray, List.map_cons, List.map_nil]); first | done | rfl | (simp only [List.length_drop, List.length_take]; rfl)) ?_; (with_reducible refine (impl_ProgSame.calls k _ _ t321 _ _ t324 _ _ t327 _ _ t331 _ _ t334 _ _ t337 t341 _ ?side1 ?side2 ?side3 ?side4 ?side5 ?side6 ?side7 ?side8 ?side9 ?side10 ?side11 ?side12 A24.out).mono ?_); (case side1 => refine (Kd.R_reads' (e := 121) (base := w.heap.size) (ok := fun k_ => ((((((some k_ ≠ (.slice Ao56 t324.length co56 : Value).ownBlock ∧ some k_ ≠ (.slice Ao42 t302.length co42 : Value).ownBlock) ∧ some k_ ≠ (.slice Ao43 t305.length co43 : Value).ownBlock) ∧ some k_ ≠ (.slice Ao45 t311.length co45 : Value).ownBlock) ∧ some k_ ≠ (.slice Ao46 t314.length co46 : Value).ownBlock) ∧ some k_ ≠ (.slice Ao61 t331.length co61 : Value).ownBlock) ∧ some k_ ≠ (.slice Ao66 t334.length co66 : Value).ownBlock)) (n := t321.length) (c := co52) ?_).2.2; exact (by (with_reducible repeat (first | apply Kd.R_alloc | apply Kd.R_drewN | apply Kd.R_drew)); exact (Kd.R_mono (Kd.R_far (p := ⟨gb340, 2, none⟩) (Kd.R_far (p := ⟨gb340, 1, none⟩) (Kd.R_far (p := ⟨gb340, 0, none⟩) (Kd.R_types HO323.out BK340.out (by decide)) (fun _ hk => hk.2) (.slice Ao61 t331.length co61)) (fun _ hk => hk.2) (.slice Ao66 t334.length co66)) (fun _ hk => hk.2) (.slice Ao67 t337.length co67)) (fun _ h_ => h_.1)))); (case side2 => exact (Kd.R_reads' HO323.out).2.1); (case side3 => refine (Kd.R_reads' (e := 36) (base := w.heap.size) (ok := fun k_ => (((True ∧ some k_ ≠ (.slice Ao43 t305.length co43 : Value).ownBlock) ∧ some k_ ≠ (.slice Ao46 t314.length co46 : Value).ownBlock) ∧ some k_ ≠ (.slice Ao66 t334.length co66 : Value).ownBlock)) (n := t324.length) (c := co56) ?_).2.2; exact (by (with_reducible repeat (first | apply Kd.R_alloc | apply Kd.R_drewN | apply Kd.R_drew)); exact (Kd.R_mono (Kd.R_far (p := ⟨gb340, 2, none⟩) (Kd.R_far (p := ⟨gb340, 1, none⟩) (Kd.R_far (p := ⟨gb340, 0, none⟩) (Kd.R_types HO326.out BK340.out (by decide)) (fun _ hk => hk.2) (.slice Ao61 t331.length co61)) (fun _ hk => hk.2) (.slice Ao66 t334.length co66)) (fun _ hk => hk.2) (.slice Ao67 t337.length co67)) (fun _ h_ => h_.1)))); (case side4 => exact (Kd.R_reads' HO326.out).2.1); (case side5 => refine (Kd.S_reads' (e := 124) (base := w.heap.size) (ok := fun k_ => ((((((some k_ ≠ (.slice Ao56 t324.length co56 : Value).ownBlock ∧ some k_ ≠ (.slice Ao43 t305.length co43 : Value).ownBlock) ∧ some k_ ≠ (.slice Ao44 t308.length co44 : Value).ownBlock) ∧ some k_ ≠ (.slice Ao46 t314.length co46 : Value).ownBlock) ∧ some k_ ≠ (.slice Ao47 t317.length co47 : Value).ownBlock) ∧ some k_ ≠ (.slice Ao66 t334.length co66 : Value).ownBlock) ∧ some k_ ≠ (.slice Ao67 t337.length co67 : Value).ownBlock)) (n := t327.length) (c := co57) ?_).2.2; exact (by (with_reducible repeat (first | apply Kd.S_alloc | apply Kd.S_drewN | apply Kd.S_drew)); exact (Kd.S_mono (Kd.S_far (p := ⟨gb340, 2, none⟩) (Kd.S_far (p := ⟨gb340, 1, none⟩) (Kd.S_far (p := ⟨gb340, 0, none⟩) (Kd.S_types HO329.out BK340.out (by decide)) (fun _ hk => hk.2) (.slice Ao61 t331.length co61)) (fun _ hk => hk.2) (.slice Ao66 t334.length co66)) (fun _ hk => hk.2) (.slice Ao67 t337.length co67)) (fun _ h_ => h_.1)))); (case side6 => exact (Kd.S_reads' HO329.out).2.1); (case side7 => refine (Kd.R_reads' (e := 121) (base := w.heap.size) (ok := fun k_ => ((((((some k_ ≠ (.slice Ao66 t334.length co66 : Value).ownBlock ∧ some k_ ≠ (.slice Ao42 t302.length co42 : Value).ownBlock) ∧ some k_ ≠ (.slice Ao43 t305.length co43 : Value).ownBlock) ∧ some k_ ≠ (.slice Ao45 t311.length co45 : Value).ownBlock) ∧ some k_ ≠ (.slice Ao46 t314.length co46 : Value).ownBlock) ∧ some k_ ≠ (.slice Ao52 t321.length co52 : Value).ownBlock) ∧ some k_ ≠ (.slice Ao56 t324.length co56 : Value).ownBlock)) (n := t331.length) (c := co61) ?_).2.2; exact (by (with_reducible repeat (first | apply Kd.R_alloc | apply Kd.R_drewN | apply Kd.R_drew)); exact (Kd.R_mono (Kd.R_far (p := ⟨gb340, 2, none⟩) (Kd.R_far (p := ⟨gb340, 1, none⟩) (Kd.R_far (p := ⟨gb340, 0, none⟩) (Kd.R_types HO333.out BK340.out (by decide)) (fun _ hk => hk.2) (.slice Ao61 t331.length co61)) (fun _ hk => hk.2) (.slice Ao66 t334.length co66)) (fun _ hk => hk.2) (.slice Ao67 t337.length co67)) (fun _ h_ => h_.1)))); (case side8 => exact (Kd.R_reads' HO333.out).2.1); (case side9 => refine (Kd.R_reads' (e := 36) (base := w.heap.size) (ok := fun k_ => (((True ∧ some k_ ≠ (.slice Ao43 t305.length co43 : Value).ownBlock) ∧ some k_ ≠ (.slice Ao46 t314.length co46 : Value).ownBlock) ∧ some k_ ≠ (.slice Ao56 t324.length co56 : Value).ownBlock)) (n := t334.length) (c := co66) ?_).2.2; exact (by (with_reducible repeat (first | apply Kd.R_alloc | apply Kd.R_drewN | apply Kd.R_drew)); exact (Kd.R_mono (Kd.R_far (p := ⟨gb340, 2, none⟩) (Kd.R_far (p := ⟨gb340, 1, none⟩) (Kd.R_far (p := ⟨gb340, 0, none⟩) (Kd.R_types HO336.out BK340.out (by decide)) (fun _ hk => hk.2) (.slice Ao61 t331.length co61)) (fun _ hk => hk.2) (.slice Ao66 t334.length co66)) (fun _ hk => hk.2) (.slice Ao67 t337.length co67)) (fun _ h_ => h_.1)))); (case side10 => exact (Kd.R_reads' HO336.out).2.1); (case side11 => refine (Kd.S_reads' (e := 124) (base := w.heap.size) (ok := fun k_ => ((((((some k_ ≠ (.slice Ao66 t334.length co66 : Value).ownBlock ∧ some k_ ≠ (.slice Ao43 t305.length co43 : Value).ownBlock) ∧ some k_ ≠ (.slice Ao44 t308.length co44 : Value).ownBlock) ∧ some k_ ≠ (.slice Ao46 t314.length co46 : Value).ownBlock) ∧ some k_ ≠ (.slice Ao47 t317.length co47 : Value).ownBlock) ∧ some k_ ≠ (.slice Ao56 t324.length co56 : Value).ownBlock) ∧ some k_ ≠ (.slice Ao57 t327.length co57 : Value).ownBlock)) (n := t337.length) (c := co67) ?_).2.2; exact (by (with_reducible repeat (first | apply Kd.S_alloc | apply Kd.S_drewN | apply Kd.S_drew)); exact (Kd.S_mono (Kd.S_far (p := ⟨gb340, 2, none⟩) (Kd.S_far (p := ⟨gb340, 1, none⟩) (Kd.S_far (p := ⟨gb340, 0, none⟩) (Kd.S_types HO339.out BK340.out (by decide)) (fun _ hk => hk.2) (.slice Ao61 t331.length co61)) (fun _ hk => hk.2) (.slice Ao66 t334.length co66)) (fun _ hk => hk.2) (.slice Ao67 t337.length co67)) (fun _ h_ => h_.1)))); (case side12 => exact (Kd.S_reads' HO339.out).2.1); rintro e w69 ⟨rfl, hb⟩; refine ⟨_, rfl, ?_⟩; have n0_ := am (Kd.R_below (by (with_reducible repeat (first | apply Kd.R_alloc | apply Kd.R_drewN | apply Kd.R_drew)); exact (Kd.R_mono (Kd.R_far (p := ⟨gb340, 2, none⟩) (Kd.R_far (p := ⟨gb340, 1, none⟩) (Kd.R_far (p := ⟨gb340, 0, none⟩) (Kd.R_types HO304.out BK340.out (by decide)) (fun _ hk => hk.2) (.slice Ao61 t331.length co61)) (fun _ hk => hk.2) (.slice Ao66 t334.length co66)) (fun _ hk => hk.2) (.slice Ao67 t337.length co67)) (fun _ h_ => h_.1))) hb); have n1_ := am (Kd.R_below (by (with_reducible repeat (first | apply Kd.R_alloc | apply Kd.R_drewN | apply Kd.R_drew)); exact (Kd.R_mono (Kd.R_far (p := ⟨gb340, 2, none⟩) (Kd.R_far (p := ⟨gb340, 1, none⟩) (Kd.R_far (p := ⟨gb340, 0, none⟩) (Kd.R_types HO307.out BK340.out (by decide)) (fun _ hk => hk.2) (.slice Ao61 t331.length co61)) (fun _ hk => hk.2) (.slice Ao66 t334.length co66)) (fun _ hk => hk.2) (.slice Ao67 t337.length co67)) (fun _ h_ => h_.1))) hb); have n2_ := am (Kd.S_below (by (with_reducible repeat (first | apply Kd.S_alloc | apply Kd.S_drewN | apply Kd.S_drew)); exact (Kd.S_mono (Kd.S_far (p := ⟨gb340, 2, none⟩) (Kd.S_far (p := ⟨gb340, 1, none⟩) (Kd.S_far (p := ⟨gb340, 0, none⟩) (Kd.S_types HO310.out BK340.out (by decide)) (fun _ hk => hk.2) (.slice Ao61 t331.length co61)) (fun _ hk => hk.2) (.slice Ao66 t334.length co66)) (fun _ hk => hk.2) (.slice Ao67 t337.length co67)) (fun _ h_ => h_.1))) hb); have n3_ := am (Kd.R_below (by (with_reducible repeat (first | apply Kd.R_alloc | apply Kd.R_drewN | apply Kd.R_drew)); exact (Kd.R_mono (Kd.R_far (p := ⟨gb340, 2, none⟩) (Kd.R_far (p := ⟨gb340, 1, none⟩) (Kd.R_far (p := ⟨gb340, 0, none⟩) (Kd.R_types HO313.out BK340.out (by decide)) (fun _ hk => hk.2) (.slice Ao61 t331.length co61)) (fun _ hk => hk.2) (.slice Ao66 t334.length co66)) (fun _ hk => hk.2) (.slice Ao67 t337.length co67)) (fun _ h_ => h_.1))) hb); have n4_ := am (Kd.R_below (by (with_reducible repeat (first | apply Kd.R_alloc | apply Kd.R_drewN | apply Kd.R_drew)); exact (Kd.R_mono (Kd.R_far (p := ⟨gb340, 2, none⟩) (Kd.R_far (p := ⟨gb340, 1, none⟩) (Kd.R_far (p := ⟨gb340, 0, none⟩) (Kd.R_types HO316.out BK340.out (by decide)) (fun _ hk => hk.2) (.slice Ao61 t331.length co61)) (fun _ hk => hk.2) (.slice Ao66 t334.length co66)) (fun _ hk => hk.2) (.slice Ao67 t337.length co67)) (fun _ h_ => h_.1))) hb); have n5_ := am (Kd.S_below (by (with_reducible repeat (first | apply Kd.S_alloc | apply Kd.S_drewN | apply Kd.S_drew)); exact (Kd.S_mono (Kd.S_far (p := ⟨gb340, 2, none⟩) (Kd.S_far (p := ⟨gb340, 1, none⟩) (Kd.S_far (p := ⟨gb340, 0, none⟩) (Kd.S_types HO319.out BK340.out (by decide)) (fun _ hk => hk.2) (.slice Ao61 t331.length co61)) (fun _ hk => hk.2) (.slice Ao66 t334.length co66)) (fun _ hk => hk.2) (.slice Ao67 t337.length co67)) (fun _ h_ => h_.1))) hb); have n6_ := am (Kd.R_below (by (with_reducible repeat (first | apply Kd.R_alloc | apply Kd.R_drewN | apply Kd.R_drew)); exact (Kd.R_mono (Kd.R_far (p := ⟨gb340, 2, none⟩) (Kd.R_far (p := ⟨gb340, 1, none⟩) (Kd.R_far (p := ⟨gb340, 0, none⟩) (Kd.R_types HO323.out BK340.out (by decide)) (fun _ hk => hk.2) (.slice Ao61 t331.length co61)) (fun _ hk => hk.2) (.slice Ao66 t334.length co66)) (fun _ hk => hk.2) (.slice Ao67 t337.length co67)) (fun _ h_ => h_.1))) hb); have n7_ := am (Kd.R_below (by (with_reducible repeat (first | apply Kd.R_alloc | apply Kd.R_drewN | apply Kd.R_drew)); exact (Kd.R_mono (Kd.R_far (p := ⟨gb340, 2, none⟩) (Kd.R_far (p := ⟨gb340, 1, none⟩) (Kd.R_far (p := ⟨gb340, 0, none⟩) (Kd.R_types HO326.out BK340.out (by decide)) (fun _ hk => hk.2) (.slice Ao61 t331.length co61)) (fun _ hk => hk.2) (.slice Ao66 t334.length co66)) (fun _ hk => hk.2) (.slice Ao67 t337.length co67)) (fun _ h_ => h_.1))) hb); have n8_ := am (Kd.S_below (by (with_reducible repeat (first | apply Kd.S_alloc | apply Kd.S_drewN | apply Kd.S_drew)); exact (Kd.S_mono (Kd.S_far (p := ⟨gb340, 2, none⟩) (Kd.S_far (p := ⟨gb340, 1, none⟩) (Kd.S_far (p := ⟨gb340, 0, none⟩) (Kd.S_types HO329.out BK340.out (by decide)) (fun _ hk => hk.2) (.slice Ao61 t331.length co61)) (fun _ hk => hk.2) (.slice Ao66 t334.length co66)) (fun _ hk => hk.2) (.slice Ao67 t337.length co67)) (fun _ h_ => h_.1))) hb); have n9_ := am (Kd.R_below (by (with_reducible repeat (first | apply Kd.R_alloc | apply Kd.R_drewN | apply Kd.R_drew)); exact (Kd.R_mono (Kd.R_far (p := ⟨gb340, 2, none⟩) (Kd.R_far (p := ⟨gb340, 1, none⟩) (Kd.R_far (p := ⟨gb340, 0, none⟩) (Kd.R_types HO333.out BK340.out (by decide)) (fun _ hk => hk.2) (.slice Ao61 t331.length co61)) (fun _ hk => hk.2) (.slice Ao66 t334.length co66)) (fun _ hk => hk.2) (.slice Ao67 t337.length co67)) (fun _ h_ => h_.1))) hb); have n10_ := am (Kd.R_below (by (with_reducible repeat (first | apply Kd.R_alloc | apply Kd.R_drewN | apply Kd.R_drew)); exact (Kd.R_mono (Kd.R_far (p := ⟨gb340, 2, none⟩) (Kd.R_far (p := ⟨gb340, 1, none⟩) (Kd.R_far (p := ⟨gb340, 0, none⟩) (Kd.R_types HO336.out BK340.out (by decide)) (fun _ hk => hk.2) (.slice Ao61 t331.length co61)) (fun _ hk => hk.2) (.slice Ao66 t334.length co66)) (fun _ hk => hk.2) (.slice Ao67 t337.length co67)) (fun _ h_ => h_.1))) hb); have n11_ := am (Kd.S_below (by (with_reducible repeat (first | apply Kd.S_alloc | apply Kd.S_drewN | apply Kd.S_drew)); exact (Kd.S_mono (Kd.S_far (p := ⟨gb340, 2, none⟩) (Kd.S_far (p := ⟨gb340, 1, none⟩) (Kd.S_far (p := ⟨gb340, 0, none⟩) (Kd.S_types HO339.out BK340.out (by decide)) (fun _ hk => hk.2) (.slice Ao61 t331.length co61)) (fun _ hk => hk.2) (.slice Ao66 t334.length co66)) (fun _ hk => hk.2) (.slice Ao67 t337.length co67)) (fun _ h_ => h_.1))) hb); have n12_ := am (blk_below (g := gb298) (o := .cells #[.slice A0_0 l0_0.length c0_0, .slice A0_1 l0_1.length c0_1, .slice A0_2 l0_2.length c0_2] 81 (0, 0)) (by (with_reducible repeat (first | apply qa | apply qb | apply qc)); refine qf ?_ NB298_340.out _; (with_reducible repeat (first | apply qa | apply qb | apply qc)); refine qf ?_ NB298_340.out _; (with_reducible repeat (first | apply qa | apply qb | apply qc)); refine qf ?_ NB298_340.out _; (with_reducible repeat (first | apply qa | apply qb | apply qc)); exact BK298.out) hb); have n13_ := am (blk_below (g := gb299) (o := .cells #[.slice A1_0 l1_0.length c1_0, .slice A1_1 l1_1.length c1_1, .slice A1_2 l1_2.length c1_2] 81 (0, 0)) (by (with_reducible repeat (first | apply qa | apply qb | apply qc)); refine qf ?_ NB299_340.out _; (with_reducible repeat (first | apply qa | apply qb | apply qc)); refine qf ?_ NB299_340.out _; (with_reducible repeat (first | apply qa | apply qb | apply qc)); refine qf ?_ NB299_340.out _; (with_reducible repeat (first | apply qa | apply qb | apply qc)); exact BK299.out) hb); have n14_ := am (blk_below (g := gb330) (o := .cells #[.slice Ao52 t321.length co52, .slice Ao56 t324.length co56, .slice Ao57 t327.length co57] 88 (0, 0)) (by (with_reducible repeat (first | apply qa | apply qb | apply qc)); refine qf ?_ NB330_340.out _; (with_reducible repeat (first | apply qa | apply qb | apply qc)); refine qf ?_ NB330_340.out _; (with_reducible repeat (first | apply qa | apply qb | apply qc)); refine qf ?_ NB330_340.out _; (with_reducible repeat (first | apply qa | apply qb | apply qc)); exact BK330.out) hb); have n15_ := am (blk_below (g := gb340) (o := .cells #[.slice Ao61 t331.length co61, .slice Ao66 t334.length co66, .slice Ao67 t337.length co67] 88 (0, 0)) (by (with_reducible repeat (first | apply qa | apply qb | apply qc)); refine blk_put (cs := #[.slice Ao61 t331.length co61, .slice Ao66 t334.length co66, .slice none 0 0]) ?_ 2 _ rfl; (with_reducible repeat (first | apply qa | apply qb | apply qc)); refine blk_put (cs := #[.slice Ao61 t331.length co61, .slice none 0 0, .slice none 0 0]) ?_ 1 _ rfl; (with_reducible repeat (first | apply qa | apply qb | apply qc)); refine blk_put (cs := #[.slice none 0 0, .slice none 0 0, .slice none 0 0]) ?_ 0 _ rfl; (with_reducible repeat (first | apply qa | apply qb | apply qc)); exact BK340.out) hb); have n16_ := am (below_step (by repeat (first | (with_reducible first | exact HB.out | apply pa | apply pb | apply pc | refine below_set ?_ GE298.out | refine below_set ?_ GE299.out | refine below_set ?_ GE330.out | refine below_set ?_ GE340.out) | exact HB.out)) hb); clear HO304; clear HO307; clear HO310; clear HO313; clear HO316; clear HO319; clear HO323; clear HO326; clear HO329; clear HO333; clear HO336; clear HO339; clear BK298; clear BK299; clear BK330; clear BK340; clear HB; have HO304 := n0_; have HO307 := n1_; have HO310 := n2_; have HO313 := n3_; have HO316 := n4_; have HO319 := n5_; have HO323 := n6_; have HO326 := n7_; have HO329 := n8_; have HO333 := n9_; have HO336 := n10_; have HO339 := n11_; have BK298 := n12_; have BK299 := n13_; have BK330 := n14_; have BK340 := n15_; have HB := n16_; clear n0_ n1_ n2_ n3_ n4_ n5_ n6_ n7_ n8_ n9_ n10_ n11_ n12_ n13_ n14_ n15_ n16_; (try clear hb); (try clear hb2); (try clear hk); (try clear hi)))
            have n0_ := am (Kd.R_drew HO304.out)
            have n1_ := am (Kd.R_drew HO307.out)
            have n2_ := am (Kd.S_drew HO310.out)
            have n3_ := am (Kd.R_drew HO313.out)
            have n4_ := am (Kd.R_drew HO316.out)
            have n5_ := am (Kd.S_drew HO319.out)
            have n6_ := am (Kd.R_drew HO323.out)
            have n7_ := am (Kd.R_drew HO326.out)
            have n8_ := am (Kd.S_drew HO329.out)
            have n9_ := am (Kd.R_drew HO333.out)
            have n10_ := am (Kd.R_drew HO336.out)
            have n11_ := am (Kd.S_drew HO339.out)
            have n12_ := am (blk_drew BK298.out)
            have n13_ := am (blk_drew BK299.out)
            have n14_ := am (blk_drew BK330.out)
            have n15_ := am (blk_drew BK340.out)
            have n16_ := am (below_drew1 HB.out)
            clear HO304
            clear HO307
            clear HO310
            clear HO313
            clear HO316
            clear HO319
            clear HO323
            clear HO326
            clear HO329
            clear HO333
            clear HO336
            clear HO339
            clear BK298
            clear BK299
            clear BK330
            clear BK340
            clear HB
            have HO304 := n0_
            have HO307 := n1_
            have HO310 := n2_
            have HO313 := n3_
            have HO316 := n4_
            have HO319 := n5_
            have HO323 := n6_
            have HO326 := n7_
            have HO329 := n8_
            have HO333 := n9_
            have HO336 := n10_
            have HO339 := n11_
            have BK298 := n12_
            have BK299 := n13_
            have BK330 := n14_
            have BK340 := n15_
            have HB := n16_
            clear n0_ n1_ n2_ n3_ n4_ n5_ n6_ n7_ n8_ n9_ n10_ n11_ n12_ n13_ n14_ n15_ n16_
            refine start_ (n := 5) (S := fun w' => w'.cell? ⟨gb330, 0, none⟩ = some (.slice Ao52 t321.length co52) ∧ w'.cell? ⟨gb330, 1, none⟩ = some (.slice Ao56 t324.length co56) ∧ w'.cell? ⟨gb330, 2, none⟩ = some (.slice Ao57 t327.length co57) ∧ w'.cell? ⟨gb298, 0, none⟩ = some (.slice A0_0 l0_0.length c0_0) ∧ w'.cell? ⟨gb298, 1, none⟩ = some (.slice A0_1 l0_1.length c0_1) ∧ w'.cell? ⟨gb298, 2, none⟩ = some (.slice A0_2 l0_2.length c0_2)) (ds := []) #[false, false, false, false, false] (by kernel_rfl) rfl rfl ⟨(blk_cell BK330.out 0).trans rfl, (blk_cell BK330.out 1).trans rfl, (blk_cell BK330.out 2).trans rfl, (blk_cell BK298.out 0).trans rfl, (blk_cell BK298.out 1).trans rfl, (blk_cell BK298.out 2).trans rfl⟩ (fun hHeld => ?_)
            generalize w69.drew = w70 at HO304 HO307 HO310 HO313 HO316 HO319 HO323 HO326 HO329 HO333 HO336 HO339 BK298 BK299 BK330 BK340 HB hHeld ⊢
            refine take_ (i := 0) (N := some 35) (v := ?_) (a' := ?_) #[true, false, false, false, false] rfl rfl (by kernel_rfl) (fun _ _ _ h => h) (Or.inl ⟨by rfl, ?_⟩) hHeld ?_ ?_
            rotate_left
            · rintro w' ⟨s0, s1, s2, s3, s4, s5⟩
              go_simp
              with_reducible rfl
            rotate_left
            · simp only [Act.put, List.setIfInBounds_toArray, List.set_cons_zero, List.set_cons_succ, i64_w, i32_w]
              rfl
            refine take_ (i := 1) (N := some 36) (v := ?_) (a' := ?_) #[true, true, false, false, false] rfl rfl (by kernel_rfl) (fun _ _ _ h => h) (Or.inl ⟨by rfl, ?_⟩) hHeld ?_ ?_
            rotate_left
            · rintro w' ⟨s0, s1, s2, s3, s4, s5⟩
              go_simp
              with_reducible rfl
            rotate_left
            · simp only [Act.put, List.setIfInBounds_toArray, List.set_cons_zero, List.set_cons_succ, i64_w, i32_w]
              rfl
            refine one_ (i := 2) (N := some 37) #[true, true, true, false, false] rfl rfl (by kernel_rfl) (by decide) (fun K hK => ?_)
            refine goes_ Try.func53 (by kernel_rfl) rfl #[.agg #[.slice A0_0 l0_0.length c0_0, .slice A0_1 l0_1.length c0_1, .slice A0_2 l0_2.length c0_2]] (by rfl) rfl rfl (by (try simp only [List.map_toArray, List.map_cons, List.map_nil]); first | done | rfl | (simp only [List.length_drop, List.length_take]; rfl)) ?_
            with_reducible refine (laws_toProg.calls k _ _ l0_0 _ _ l0_1 _ _ l0_2 t342 t345 t348 _ ?side1 ?side2 ?side3 ?side4 ?side5 ?side6 A26.out).mono ?_
            (case side1 => repeat (first | exact (Kd.C_below HR0_0.out HB.out) | (with_reducible refine Kd.C_alloc ?_ _) | (with_reducible refine Kd.C_drewN ?_ _) | (with_reducible refine Kd.C_drew ?_)))
            (case side2 => exact HC0_0.out)
            (case side3 => repeat (first | exact (Kd.C_below HR0_1.out HB.out) | (with_reducible refine Kd.C_alloc ?_ _) | (with_reducible refine Kd.C_drewN ?_ _) | (with_reducible refine Kd.C_drew ?_)))
            (case side4 => exact HC0_1.out)
            (case side5 => repeat (first | exact (Kd.C_below HR0_2.out HB.out) | (with_reducible refine Kd.C_alloc ?_ _) | (with_reducible refine Kd.C_drewN ?_ _) | (with_reducible refine Kd.C_drew ?_)))
            (case side6 => exact HC0_2.out)
            rintro e w71 ⟨v343, v346, v349, rfl, ho0, ho1, ho2, hb⟩
            refine ⟨_, rfl, ?_⟩
            have n0_ := am (Kd.R_mono (Kd.R_told (Kd.R_told (Kd.R_old (by (with_reducible repeat (first | apply Kd.R_alloc | apply Kd.R_drewN | apply Kd.R_drew)); exact HO304.out) hb) (Kd.R_base ho0)) (Kd.R_base ho1)) (fun _ h_ => h_.1))
            have n1_ := am (Kd.R_elder' (by (with_reducible repeat (first | apply Kd.R_alloc | apply Kd.R_drewN | apply Kd.R_drew)); exact HO307.out) (Kd.R_base ho1) hb)
            have n2_ := am (Kd.S_mono (Kd.S_told (Kd.S_told (Kd.S_old (by (with_reducible repeat (first | apply Kd.S_alloc | apply Kd.S_drewN | apply Kd.S_drew)); exact HO310.out) hb) (Kd.R_base ho1)) (Kd.S_base ho2)) (fun _ h_ => h_.1))
            have n3_ := am (Kd.R_mono (Kd.R_told (Kd.R_told (Kd.R_old (by (with_reducible repeat (first | apply Kd.R_alloc | apply Kd.R_drewN | apply Kd.R_drew)); exact HO313.out) hb) (Kd.R_base ho0)) (Kd.R_base ho1)) (fun _ h_ => h_.1))
            have n4_ := am (Kd.R_elder' (by (with_reducible repeat (first | apply Kd.R_alloc | apply Kd.R_drewN | apply Kd.R_drew)); exact HO316.out) (Kd.R_base ho1) hb)
            have n5_ := am (Kd.S_mono (Kd.S_told (Kd.S_told (Kd.S_old (by (with_reducible repeat (first | apply Kd.S_alloc | apply Kd.S_drewN | apply Kd.S_drew)); exact HO319.out) hb) (Kd.R_base ho1)) (Kd.S_base ho2)) (fun _ h_ => h_.1))
            have n6_ := am (Kd.R_mono (Kd.R_told (Kd.R_told (Kd.R_old (by (with_reducible repeat (first | apply Kd.R_alloc | apply Kd.R_drewN | apply Kd.R_drew)); exact HO323.out) hb) (Kd.R_base ho0)) (Kd.R_base ho1)) (fun _ h_ => h_.1))
            have n7_ := am (Kd.R_elder' (by (with_reducible repeat (first | apply Kd.R_alloc | apply Kd.R_drewN | apply Kd.R_drew)); exact HO326.out) (Kd.R_base ho1) hb)
            have n8_ := am (Kd.S_mono (Kd.S_told (Kd.S_told (Kd.S_old (by (with_reducible repeat (first | apply Kd.S_alloc | apply Kd.S_drewN | apply Kd.S_drew)); exact HO329.out) hb) (Kd.R_base ho1)) (Kd.S_base ho2)) (fun _ h_ => h_.1))
            have n9_ := am (Kd.R_mono (Kd.R_told (Kd.R_told (Kd.R_old (by (with_reducible repeat (first | apply Kd.R_alloc | apply Kd.R_drewN | apply Kd.R_drew)); exact HO333.out) hb) (Kd.R_base ho0)) (Kd.R_base ho1)) (fun _ h_ => h_.1))
            have n10_ := am (Kd.R_elder' (by (with_reducible repeat (first | apply Kd.R_alloc | apply Kd.R_drewN | apply Kd.R_drew)); exact HO336.out) (Kd.R_base ho1) hb)
            have n11_ := am (Kd.S_mono (Kd.S_told (Kd.S_told (Kd.S_old (by (with_reducible repeat (first | apply Kd.S_alloc | apply Kd.S_drewN | apply Kd.S_drew)); exact HO339.out) hb) (Kd.R_base ho1)) (Kd.S_base ho2)) (fun _ h_ => h_.1))
            have n12_ := am (Kd.R_lower (Kd.R_new' (Kd.R_new' (Kd.R_new' (Kd.R_new' (Kd.R_new' (Kd.R_new' (Kd.R_new' (Kd.R_new' ho0 (Kd.R_lt (by (with_reducible repeat (first | apply Kd.R_alloc | apply Kd.R_drewN | apply Kd.R_drew)); exact HO304.out))) (Kd.R_lt (by (with_reducible repeat (first | apply Kd.R_alloc | apply Kd.R_drewN | apply Kd.R_drew)); exact HO307.out))) (Kd.R_lt (by (with_reducible repeat (first | apply Kd.R_alloc | apply Kd.R_drewN | apply Kd.R_drew)); exact HO313.out))) (Kd.R_lt (by (with_reducible repeat (first | apply Kd.R_alloc | apply Kd.R_drewN | apply Kd.R_drew)); exact HO316.out))) (Kd.R_lt (by (with_reducible repeat (first | apply Kd.R_alloc | apply Kd.R_drewN | apply Kd.R_drew)); exact HO323.out))) (Kd.R_lt (by (with_reducible repeat (first | apply Kd.R_alloc | apply Kd.R_drewN | apply Kd.R_drew)); exact HO326.out))) (Kd.R_lt (by (with_reducible repeat (first | apply Kd.R_alloc | apply Kd.R_drewN | apply Kd.R_drew)); exact HO333.out))) (Kd.R_lt (by (with_reducible repeat (first | apply Kd.R_alloc | apply Kd.R_drewN | apply Kd.R_drew)); exact HO336.out))) (below_size (by repeat (first | (with_reducible first | exact HB.out | apply pa | apply pb | apply pc | refine below_set ?_ GE298.out | refine below_set ?_ GE299.out | refine below_set ?_ GE330.out | refine below_set ?_ GE340.out) | exact HB.out))))
            have n13_ := am (Kd.R_lower (Kd.R_new' (Kd.R_new' (Kd.R_new' (Kd.R_new' ho1 (Kd.R_lt (by (with_reducible repeat (first | apply Kd.R_alloc | apply Kd.R_drewN | apply Kd.R_drew)); exact HO307.out))) (Kd.R_lt (by (with_reducible repeat (first | apply Kd.R_alloc | apply Kd.R_drewN | apply Kd.R_drew)); exact HO316.out))) (Kd.R_lt (by (with_reducible repeat (first | apply Kd.R_alloc | apply Kd.R_drewN | apply Kd.R_drew)); exact HO326.out))) (Kd.R_lt (by (with_reducible repeat (first | apply Kd.R_alloc | apply Kd.R_drewN | apply Kd.R_drew)); exact HO336.out))) (below_size (by repeat (first | (with_reducible first | exact HB.out | apply pa | apply pb | apply pc | refine below_set ?_ GE298.out | refine below_set ?_ GE299.out | refine below_set ?_ GE330.out | refine below_set ?_ GE340.out) | exact HB.out))))
            have n14_ := am (Kd.S_lower (Kd.S_new' (Kd.S_new' (Kd.S_new' (Kd.S_new' (Kd.S_new' (Kd.S_new' (Kd.S_new' (Kd.S_new' ho2 (Kd.R_lt (by (with_reducible repeat (first | apply Kd.R_alloc | apply Kd.R_drewN | apply Kd.R_drew)); exact HO307.out))) (Kd.S_lt (by (with_reducible repeat (first | apply Kd.S_alloc | apply Kd.S_drewN | apply Kd.S_drew)); exact HO310.out))) (Kd.R_lt (by (with_reducible repeat (first | apply Kd.R_alloc | apply Kd.R_drewN | apply Kd.R_drew)); exact HO316.out))) (Kd.S_lt (by (with_reducible repeat (first | apply Kd.S_alloc | apply Kd.S_drewN | apply Kd.S_drew)); exact HO319.out))) (Kd.R_lt (by (with_reducible repeat (first | apply Kd.R_alloc | apply Kd.R_drewN | apply Kd.R_drew)); exact HO326.out))) (Kd.S_lt (by (with_reducible repeat (first | apply Kd.S_alloc | apply Kd.S_drewN | apply Kd.S_drew)); exact HO329.out))) (Kd.R_lt (by (with_reducible repeat (first | apply Kd.R_alloc | apply Kd.R_drewN | apply Kd.R_drew)); exact HO336.out))) (Kd.S_lt (by (with_reducible repeat (first | apply Kd.S_alloc | apply Kd.S_drewN | apply Kd.S_drew)); exact HO339.out))) (below_size (by repeat (first | (with_reducible first | exact HB.out | apply pa | apply pb | apply pc | refine below_set ?_ GE298.out | refine below_set ?_ GE299.out | refine below_set ?_ GE330.out | refine below_set ?_ GE340.out) | exact HB.out))))
            have n15_ := am (blk_below (g := gb298) (o := .cells #[.slice A0_0 l0_0.length c0_0, .slice A0_1 l0_1.length c0_1, .slice A0_2 l0_2.length c0_2] 81 (0, 0)) (by (with_reducible repeat (first | apply qa | apply qb | apply qc)); exact BK298.out) hb)
            have n16_ := am (blk_below (g := gb299) (o := .cells #[.slice A1_0 l1_0.length c1_0, .slice A1_1 l1_1.length c1_1, .slice A1_2 l1_2.length c1_2] 81 (0, 0)) (by (with_reducible repeat (first | apply qa | apply qb | apply qc)); exact BK299.out) hb)
            have n17_ := am (blk_below (g := gb330) (o := .cells #[.slice Ao52 t321.length co52, .slice Ao56 t324.length co56, .slice Ao57 t327.length co57] 88 (0, 0)) (by (with_reducible repeat (first | apply qa | apply qb | apply qc)); exact BK330.out) hb)
            have n18_ := am (blk_below (g := gb340) (o := .cells #[.slice Ao61 t331.length co61, .slice Ao66 t334.length co66, .slice Ao67 t337.length co67] 88 (0, 0)) (by (with_reducible repeat (first | apply qa | apply qb | apply qc)); exact BK340.out) hb)
            have n19_ := am (below_step (by repeat (first | (with_reducible first | exact HB.out | apply pa | apply pb | apply pc | refine below_set ?_ GE298.out | refine below_set ?_ GE299.out | refine below_set ?_ GE330.out | refine below_set ?_ GE340.out) | exact HB.out)) hb)
            clear HO304
            clear HO307
            clear HO310
            clear HO313
            clear HO316
            clear HO319
            clear HO323
            clear HO326
            clear HO329
            clear HO333
            clear HO336
            clear HO339
            clear BK298
            clear BK299
            clear BK330
            clear BK340
            clear HB
            have HO304 := n0_
            have HO307 := n1_
            have HO310 := n2_
            have HO313 := n3_
            have HO316 := n4_
            have HO319 := n5_
            have HO323 := n6_
            have HO326 := n7_
            have HO329 := n8_
            have HO333 := n9_
            have HO336 := n10_
            have HO339 := n11_
            have HO344 := n12_
            have HO347 := n13_
            have HO350 := n14_
            have BK298 := n15_
            have BK299 := n16_
            have BK330 := n17_
            have BK340 := n18_
            have HB := n19_
            clear n0_ n1_ n2_ n3_ n4_ n5_ n6_ n7_ n8_ n9_ n10_ n11_ n12_ n13_ n14_ n15_ n16_ n17_ n18_ n19_
            (try clear hb)
            (try clear hb2)
            (try clear hk)
            (try clear hi)
            (try clear ho0)
            (try clear ho1)
            (try clear ho2)
            obtain ⟨Ao72, co72, eo72⟩ := Kd.R_slice HO344.out
            (first | subst eo72 | (injection eo72 with f1_ f2_ f3_; have f4_ := f1_.symm; have f5_ := f3_.symm; clear f1_ f2_ f3_; subst f4_; subst f5_))
            obtain ⟨Ao73, co73, eo73⟩ := Kd.R_slice HO347.out
            (first | subst eo73 | (injection eo73 with f1_ f2_ f3_; have f4_ := f1_.symm; have f5_ := f3_.symm; clear f1_ f2_ f3_; subst f4_; subst f5_))
            obtain ⟨Ao74, co74, eo74⟩ := Kd.S_slice HO350.out
            (first | subst eo74 | (injection eo74 with f1_ f2_ f3_; have f4_ := f1_.symm; have f5_ := f3_.symm; clear f1_ f2_ f3_; subst f4_; subst f5_))
            refine hK.out _ _ ⟨(blk_cell BK330.out 0).trans rfl, (blk_cell BK330.out 1).trans rfl, (blk_cell BK330.out 2).trans rfl, (blk_cell BK298.out 0).trans rfl, (blk_cell BK298.out 1).trans rfl, (blk_cell BK298.out 2).trans rfl⟩ (fun hHeld => ?_)
            clear hK K
            refine norm_ (a' := ?_) ?_ ?_
            rotate_left
            · show Act.put _ (some 37) _ = _
              simp only [Act.put, List.setIfInBounds_toArray, List.set_cons_zero, List.set_cons_succ, i64_w, i32_w]
              rfl
            refine one_ (i := 3) (N := some 38) #[true, true, true, true, false] rfl rfl (by kernel_rfl) (by decide) (fun K hK => ?_)
            refine goes_ Try.func55 (by kernel_rfl) rfl #[.agg #[.slice Ao52 t321.length co52, .slice Ao56 t324.length co56, .slice Ao57 t327.length co57], .agg #[.slice Ao72 t342.length co72, .slice Ao73 t345.length co73, .slice Ao74 t348.length co74]] (by rfl) rfl rfl (by (try simp only [List.map_toArray, List.map_cons, List.map_nil]); first | done | rfl | (simp only [List.length_drop, List.length_take]; rfl)) ?_
            with_reducible refine (laws_eqProg.calls k _ _ t321 _ _ t324 _ _ t327 _ _ t342 _ _ t345 _ _ t348 true _ ?side1 ?side2 ?side3 ?side4 ?side5 ?side6 ?side7 ?side8 ?side9 ?side10 ?side11 ?side12 A27.out).mono ?_
            (case side1 => repeat (first | exact (Kd.R_reads' HO323.out).2.2 | (with_reducible refine Kd.C_alloc ?_ _) | (with_reducible refine Kd.C_drewN ?_ _) | (with_reducible refine Kd.C_drew ?_)))
            (case side2 => exact (Kd.R_reads' HO323.out).2.1)
            (case side3 => repeat (first | exact (Kd.R_reads' HO326.out).2.2 | (with_reducible refine Kd.C_alloc ?_ _) | (with_reducible refine Kd.C_drewN ?_ _) | (with_reducible refine Kd.C_drew ?_)))
            (case side4 => exact (Kd.R_reads' HO326.out).2.1)
            (case side5 => repeat (first | exact (Kd.S_reads' HO329.out).2.2 | (with_reducible refine Kd.C_alloc ?_ _) | (with_reducible refine Kd.C_drewN ?_ _) | (with_reducible refine Kd.C_drew ?_)))
            (case side6 => exact (Kd.S_reads' HO329.out).2.1)
            (case side7 => repeat (first | exact (Kd.R_reads' HO344.out).2.2 | (with_reducible refine Kd.C_alloc ?_ _) | (with_reducible refine Kd.C_drewN ?_ _) | (with_reducible refine Kd.C_drew ?_)))
            (case side8 => exact (Kd.R_reads' HO344.out).2.1)
            (case side9 => repeat (first | exact (Kd.R_reads' HO347.out).2.2 | (with_reducible refine Kd.C_alloc ?_ _) | (with_reducible refine Kd.C_drewN ?_ _) | (with_reducible refine Kd.C_drew ?_)))
            (case side10 => exact (Kd.R_reads' HO347.out).2.1)
            (case side11 => repeat (first | exact (Kd.S_reads' HO350.out).2.2 | (with_reducible refine Kd.C_alloc ?_ _) | (with_reducible refine Kd.C_drewN ?_ _) | (with_reducible refine Kd.C_drew ?_)))
            (case side12 => exact (Kd.S_reads' HO350.out).2.1)
            rintro e w75 ⟨rfl, hb⟩
            refine ⟨_, rfl, ?_⟩
            have n0_ := am (Kd.R_below (by (with_reducible repeat (first | apply Kd.R_alloc | apply Kd.R_drewN | apply Kd.R_drew)); exact HO304.out) hb)
            have n1_ := am (Kd.R_below (by (with_reducible repeat (first | apply Kd.R_alloc | apply Kd.R_drewN | apply Kd.R_drew)); exact HO307.out) hb)
            have n2_ := am (Kd.S_below (by (with_reducible repeat (first | apply Kd.S_alloc | apply Kd.S_drewN | apply Kd.S_drew)); exact HO310.out) hb)
            have n3_ := am (Kd.R_below (by (with_reducible repeat (first | apply Kd.R_alloc | apply Kd.R_drewN | apply Kd.R_drew)); exact HO313.out) hb)
            have n4_ := am (Kd.R_below (by (with_reducible repeat (first | apply Kd.R_alloc | apply Kd.R_drewN | apply Kd.R_drew)); exact HO316.out) hb)
            have n5_ := am (Kd.S_below (by (with_reducible repeat (first | apply Kd.S_alloc | apply Kd.S_drewN | apply Kd.S_drew)); exact HO319.out) hb)
            have n6_ := am (Kd.R_below (by (with_reducible repeat (first | apply Kd.R_alloc | apply Kd.R_drewN | apply Kd.R_drew)); exact HO323.out) hb)
            have n7_ := am (Kd.R_below (by (with_reducible repeat (first | apply Kd.R_alloc | apply Kd.R_drewN | apply Kd.R_drew)); exact HO326.out) hb)
            have n8_ := am (Kd.S_below (by (with_reducible repeat (first | apply Kd.S_alloc | apply Kd.S_drewN | apply Kd.S_drew)); exact HO329.out) hb)
            have n9_ := am (Kd.R_below (by (with_reducible repeat (first | apply Kd.R_alloc | apply Kd.R_drewN | apply Kd.R_drew)); exact HO333.out) hb)
            have n10_ := am (Kd.R_below (by (with_reducible repeat (first | apply Kd.R_alloc | apply Kd.R_drewN | apply Kd.R_drew)); exact HO336.out) hb)
            have n11_ := am (Kd.S_below (by (with_reducible repeat (first | apply Kd.S_alloc | apply Kd.S_drewN | apply Kd.S_drew)); exact HO339.out) hb)
            have n12_ := am (Kd.R_below (by (with_reducible repeat (first | apply Kd.R_alloc | apply Kd.R_drewN | apply Kd.R_drew)); exact HO344.out) hb)
            have n13_ := am (Kd.R_below (by (with_reducible repeat (first | apply Kd.R_alloc | apply Kd.R_drewN | apply Kd.R_drew)); exact HO347.out) hb)
            have n14_ := am (Kd.S_below (by (with_reducible repeat (first | apply Kd.S_alloc | apply Kd.S_drewN | apply Kd.S_drew)); exact HO350.out) hb)
            have n15_ := am (blk_below (g := gb298) (o := .cells #[.slice A0_0 l0_0.length c0_0, .slice A0_1 l0_1.length c0_1, .slice A0_2 l0_2.length c0_2] 81 (0, 0)) (by (with_reducible repeat (first | apply qa | apply qb | apply qc)); exact BK298.out) hb)
            have n16_ := am (blk_below (g := gb299) (o := .cells #[.slice A1_0 l1_0.length c1_0, .slice A1_1 l1_1.length c1_1, .slice A1_2 l1_2.length c1_2] 81 (0, 0)) (by (with_reducible repeat (first | apply qa | apply qb | apply qc)); exact BK299.out) hb)
            have n17_ := am (blk_below (g := gb330) (o := .cells #[.slice Ao52 t321.length co52, .slice Ao56 t324.length co56, .slice Ao57 t327.length co57] 88 (0, 0)) (by (with_reducible repeat (first | apply qa | apply qb | apply qc)); exact BK330.out) hb)
            have n18_ := am (blk_below (g := gb340) (o := .cells #[.slice Ao61 t331.length co61, .slice Ao66 t334.length co66, .slice Ao67 t337.length co67] 88 (0, 0)) (by (with_reducible repeat (first | apply qa | apply qb | apply qc)); exact BK340.out) hb)
            have n19_ := am (below_step (by repeat (first | (with_reducible first | exact HB.out | apply pa | apply pb | apply pc | refine below_set ?_ GE298.out | refine below_set ?_ GE299.out | refine below_set ?_ GE330.out | refine below_set ?_ GE340.out) | exact HB.out)) hb)
            clear HO304
            clear HO307
            clear HO310
            clear HO313
            clear HO316
            clear HO319
            clear HO323
            clear HO326
            clear HO329
            clear HO333
            clear HO336
            clear HO339
            clear HO344
            clear HO347
            clear HO350
            clear BK298
            clear BK299
            clear BK330
            clear BK340
            clear HB
            have HO304 := n0_
            have HO307 := n1_
            have HO310 := n2_
            have HO313 := n3_
            have HO316 := n4_
            have HO319 := n5_
            have HO323 := n6_
            have HO326 := n7_
            have HO329 := n8_
            have HO333 := n9_
            have HO336 := n10_
            have HO339 := n11_
            have HO344 := n12_
            have HO347 := n13_
            have HO350 := n14_
            have BK298 := n15_
            have BK299 := n16_
            have BK330 := n17_
            have BK340 := n18_
            have HB := n19_
            clear n0_ n1_ n2_ n3_ n4_ n5_ n6_ n7_ n8_ n9_ n10_ n11_ n12_ n13_ n14_ n15_ n16_ n17_ n18_ n19_
            (try clear hb)
            (try clear hb2)
            (try clear hk)
            (try clear hi)
            refine hK.out _ _ ⟨(blk_cell BK330.out 0).trans rfl, (blk_cell BK330.out 1).trans rfl, (blk_cell BK330.out 2).trans rfl, (blk_cell BK298.out 0).trans rfl, (blk_cell BK298.out 1).trans rfl, (blk_cell BK298.out 2).trans rfl⟩ (fun hHeld => ?_)
            clear hK K
            refine norm_ (a' := ?_) ?_ ?_
            rotate_left
            · show Act.put _ (some 38) _ = _
              simp only [Act.put, List.setIfInBounds_toArray, List.set_cons_zero, List.set_cons_succ, i64_w, i32_w]
              rfl
            refine pure_ (i := 4) (N := some 39) (v := ?_) (a' := ?_) #[true, true, true, true, true] rfl rfl (by kernel_rfl) (fun _ _ _ h => h) (Or.inl ⟨by rfl, ?_⟩) ?_ ?_
            rotate_left
            · intro w'
              go_simp
              with_reducible rfl
            rotate_left
            · simp only [Act.put, List.setIfInBounds_toArray, List.set_cons_zero, List.set_cons_succ, i64_w, i32_w]
              rfl
            refine done_ (by kernel_rfl) ?_
            try go_wp2
            have n0_ := am (Kd.R_drew HO304.out)
            have n1_ := am (Kd.R_drew HO307.out)
            have n2_ := am (Kd.S_drew HO310.out)
            have n3_ := am (Kd.R_drew HO313.out)
            have n4_ := am (Kd.R_drew HO316.out)
            have n5_ := am (Kd.S_drew HO319.out)
            have n6_ := am (Kd.R_drew HO323.out)
            have n7_ := am (Kd.R_drew HO326.out)
            have n8_ := am (Kd.S_drew HO329.out)
            have n9_ := am (Kd.R_drew HO333.out)
            have n10_ := am (Kd.R_drew HO336.out)
            have n11_ := am (Kd.S_drew HO339.out)
            have n12_ := am (Kd.R_drew HO344.out)
            have n13_ := am (Kd.R_drew HO347.out)
            have n14_ := am (Kd.S_drew HO350.out)
            have n15_ := am (blk_drew BK298.out)
            have n16_ := am (blk_drew BK299.out)
            have n17_ := am (blk_drew BK330.out)
            have n18_ := am (blk_drew BK340.out)
            have n19_ := am (below_drew1 HB.out)
            clear HO304
            clear HO307
            clear HO310
            clear HO313
            clear HO316
            clear HO319
            clear HO323
            clear HO326
            clear HO329
            clear HO333
            clear HO336
            clear HO339
            clear HO344
            clear HO347
            clear HO350
            clear BK298
            clear BK299
            clear BK330
            clear BK340
            clear HB
            have HO304 := n0_
            have HO307 := n1_
            have HO310 := n2_
            have HO313 := n3_
            have HO316 := n4_
            have HO319 := n5_
            have HO323 := n6_
            have HO326 := n7_
            have HO329 := n8_
            have HO333 := n9_
            have HO336 := n10_
            have HO339 := n11_
            have HO344 := n12_
            have HO347 := n13_
            have HO350 := n14_
            have BK298 := n15_
            have BK299 := n16_
            have BK330 := n17_
            have BK340 := n18_
            have HB := n19_
            clear n0_ n1_ n2_ n3_ n4_ n5_ n6_ n7_ n8_ n9_ n10_ n11_ n12_ n13_ n14_ n15_ n16_ n17_ n18_ n19_
            refine start_ (n := 5) (S := fun w' => w'.cell? ⟨gb340, 0, none⟩ = some (.slice Ao61 t331.length co61) ∧ w'.cell? ⟨gb340, 1, none⟩ = some (.slice Ao66 t334.length co66) ∧ w'.cell? ⟨gb340, 2, none⟩ = some (.slice Ao67 t337.length co67) ∧ w'.cell? ⟨gb299, 0, none⟩ = some (.slice A1_0 l1_0.length c1_0) ∧ w'.cell? ⟨gb299, 1, none⟩ = some (.slice A1_1 l1_1.length c1_1) ∧ w'.cell? ⟨gb299, 2, none⟩ = some (.slice A1_2 l1_2.length c1_2)) (ds := []) #[false, false, false, false, false] (by kernel_rfl) rfl rfl ⟨(blk_cell BK340.out 0).trans rfl, (blk_cell BK340.out 1).trans rfl, (blk_cell BK340.out 2).trans rfl, (blk_cell BK299.out 0).trans rfl, (blk_cell BK299.out 1).trans rfl, (blk_cell BK299.out 2).trans rfl⟩ (fun hHeld => ?_)
            generalize w75.drew = w76 at HO304 HO307 HO310 HO313 HO316 HO319 HO323 HO326 HO329 HO333 HO336 HO339 HO344 HO347 HO350 BK298 BK299 BK330 BK340 HB hHeld ⊢
            refine take_ (i := 0) (N := some 40) (v := ?_) (a' := ?_) #[true, false, false, false, false] rfl rfl (by kernel_rfl) (fun _ _ _ h => h) (Or.inl ⟨by rfl, ?_⟩) hHeld ?_ ?_
            rotate_left
            · rintro w' ⟨s0, s1, s2, s3, s4, s5⟩
              go_simp
              with_reducible rfl
            rotate_left
            · simp only [Act.put, List.setIfInBounds_toArray, List.set_cons_zero, List.set_cons_succ, i64_w, i32_w]
              rfl
            refine take_ (i := 1) (N := some 41) (v := ?_) (a' := ?_) #[true, true, false, false, false] rfl rfl (by kernel_rfl) (fun _ _ _ h => h) (Or.inl ⟨by rfl, ?_⟩) hHeld ?_ ?_
            rotate_left
            · rintro w' ⟨s0, s1, s2, s3, s4, s5⟩
              go_simp
              with_reducible rfl
            rotate_left
            · simp only [Act.put, List.setIfInBounds_toArray, List.set_cons_zero, List.set_cons_succ, i64_w, i32_w]
              rfl
            refine one_ (i := 2) (N := some 42) #[true, true, true, false, false] rfl rfl (by kernel_rfl) (by decide) (fun K hK => ?_)
            refine goes_ Try.func53 (by kernel_rfl) rfl #[.agg #[.slice A1_0 l1_0.length c1_0, .slice A1_1 l1_1.length c1_1, .slice A1_2 l1_2.length c1_2]] (by rfl) rfl rfl (by (try simp only [List.map_toArray, List.map_cons, List.map_nil]); first | done | rfl | (simp only [List.length_drop, List.length_take]; rfl)) ?_
            with_reducible refine (laws_toProg.calls k _ _ l1_0 _ _ l1_1 _ _ l1_2 t352 t355 t358 _ ?side1 ?side2 ?side3 ?side4 ?side5 ?side6 A29.out).mono ?_
            (case side1 => repeat (first | exact (Kd.C_below HR1_0.out HB.out) | (with_reducible refine Kd.C_alloc ?_ _) | (with_reducible refine Kd.C_drewN ?_ _) | (with_reducible refine Kd.C_drew ?_)))
            (case side2 => exact HC1_0.out)
            (case side3 => repeat (first | exact (Kd.C_below HR1_1.out HB.out) | (with_reducible refine Kd.C_alloc ?_ _) | (with_reducible refine Kd.C_drewN ?_ _) | (with_reducible refine Kd.C_drew ?_)))
            (case side4 => exact HC1_1.out)
            (case side5 => repeat (first | exact (Kd.C_below HR1_2.out HB.out) | (with_reducible refine Kd.C_alloc ?_ _) | (with_reducible refine Kd.C_drewN ?_ _) | (with_reducible refine Kd.C_drew ?_)))
            (case side6 => exact HC1_2.out)
            rintro e w77 ⟨v353, v356, v359, rfl, ho0, ho1, ho2, hb⟩
            refine ⟨_, rfl, ?_⟩
            have n0_ := am (Kd.R_mono (Kd.R_told (Kd.R_told (Kd.R_old (by (with_reducible repeat (first | apply Kd.R_alloc | apply Kd.R_drewN | apply Kd.R_drew)); exact HO304.out) hb) (Kd.R_base ho0)) (Kd.R_base ho1)) (fun _ h_ => h_.1))
            have n1_ := am (Kd.R_elder' (by (with_reducible repeat (first | apply Kd.R_alloc | apply Kd.R_drewN | apply Kd.R_drew)); exact HO307.out) (Kd.R_base ho1) hb)
            have n2_ := am (Kd.S_mono (Kd.S_told (Kd.S_told (Kd.S_old (by (with_reducible repeat (first | apply Kd.S_alloc | apply Kd.S_drewN | apply Kd.S_drew)); exact HO310.out) hb) (Kd.R_base ho1)) (Kd.S_base ho2)) (fun _ h_ => h_.1))
            have n3_ := am (Kd.R_mono (Kd.R_told (Kd.R_told (Kd.R_old (by (with_reducible repeat (first | apply Kd.R_alloc | apply Kd.R_drewN | apply Kd.R_drew)); exact HO313.out) hb) (Kd.R_base ho0)) (Kd.R_base ho1)) (fun _ h_ => h_.1))
            have n4_ := am (Kd.R_elder' (by (with_reducible repeat (first | apply Kd.R_alloc | apply Kd.R_drewN | apply Kd.R_drew)); exact HO316.out) (Kd.R_base ho1) hb)
            have n5_ := am (Kd.S_mono (Kd.S_told (Kd.S_told (Kd.S_old (by (with_reducible repeat (first | apply Kd.S_alloc | apply Kd.S_drewN | apply Kd.S_drew)); exact HO319.out) hb) (Kd.R_base ho1)) (Kd.S_base ho2)) (fun _ h_ => h_.1))
            have n6_ := am (Kd.R_mono (Kd.R_told (Kd.R_told (Kd.R_old (by (with_reducible repeat (first | apply Kd.R_alloc | apply Kd.R_drewN | apply Kd.R_drew)); exact HO323.out) hb) (Kd.R_base ho0)) (Kd.R_base ho1)) (fun _ h_ => h_.1))
            have n7_ := am (Kd.R_elder' (by (with_reducible repeat (first | apply Kd.R_alloc | apply Kd.R_drewN | apply Kd.R_drew)); exact HO326.out) (Kd.R_base ho1) hb)
            have n8_ := am (Kd.S_mono (Kd.S_told (Kd.S_told (Kd.S_old (by (with_reducible repeat (first | apply Kd.S_alloc | apply Kd.S_drewN | apply Kd.S_drew)); exact HO329.out) hb) (Kd.R_base ho1)) (Kd.S_base ho2)) (fun _ h_ => h_.1))
            have n9_ := am (Kd.R_mono (Kd.R_told (Kd.R_told (Kd.R_old (by (with_reducible repeat (first | apply Kd.R_alloc | apply Kd.R_drewN | apply Kd.R_drew)); exact HO333.out) hb) (Kd.R_base ho0)) (Kd.R_base ho1)) (fun _ h_ => h_.1))
            have n10_ := am (Kd.R_elder' (by (with_reducible repeat (first | apply Kd.R_alloc | apply Kd.R_drewN | apply Kd.R_drew)); exact HO336.out) (Kd.R_base ho1) hb)
            have n11_ := am (Kd.S_mono (Kd.S_told (Kd.S_told (Kd.S_old (by (with_reducible repeat (first | apply Kd.S_alloc | apply Kd.S_drewN | apply Kd.S_drew)); exact HO339.out) hb) (Kd.R_base ho1)) (Kd.S_base ho2)) (fun _ h_ => h_.1))
            have n12_ := am (Kd.R_mono (Kd.R_told (Kd.R_told (Kd.R_old (by (with_reducible repeat (first | apply Kd.R_alloc | apply Kd.R_drewN | apply Kd.R_drew)); exact HO344.out) hb) (Kd.R_base ho0)) (Kd.R_base ho1)) (fun _ h_ => h_.1))
            have n13_ := am (Kd.R_elder' (by (with_reducible repeat (first | apply Kd.R_alloc | apply Kd.R_drewN | apply Kd.R_drew)); exact HO347.out) (Kd.R_base ho1) hb)
            have n14_ := am (Kd.S_mono (Kd.S_told (Kd.S_told (Kd.S_old (by (with_reducible repeat (first | apply Kd.S_alloc | apply Kd.S_drewN | apply Kd.S_drew)); exact HO350.out) hb) (Kd.R_base ho1)) (Kd.S_base ho2)) (fun _ h_ => h_.1))
            have n15_ := am (Kd.R_lower (Kd.R_new' (Kd.R_new' (Kd.R_new' (Kd.R_new' (Kd.R_new' (Kd.R_new' (Kd.R_new' (Kd.R_new' (Kd.R_new' (Kd.R_new' ho0 (Kd.R_lt (by (with_reducible repeat (first | apply Kd.R_alloc | apply Kd.R_drewN | apply Kd.R_drew)); exact HO304.out))) (Kd.R_lt (by (with_reducible repeat (first | apply Kd.R_alloc | apply Kd.R_drewN | apply Kd.R_drew)); exact HO307.out))) (Kd.R_lt (by (with_reducible repeat (first | apply Kd.R_alloc | apply Kd.R_drewN | apply Kd.R_drew)); exact HO313.out))) (Kd.R_lt (by (with_reducible repeat (first | apply Kd.R_alloc | apply Kd.R_drewN | apply Kd.R_drew)); exact HO316.out))) (Kd.R_lt (by (with_reducible repeat (first | apply Kd.R_alloc | apply Kd.R_drewN | apply Kd.R_drew)); exact HO323.out))) (Kd.R_lt (by (with_reducible repeat (first | apply Kd.R_alloc | apply Kd.R_drewN | apply Kd.R_drew)); exact HO326.out))) (Kd.R_lt (by (with_reducible repeat (first | apply Kd.R_alloc | apply Kd.R_drewN | apply Kd.R_drew)); exact HO333.out))) (Kd.R_lt (by (with_reducible repeat (first | apply Kd.R_alloc | apply Kd.R_drewN | apply Kd.R_drew)); exact HO336.out))) (Kd.R_lt (by (with_reducible repeat (first | apply Kd.R_alloc | apply Kd.R_drewN | apply Kd.R_drew)); exact HO344.out))) (Kd.R_lt (by (with_reducible repeat (first | apply Kd.R_alloc | apply Kd.R_drewN | apply Kd.R_drew)); exact HO347.out))) (below_size (by repeat (first | (with_reducible first | exact HB.out | apply pa | apply pb | apply pc | refine below_set ?_ GE298.out | refine below_set ?_ GE299.out | refine below_set ?_ GE330.out | refine below_set ?_ GE340.out) | exact HB.out))))
            have n16_ := am (Kd.R_lower (Kd.R_new' (Kd.R_new' (Kd.R_new' (Kd.R_new' (Kd.R_new' ho1 (Kd.R_lt (by (with_reducible repeat (first | apply Kd.R_alloc | apply Kd.R_drewN | apply Kd.R_drew)); exact HO307.out))) (Kd.R_lt (by (with_reducible repeat (first | apply Kd.R_alloc | apply Kd.R_drewN | apply Kd.R_drew)); exact HO316.out))) (Kd.R_lt (by (with_reducible repeat (first | apply Kd.R_alloc | apply Kd.R_drewN | apply Kd.R_drew)); exact HO326.out))) (Kd.R_lt (by (with_reducible repeat (first | apply Kd.R_alloc | apply Kd.R_drewN | apply Kd.R_drew)); exact HO336.out))) (Kd.R_lt (by (with_reducible repeat (first | apply Kd.R_alloc | apply Kd.R_drewN | apply Kd.R_drew)); exact HO347.out))) (below_size (by repeat (first | (with_reducible first | exact HB.out | apply pa | apply pb | apply pc | refine below_set ?_ GE298.out | refine below_set ?_ GE299.out | refine below_set ?_ GE330.out | refine below_set ?_ GE340.out) | exact HB.out))))
            have n17_ := am (Kd.S_lower (Kd.S_new' (Kd.S_new' (Kd.S_new' (Kd.S_new' (Kd.S_new' (Kd.S_new' (Kd.S_new' (Kd.S_new' (Kd.S_new' (Kd.S_new' ho2 (Kd.R_lt (by (with_reducible repeat (first | apply Kd.R_alloc | apply Kd.R_drewN | apply Kd.R_drew)); exact HO307.out))) (Kd.S_lt (by (with_reducible repeat (first | apply Kd.S_alloc | apply Kd.S_drewN | apply Kd.S_drew)); exact HO310.out))) (Kd.R_lt (by (with_reducible repeat (first | apply Kd.R_alloc | apply Kd.R_drewN | apply Kd.R_drew)); exact HO316.out))) (Kd.S_lt (by (with_reducible repeat (first | apply Kd.S_alloc | apply Kd.S_drewN | apply Kd.S_drew)); exact HO319.out))) (Kd.R_lt (by (with_reducible repeat (first | apply Kd.R_alloc | apply Kd.R_drewN | apply Kd.R_drew)); exact HO326.out))) (Kd.S_lt (by (with_reducible repeat (first | apply Kd.S_alloc | apply Kd.S_drewN | apply Kd.S_drew)); exact HO329.out))) (Kd.R_lt (by (with_reducible repeat (first | apply Kd.R_alloc | apply Kd.R_drewN | apply Kd.R_drew)); exact HO336.out))) (Kd.S_lt (by (with_reducible repeat (first | apply Kd.S_alloc | apply Kd.S_drewN | apply Kd.S_drew)); exact HO339.out))) (Kd.R_lt (by (with_reducible repeat (first | apply Kd.R_alloc | apply Kd.R_drewN | apply Kd.R_drew)); exact HO347.out))) (Kd.S_lt (by (with_reducible repeat (first | apply Kd.S_alloc | apply Kd.S_drewN | apply Kd.S_drew)); exact HO350.out))) (below_size (by repeat (first | (with_reducible first | exact HB.out | apply pa | apply pb | apply pc | refine below_set ?_ GE298.out | refine below_set ?_ GE299.out | refine below_set ?_ GE330.out | refine below_set ?_ GE340.out) | exact HB.out))))
            have n18_ := am (blk_below (g := gb298) (o := .cells #[.slice A0_0 l0_0.length c0_0, .slice A0_1 l0_1.length c0_1, .slice A0_2 l0_2.length c0_2] 81 (0, 0)) (by (with_reducible repeat (first | apply qa | apply qb | apply qc)); exact BK298.out) hb)
            have n19_ := am (blk_below (g := gb299) (o := .cells #[.slice A1_0 l1_0.length c1_0, .slice A1_1 l1_1.length c1_1, .slice A1_2 l1_2.length c1_2] 81 (0, 0)) (by (with_reducible repeat (first | apply qa | apply qb | apply qc)); exact BK299.out) hb)
            have n20_ := am (blk_below (g := gb330) (o := .cells #[.slice Ao52 t321.length co52, .slice Ao56 t324.length co56, .slice Ao57 t327.length co57] 88 (0, 0)) (by (with_reducible repeat (first | apply qa | apply qb | apply qc)); exact BK330.out) hb)
            have n21_ := am (blk_below (g := gb340) (o := .cells #[.slice Ao61 t331.length co61, .slice Ao66 t334.length co66, .slice Ao67 t337.length co67] 88 (0, 0)) (by (with_reducible repeat (first | apply qa | apply qb | apply qc)); exact BK340.out) hb)
            have n22_ := am (below_step (by repeat (first | (with_reducible first | exact HB.out | apply pa | apply pb | apply pc | refine below_set ?_ GE298.out | refine below_set ?_ GE299.out | refine below_set ?_ GE330.out | refine below_set ?_ GE340.out) | exact HB.out)) hb)
            clear HO304
            clear HO307
            clear HO310
            clear HO313
            clear HO316
            clear HO319
            clear HO323
            clear HO326
            clear HO329
            clear HO333
            clear HO336
            clear HO339
            clear HO344
            clear HO347
            clear HO350
            clear BK298
            clear BK299
            clear BK330
            clear BK340
            clear HB
            have HO304 := n0_
            have HO307 := n1_
            have HO310 := n2_
            have HO313 := n3_
            have HO316 := n4_
            have HO319 := n5_
            have HO323 := n6_
            have HO326 := n7_
            have HO329 := n8_
            have HO333 := n9_
            have HO336 := n10_
            have HO339 := n11_
            have HO344 := n12_
            have HO347 := n13_
            have HO350 := n14_
            have HO354 := n15_
            have HO357 := n16_
            have HO360 := n17_
            have BK298 := n18_
            have BK299 := n19_
            have BK330 := n20_
            have BK340 := n21_
            have HB := n22_
            clear n0_ n1_ n2_ n3_ n4_ n5_ n6_ n7_ n8_ n9_ n10_ n11_ n12_ n13_ n14_ n15_ n16_ n17_ n18_ n19_ n20_ n21_ n22_
            (try clear hb)
            (try clear hb2)
            (try clear hk)
            (try clear hi)
            (try clear ho0)
            (try clear ho1)
            (try clear ho2)
            obtain ⟨Ao78, co78, eo78⟩ := Kd.R_slice HO354.out
            (first | subst eo78 | (injection eo78 with f1_ f2_ f3_; have f4_ := f1_.symm; have f5_ := f3_.symm; clear f1_ f2_ f3_; subst f4_; subst f5_))
            obtain ⟨Ao79, co79, eo79⟩ := Kd.R_slice HO357.out
            (first | subst eo79 | (injection eo79 with f1_ f2_ f3_; have f4_ := f1_.symm; have f5_ := f3_.symm; clear f1_ f2_ f3_; subst f4_; subst f5_))
            obtain ⟨Ao80, co80, eo80⟩ := Kd.S_slice HO360.out
            (first | subst eo80 | (injection eo80 with f1_ f2_ f3_; have f4_ := f1_.symm; have f5_ := f3_.symm; clear f1_ f2_ f3_; subst f4_; subst f5_))
            refine hK.out _ _ ⟨(blk_cell BK340.out 0).trans rfl, (blk_cell BK340.out 1).trans rfl, (blk_cell BK340.out 2).trans rfl, (blk_cell BK299.out 0).trans rfl, (blk_cell BK299.out 1).trans rfl, (blk_cell BK299.out 2).trans rfl⟩ (fun hHeld => ?_)
            clear hK K
            refine norm_ (a' := ?_) ?_ ?_
            rotate_left
            · show Act.put _ (some 42) _ = _
              simp only [Act.put, List.setIfInBounds_toArray, List.set_cons_zero, List.set_cons_succ, i64_w, i32_w]
              rfl
            refine one_ (i := 3) (N := some 43) #[true, true, true, true, false] rfl rfl (by kernel_rfl) (by decide) (fun K hK => ?_)
            refine goes_ Try.func55 (by kernel_rfl) rfl #[.agg #[.slice Ao61 t331.length co61, .slice Ao66 t334.length co66, .slice Ao67 t337.length co67], .agg #[.slice Ao78 t352.length co78, .slice Ao79 t355.length co79, .slice Ao80 t358.length co80]] (by rfl) rfl rfl (by (try simp only [List.map_toArray, List.map_cons, List.map_nil]); first | done | rfl | (simp only [List.length_drop, List.length_take]; rfl)) ?_
            with_reducible refine (laws_eqProg.calls k _ _ t331 _ _ t334 _ _ t337 _ _ t352 _ _ t355 _ _ t358 true _ ?side1 ?side2 ?side3 ?side4 ?side5 ?side6 ?side7 ?side8 ?side9 ?side10 ?side11 ?side12 A30.out).mono ?_
            (case side1 => repeat (first | exact (Kd.R_reads' HO333.out).2.2 | (with_reducible refine Kd.C_alloc ?_ _) | (with_reducible refine Kd.C_drewN ?_ _) | (with_reducible refine Kd.C_drew ?_)))
            (case side2 => exact (Kd.R_reads' HO333.out).2.1)
            (case side3 => repeat (first | exact (Kd.R_reads' HO336.out).2.2 | (with_reducible refine Kd.C_alloc ?_ _) | (with_reducible refine Kd.C_drewN ?_ _) | (with_reducible refine Kd.C_drew ?_)))
            (case side4 => exact (Kd.R_reads' HO336.out).2.1)
            (case side5 => repeat (first | exact (Kd.S_reads' HO339.out).2.2 | (with_reducible refine Kd.C_alloc ?_ _) | (with_reducible refine Kd.C_drewN ?_ _) | (with_reducible refine Kd.C_drew ?_)))
            (case side6 => exact (Kd.S_reads' HO339.out).2.1)
            (case side7 => repeat (first | exact (Kd.R_reads' HO354.out).2.2 | (with_reducible refine Kd.C_alloc ?_ _) | (with_reducible refine Kd.C_drewN ?_ _) | (with_reducible refine Kd.C_drew ?_)))
            (case side8 => exact (Kd.R_reads' HO354.out).2.1)
            (case side9 => repeat (first | exact (Kd.R_reads' HO357.out).2.2 | (with_reducible refine Kd.C_alloc ?_ _) | (with_reducible refine Kd.C_drewN ?_ _) | (with_reducible refine Kd.C_drew ?_)))
            (case side10 => exact (Kd.R_reads' HO357.out).2.1)
            (case side11 => repeat (first | exact (Kd.S_reads' HO360.out).2.2 | (with_reducible refine Kd.C_alloc ?_ _) | (with_reducible refine Kd.C_drewN ?_ _) | (with_reducible refine Kd.C_drew ?_)))
            (case side12 => exact (Kd.S_reads' HO360.out).2.1)
            rintro e w81 ⟨rfl, hb⟩
            refine ⟨_, rfl, ?_⟩
            have n0_ := am (Kd.R_below (by (with_reducible repeat (first | apply Kd.R_alloc | apply Kd.R_drewN | apply Kd.R_drew)); exact HO304.out) hb)
            have n1_ := am (Kd.R_below (by (with_reducible repeat (first | apply Kd.R_alloc | apply Kd.R_drewN | apply Kd.R_drew)); exact HO307.out) hb)
            have n2_ := am (Kd.S_below (by (with_reducible repeat (first | apply Kd.S_alloc | apply Kd.S_drewN | apply Kd.S_drew)); exact HO310.out) hb)
            have n3_ := am (Kd.R_below (by (with_reducible repeat (first | apply Kd.R_alloc | apply Kd.R_drewN | apply Kd.R_drew)); exact HO313.out) hb)
            have n4_ := am (Kd.R_below (by (with_reducible repeat (first | apply Kd.R_alloc | apply Kd.R_drewN | apply Kd.R_drew)); exact HO316.out) hb)
            have n5_ := am (Kd.S_below (by (with_reducible repeat (first | apply Kd.S_alloc | apply Kd.S_drewN | apply Kd.S_drew)); exact HO319.out) hb)
            have n6_ := am (Kd.R_below (by (with_reducible repeat (first | apply Kd.R_alloc | apply Kd.R_drewN | apply Kd.R_drew)); exact HO323.out) hb)
            have n7_ := am (Kd.R_below (by (with_reducible repeat (first | apply Kd.R_alloc | apply Kd.R_drewN | apply Kd.R_drew)); exact HO326.out) hb)
            have n8_ := am (Kd.S_below (by (with_reducible repeat (first | apply Kd.S_alloc | apply Kd.S_drewN | apply Kd.S_drew)); exact HO329.out) hb)
            have n9_ := am (Kd.R_below (by (with_reducible repeat (first | apply Kd.R_alloc | apply Kd.R_drewN | apply Kd.R_drew)); exact HO333.out) hb)
            have n10_ := am (Kd.R_below (by (with_reducible repeat (first | apply Kd.R_alloc | apply Kd.R_drewN | apply Kd.R_drew)); exact HO336.out) hb)
            have n11_ := am (Kd.S_below (by (with_reducible repeat (first | apply Kd.S_alloc | apply Kd.S_drewN | apply Kd.S_drew)); exact HO339.out) hb)
            have n12_ := am (Kd.R_below (by (with_reducible repeat (first | apply Kd.R_alloc | apply Kd.R_drewN | apply Kd.R_drew)); exact HO344.out) hb)
            have n13_ := am (Kd.R_below (by (with_reducible repeat (first | apply Kd.R_alloc | apply Kd.R_drewN | apply Kd.R_drew)); exact HO347.out) hb)
            have n14_ := am (Kd.S_below (by (with_reducible repeat (first | apply Kd.S_alloc | apply Kd.S_drewN | apply Kd.S_drew)); exact HO350.out) hb)
            have n15_ := am (Kd.R_below (by (with_reducible repeat (first | apply Kd.R_alloc | apply Kd.R_drewN | apply Kd.R_drew)); exact HO354.out) hb)
            have n16_ := am (Kd.R_below (by (with_reducible repeat (first | apply Kd.R_alloc | apply Kd.R_drewN | apply Kd.R_drew)); exact HO357.out) hb)
            have n17_ := am (Kd.S_below (by (with_reducible repeat (first | apply Kd.S_alloc | apply Kd.S_drewN | apply Kd.S_drew)); exact HO360.out) hb)
            have n18_ := am (blk_below (g := gb298) (o := .cells #[.slice A0_0 l0_0.length c0_0, .slice A0_1 l0_1.length c0_1, .slice A0_2 l0_2.length c0_2] 81 (0, 0)) (by (with_reducible repeat (first | apply qa | apply qb | apply qc)); exact BK298.out) hb)
            have n19_ := am (blk_below (g := gb299) (o := .cells #[.slice A1_0 l1_0.length c1_0, .slice A1_1 l1_1.length c1_1, .slice A1_2 l1_2.length c1_2] 81 (0, 0)) (by (with_reducible repeat (first | apply qa | apply qb | apply qc)); exact BK299.out) hb)
            have n20_ := am (blk_below (g := gb330) (o := .cells #[.slice Ao52 t321.length co52, .slice Ao56 t324.length co56, .slice Ao57 t327.length co57] 88 (0, 0)) (by (with_reducible repeat (first | apply qa | apply qb | apply qc)); exact BK330.out) hb)
            have n21_ := am (blk_below (g := gb340) (o := .cells #[.slice Ao61 t331.length co61, .slice Ao66 t334.length co66, .slice Ao67 t337.length co67] 88 (0, 0)) (by (with_reducible repeat (first | apply qa | apply qb | apply qc)); exact BK340.out) hb)
            have n22_ := am (below_step (by repeat (first | (with_reducible first | exact HB.out | apply pa | apply pb | apply pc | refine below_set ?_ GE298.out | refine below_set ?_ GE299.out | refine below_set ?_ GE330.out | refine below_set ?_ GE340.out) | exact HB.out)) hb)
            clear HO304
            clear HO307
            clear HO310
            clear HO313
            clear HO316
            clear HO319
            clear HO323
            clear HO326
            clear HO329
            clear HO333
            clear HO336
            clear HO339
            clear HO344
            clear HO347
            clear HO350
            clear HO354
            clear HO357
            clear HO360
            clear BK298
            clear BK299
            clear BK330
            clear BK340
            clear HB
            have HO304 := n0_
            have HO307 := n1_
            have HO310 := n2_
            have HO313 := n3_
            have HO316 := n4_
            have HO319 := n5_
            have HO323 := n6_
            have HO326 := n7_
            have HO329 := n8_
            have HO333 := n9_
            have HO336 := n10_
            have HO339 := n11_
            have HO344 := n12_
            have HO347 := n13_
            have HO350 := n14_
            have HO354 := n15_
            have HO357 := n16_
            have HO360 := n17_
            have BK298 := n18_
            have BK299 := n19_
            have BK330 := n20_
            have BK340 := n21_
            have HB := n22_
            clear n0_ n1_ n2_ n3_ n4_ n5_ n6_ n7_ n8_ n9_ n10_ n11_ n12_ n13_ n14_ n15_ n16_ n17_ n18_ n19_ n20_ n21_ n22_
            (try clear hb)
            (try clear hb2)
            (try clear hk)
            (try clear hi)
            refine hK.out _ _ ⟨(blk_cell BK340.out 0).trans rfl, (blk_cell BK340.out 1).trans rfl, (blk_cell BK340.out 2).trans rfl, (blk_cell BK299.out 0).trans rfl, (blk_cell BK299.out 1).trans rfl, (blk_cell BK299.out 2).trans rfl⟩ (fun hHeld => ?_)
            clear hK K
            refine norm_ (a' := ?_) ?_ ?_
            rotate_left
            · show Act.put _ (some 43) _ = _
              simp only [Act.put, List.setIfInBounds_toArray, List.set_cons_zero, List.set_cons_succ, i64_w, i32_w]
              rfl
            refine pure_ (i := 4) (N := some 44) (v := ?_) (a' := ?_) #[true, true, true, true, true] rfl rfl (by kernel_rfl) (fun _ _ _ h => h) (Or.inl ⟨by rfl, ?_⟩) ?_ ?_
            rotate_left
            · intro w'
              go_simp
              with_reducible rfl
            rotate_left
            · simp only [Act.put, List.setIfInBounds_toArray, List.set_cons_zero, List.set_cons_succ, i64_w, i32_w]
              rfl
            refine done_ (by kernel_rfl) ?_
            try go_wp2
            go_ret
            exact ⟨by first | rfl | (simp [errW_none, errW_some] <;> rfl) | (simp [*, errW_none, errW_some] <;> rfl), by repeat (first | (with_reducible first | exact HB.out | apply pa | apply pb | apply pc | refine below_set ?_ GE298.out | refine below_set ?_ GE299.out | refine below_set ?_ GE330.out | refine below_set ?_ GE340.out) | exact HB.out)⟩
          · replace c31 := Bool.eq_false_iff.mpr c31
            subst c31
            have H1 : (some false) = some r := by rw [if_neg (show ¬ (false = true) by decide)] at H; exact H
            clear H
            have H := H1
            clear H1
            exact absurd ((Option.some.inj H).trans HR_.out) (by decide)
        · replace c28 := Bool.eq_false_iff.mpr c28
          subst c28
          have H1 : (some false) = some r := by rw [if_neg (show ¬ (false = true) by decide)] at H; exact H
          clear H
          have H := H1
          clear H1
          exact absurd ((Option.some.inj H).trans HR_.out) (by decide)
def laws_FnExactProgSame.Pure : Prop := ∀ (l0_0 : List (List (S173))) (l0_1 : List (S161)) (l0_2 : List (S164)) (l1_0 : List (List (S173))) (l1_1 : List (S161)) (l1_2 : List (S164)), (l0_0.length ≤ maxLen ∧ ∀ x0 ∈ l0_0, (x0.length ≤ maxLen ∧ ∀ x1 ∈ x0, ((Lit.int .i64 x1.f0).wf = true ∧ (Lit.int .i64 x1.f1).wf = true ∧ True ∧ (x1.f3.length ≤ maxLen ∧ ∀ x2 ∈ x1.f3, ((Lit.int .i64 x2.f0).wf = true ∧ (Lit.int .i64 x2.f1).wf = true ∧ True))))) → (l0_1.length ≤ maxLen ∧ ∀ x0 ∈ l0_1, ((Lit.int .i64 x0.f0).wf = true ∧ (Lit.int .i64 x0.f1).wf = true ∧ True)) → (l0_2.length ≤ maxLen ∧ ∀ x0 ∈ l0_2, ((x0.f0.length ≤ maxLen ∧ ∀ x1 ∈ x0.f0, ((Lit.int .i64 x1.f0).wf = true ∧ (Lit.int .i64 x1.f1).wf = true ∧ True)) ∧ ((Lit.int .i64 x0.f1.f0).wf = true ∧ (Lit.int .i64 x0.f1.f1).wf = true ∧ True) ∧ (x0.f2.length ≤ maxLen ∧ ∀ x1 ∈ x0.f2, ((Lit.int .i64 x1.f0).wf = true ∧ (Lit.int .i64 x1.f1).wf = true ∧ True)) ∧ (x0.f3.length ≤ maxLen ∧ ∀ x1 ∈ x0.f3, ((Lit.int .i64 x1.f0).wf = true ∧ (Lit.int .i64 x1.f1).wf = true ∧ (Lit.int .i64 x1.f2).wf = true)))) → (l1_0.length ≤ maxLen ∧ ∀ x0 ∈ l1_0, (x0.length ≤ maxLen ∧ ∀ x1 ∈ x0, ((Lit.int .i64 x1.f0).wf = true ∧ (Lit.int .i64 x1.f1).wf = true ∧ True ∧ (x1.f3.length ≤ maxLen ∧ ∀ x2 ∈ x1.f3, ((Lit.int .i64 x2.f0).wf = true ∧ (Lit.int .i64 x2.f1).wf = true ∧ True))))) → (l1_1.length ≤ maxLen ∧ ∀ x0 ∈ l1_1, ((Lit.int .i64 x0.f0).wf = true ∧ (Lit.int .i64 x0.f1).wf = true ∧ True)) → (l1_2.length ≤ maxLen ∧ ∀ x0 ∈ l1_2, ((x0.f0.length ≤ maxLen ∧ ∀ x1 ∈ x0.f0, ((Lit.int .i64 x1.f0).wf = true ∧ (Lit.int .i64 x1.f1).wf = true ∧ True)) ∧ ((Lit.int .i64 x0.f1.f0).wf = true ∧ (Lit.int .i64 x0.f1.f1).wf = true ∧ True) ∧ (x0.f2.length ≤ maxLen ∧ ∀ x1 ∈ x0.f2, ((Lit.int .i64 x1.f0).wf = true ∧ (Lit.int .i64 x1.f1).wf = true ∧ True)) ∧ (x0.f3.length ≤ maxLen ∧ ∀ x1 ∈ x0.f3, ((Lit.int .i64 x1.f0).wf = true ∧ (Lit.int .i64 x1.f1).wf = true ∧ (Lit.int .i64 x1.f2).wf = true)))) → ∃ k, laws_FnExactProgSame.f k l0_0 l0_1 l0_2 l1_0 l1_1 l1_2 = some true
end Go.Proofs.Ytgbmfkfmimpaaaa.PFnExactProgSame
