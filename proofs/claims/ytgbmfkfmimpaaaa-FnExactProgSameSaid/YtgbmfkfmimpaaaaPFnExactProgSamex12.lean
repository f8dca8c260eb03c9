/- Functions of the program as plain Lean functions, and that the machine's calls come to what these tell: by the kit's print, turned by this session (NOTES.md). No condition beyond each theorem's own. -/
import Derived.Test.YtgbmfkfmimpaaaaVFnExactProgSamea
import Derived.Test.YtgbmfkfmimpaaaaPFnExactProgSamex0
import Derived.Test.YtgbmfkfmimpaaaaPFnExactProgSamex9
import Derived.Test.YtgbmfkfmimpaaaaPFnExactProgSamex11
namespace Go.Proofs.Ytgbmfkfmimpaaaa.PFnExactProgSame
open Go.RowKit Go.Proofs.YtgbmfkfmimpaaaaW.PrintWords Go.Proofs.YtgbmfkfmimpaaaaW.PrintLast Go.Proofs.YtgbmfkfmimpaaaaW.PrintMore Go.Proofs.Ytgbmfkfmimpaaaa.Aid3
set_option linter.unusedVariables false
set_option linter.unusedSimpArgs false
def laws_eqFun.f (k : Nat) (l0_0 : List (S36)) (a0_1 : Int) (a0_2 : Int) (a0_3 : Bool) (l0_4 : List (S36)) (l0_5 : List (S26)) (l1_0 : List (S36)) (a1_1 : Int) (a1_2 : Int) (a1_3 : Bool) (l1_4 : List (S36)) (l1_5 : List (S26)) : Option (Bool) := (laws_eqFieldS.f k l0_0 l1_0).bind fun t286 => (if t286 = true then ((laws_eqField.f a0_1 a0_2 a0_3 a1_1 a1_2 a1_3).bind fun t287 => (if t287 = true then ((laws_eqFieldS.f k l0_4 l1_4).bind fun t288 => (if t288 = true then ((laws_eqInsS.f k l0_5 l1_5).bind fun t289 => (if t289 = true then (some true) else (some false))) else (some false))) else (some false))) else (some false))
set_option maxHeartbeats 8000000 in
set_option maxRecDepth 100000 in
theorem laws_eqFun.calls (k : Nat) (A0_0 : Option Addr) (c0_0 : Nat) (l0_0 : List (S36)) (a0_1 : Int) (a0_2 : Int) (a0_3 : Bool) (A0_4 : Option Addr) (c0_4 : Nat) (l0_4 : List (S36)) (A0_5 : Option Addr) (c0_5 : Nat) (l0_5 : List (S26)) (A1_0 : Option Addr) (c1_0 : Nat) (l1_0 : List (S36)) (a1_1 : Int) (a1_2 : Int) (a1_3 : Bool) (A1_4 : Option Addr) (c1_4 : Nat) (l1_4 : List (S36)) (A1_5 : Option Addr) (c1_5 : Nat) (l1_5 : List (S26)) (r : Bool) (w : World) (hr0_0 : Kd.C k36 w A0_0 l0_0.length l0_0) (hc0_0 : l0_0.length ≤ c0_0) (hr0_4 : Kd.C k36 w A0_4 l0_4.length l0_4) (hc0_4 : l0_4.length ≤ c0_4) (hr0_5 : Kd.C k26 w A0_5 l0_5.length l0_5) (hc0_5 : l0_5.length ≤ c0_5) (hr1_0 : Kd.C k36 w A1_0 l1_0.length l1_0) (hc1_0 : l1_0.length ≤ c1_0) (hr1_4 : Kd.C k36 w A1_4 l1_4.length l1_4) (hc1_4 : l1_4.length ≤ c1_4) (hr1_5 : Kd.C k26 w A1_5 l1_5.length l1_5) (hc1_5 : l1_5.length ≤ c1_5) (h : laws_eqFun.f k l0_0 a0_1 a0_2 a0_3 l0_4 l0_5 l1_0 a1_1 a1_2 a1_3 l1_4 l1_5 = some r) :
    Calls Try.prog 125 #[.agg #[.slice A0_0 l0_0.length c0_0, .int .i64 a0_1, .int .i64 a0_2, .bool a0_3, .slice A0_4 l0_4.length c0_4, .slice A0_5 l0_5.length c0_5], .agg #[.slice A1_0 l1_0.length c1_0, .int .i64 a1_1, .int .i64 a1_2, .bool a1_3, .slice A1_4 l1_4.length c1_4, .slice A1_5 l1_5.length c1_5]] w fun e w' => e = .returned (.bool r) ∧ Below w.heap.size w w' := by
  have hu124 := Try.underlying124
  have hu36 := Try.underlying36
  have HR0_0 := am hr0_0
  have HC0_0 := am hc0_0
  clear hr0_0 hc0_0
  have HR0_4 := am hr0_4
  have HC0_4 := am hc0_4
  clear hr0_4 hc0_4
  have HR0_5 := am hr0_5
  have HC0_5 := am hc0_5
  clear hr0_5 hc0_5
  have HR1_0 := am hr1_0
  have HC1_0 := am hc1_0
  clear hr1_0 hc1_0
  have HR1_4 := am hr1_4
  have HC1_4 := am hc1_4
  clear hr1_4 hc1_4
  have HR1_5 := am hr1_5
  have HC1_5 := am hc1_5
  clear hr1_5 hc1_5
  have HB := am (Below.refl w.heap.size w)
  have H : ((laws_eqFieldS.f k l0_0 l1_0).bind fun t286 => (if t286 = true then ((laws_eqField.f a0_1 a0_2 a0_3 a1_1 a1_2 a1_3).bind fun t287 => (if t287 = true then ((laws_eqFieldS.f k l0_4 l1_4).bind fun t288 => (if t288 = true then ((laws_eqInsS.f k l0_5 l1_5).bind fun t289 => (if t289 = true then (some true) else (some false))) else (some false))) else (some false))) else (some false))) = some r := h
  clear h
  replace H := Option.bind_eq_some_iff.mp H
  obtain ⟨t286, A30, H⟩ := H
  replace H : (if t286 = true then ((laws_eqField.f a0_1 a0_2 a0_3 a1_1 a1_2 a1_3).bind fun t287 => (if t287 = true then ((laws_eqFieldS.f k l0_4 l1_4).bind fun t288 => (if t288 = true then ((laws_eqInsS.f k l0_5 l1_5).bind fun t289 => (if t289 = true then (some true) else (some false))) else (some false))) else (some false))) else (some false)) = some r := H
  have A3 := am A30
  clear A30
  by_cases c4 : t286 = true
  · subst c4
    have H1 : ((laws_eqField.f a0_1 a0_2 a0_3 a1_1 a1_2 a1_3).bind fun t287 => (if t287 = true then ((laws_eqFieldS.f k l0_4 l1_4).bind fun t288 => (if t288 = true then ((laws_eqInsS.f k l0_5 l1_5).bind fun t289 => (if t289 = true then (some true) else (some false))) else (some false))) else (some false))) = some r := by rw [if_pos rfl] at H; exact H
    clear H
    have H := H1
    clear H1
    replace H := Option.bind_eq_some_iff.mp H
    obtain ⟨t287, A50, H⟩ := H
    replace H : (if t287 = true then ((laws_eqFieldS.f k l0_4 l1_4).bind fun t288 => (if t288 = true then ((laws_eqInsS.f k l0_5 l1_5).bind fun t289 => (if t289 = true then (some true) else (some false))) else (some false))) else (some false)) = some r := H
    have A5 := am A50
    clear A50
    by_cases c6 : t287 = true
    · subst c6
      have H1 : ((laws_eqFieldS.f k l0_4 l1_4).bind fun t288 => (if t288 = true then ((laws_eqInsS.f k l0_5 l1_5).bind fun t289 => (if t289 = true then (some true) else (some false))) else (some false))) = some r := by rw [if_pos rfl] at H; exact H
      clear H
      have H := H1
      clear H1
      replace H := Option.bind_eq_some_iff.mp H
      obtain ⟨t288, A70, H⟩ := H
      replace H : (if t288 = true then ((laws_eqInsS.f k l0_5 l1_5).bind fun t289 => (if t289 = true then (some true) else (some false))) else (some false)) = some r := H
      have A7 := am A70
      clear A70
      by_cases c8 : t288 = true
      · subst c8
        have H1 : ((laws_eqInsS.f k l0_5 l1_5).bind fun t289 => (if t289 = true then (some true) else (some false))) = some r := by rw [if_pos rfl] at H; exact H
        clear H
        have H := H1
        clear H1
        replace H := Option.bind_eq_some_iff.mp H
        obtain ⟨t289, A90, H⟩ := H
        replace H : (if t289 = true then (some true) else (some false)) = some r := H
        have A9 := am A90
        clear A90
        by_cases c10 : t289 = true
        · subst c10
          have H1 : (some true) = some r := by rw [if_pos rfl] at H; exact H
          clear H
          have H := H1
          clear H1
          obtain rfl := Option.some.inj H
          go_enter Try.func125, Try.ntmps125
          go_wp2_with (first | ((with_reducible refine gate_dst (N := 2) rfl ?_); refine box_event ?hg (N := 2) ?hd (cs := #[.slice A0_0 l0_0.length c0_0, .int .i64 a0_1, .int .i64 a0_2, .bool a0_3, .slice A0_4 l0_4.length c0_4, .slice A0_5 l0_5.length c0_5]) (t := 124) ?hr ?_; (case hd => rfl); (case hg => rfl); (case hr => first | (go_simp; done) | (go_simp; rfl)); intro gb284 hg w11 hbox hb; have n0_ := am (below_step HB.out hb); have n1_ := am (hbox); have n2_ := am ((by rw [hg]; exact (below_size HB.out) : w.heap.size ≤ gb284)); have n3_ := am ((by rw [hg]; exact (below_size HB.out) : w.heap.size ≤ gb284)); clear HB; have HB := n0_; have BK284 := n1_; have GW284 := n2_; have GE284 := n3_; clear n0_ n1_ n2_ n3_; clear hb hbox hg) | ((with_reducible refine gate_dst (N := 3) rfl ?_); refine box_event ?hg (N := 3) ?hd (cs := #[.slice A1_0 l1_0.length c1_0, .int .i64 a1_1, .int .i64 a1_2, .bool a1_3, .slice A1_4 l1_4.length c1_4, .slice A1_5 l1_5.length c1_5]) (t := 124) ?hr ?_; (case hd => rfl); (case hg => rfl); (case hr => first | (go_simp; done) | (go_simp; rfl)); intro gb285 hg w12 hbox hb; have n0_ := am (blk_below BK284.out hb); have n1_ := am (below_step (by repeat (first | (with_reducible first | exact HB.out | refine below_set ?_ GE284.out) | exact HB.out)) hb); have n2_ := am (hbox); have n3_ := am ((by rw [hg]; exact (below_size (by repeat (first | (with_reducible first | exact HB.out | refine below_set ?_ GE284.out) | exact HB.out))) : w.heap.size ≤ gb285)); have n4_ := am ((by rw [hg]; exact (below_size (by repeat (first | (with_reducible first | exact HB.out | refine below_set ?_ GE284.out) | exact HB.out))) : w.heap.size ≤ gb285)); have n5_ := am ((by rw [hg]; exact Nat.ne_of_lt (blk_lt BK284.out) : gb284 ≠ gb285)); have n6_ := am ((by rw [hg]; exact Nat.ne_of_gt (blk_lt BK284.out) : gb285 ≠ gb284)); clear BK284; clear HB; have BK284 := n0_; have HB := n1_; have BK285 := n2_; have GW285 := n3_; have GE285 := n4_; have NB284_285 := n5_; have NB285_284 := n6_; clear n0_ n1_ n2_ n3_ n4_ n5_ n6_; clear hb hbox hg; have hnb13 := NB284_285.out; have hnc13 := NB285_284.out; have hcz14_0 := bc BK284.out 0 (.slice A0_0 l0_0.length c0_0) rfl; have hcz14_1 := bc BK284.out 1 (.int .i64 a0_1) rfl; have hcz14_2 := bc BK284.out 2 (.int .i64 a0_2) rfl; have hcz14_3 := bc BK284.out 3 (.bool a0_3) rfl; have hcz14_4 := bc BK284.out 4 (.slice A0_4 l0_4.length c0_4) rfl; have hcz14_5 := bc BK284.out 5 (.slice A0_5 l0_5.length c0_5) rfl; have hfz14_0 := bf BK284.out 0; have hfz14_1 := bf BK284.out 1; have hfz14_2 := bf BK284.out 2; have hfz14_3 := bf BK284.out 3; have hfz14_4 := bf BK284.out 4; have hfz14_5 := bf BK284.out 5; have hcz15_0 := bc BK285.out 0 (.slice A1_0 l1_0.length c1_0) rfl; have hcz15_1 := bc BK285.out 1 (.int .i64 a1_1) rfl; have hcz15_2 := bc BK285.out 2 (.int .i64 a1_2) rfl; have hcz15_3 := bc BK285.out 3 (.bool a1_3) rfl; have hcz15_4 := bc BK285.out 4 (.slice A1_4 l1_4.length c1_4) rfl; have hcz15_5 := bc BK285.out 5 (.slice A1_5 l1_5.length c1_5) rfl; have hfz15_0 := bf BK285.out 0; have hfz15_1 := bf BK285.out 1; have hfz15_2 := bf BK285.out 2; have hfz15_3 := bf BK285.out 3; have hfz15_4 := bf BK285.out 4; have hfz15_5 := bf BK285.out 5) | ((with_reducible refine gate_callee (f := 102) rfl ?_); refine goesL_ (some 9) rfl rfl Try.func102 (by kernel_rfl) rfl #[.slice A0_0 l0_0.length c0_0, .slice A1_0 l1_0.length c1_0] rfl (by (try simp only [List.map_toArray, List.map_cons, List.map_nil]); first | done | rfl | (simp only [List.length_drop, List.length_take]; rfl)) ?_; (with_reducible refine (laws_eqFieldS.calls k _ _ l0_0 _ _ l1_0 true _ ?side1 ?side2 ?side3 ?side4 A3.out).mono ?_); (case side1 => exact Kd.C_below HR0_0.out HB.out); (case side2 => exact HC0_0.out); (case side3 => exact Kd.C_below HR1_0.out HB.out); (case side4 => exact HC1_0.out); rintro e w16 ⟨rfl, hb⟩; refine ⟨_, rfl, ?_⟩; have n0_ := am (blk_below BK284.out hb); have n1_ := am (blk_below BK285.out hb); have n2_ := am (below_step (by repeat (first | (with_reducible first | exact HB.out | refine below_set ?_ GE284.out | refine below_set ?_ GE285.out) | exact HB.out)) hb); clear BK284; clear BK285; clear HB; have BK284 := n0_; have BK285 := n1_; have HB := n2_; clear n0_ n1_ n2_; (try clear hb); (try clear hb2); (try clear hk); (try clear hi); have hcz17_0 := bc BK284.out 0 (.slice A0_0 l0_0.length c0_0) rfl; have hcz17_1 := bc BK284.out 1 (.int .i64 a0_1) rfl; have hcz17_2 := bc BK284.out 2 (.int .i64 a0_2) rfl; have hcz17_3 := bc BK284.out 3 (.bool a0_3) rfl; have hcz17_4 := bc BK284.out 4 (.slice A0_4 l0_4.length c0_4) rfl; have hcz17_5 := bc BK284.out 5 (.slice A0_5 l0_5.length c0_5) rfl; have hfz17_0 := bf BK284.out 0; have hfz17_1 := bf BK284.out 1; have hfz17_2 := bf BK284.out 2; have hfz17_3 := bf BK284.out 3; have hfz17_4 := bf BK284.out 4; have hfz17_5 := bf BK284.out 5; have hcz18_0 := bc BK285.out 0 (.slice A1_0 l1_0.length c1_0) rfl; have hcz18_1 := bc BK285.out 1 (.int .i64 a1_1) rfl; have hcz18_2 := bc BK285.out 2 (.int .i64 a1_2) rfl; have hcz18_3 := bc BK285.out 3 (.bool a1_3) rfl; have hcz18_4 := bc BK285.out 4 (.slice A1_4 l1_4.length c1_4) rfl; have hcz18_5 := bc BK285.out 5 (.slice A1_5 l1_5.length c1_5) rfl; have hfz18_0 := bf BK285.out 0; have hfz18_1 := bf BK285.out 1; have hfz18_2 := bf BK285.out 2; have hfz18_3 := bf BK285.out 3; have hfz18_4 := bf BK285.out 4; have hfz18_5 := bf BK285.out 5) | ((with_reducible refine gate_callee (f := 124) rfl ?_); refine goesL_ (some 15) rfl rfl Try.func124 (by kernel_rfl) rfl #[.agg #[.int .i64 a0_1, .int .i64 a0_2, .bool a0_3], .agg #[.int .i64 a1_1, .int .i64 a1_2, .bool a1_3]] rfl (by (try simp only [List.map_toArray, List.map_cons, List.map_nil]); first | done | rfl | (simp only [List.length_drop, List.length_take]; rfl)) ?_; (with_reducible refine (laws_eqField.calls a0_1 a0_2 a0_3 a1_1 a1_2 a1_3 true _ A5.out).mono ?_); rintro e w19 ⟨rfl, hb⟩; refine ⟨_, rfl, ?_⟩; have n0_ := am (blk_below BK284.out hb); have n1_ := am (blk_below BK285.out hb); have n2_ := am (below_step (by repeat (first | (with_reducible first | exact HB.out | refine below_set ?_ GE284.out | refine below_set ?_ GE285.out) | exact HB.out)) hb); clear BK284; clear BK285; clear HB; have BK284 := n0_; have BK285 := n1_; have HB := n2_; clear n0_ n1_ n2_; (try clear hb); (try clear hb2); (try clear hk); (try clear hi); have hcz20_0 := bc BK284.out 0 (.slice A0_0 l0_0.length c0_0) rfl; have hcz20_1 := bc BK284.out 1 (.int .i64 a0_1) rfl; have hcz20_2 := bc BK284.out 2 (.int .i64 a0_2) rfl; have hcz20_3 := bc BK284.out 3 (.bool a0_3) rfl; have hcz20_4 := bc BK284.out 4 (.slice A0_4 l0_4.length c0_4) rfl; have hcz20_5 := bc BK284.out 5 (.slice A0_5 l0_5.length c0_5) rfl; have hfz20_0 := bf BK284.out 0; have hfz20_1 := bf BK284.out 1; have hfz20_2 := bf BK284.out 2; have hfz20_3 := bf BK284.out 3; have hfz20_4 := bf BK284.out 4; have hfz20_5 := bf BK284.out 5; have hcz21_0 := bc BK285.out 0 (.slice A1_0 l1_0.length c1_0) rfl; have hcz21_1 := bc BK285.out 1 (.int .i64 a1_1) rfl; have hcz21_2 := bc BK285.out 2 (.int .i64 a1_2) rfl; have hcz21_3 := bc BK285.out 3 (.bool a1_3) rfl; have hcz21_4 := bc BK285.out 4 (.slice A1_4 l1_4.length c1_4) rfl; have hcz21_5 := bc BK285.out 5 (.slice A1_5 l1_5.length c1_5) rfl; have hfz21_0 := bf BK285.out 0; have hfz21_1 := bf BK285.out 1; have hfz21_2 := bf BK285.out 2; have hfz21_3 := bf BK285.out 3; have hfz21_4 := bf BK285.out 4; have hfz21_5 := bf BK285.out 5) | ((with_reducible refine gate_callee (f := 102) rfl ?_); refine goesL_ (some 21) rfl rfl Try.func102 (by kernel_rfl) rfl #[.slice A0_4 l0_4.length c0_4, .slice A1_4 l1_4.length c1_4] rfl (by (try simp only [List.map_toArray, List.map_cons, List.map_nil]); first | done | rfl | (simp only [List.length_drop, List.length_take]; rfl)) ?_; (with_reducible refine (laws_eqFieldS.calls k _ _ l0_4 _ _ l1_4 true _ ?side1 ?side2 ?side3 ?side4 A7.out).mono ?_); (case side1 => exact Kd.C_below HR0_4.out HB.out); (case side2 => exact HC0_4.out); (case side3 => exact Kd.C_below HR1_4.out HB.out); (case side4 => exact HC1_4.out); rintro e w22 ⟨rfl, hb⟩; refine ⟨_, rfl, ?_⟩; have n0_ := am (blk_below BK284.out hb); have n1_ := am (blk_below BK285.out hb); have n2_ := am (below_step (by repeat (first | (with_reducible first | exact HB.out | refine below_set ?_ GE284.out | refine below_set ?_ GE285.out) | exact HB.out)) hb); clear BK284; clear BK285; clear HB; have BK284 := n0_; have BK285 := n1_; have HB := n2_; clear n0_ n1_ n2_; (try clear hb); (try clear hb2); (try clear hk); (try clear hi); have hcz23_0 := bc BK284.out 0 (.slice A0_0 l0_0.length c0_0) rfl; have hcz23_1 := bc BK284.out 1 (.int .i64 a0_1) rfl; have hcz23_2 := bc BK284.out 2 (.int .i64 a0_2) rfl; have hcz23_3 := bc BK284.out 3 (.bool a0_3) rfl; have hcz23_4 := bc BK284.out 4 (.slice A0_4 l0_4.length c0_4) rfl; have hcz23_5 := bc BK284.out 5 (.slice A0_5 l0_5.length c0_5) rfl; have hfz23_0 := bf BK284.out 0; have hfz23_1 := bf BK284.out 1; have hfz23_2 := bf BK284.out 2; have hfz23_3 := bf BK284.out 3; have hfz23_4 := bf BK284.out 4; have hfz23_5 := bf BK284.out 5; have hcz24_0 := bc BK285.out 0 (.slice A1_0 l1_0.length c1_0) rfl; have hcz24_1 := bc BK285.out 1 (.int .i64 a1_1) rfl; have hcz24_2 := bc BK285.out 2 (.int .i64 a1_2) rfl; have hcz24_3 := bc BK285.out 3 (.bool a1_3) rfl; have hcz24_4 := bc BK285.out 4 (.slice A1_4 l1_4.length c1_4) rfl; have hcz24_5 := bc BK285.out 5 (.slice A1_5 l1_5.length c1_5) rfl; have hfz24_0 := bf BK285.out 0; have hfz24_1 := bf BK285.out 1; have hfz24_2 := bf BK285.out 2; have hfz24_3 := bf BK285.out 3; have hfz24_4 := bf BK285.out 4; have hfz24_5 := bf BK285.out 5) | ((with_reducible refine gate_callee (f := 134) rfl ?_); refine goesL_ (some 27) rfl rfl Try.func134 (by kernel_rfl) rfl #[.slice A0_5 l0_5.length c0_5, .slice A1_5 l1_5.length c1_5] rfl (by (try simp only [List.map_toArray, List.map_cons, List.map_nil]); first | done | rfl | (simp only [List.length_drop, List.length_take]; rfl)) ?_; (with_reducible refine (laws_eqInsS.calls k _ _ l0_5 _ _ l1_5 true _ ?side1 ?side2 ?side3 ?side4 A9.out).mono ?_); (case side1 => exact Kd.C_below HR0_5.out HB.out); (case side2 => exact HC0_5.out); (case side3 => exact Kd.C_below HR1_5.out HB.out); (case side4 => exact HC1_5.out); rintro e w25 ⟨rfl, hb⟩; refine ⟨_, rfl, ?_⟩; have n0_ := am (blk_below BK284.out hb); have n1_ := am (blk_below BK285.out hb); have n2_ := am (below_step (by repeat (first | (with_reducible first | exact HB.out | refine below_set ?_ GE284.out | refine below_set ?_ GE285.out) | exact HB.out)) hb); clear BK284; clear BK285; clear HB; have BK284 := n0_; have BK285 := n1_; have HB := n2_; clear n0_ n1_ n2_; (try clear hb); (try clear hb2); (try clear hk); (try clear hi)))
          go_ret
          exact ⟨by first | rfl | (simp [errW_none, errW_some] <;> rfl) | (simp [*, errW_none, errW_some] <;> rfl), by repeat (first | (with_reducible first | exact HB.out | refine below_set ?_ GE284.out | refine below_set ?_ GE285.out) | exact HB.out)⟩
        · replace c10 := Bool.eq_false_iff.mpr c10
          subst c10
          have H1 : (some false) = some r := by rw [if_neg (show ¬ (false = true) by decide)] at H; exact H
          clear H
          have H := H1
          clear H1
          obtain rfl := Option.some.inj H
          go_enter Try.func125, Try.ntmps125
          go_wp2_with (first | ((with_reducible refine gate_dst (N := 2) rfl ?_); refine box_event ?hg (N := 2) ?hd (cs := #[.slice A0_0 l0_0.length c0_0, .int .i64 a0_1, .int .i64 a0_2, .bool a0_3, .slice A0_4 l0_4.length c0_4, .slice A0_5 l0_5.length c0_5]) (t := 124) ?hr ?_; (case hd => rfl); (case hg => rfl); (case hr => first | (go_simp; done) | (go_simp; rfl)); intro gb284 hg w26 hbox hb; have n0_ := am (below_step HB.out hb); have n1_ := am (hbox); have n2_ := am ((by rw [hg]; exact (below_size HB.out) : w.heap.size ≤ gb284)); have n3_ := am ((by rw [hg]; exact (below_size HB.out) : w.heap.size ≤ gb284)); clear HB; have HB := n0_; have BK284 := n1_; have GW284 := n2_; have GE284 := n3_; clear n0_ n1_ n2_ n3_; clear hb hbox hg) | ((with_reducible refine gate_dst (N := 3) rfl ?_); refine box_event ?hg (N := 3) ?hd (cs := #[.slice A1_0 l1_0.length c1_0, .int .i64 a1_1, .int .i64 a1_2, .bool a1_3, .slice A1_4 l1_4.length c1_4, .slice A1_5 l1_5.length c1_5]) (t := 124) ?hr ?_; (case hd => rfl); (case hg => rfl); (case hr => first | (go_simp; done) | (go_simp; rfl)); intro gb285 hg w27 hbox hb; have n0_ := am (blk_below BK284.out hb); have n1_ := am (below_step (by repeat (first | (with_reducible first | exact HB.out | refine below_set ?_ GE284.out) | exact HB.out)) hb); have n2_ := am (hbox); have n3_ := am ((by rw [hg]; exact (below_size (by repeat (first | (with_reducible first | exact HB.out | refine below_set ?_ GE284.out) | exact HB.out))) : w.heap.size ≤ gb285)); have n4_ := am ((by rw [hg]; exact (below_size (by repeat (first | (with_reducible first | exact HB.out | refine below_set ?_ GE284.out) | exact HB.out))) : w.heap.size ≤ gb285)); have n5_ := am ((by rw [hg]; exact Nat.ne_of_lt (blk_lt BK284.out) : gb284 ≠ gb285)); have n6_ := am ((by rw [hg]; exact Nat.ne_of_gt (blk_lt BK284.out) : gb285 ≠ gb284)); clear BK284; clear HB; have BK284 := n0_; have HB := n1_; have BK285 := n2_; have GW285 := n3_; have GE285 := n4_; have NB284_285 := n5_; have NB285_284 := n6_; clear n0_ n1_ n2_ n3_ n4_ n5_ n6_; clear hb hbox hg; have hnb28 := NB284_285.out; have hnc28 := NB285_284.out; have hcz29_0 := bc BK284.out 0 (.slice A0_0 l0_0.length c0_0) rfl; have hcz29_1 := bc BK284.out 1 (.int .i64 a0_1) rfl; have hcz29_2 := bc BK284.out 2 (.int .i64 a0_2) rfl; have hcz29_3 := bc BK284.out 3 (.bool a0_3) rfl; have hcz29_4 := bc BK284.out 4 (.slice A0_4 l0_4.length c0_4) rfl; have hcz29_5 := bc BK284.out 5 (.slice A0_5 l0_5.length c0_5) rfl; have hfz29_0 := bf BK284.out 0; have hfz29_1 := bf BK284.out 1; have hfz29_2 := bf BK284.out 2; have hfz29_3 := bf BK284.out 3; have hfz29_4 := bf BK284.out 4; have hfz29_5 := bf BK284.out 5; have hcz30_0 := bc BK285.out 0 (.slice A1_0 l1_0.length c1_0) rfl; have hcz30_1 := bc BK285.out 1 (.int .i64 a1_1) rfl; have hcz30_2 := bc BK285.out 2 (.int .i64 a1_2) rfl; have hcz30_3 := bc BK285.out 3 (.bool a1_3) rfl; have hcz30_4 := bc BK285.out 4 (.slice A1_4 l1_4.length c1_4) rfl; have hcz30_5 := bc BK285.out 5 (.slice A1_5 l1_5.length c1_5) rfl; have hfz30_0 := bf BK285.out 0; have hfz30_1 := bf BK285.out 1; have hfz30_2 := bf BK285.out 2; have hfz30_3 := bf BK285.out 3; have hfz30_4 := bf BK285.out 4; have hfz30_5 := bf BK285.out 5) | ((with_reducible refine gate_callee (f := 102) rfl ?_); refine goesL_ (some 9) rfl rfl Try.func102 (by kernel_rfl) rfl #[.slice A0_0 l0_0.length c0_0, .slice A1_0 l1_0.length c1_0] rfl (by (try simp only [List.map_toArray, List.map_cons, List.map_nil]); first | done | rfl | (simp only [List.length_drop, List.length_take]; rfl)) ?_; (with_reducible refine (laws_eqFieldS.calls k _ _ l0_0 _ _ l1_0 true _ ?side1 ?side2 ?side3 ?side4 A3.out).mono ?_); (case side1 => exact Kd.C_below HR0_0.out HB.out); (case side2 => exact HC0_0.out); (case side3 => exact Kd.C_below HR1_0.out HB.out); (case side4 => exact HC1_0.out); rintro e w31 ⟨rfl, hb⟩; refine ⟨_, rfl, ?_⟩; have n0_ := am (blk_below BK284.out hb); have n1_ := am (blk_below BK285.out hb); have n2_ := am (below_step (by repeat (first | (with_reducible first | exact HB.out | refine below_set ?_ GE284.out | refine below_set ?_ GE285.out) | exact HB.out)) hb); clear BK284; clear BK285; clear HB; have BK284 := n0_; have BK285 := n1_; have HB := n2_; clear n0_ n1_ n2_; (try clear hb); (try clear hb2); (try clear hk); (try clear hi); have hcz32_0 := bc BK284.out 0 (.slice A0_0 l0_0.length c0_0) rfl; have hcz32_1 := bc BK284.out 1 (.int .i64 a0_1) rfl; have hcz32_2 := bc BK284.out 2 (.int .i64 a0_2) rfl; have hcz32_3 := bc BK284.out 3 (.bool a0_3) rfl; have hcz32_4 := bc BK284.out 4 (.slice A0_4 l0_4.length c0_4) rfl; have hcz32_5 := bc BK284.out 5 (.slice A0_5 l0_5.length c0_5) rfl; have hfz32_0 := bf BK284.out 0; have hfz32_1 := bf BK284.out 1; have hfz32_2 := bf BK284.out 2; have hfz32_3 := bf BK284.out 3; have hfz32_4 := bf BK284.out 4; have hfz32_5 := bf BK284.out 5; have hcz33_0 := bc BK285.out 0 (.slice A1_0 l1_0.length c1_0) rfl; have hcz33_1 := bc BK285.out 1 (.int .i64 a1_1) rfl; have hcz33_2 := bc BK285.out 2 (.int .i64 a1_2) rfl; have hcz33_3 := bc BK285.out 3 (.bool a1_3) rfl; have hcz33_4 := bc BK285.out 4 (.slice A1_4 l1_4.length c1_4) rfl; have hcz33_5 := bc BK285.out 5 (.slice A1_5 l1_5.length c1_5) rfl; have hfz33_0 := bf BK285.out 0; have hfz33_1 := bf BK285.out 1; have hfz33_2 := bf BK285.out 2; have hfz33_3 := bf BK285.out 3; have hfz33_4 := bf BK285.out 4; have hfz33_5 := bf BK285.out 5) | ((with_reducible refine gate_callee (f := 124) rfl ?_); refine goesL_ (some 15) rfl rfl Try.func124 (by kernel_rfl) rfl #[.agg #[.int .i64 a0_1, .int .i64 a0_2, .bool a0_3], .agg #[.int .i64 a1_1, .int .i64 a1_2, .bool a1_3]] rfl (by (try simp only [List.map_toArray, List.map_cons, List.map_nil]); first | done | rfl | (simp only [List.length_drop, List.length_take]; rfl)) ?_; (with_reducible refine (laws_eqField.calls a0_1 a0_2 a0_3 a1_1 a1_2 a1_3 true _ A5.out).mono ?_); rintro e w34 ⟨rfl, hb⟩; refine ⟨_, rfl, ?_⟩; have n0_ := am (blk_below BK284.out hb); have n1_ := am (blk_below BK285.out hb); have n2_ := am (below_step (by repeat (first | (with_reducible first | exact HB.out | refine below_set ?_ GE284.out | refine below_set ?_ GE285.out) | exact HB.out)) hb); clear BK284; clear BK285; clear HB; have BK284 := n0_; have BK285 := n1_; have HB := n2_; clear n0_ n1_ n2_; (try clear hb); (try clear hb2); (try clear hk); (try clear hi); have hcz35_0 := bc BK284.out 0 (.slice A0_0 l0_0.length c0_0) rfl; have hcz35_1 := bc BK284.out 1 (.int .i64 a0_1) rfl; have hcz35_2 := bc BK284.out 2 (.int .i64 a0_2) rfl; have hcz35_3 := bc BK284.out 3 (.bool a0_3) rfl; have hcz35_4 := bc BK284.out 4 (.slice A0_4 l0_4.length c0_4) rfl; have hcz35_5 := bc BK284.out 5 (.slice A0_5 l0_5.length c0_5) rfl; have hfz35_0 := bf BK284.out 0; have hfz35_1 := bf BK284.out 1; have hfz35_2 := bf BK284.out 2; have hfz35_3 := bf BK284.out 3; have hfz35_4 := bf BK284.out 4; have hfz35_5 := bf BK284.out 5; have hcz36_0 := bc BK285.out 0 (.slice A1_0 l1_0.length c1_0) rfl; have hcz36_1 := bc BK285.out 1 (.int .i64 a1_1) rfl; have hcz36_2 := bc BK285.out 2 (.int .i64 a1_2) rfl; have hcz36_3 := bc BK285.out 3 (.bool a1_3) rfl; have hcz36_4 := bc BK285.out 4 (.slice A1_4 l1_4.length c1_4) rfl; have hcz36_5 := bc BK285.out 5 (.slice A1_5 l1_5.length c1_5) rfl; have hfz36_0 := bf BK285.out 0; have hfz36_1 := bf BK285.out 1; have hfz36_2 := bf BK285.out 2; have hfz36_3 := bf BK285.out 3; have hfz36_4 := bf BK285.out 4; have hfz36_5 := bf BK285.out 5) | ((with_reducible refine gate_callee (f := 102) rfl ?_); refine goesL_ (some 21) rfl rfl Try.func102 (by kernel_rfl) rfl #[.slice A0_4 l0_4.length c0_4, .slice A1_4 l1_4.length c1_4] rfl (by (try simp only [List.map_toArray, List.map_cons, List.map_nil]); first | done | rfl | (simp only [List.length_drop, List.length_take]; rfl)) ?_; (with_reducible refine (laws_eqFieldS.calls k _ _ l0_4 _ _ l1_4 true _ ?side1 ?side2 ?side3 ?side4 A7.out).mono ?_); (case side1 => exact Kd.C_below HR0_4.out HB.out); (case side2 => exact HC0_4.out); (case side3 => exact Kd.C_below HR1_4.out HB.out); (case side4 => exact HC1_4.out); rintro e w37 ⟨rfl, hb⟩; refine ⟨_, rfl, ?_⟩; have n0_ := am (blk_below BK284.out hb); have n1_ := am (blk_below BK285.out hb); have n2_ := am (below_step (by repeat (first | (with_reducible first | exact HB.out | refine below_set ?_ GE284.out | refine below_set ?_ GE285.out) | exact HB.out)) hb); clear BK284; clear BK285; clear HB; have BK284 := n0_; have BK285 := n1_; have HB := n2_; clear n0_ n1_ n2_; (try clear hb); (try clear hb2); (try clear hk); (try clear hi); have hcz38_0 := bc BK284.out 0 (.slice A0_0 l0_0.length c0_0) rfl; have hcz38_1 := bc BK284.out 1 (.int .i64 a0_1) rfl; have hcz38_2 := bc BK284.out 2 (.int .i64 a0_2) rfl; have hcz38_3 := bc BK284.out 3 (.bool a0_3) rfl; have hcz38_4 := bc BK284.out 4 (.slice A0_4 l0_4.length c0_4) rfl; have hcz38_5 := bc BK284.out 5 (.slice A0_5 l0_5.length c0_5) rfl; have hfz38_0 := bf BK284.out 0; have hfz38_1 := bf BK284.out 1; have hfz38_2 := bf BK284.out 2; have hfz38_3 := bf BK284.out 3; have hfz38_4 := bf BK284.out 4; have hfz38_5 := bf BK284.out 5; have hcz39_0 := bc BK285.out 0 (.slice A1_0 l1_0.length c1_0) rfl; have hcz39_1 := bc BK285.out 1 (.int .i64 a1_1) rfl; have hcz39_2 := bc BK285.out 2 (.int .i64 a1_2) rfl; have hcz39_3 := bc BK285.out 3 (.bool a1_3) rfl; have hcz39_4 := bc BK285.out 4 (.slice A1_4 l1_4.length c1_4) rfl; have hcz39_5 := bc BK285.out 5 (.slice A1_5 l1_5.length c1_5) rfl; have hfz39_0 := bf BK285.out 0; have hfz39_1 := bf BK285.out 1; have hfz39_2 := bf BK285.out 2; have hfz39_3 := bf BK285.out 3; have hfz39_4 := bf BK285.out 4; have hfz39_5 := bf BK285.out 5) | ((with_reducible refine gate_callee (f := 134) rfl ?_); refine goesL_ (some 27) rfl rfl Try.func134 (by kernel_rfl) rfl #[.slice A0_5 l0_5.length c0_5, .slice A1_5 l1_5.length c1_5] rfl (by (try simp only [List.map_toArray, List.map_cons, List.map_nil]); first | done | rfl | (simp only [List.length_drop, List.length_take]; rfl)) ?_; (with_reducible refine (laws_eqInsS.calls k _ _ l0_5 _ _ l1_5 false _ ?side1 ?side2 ?side3 ?side4 A9.out).mono ?_); (case side1 => exact Kd.C_below HR0_5.out HB.out); (case side2 => exact HC0_5.out); (case side3 => exact Kd.C_below HR1_5.out HB.out); (case side4 => exact HC1_5.out); rintro e w40 ⟨rfl, hb⟩; refine ⟨_, rfl, ?_⟩; have n0_ := am (blk_below BK284.out hb); have n1_ := am (blk_below BK285.out hb); have n2_ := am (below_step (by repeat (first | (with_reducible first | exact HB.out | refine below_set ?_ GE284.out | refine below_set ?_ GE285.out) | exact HB.out)) hb); clear BK284; clear BK285; clear HB; have BK284 := n0_; have BK285 := n1_; have HB := n2_; clear n0_ n1_ n2_; (try clear hb); (try clear hb2); (try clear hk); (try clear hi)))
          go_ret
          exact ⟨by first | rfl | (simp [errW_none, errW_some] <;> rfl) | (simp [*, errW_none, errW_some] <;> rfl), by repeat (first | (with_reducible first | exact HB.out | refine below_set ?_ GE284.out | refine below_set ?_ GE285.out) | exact HB.out)⟩
      · replace c8 := Bool.eq_false_iff.mpr c8
        subst c8
        have H1 : (some false) = some r := by rw [if_neg (show ¬ (false = true) by decide)] at H; exact H
        clear H
        have H := H1
        clear H1
        obtain rfl := Option.some.inj H
        go_enter Try.func125, Try.ntmps125
        go_wp2_with (first | ((with_reducible refine gate_dst (N := 2) rfl ?_); refine box_event ?hg (N := 2) ?hd (cs := #[.slice A0_0 l0_0.length c0_0, .int .i64 a0_1, .int .i64 a0_2, .bool a0_3, .slice A0_4 l0_4.length c0_4, .slice A0_5 l0_5.length c0_5]) (t := 124) ?hr ?_; (case hd => rfl); (case hg => rfl); (case hr => first | (go_simp; done) | (go_simp; rfl)); intro gb284 hg w41 hbox hb; have n0_ := am (below_step HB.out hb); have n1_ := am (hbox); have n2_ := am ((by rw [hg]; exact (below_size HB.out) : w.heap.size ≤ gb284)); have n3_ := am ((by rw [hg]; exact (below_size HB.out) : w.heap.size ≤ gb284)); clear HB; have HB := n0_; have BK284 := n1_; have GW284 := n2_; have GE284 := n3_; clear n0_ n1_ n2_ n3_; clear hb hbox hg) | ((with_reducible refine gate_dst (N := 3) rfl ?_); refine box_event ?hg (N := 3) ?hd (cs := #[.slice A1_0 l1_0.length c1_0, .int .i64 a1_1, .int .i64 a1_2, .bool a1_3, .slice A1_4 l1_4.length c1_4, .slice A1_5 l1_5.length c1_5]) (t := 124) ?hr ?_; (case hd => rfl); (case hg => rfl); (case hr => first | (go_simp; done) | (go_simp; rfl)); intro gb285 hg w42 hbox hb; have n0_ := am (blk_below BK284.out hb); have n1_ := am (below_step (by repeat (first | (with_reducible first | exact HB.out | refine below_set ?_ GE284.out) | exact HB.out)) hb); have n2_ := am (hbox); have n3_ := am ((by rw [hg]; exact (below_size (by repeat (first | (with_reducible first | exact HB.out | refine below_set ?_ GE284.out) | exact HB.out))) : w.heap.size ≤ gb285)); have n4_ := am ((by rw [hg]; exact (below_size (by repeat (first | (with_reducible first | exact HB.out | refine below_set ?_ GE284.out) | exact HB.out))) : w.heap.size ≤ gb285)); have n5_ := am ((by rw [hg]; exact Nat.ne_of_lt (blk_lt BK284.out) : gb284 ≠ gb285)); have n6_ := am ((by rw [hg]; exact Nat.ne_of_gt (blk_lt BK284.out) : gb285 ≠ gb284)); clear BK284; clear HB; have BK284 := n0_; have HB := n1_; have BK285 := n2_; have GW285 := n3_; have GE285 := n4_; have NB284_285 := n5_; have NB285_284 := n6_; clear n0_ n1_ n2_ n3_ n4_ n5_ n6_; clear hb hbox hg; have hnb43 := NB284_285.out; have hnc43 := NB285_284.out; have hcz44_0 := bc BK284.out 0 (.slice A0_0 l0_0.length c0_0) rfl; have hcz44_1 := bc BK284.out 1 (.int .i64 a0_1) rfl; have hcz44_2 := bc BK284.out 2 (.int .i64 a0_2) rfl; have hcz44_3 := bc BK284.out 3 (.bool a0_3) rfl; have hcz44_4 := bc BK284.out 4 (.slice A0_4 l0_4.length c0_4) rfl; have hcz44_5 := bc BK284.out 5 (.slice A0_5 l0_5.length c0_5) rfl; have hfz44_0 := bf BK284.out 0; have hfz44_1 := bf BK284.out 1; have hfz44_2 := bf BK284.out 2; have hfz44_3 := bf BK284.out 3; have hfz44_4 := bf BK284.out 4; have hfz44_5 := bf BK284.out 5; have hcz45_0 := bc BK285.out 0 (.slice A1_0 l1_0.length c1_0) rfl; have hcz45_1 := bc BK285.out 1 (.int .i64 a1_1) rfl; have hcz45_2 := bc BK285.out 2 (.int .i64 a1_2) rfl; have hcz45_3 := bc BK285.out 3 (.bool a1_3) rfl; have hcz45_4 := bc BK285.out 4 (.slice A1_4 l1_4.length c1_4) rfl; have hcz45_5 := bc BK285.out 5 (.slice A1_5 l1_5.length c1_5) rfl; have hfz45_0 := bf BK285.out 0; have hfz45_1 := bf BK285.out 1; have hfz45_2 := bf BK285.out 2; have hfz45_3 := bf BK285.out 3; have hfz45_4 := bf BK285.out 4; have hfz45_5 := bf BK285.out 5) | ((with_reducible refine gate_callee (f := 102) rfl ?_); refine goesL_ (some 9) rfl rfl Try.func102 (by kernel_rfl) rfl #[.slice A0_0 l0_0.length c0_0, .slice A1_0 l1_0.length c1_0] rfl (by (try simp only [List.map_toArray, List.map_cons, List.map_nil]); first | done | rfl | (simp only [List.length_drop, List.length_take]; rfl)) ?_; (with_reducible refine (laws_eqFieldS.calls k _ _ l0_0 _ _ l1_0 true _ ?side1 ?side2 ?side3 ?side4 A3.out).mono ?_); (case side1 => exact Kd.C_below HR0_0.out HB.out); (case side2 => exact HC0_0.out); (case side3 => exact Kd.C_below HR1_0.out HB.out); (case side4 => exact HC1_0.out); rintro e w46 ⟨rfl, hb⟩; refine ⟨_, rfl, ?_⟩; have n0_ := am (blk_below BK284.out hb); have n1_ := am (blk_below BK285.out hb); have n2_ := am (below_step (by repeat (first | (with_reducible first | exact HB.out | refine below_set ?_ GE284.out | refine below_set ?_ GE285.out) | exact HB.out)) hb); clear BK284; clear BK285; clear HB; have BK284 := n0_; have BK285 := n1_; have HB := n2_; clear n0_ n1_ n2_; (try clear hb); (try clear hb2); (try clear hk); (try clear hi); have hcz47_0 := bc BK284.out 0 (.slice A0_0 l0_0.length c0_0) rfl; have hcz47_1 := bc BK284.out 1 (.int .i64 a0_1) rfl; have hcz47_2 := bc BK284.out 2 (.int .i64 a0_2) rfl; have hcz47_3 := bc BK284.out 3 (.bool a0_3) rfl; have hcz47_4 := bc BK284.out 4 (.slice A0_4 l0_4.length c0_4) rfl; have hcz47_5 := bc BK284.out 5 (.slice A0_5 l0_5.length c0_5) rfl; have hfz47_0 := bf BK284.out 0; have hfz47_1 := bf BK284.out 1; have hfz47_2 := bf BK284.out 2; have hfz47_3 := bf BK284.out 3; have hfz47_4 := bf BK284.out 4; have hfz47_5 := bf BK284.out 5; have hcz48_0 := bc BK285.out 0 (.slice A1_0 l1_0.length c1_0) rfl; have hcz48_1 := bc BK285.out 1 (.int .i64 a1_1) rfl; have hcz48_2 := bc BK285.out 2 (.int .i64 a1_2) rfl; have hcz48_3 := bc BK285.out 3 (.bool a1_3) rfl; have hcz48_4 := bc BK285.out 4 (.slice A1_4 l1_4.length c1_4) rfl; have hcz48_5 := bc BK285.out 5 (.slice A1_5 l1_5.length c1_5) rfl; have hfz48_0 := bf BK285.out 0; have hfz48_1 := bf BK285.out 1; have hfz48_2 := bf BK285.out 2; have hfz48_3 := bf BK285.out 3; have hfz48_4 := bf BK285.out 4; have hfz48_5 := bf BK285.out 5) | ((with_reducible refine gate_callee (f := 124) rfl ?_); refine goesL_ (some 15) rfl rfl Try.func124 (by kernel_rfl) rfl #[.agg #[.int .i64 a0_1, .int .i64 a0_2, .bool a0_3], .agg #[.int .i64 a1_1, .int .i64 a1_2, .bool a1_3]] rfl (by (try simp only [List.map_toArray, List.map_cons, List.map_nil]); first | done | rfl | (simp only [List.length_drop, List.length_take]; rfl)) ?_; (with_reducible refine (laws_eqField.calls a0_1 a0_2 a0_3 a1_1 a1_2 a1_3 true _ A5.out).mono ?_); rintro e w49 ⟨rfl, hb⟩; refine ⟨_, rfl, ?_⟩; have n0_ := am (blk_below BK284.out hb); have n1_ := am (blk_below BK285.out hb); have n2_ := am (below_step (by repeat (first | (with_reducible first | exact HB.out | refine below_set ?_ GE284.out | refine below_set ?_ GE285.out) | exact HB.out)) hb); clear BK284; clear BK285; clear HB; have BK284 := n0_; have BK285 := n1_; have HB := n2_; clear n0_ n1_ n2_; (try clear hb); (try clear hb2); (try clear hk); (try clear hi); have hcz50_0 := bc BK284.out 0 (.slice A0_0 l0_0.length c0_0) rfl; have hcz50_1 := bc BK284.out 1 (.int .i64 a0_1) rfl; have hcz50_2 := bc BK284.out 2 (.int .i64 a0_2) rfl; have hcz50_3 := bc BK284.out 3 (.bool a0_3) rfl; have hcz50_4 := bc BK284.out 4 (.slice A0_4 l0_4.length c0_4) rfl; have hcz50_5 := bc BK284.out 5 (.slice A0_5 l0_5.length c0_5) rfl; have hfz50_0 := bf BK284.out 0; have hfz50_1 := bf BK284.out 1; have hfz50_2 := bf BK284.out 2; have hfz50_3 := bf BK284.out 3; have hfz50_4 := bf BK284.out 4; have hfz50_5 := bf BK284.out 5; have hcz51_0 := bc BK285.out 0 (.slice A1_0 l1_0.length c1_0) rfl; have hcz51_1 := bc BK285.out 1 (.int .i64 a1_1) rfl; have hcz51_2 := bc BK285.out 2 (.int .i64 a1_2) rfl; have hcz51_3 := bc BK285.out 3 (.bool a1_3) rfl; have hcz51_4 := bc BK285.out 4 (.slice A1_4 l1_4.length c1_4) rfl; have hcz51_5 := bc BK285.out 5 (.slice A1_5 l1_5.length c1_5) rfl; have hfz51_0 := bf BK285.out 0; have hfz51_1 := bf BK285.out 1; have hfz51_2 := bf BK285.out 2; have hfz51_3 := bf BK285.out 3; have hfz51_4 := bf BK285.out 4; have hfz51_5 := bf BK285.out 5) | ((with_reducible refine gate_callee (f := 102) rfl ?_); refine goesL_ (some 21) rfl rfl Try.func102 (by kernel_rfl) rfl #[.slice A0_4 l0_4.length c0_4, .slice A1_4 l1_4.length c1_4] rfl (by (try simp only [List.map_toArray, List.map_cons, List.map_nil]); first | done | rfl | (simp only [List.length_drop, List.length_take]; rfl)) ?_; (with_reducible refine (laws_eqFieldS.calls k _ _ l0_4 _ _ l1_4 false _ ?side1 ?side2 ?side3 ?side4 A7.out).mono ?_); (case side1 => exact Kd.C_below HR0_4.out HB.out); (case side2 => exact HC0_4.out); (case side3 => exact Kd.C_below HR1_4.out HB.out); (case side4 => exact HC1_4.out); rintro e w52 ⟨rfl, hb⟩; refine ⟨_, rfl, ?_⟩; have n0_ := am (blk_below BK284.out hb); have n1_ := am (blk_below BK285.out hb); have n2_ := am (below_step (by repeat (first | (with_reducible first | exact HB.out | refine below_set ?_ GE284.out | refine below_set ?_ GE285.out) | exact HB.out)) hb); clear BK284; clear BK285; clear HB; have BK284 := n0_; have BK285 := n1_; have HB := n2_; clear n0_ n1_ n2_; (try clear hb); (try clear hb2); (try clear hk); (try clear hi)))
        go_ret
        exact ⟨by first | rfl | (simp [errW_none, errW_some] <;> rfl) | (simp [*, errW_none, errW_some] <;> rfl), by repeat (first | (with_reducible first | exact HB.out | refine below_set ?_ GE284.out | refine below_set ?_ GE285.out) | exact HB.out)⟩
    · replace c6 := Bool.eq_false_iff.mpr c6
      subst c6
      have H1 : (some false) = some r := by rw [if_neg (show ¬ (false = true) by decide)] at H; exact H
      clear H
      have H := H1
      clear H1
      obtain rfl := Option.some.inj H
      go_enter Try.func125, Try.ntmps125
      go_wp2_with (first | ((with_reducible refine gate_dst (N := 2) rfl ?_); refine box_event ?hg (N := 2) ?hd (cs := #[.slice A0_0 l0_0.length c0_0, .int .i64 a0_1, .int .i64 a0_2, .bool a0_3, .slice A0_4 l0_4.length c0_4, .slice A0_5 l0_5.length c0_5]) (t := 124) ?hr ?_; (case hd => rfl); (case hg => rfl); (case hr => first | (go_simp; done) | (go_simp; rfl)); intro gb284 hg w53 hbox hb; have n0_ := am (below_step HB.out hb); have n1_ := am (hbox); have n2_ := am ((by rw [hg]; exact (below_size HB.out) : w.heap.size ≤ gb284)); have n3_ := am ((by rw [hg]; exact (below_size HB.out) : w.heap.size ≤ gb284)); clear HB; have HB := n0_; have BK284 := n1_; have GW284 := n2_; have GE284 := n3_; clear n0_ n1_ n2_ n3_; clear hb hbox hg) | ((with_reducible refine gate_dst (N := 3) rfl ?_); refine box_event ?hg (N := 3) ?hd (cs := #[.slice A1_0 l1_0.length c1_0, .int .i64 a1_1, .int .i64 a1_2, .bool a1_3, .slice A1_4 l1_4.length c1_4, .slice A1_5 l1_5.length c1_5]) (t := 124) ?hr ?_; (case hd => rfl); (case hg => rfl); (case hr => first | (go_simp; done) | (go_simp; rfl)); intro gb285 hg w54 hbox hb; have n0_ := am (blk_below BK284.out hb); have n1_ := am (below_step (by repeat (first | (with_reducible first | exact HB.out | refine below_set ?_ GE284.out) | exact HB.out)) hb); have n2_ := am (hbox); have n3_ := am ((by rw [hg]; exact (below_size (by repeat (first | (with_reducible first | exact HB.out | refine below_set ?_ GE284.out) | exact HB.out))) : w.heap.size ≤ gb285)); have n4_ := am ((by rw [hg]; exact (below_size (by repeat (first | (with_reducible first | exact HB.out | refine below_set ?_ GE284.out) | exact HB.out))) : w.heap.size ≤ gb285)); have n5_ := am ((by rw [hg]; exact Nat.ne_of_lt (blk_lt BK284.out) : gb284 ≠ gb285)); have n6_ := am ((by rw [hg]; exact Nat.ne_of_gt (blk_lt BK284.out) : gb285 ≠ gb284)); clear BK284; clear HB; have BK284 := n0_; have HB := n1_; have BK285 := n2_; have GW285 := n3_; have GE285 := n4_; have NB284_285 := n5_; have NB285_284 := n6_; clear n0_ n1_ n2_ n3_ n4_ n5_ n6_; clear hb hbox hg; have hnb55 := NB284_285.out; have hnc55 := NB285_284.out; have hcz56_0 := bc BK284.out 0 (.slice A0_0 l0_0.length c0_0) rfl; have hcz56_1 := bc BK284.out 1 (.int .i64 a0_1) rfl; have hcz56_2 := bc BK284.out 2 (.int .i64 a0_2) rfl; have hcz56_3 := bc BK284.out 3 (.bool a0_3) rfl; have hcz56_4 := bc BK284.out 4 (.slice A0_4 l0_4.length c0_4) rfl; have hcz56_5 := bc BK284.out 5 (.slice A0_5 l0_5.length c0_5) rfl; have hfz56_0 := bf BK284.out 0; have hfz56_1 := bf BK284.out 1; have hfz56_2 := bf BK284.out 2; have hfz56_3 := bf BK284.out 3; have hfz56_4 := bf BK284.out 4; have hfz56_5 := bf BK284.out 5; have hcz57_0 := bc BK285.out 0 (.slice A1_0 l1_0.length c1_0) rfl; have hcz57_1 := bc BK285.out 1 (.int .i64 a1_1) rfl; have hcz57_2 := bc BK285.out 2 (.int .i64 a1_2) rfl; have hcz57_3 := bc BK285.out 3 (.bool a1_3) rfl; have hcz57_4 := bc BK285.out 4 (.slice A1_4 l1_4.length c1_4) rfl; have hcz57_5 := bc BK285.out 5 (.slice A1_5 l1_5.length c1_5) rfl; have hfz57_0 := bf BK285.out 0; have hfz57_1 := bf BK285.out 1; have hfz57_2 := bf BK285.out 2; have hfz57_3 := bf BK285.out 3; have hfz57_4 := bf BK285.out 4; have hfz57_5 := bf BK285.out 5) | ((with_reducible refine gate_callee (f := 102) rfl ?_); refine goesL_ (some 9) rfl rfl Try.func102 (by kernel_rfl) rfl #[.slice A0_0 l0_0.length c0_0, .slice A1_0 l1_0.length c1_0] rfl (by (try simp only [List.map_toArray, List.map_cons, List.map_nil]); first | done | rfl | (simp only [List.length_drop, List.length_take]; rfl)) ?_; (with_reducible refine (laws_eqFieldS.calls k _ _ l0_0 _ _ l1_0 true _ ?side1 ?side2 ?side3 ?side4 A3.out).mono ?_); (case side1 => exact Kd.C_below HR0_0.out HB.out); (case side2 => exact HC0_0.out); (case side3 => exact Kd.C_below HR1_0.out HB.out); (case side4 => exact HC1_0.out); rintro e w58 ⟨rfl, hb⟩; refine ⟨_, rfl, ?_⟩; have n0_ := am (blk_below BK284.out hb); have n1_ := am (blk_below BK285.out hb); have n2_ := am (below_step (by repeat (first | (with_reducible first | exact HB.out | refine below_set ?_ GE284.out | refine below_set ?_ GE285.out) | exact HB.out)) hb); clear BK284; clear BK285; clear HB; have BK284 := n0_; have BK285 := n1_; have HB := n2_; clear n0_ n1_ n2_; (try clear hb); (try clear hb2); (try clear hk); (try clear hi); have hcz59_0 := bc BK284.out 0 (.slice A0_0 l0_0.length c0_0) rfl; have hcz59_1 := bc BK284.out 1 (.int .i64 a0_1) rfl; have hcz59_2 := bc BK284.out 2 (.int .i64 a0_2) rfl; have hcz59_3 := bc BK284.out 3 (.bool a0_3) rfl; have hcz59_4 := bc BK284.out 4 (.slice A0_4 l0_4.length c0_4) rfl; have hcz59_5 := bc BK284.out 5 (.slice A0_5 l0_5.length c0_5) rfl; have hfz59_0 := bf BK284.out 0; have hfz59_1 := bf BK284.out 1; have hfz59_2 := bf BK284.out 2; have hfz59_3 := bf BK284.out 3; have hfz59_4 := bf BK284.out 4; have hfz59_5 := bf BK284.out 5; have hcz60_0 := bc BK285.out 0 (.slice A1_0 l1_0.length c1_0) rfl; have hcz60_1 := bc BK285.out 1 (.int .i64 a1_1) rfl; have hcz60_2 := bc BK285.out 2 (.int .i64 a1_2) rfl; have hcz60_3 := bc BK285.out 3 (.bool a1_3) rfl; have hcz60_4 := bc BK285.out 4 (.slice A1_4 l1_4.length c1_4) rfl; have hcz60_5 := bc BK285.out 5 (.slice A1_5 l1_5.length c1_5) rfl; have hfz60_0 := bf BK285.out 0; have hfz60_1 := bf BK285.out 1; have hfz60_2 := bf BK285.out 2; have hfz60_3 := bf BK285.out 3; have hfz60_4 := bf BK285.out 4; have hfz60_5 := bf BK285.out 5) | ((with_reducible refine gate_callee (f := 124) rfl ?_); refine goesL_ (some 15) rfl rfl Try.func124 (by kernel_rfl) rfl #[.agg #[.int .i64 a0_1, .int .i64 a0_2, .bool a0_3], .agg #[.int .i64 a1_1, .int .i64 a1_2, .bool a1_3]] rfl (by (try simp only [List.map_toArray, List.map_cons, List.map_nil]); first | done | rfl | (simp only [List.length_drop, List.length_take]; rfl)) ?_; (with_reducible refine (laws_eqField.calls a0_1 a0_2 a0_3 a1_1 a1_2 a1_3 false _ A5.out).mono ?_); rintro e w61 ⟨rfl, hb⟩; refine ⟨_, rfl, ?_⟩; have n0_ := am (blk_below BK284.out hb); have n1_ := am (blk_below BK285.out hb); have n2_ := am (below_step (by repeat (first | (with_reducible first | exact HB.out | refine below_set ?_ GE284.out | refine below_set ?_ GE285.out) | exact HB.out)) hb); clear BK284; clear BK285; clear HB; have BK284 := n0_; have BK285 := n1_; have HB := n2_; clear n0_ n1_ n2_; (try clear hb); (try clear hb2); (try clear hk); (try clear hi)))
      go_ret
      exact ⟨by first | rfl | (simp [errW_none, errW_some] <;> rfl) | (simp [*, errW_none, errW_some] <;> rfl), by repeat (first | (with_reducible first | exact HB.out | refine below_set ?_ GE284.out | refine below_set ?_ GE285.out) | exact HB.out)⟩
  · replace c4 := Bool.eq_false_iff.mpr c4
    subst c4
    have H1 : (some false) = some r := by rw [if_neg (show ¬ (false = true) by decide)] at H; exact H
    clear H
    have H := H1
    clear H1
    obtain rfl := Option.some.inj H
    go_enter Try.func125, Try.ntmps125
    go_wp2_with (first | ((with_reducible refine gate_dst (N := 2) rfl ?_); refine box_event ?hg (N := 2) ?hd (cs := #[.slice A0_0 l0_0.length c0_0, .int .i64 a0_1, .int .i64 a0_2, .bool a0_3, .slice A0_4 l0_4.length c0_4, .slice A0_5 l0_5.length c0_5]) (t := 124) ?hr ?_; (case hd => rfl); (case hg => rfl); (case hr => first | (go_simp; done) | (go_simp; rfl)); intro gb284 hg w62 hbox hb; have n0_ := am (below_step HB.out hb); have n1_ := am (hbox); have n2_ := am ((by rw [hg]; exact (below_size HB.out) : w.heap.size ≤ gb284)); have n3_ := am ((by rw [hg]; exact (below_size HB.out) : w.heap.size ≤ gb284)); clear HB; have HB := n0_; have BK284 := n1_; have GW284 := n2_; have GE284 := n3_; clear n0_ n1_ n2_ n3_; clear hb hbox hg) | ((with_reducible refine gate_dst (N := 3) rfl ?_); refine box_event ?hg (N := 3) ?hd (cs := #[.slice A1_0 l1_0.length c1_0, .int .i64 a1_1, .int .i64 a1_2, .bool a1_3, .slice A1_4 l1_4.length c1_4, .slice A1_5 l1_5.length c1_5]) (t := 124) ?hr ?_; (case hd => rfl); (case hg => rfl); (case hr => first | (go_simp; done) | (go_simp; rfl)); intro gb285 hg w63 hbox hb; have n0_ := am (blk_below BK284.out hb); have n1_ := am (below_step (by repeat (first | (with_reducible first | exact HB.out | refine below_set ?_ GE284.out) | exact HB.out)) hb); have n2_ := am (hbox); have n3_ := am ((by rw [hg]; exact (below_size (by repeat (first | (with_reducible first | exact HB.out | refine below_set ?_ GE284.out) | exact HB.out))) : w.heap.size ≤ gb285)); have n4_ := am ((by rw [hg]; exact (below_size (by repeat (first | (with_reducible first | exact HB.out | refine below_set ?_ GE284.out) | exact HB.out))) : w.heap.size ≤ gb285)); have n5_ := am ((by rw [hg]; exact Nat.ne_of_lt (blk_lt BK284.out) : gb284 ≠ gb285)); have n6_ := am ((by rw [hg]; exact Nat.ne_of_gt (blk_lt BK284.out) : gb285 ≠ gb284)); clear BK284; clear HB; have BK284 := n0_; have HB := n1_; have BK285 := n2_; have GW285 := n3_; have GE285 := n4_; have NB284_285 := n5_; have NB285_284 := n6_; clear n0_ n1_ n2_ n3_ n4_ n5_ n6_; clear hb hbox hg; have hnb64 := NB284_285.out; have hnc64 := NB285_284.out; have hcz65_0 := bc BK284.out 0 (.slice A0_0 l0_0.length c0_0) rfl; have hcz65_1 := bc BK284.out 1 (.int .i64 a0_1) rfl; have hcz65_2 := bc BK284.out 2 (.int .i64 a0_2) rfl; have hcz65_3 := bc BK284.out 3 (.bool a0_3) rfl; have hcz65_4 := bc BK284.out 4 (.slice A0_4 l0_4.length c0_4) rfl; have hcz65_5 := bc BK284.out 5 (.slice A0_5 l0_5.length c0_5) rfl; have hfz65_0 := bf BK284.out 0; have hfz65_1 := bf BK284.out 1; have hfz65_2 := bf BK284.out 2; have hfz65_3 := bf BK284.out 3; have hfz65_4 := bf BK284.out 4; have hfz65_5 := bf BK284.out 5; have hcz66_0 := bc BK285.out 0 (.slice A1_0 l1_0.length c1_0) rfl; have hcz66_1 := bc BK285.out 1 (.int .i64 a1_1) rfl; have hcz66_2 := bc BK285.out 2 (.int .i64 a1_2) rfl; have hcz66_3 := bc BK285.out 3 (.bool a1_3) rfl; have hcz66_4 := bc BK285.out 4 (.slice A1_4 l1_4.length c1_4) rfl; have hcz66_5 := bc BK285.out 5 (.slice A1_5 l1_5.length c1_5) rfl; have hfz66_0 := bf BK285.out 0; have hfz66_1 := bf BK285.out 1; have hfz66_2 := bf BK285.out 2; have hfz66_3 := bf BK285.out 3; have hfz66_4 := bf BK285.out 4; have hfz66_5 := bf BK285.out 5) | ((with_reducible refine gate_callee (f := 102) rfl ?_); refine goesL_ (some 9) rfl rfl Try.func102 (by kernel_rfl) rfl #[.slice A0_0 l0_0.length c0_0, .slice A1_0 l1_0.length c1_0] rfl (by (try simp only [List.map_toArray, List.map_cons, List.map_nil]); first | done | rfl | (simp only [List.length_drop, List.length_take]; rfl)) ?_; (with_reducible refine (laws_eqFieldS.calls k _ _ l0_0 _ _ l1_0 false _ ?side1 ?side2 ?side3 ?side4 A3.out).mono ?_); (case side1 => exact Kd.C_below HR0_0.out HB.out); (case side2 => exact HC0_0.out); (case side3 => exact Kd.C_below HR1_0.out HB.out); (case side4 => exact HC1_0.out); rintro e w67 ⟨rfl, hb⟩; refine ⟨_, rfl, ?_⟩; have n0_ := am (blk_below BK284.out hb); have n1_ := am (blk_below BK285.out hb); have n2_ := am (below_step (by repeat (first | (with_reducible first | exact HB.out | refine below_set ?_ GE284.out | refine below_set ?_ GE285.out) | exact HB.out)) hb); clear BK284; clear BK285; clear HB; have BK284 := n0_; have BK285 := n1_; have HB := n2_; clear n0_ n1_ n2_; (try clear hb); (try clear hb2); (try clear hk); (try clear hi)))
    go_ret
    exact ⟨by first | rfl | (simp [errW_none, errW_some] <;> rfl) | (simp [*, errW_none, errW_some] <;> rfl), by repeat (first | (with_reducible first | exact HB.out | refine below_set ?_ GE284.out | refine below_set ?_ GE285.out) | exact HB.out)⟩
def laws_eqFunS.l0 : Nat → List (S124) → List (S124) → Int → Option (Bool)
  | 0, _, _, _ => none
  | k + 1, x0, x1, x5 => if x5 < (x0.length : Int) then (if 0 ≤ x5 then (if x5 < (x1.length : Int) then ((laws_eqFun.f k ((rd_T124 x0 x5).f0) ((rd_T124 x0 x5).f1.f0) ((rd_T124 x0 x5).f1.f1) ((rd_T124 x0 x5).f1.f2) ((rd_T124 x0 x5).f2) ((rd_T124 x0 x5).f3) ((rd_T124 x1 x5).f0) ((rd_T124 x1 x5).f1.f0) ((rd_T124 x1 x5).f1.f1) ((rd_T124 x1 x5).f1.f2) ((rd_T124 x1 x5).f2) ((rd_T124 x1 x5).f3)).bind fun t292 => (if t292 = true then (laws_eqFunS.l0 k x0 x1 (wrap64 (x5 + 1))) else (some false))) else (none)) else (none)) else (some true)
def laws_eqFunS.f (k : Nat) (l0 : List (S124)) (l1 : List (S124)) : Option (Bool) := if (l0.length : Int) = (l1.length : Int) then (laws_eqFunS.l0 k l0 l1 0) else (some false)
def laws_eqFunS.T6 : Bool × List (List Nat × List Nat) := (true, [([], []), ([], []), ([0, 1], [0, 1]), ([2], [2]), ([], []), ([], []), ([4, 5], [4, 5]), ([6], [6]), ([3, 7], [3, 7]), ([8], [8])])
def laws_eqFunS.B6 : List Nat := [0, 0, 3, 7, 0, 0, 48, 112, 255, 511]
theorem laws_eqFunS.tab6 : rtab .any (opsOf Try.f103 6) = laws_eqFunS.T6 := by kernel_rfl
theorem laws_eqFunS.bits6 : waitsOk laws_eqFunS.T6.2 laws_eqFunS.B6 = true := by kernel_rfl
set_option maxHeartbeats 8000000 in
set_option maxRecDepth 100000 in
theorem laws_eqFunS.calls (k : Nat) (A0 : Option Addr) (c0 : Nat) (l0 : List (S124)) (A1 : Option Addr) (c1 : Nat) (l1 : List (S124)) (r : Bool) (w : World) (hr0 : Kd.C k124 w A0 l0.length l0) (hc0 : l0.length ≤ c0) (hr1 : Kd.C k124 w A1 l1.length l1) (hc1 : l1.length ≤ c1) (h : laws_eqFunS.f k l0 l1 = some r) :
    Calls Try.prog 103 #[.slice A0 l0.length c0, .slice A1 l1.length c1] w fun e w' => e = .returned (.bool r) ∧ Below w.heap.size w w' := by
  have hu124 := Try.underlying124
  have HR0 := am hr0
  have HC0 := am hc0
  clear hr0 hc0
  have HR1 := am hr1
  have HC1 := am hc1
  clear hr1 hc1
  have HB := am (Below.refl w.heap.size w)
  have H : (if (l0.length : Int) = (l1.length : Int) then (laws_eqFunS.l0 k l0 l1 0) else (some false)) = some r := h
  clear h
  by_cases c3 : (l0.length : Int) = (l1.length : Int)
  · rw [if_pos c3] at H
    have c3b0 : ((l0.length : Int) == (l1.length : Int)) = true := beq_iff_eq.mpr c3
    have c3b1 : ((l0.length : Int) != (l1.length : Int)) = false := bne_eq_false_iff_eq.mpr c3
    have c3b2 : (l0.length == l1.length) = true := by first | simpa using c3 | (simp at c3 ⊢; omega)
    clear c3
    have H' := am H
    clear H
    go_enter Try.func103, Try.ntmps103
    go_wp2
    go_loopg [5] k (fun kq v5 w' => ∃ (x5_1 : Int), v5 = .int .i64 x5_1 ∧ Aside0 (laws_eqFunS.l0 kq l0 l1 x5_1 = some r) ∧ Aside0 (kq ≤ k) ∧ Aside0 (Below w.heap.size w w'))
    case atStart => exact ⟨(0), (by first | rfl | (simp; done) | (simp [*]; done)), H', ⟨Nat.le_refl _⟩, ⟨by repeat (first | (with_reducible first | exact HB.out | apply pa | apply pb | apply pc) | exact HB.out)⟩⟩
    case round =>
      clear H'
      try clear c1
      try clear p2
      try clear c3
      try clear c3b0
      try clear c3b1
      try clear c3b2
      obtain ⟨x5_1, rfl, HA, HK1, HB⟩ := hrel
      cases gk with
      | zero => exact absurd HA.out (by simp [laws_eqFunS.l0])
      | succ k1 =>
        have H := HA.out
        clear HA
        simp only [laws_eqFunS.l0] at H
        by_cases c4 : x5_1 < (l0.length : Int)
        · rw [if_pos c4] at H
          have c4b0 : decide (x5_1 < (l0.length : Int)) = true := decide_eq_true c4
          clear c4
          by_cases c5 : 0 ≤ x5_1
          · rw [if_pos c5] at H
            have c5b0 : decide (0 ≤ x5_1) = true := decide_eq_true c5
            clear c5
            by_cases c6 : x5_1 < (l1.length : Int)
            · rw [if_pos c6] at H
              have c6b0 : decide (x5_1 < (l1.length : Int)) = true := decide_eq_true c6
              clear c6
              replace H := Option.bind_eq_some_iff.mp H
              obtain ⟨t292, A70, H⟩ := H
              replace H : (if t292 = true then (laws_eqFunS.l0 k1 l0 l1 (wrap64 (x5_1 + 1))) else (some false)) = some r := H
              have A7 := am A70
              clear A70
              by_cases c8 : t292 = true
              · subst c8
                have H1 : (laws_eqFunS.l0 k1 l0 l1 (wrap64 (x5_1 + 1))) = some r := by rw [if_pos rfl] at H; exact H
                clear H
                have H := H1
                clear H1
                have H' := am H
                clear H
                try go_wp2
                have n0_ := am (below_drew1 HB.out)
                clear HB
                have HB := n0_
                clear n0_
                have p290 : 0 ≤ (x5_1 : Int) := od (by assumption)
                have q290 : x5_1 < (l0.length : Int) := od (by assumption)
                obtain ⟨ad290, A290_0, c290_0, A290_4, c290_4, A290_5, c290_5, e290, hx290_0, hx290_1, hx290_2, hx290_3, hx290_4, hx290_5, hl290_0, hi290_0, hl290_4, hi290_4, hl290_5, hi290_5⟩ := at_T124 HR0.out x5_1 p290 q290
                have hw290_5 := hx290_5
                have hw290_4 := hx290_4
                have hw290_3 := hx290_3
                have hw290_2 := hx290_2
                have hw290_1 := hx290_1
                have hw290_0 := hx290_0
                cases e290
                replace hx290_0 := (HB.out.cell (World.block_lt_of_cell? w _ hx290_0)).trans hx290_0
                replace hx290_1 := (HB.out.cell (World.block_lt_of_cell? w _ hx290_1)).trans hx290_1
                replace hx290_2 := (HB.out.cell (World.block_lt_of_cell? w _ hx290_2)).trans hx290_2
                replace hx290_3 := (HB.out.cell (World.block_lt_of_cell? w _ hx290_3)).trans hx290_3
                replace hx290_4 := (HB.out.cell (World.block_lt_of_cell? w _ hx290_4)).trans hx290_4
                replace hx290_5 := (HB.out.cell (World.block_lt_of_cell? w _ hx290_5)).trans hx290_5
                have HR290_0 := am hi290_0
                have HC290_0 := am hl290_0
                clear hi290_0 hl290_0
                have HR290_4 := am hi290_4
                have HC290_4 := am hl290_4
                clear hi290_4 hl290_4
                have HR290_5 := am hi290_5
                have HC290_5 := am hl290_5
                clear hi290_5 hl290_5
                replace p290 := eq_true p290
                replace q290 := eq_true q290
                have p291 : 0 ≤ (x5_1 : Int) := od (by assumption)
                have q291 : x5_1 < (l1.length : Int) := od (by assumption)
                obtain ⟨ad291, A291_0, c291_0, A291_4, c291_4, A291_5, c291_5, e291, hx291_0, hx291_1, hx291_2, hx291_3, hx291_4, hx291_5, hl291_0, hi291_0, hl291_4, hi291_4, hl291_5, hi291_5⟩ := at_T124 HR1.out x5_1 p291 q291
                have hw291_5 := hx291_5
                have hw291_4 := hx291_4
                have hw291_3 := hx291_3
                have hw291_2 := hx291_2
                have hw291_1 := hx291_1
                have hw291_0 := hx291_0
                cases e291
                replace hx291_0 := (HB.out.cell (World.block_lt_of_cell? w _ hx291_0)).trans hx291_0
                replace hx291_1 := (HB.out.cell (World.block_lt_of_cell? w _ hx291_1)).trans hx291_1
                replace hx291_2 := (HB.out.cell (World.block_lt_of_cell? w _ hx291_2)).trans hx291_2
                replace hx291_3 := (HB.out.cell (World.block_lt_of_cell? w _ hx291_3)).trans hx291_3
                replace hx291_4 := (HB.out.cell (World.block_lt_of_cell? w _ hx291_4)).trans hx291_4
                replace hx291_5 := (HB.out.cell (World.block_lt_of_cell? w _ hx291_5)).trans hx291_5
                have HR291_0 := am hi291_0
                have HC291_0 := am hl291_0
                clear hi291_0 hl291_0
                have HR291_4 := am hi291_4
                have HC291_4 := am hl291_4
                clear hi291_4 hl291_4
                have HR291_5 := am hi291_5
                have HC291_5 := am hl291_5
                clear hi291_5 hl291_5
                replace p291 := eq_true p291
                replace q291 := eq_true q291
                refine start_ (n := 10) (S := fun w' => w'.cell? (ad290.add ((x5_1).toNat * 6)) = some (.slice A290_0 ((rd_T124 l0 x5_1).f0).length c290_0) ∧ w'.cell? ⟨(ad290.add ((x5_1).toNat * 6)).block, (ad290.add ((x5_1).toNat * 6)).off + 1, none⟩ = some (.int .i64 ((rd_T124 l0 x5_1).f1.f0)) ∧ w'.cell? ⟨(ad290.add ((x5_1).toNat * 6)).block, (ad290.add ((x5_1).toNat * 6)).off + 2, none⟩ = some (.int .i64 ((rd_T124 l0 x5_1).f1.f1)) ∧ w'.cell? ⟨(ad290.add ((x5_1).toNat * 6)).block, (ad290.add ((x5_1).toNat * 6)).off + 3, none⟩ = some (.bool ((rd_T124 l0 x5_1).f1.f2)) ∧ w'.cell? ⟨(ad290.add ((x5_1).toNat * 6)).block, (ad290.add ((x5_1).toNat * 6)).off + 4, none⟩ = some (.slice A290_4 ((rd_T124 l0 x5_1).f2).length c290_4) ∧ w'.cell? ⟨(ad290.add ((x5_1).toNat * 6)).block, (ad290.add ((x5_1).toNat * 6)).off + 5, none⟩ = some (.slice A290_5 ((rd_T124 l0 x5_1).f3).length c290_5) ∧ w'.cell? (ad291.add ((x5_1).toNat * 6)) = some (.slice A291_0 ((rd_T124 l1 x5_1).f0).length c291_0) ∧ w'.cell? ⟨(ad291.add ((x5_1).toNat * 6)).block, (ad291.add ((x5_1).toNat * 6)).off + 1, none⟩ = some (.int .i64 ((rd_T124 l1 x5_1).f1.f0)) ∧ w'.cell? ⟨(ad291.add ((x5_1).toNat * 6)).block, (ad291.add ((x5_1).toNat * 6)).off + 2, none⟩ = some (.int .i64 ((rd_T124 l1 x5_1).f1.f1)) ∧ w'.cell? ⟨(ad291.add ((x5_1).toNat * 6)).block, (ad291.add ((x5_1).toNat * 6)).off + 3, none⟩ = some (.bool ((rd_T124 l1 x5_1).f1.f2)) ∧ w'.cell? ⟨(ad291.add ((x5_1).toNat * 6)).block, (ad291.add ((x5_1).toNat * 6)).off + 4, none⟩ = some (.slice A291_4 ((rd_T124 l1 x5_1).f2).length c291_4) ∧ w'.cell? ⟨(ad291.add ((x5_1).toNat * 6)).block, (ad291.add ((x5_1).toNat * 6)).off + 5, none⟩ = some (.slice A291_5 ((rd_T124 l1 x5_1).f3).length c291_5)) (ds := []) #[false, false, false, false, false, false, false, false, false, false] (by kernel_rfl) rfl rfl ⟨((HB.out.cell (World.block_lt_of_cell? w _ hw290_0)).trans hw290_0), ((HB.out.cell (World.block_lt_of_cell? w _ hw290_1)).trans hw290_1), ((HB.out.cell (World.block_lt_of_cell? w _ hw290_2)).trans hw290_2), ((HB.out.cell (World.block_lt_of_cell? w _ hw290_3)).trans hw290_3), ((HB.out.cell (World.block_lt_of_cell? w _ hw290_4)).trans hw290_4), ((HB.out.cell (World.block_lt_of_cell? w _ hw290_5)).trans hw290_5), ((HB.out.cell (World.block_lt_of_cell? w _ hw291_0)).trans hw291_0), ((HB.out.cell (World.block_lt_of_cell? w _ hw291_1)).trans hw291_1), ((HB.out.cell (World.block_lt_of_cell? w _ hw291_2)).trans hw291_2), ((HB.out.cell (World.block_lt_of_cell? w _ hw291_3)).trans hw291_3), ((HB.out.cell (World.block_lt_of_cell? w _ hw291_4)).trans hw291_4), ((HB.out.cell (World.block_lt_of_cell? w _ hw291_5)).trans hw291_5)⟩ (fun hHeld => ?_); refine with_tabW laws_eqFunS.tab6 laws_eqFunS.bits6 (fun HT_ HW_ => ?_)
                generalize wr.drew = w9 at HB HR290_0 HR290_4 HR290_5 HR291_0 HR291_4 HR291_5 hx290_0 hx290_1 hx290_2 hx290_3 hx290_4 hx290_5 hx291_0 hx291_1 hx291_2 hx291_3 hx291_4 hx291_5 hHeld ⊢
                refine pure_ (i := 0) (N := some 17) (v := ?_) (a' := ?_) #[true, false, false, false, false, false, false, false, false, false] rfl rfl (any_of HT_.out (by kernel_rfl)) (fun _ _ _ h => h) (Or.inl ⟨by rfl, ?_⟩) ?_ ?_
                rotate_left
                · intro w'
                  go_simp
                  with_reducible rfl
                rotate_left
                · simp only [Act.put, List.setIfInBounds_toArray, List.set_cons_zero, List.set_cons_succ, i64_w, i32_w]
                  rfl
                refine pure_ (i := 1) (N := some 18) (v := ?_) (a' := ?_) #[true, true, false, false, false, false, false, false, false, false] rfl rfl (any_of HT_.out (by kernel_rfl)) (fun _ _ _ h => h) (Or.inl ⟨by rfl, ?_⟩) ?_ ?_
                rotate_left
                · intro w'
                  go_simp
                  with_reducible rfl
                rotate_left
                · simp only [Act.put, List.setIfInBounds_toArray, List.set_cons_zero, List.set_cons_succ, i64_w, i32_w]
                  rfl
                refine pure_ (i := 2) (N := some 19) (v := ?_) (a' := ?_) #[true, true, true, false, false, false, false, false, false, false] rfl rfl (any_of HT_.out (by kernel_rfl)) (fun _ _ _ h => h) (Or.inl ⟨by rfl, ?_⟩) ?_ ?_
                rotate_left
                · intro w'
                  go_simp
                  with_reducible rfl
                rotate_left
                · simp only [Act.put, List.setIfInBounds_toArray, List.set_cons_zero, List.set_cons_succ, i64_w, i32_w]
                  rfl
                refine pure_ (i := 4) (N := some 21) (v := ?_) (a' := ?_) #[true, true, true, false, true, false, false, false, false, false] rfl rfl (any_of HT_.out (by kernel_rfl)) (fun _ _ _ h => h) (Or.inl ⟨by rfl, ?_⟩) ?_ ?_
                rotate_left
                · intro w'
                  go_simp
                  with_reducible rfl
                rotate_left
                · simp only [Act.put, List.setIfInBounds_toArray, List.set_cons_zero, List.set_cons_succ, i64_w, i32_w]
                  rfl
                refine pure_ (i := 5) (N := some 22) (v := ?_) (a' := ?_) #[true, true, true, false, true, true, false, false, false, false] rfl rfl (any_of HT_.out (by kernel_rfl)) (fun _ _ _ h => h) (Or.inl ⟨by rfl, ?_⟩) ?_ ?_
                rotate_left
                · intro w'
                  go_simp
                  with_reducible rfl
                rotate_left
                · simp only [Act.put, List.setIfInBounds_toArray, List.set_cons_zero, List.set_cons_succ, i64_w, i32_w]
                  rfl
                refine pure_ (i := 6) (N := some 23) (v := ?_) (a' := ?_) #[true, true, true, false, true, true, true, false, false, false] rfl rfl (any_of HT_.out (by kernel_rfl)) (fun _ _ _ h => h) (Or.inl ⟨by rfl, ?_⟩) ?_ ?_
                rotate_left
                · intro w'
                  go_simp
                  with_reducible rfl
                rotate_left
                · simp only [Act.put, List.setIfInBounds_toArray, List.set_cons_zero, List.set_cons_succ, i64_w, i32_w]
                  rfl
                refine take_ (i := 3) (N := some 20) (v := ?_) (a' := ?_) #[true, true, true, true, true, true, true, false, false, false] rfl rfl (take_ofW HT_.out HW_.out (by kernel_rfl)) (fun _ _ _ h => h) (Or.inl ⟨by rfl, ?_⟩) hHeld ?_ ?_
                rotate_left
                · rintro w' ⟨s0, s1, s2, s3, s4, s5, s6, s7, s8, s9, s10, s11⟩
                  go_simp
                  with_reducible rfl
                rotate_left
                · simp only [Act.put, List.setIfInBounds_toArray, List.set_cons_zero, List.set_cons_succ, i64_w, i32_w]
                  rfl
                refine take_ (i := 7) (N := some 24) (v := ?_) (a' := ?_) #[true, true, true, true, true, true, true, true, false, false] rfl rfl (take_ofW HT_.out HW_.out (by kernel_rfl)) (fun _ _ _ h => h) (Or.inl ⟨by rfl, ?_⟩) hHeld ?_ ?_
                rotate_left
                · rintro w' ⟨s0, s1, s2, s3, s4, s5, s6, s7, s8, s9, s10, s11⟩
                  go_simp
                  with_reducible rfl
                rotate_left
                · simp only [Act.put, List.setIfInBounds_toArray, List.set_cons_zero, List.set_cons_succ, i64_w, i32_w]
                  rfl
                refine one_ (i := 8) (N := some 25) #[true, true, true, true, true, true, true, true, true, false] rfl rfl (one_of HT_.out (by kernel_rfl)) (by decide) (fun K hK => ?_)
                refine goes_ Try.func125 (by kernel_rfl) rfl #[.agg #[.slice A290_0 ((rd_T124 l0 x5_1).f0).length c290_0, .int .i64 ((rd_T124 l0 x5_1).f1.f0), .int .i64 ((rd_T124 l0 x5_1).f1.f1), .bool ((rd_T124 l0 x5_1).f1.f2), .slice A290_4 ((rd_T124 l0 x5_1).f2).length c290_4, .slice A290_5 ((rd_T124 l0 x5_1).f3).length c290_5], .agg #[.slice A291_0 ((rd_T124 l1 x5_1).f0).length c291_0, .int .i64 ((rd_T124 l1 x5_1).f1.f0), .int .i64 ((rd_T124 l1 x5_1).f1.f1), .bool ((rd_T124 l1 x5_1).f1.f2), .slice A291_4 ((rd_T124 l1 x5_1).f2).length c291_4, .slice A291_5 ((rd_T124 l1 x5_1).f3).length c291_5]] (by rfl) rfl rfl (by (try simp only [List.map_toArray, List.map_cons, List.map_nil]); first | done | rfl | (simp only [List.length_drop, List.length_take]; rfl)) ?_
                with_reducible refine (laws_eqFun.calls k1 _ _ ((rd_T124 l0 x5_1).f0) ((rd_T124 l0 x5_1).f1.f0) ((rd_T124 l0 x5_1).f1.f1) ((rd_T124 l0 x5_1).f1.f2) _ _ ((rd_T124 l0 x5_1).f2) _ _ ((rd_T124 l0 x5_1).f3) _ _ ((rd_T124 l1 x5_1).f0) ((rd_T124 l1 x5_1).f1.f0) ((rd_T124 l1 x5_1).f1.f1) ((rd_T124 l1 x5_1).f1.f2) _ _ ((rd_T124 l1 x5_1).f2) _ _ ((rd_T124 l1 x5_1).f3) true _ ?side1 ?side2 ?side3 ?side4 ?side5 ?side6 ?side7 ?side8 ?side9 ?side10 ?side11 ?side12 A7.out).mono ?_
                (case side1 => exact Kd.C_below HR290_0.out HB.out)
                (case side2 => exact HC290_0.out)
                (case side3 => exact Kd.C_below HR290_4.out HB.out)
                (case side4 => exact HC290_4.out)
                (case side5 => exact Kd.C_below HR290_5.out HB.out)
                (case side6 => exact HC290_5.out)
                (case side7 => exact Kd.C_below HR291_0.out HB.out)
                (case side8 => exact HC291_0.out)
                (case side9 => exact Kd.C_below HR291_4.out HB.out)
                (case side10 => exact HC291_4.out)
                (case side11 => exact Kd.C_below HR291_5.out HB.out)
                (case side12 => exact HC291_5.out)
                rintro e w10 ⟨rfl, hb⟩
                refine ⟨_, rfl, ?_⟩
                have n0_ := am (below_step HB.out hb)
                clear HB
                have HB := n0_
                clear n0_
                (try clear hb)
                (try clear hb2)
                (try clear hk)
                (try clear hi)
                refine hK.out _ _ ⟨((HB.out.cell (World.block_lt_of_cell? w _ hw290_0)).trans hw290_0), ((HB.out.cell (World.block_lt_of_cell? w _ hw290_1)).trans hw290_1), ((HB.out.cell (World.block_lt_of_cell? w _ hw290_2)).trans hw290_2), ((HB.out.cell (World.block_lt_of_cell? w _ hw290_3)).trans hw290_3), ((HB.out.cell (World.block_lt_of_cell? w _ hw290_4)).trans hw290_4), ((HB.out.cell (World.block_lt_of_cell? w _ hw290_5)).trans hw290_5), ((HB.out.cell (World.block_lt_of_cell? w _ hw291_0)).trans hw291_0), ((HB.out.cell (World.block_lt_of_cell? w _ hw291_1)).trans hw291_1), ((HB.out.cell (World.block_lt_of_cell? w _ hw291_2)).trans hw291_2), ((HB.out.cell (World.block_lt_of_cell? w _ hw291_3)).trans hw291_3), ((HB.out.cell (World.block_lt_of_cell? w _ hw291_4)).trans hw291_4), ((HB.out.cell (World.block_lt_of_cell? w _ hw291_5)).trans hw291_5)⟩ (fun hHeld => ?_)
                clear hK K
                refine norm_ (a' := ?_) ?_ ?_
                rotate_left
                · show Act.put _ (some 25) _ = _
                  simp only [Act.put, List.setIfInBounds_toArray, List.set_cons_zero, List.set_cons_succ, i64_w, i32_w]
                  rfl
                refine pure_ (i := 9) (N := some 26) (v := ?_) (a' := ?_) #[true, true, true, true, true, true, true, true, true, true] rfl rfl (any_of HT_.out (by kernel_rfl)) (fun _ _ _ h => h) (Or.inl ⟨by rfl, ?_⟩) ?_ ?_
                rotate_left
                · intro w'
                  go_simp
                  with_reducible rfl
                rotate_left
                · simp only [Act.put, List.setIfInBounds_toArray, List.set_cons_zero, List.set_cons_succ, i64_w, i32_w]
                  rfl
                refine done_ (done_of HT_.out (by kernel_rfl)) ?_
                try go_wp2
                go_roundg k1
                case measure => have := HK1.out; omega
                case rel => exact ⟨(wrap64 (x5_1 + 1)), (by first | rfl | (simp; done) | (simp [*]; done)), H', ⟨by have := HK1.out; omega⟩, ⟨by repeat (first | (with_reducible first | exact HB.out | apply pa | apply pb | apply pc) | exact HB.out)⟩⟩
              · replace c8 := Bool.eq_false_iff.mpr c8
                subst c8
                have H1 : (some false) = some r := by rw [if_neg (show ¬ (false = true) by decide)] at H; exact H
                clear H
                have H := H1
                clear H1
                obtain rfl := Option.some.inj H
                try go_wp2
                have n0_ := am (below_drew1 HB.out)
                clear HB
                have HB := n0_
                clear n0_
                have p290 : 0 ≤ (x5_1 : Int) := od (by assumption)
                have q290 : x5_1 < (l0.length : Int) := od (by assumption)
                obtain ⟨ad290, A290_0, c290_0, A290_4, c290_4, A290_5, c290_5, e290, hx290_0, hx290_1, hx290_2, hx290_3, hx290_4, hx290_5, hl290_0, hi290_0, hl290_4, hi290_4, hl290_5, hi290_5⟩ := at_T124 HR0.out x5_1 p290 q290
                have hw290_5 := hx290_5
                have hw290_4 := hx290_4
                have hw290_3 := hx290_3
                have hw290_2 := hx290_2
                have hw290_1 := hx290_1
                have hw290_0 := hx290_0
                cases e290
                replace hx290_0 := (HB.out.cell (World.block_lt_of_cell? w _ hx290_0)).trans hx290_0
                replace hx290_1 := (HB.out.cell (World.block_lt_of_cell? w _ hx290_1)).trans hx290_1
                replace hx290_2 := (HB.out.cell (World.block_lt_of_cell? w _ hx290_2)).trans hx290_2
                replace hx290_3 := (HB.out.cell (World.block_lt_of_cell? w _ hx290_3)).trans hx290_3
                replace hx290_4 := (HB.out.cell (World.block_lt_of_cell? w _ hx290_4)).trans hx290_4
                replace hx290_5 := (HB.out.cell (World.block_lt_of_cell? w _ hx290_5)).trans hx290_5
                have HR290_0 := am hi290_0
                have HC290_0 := am hl290_0
                clear hi290_0 hl290_0
                have HR290_4 := am hi290_4
                have HC290_4 := am hl290_4
                clear hi290_4 hl290_4
                have HR290_5 := am hi290_5
                have HC290_5 := am hl290_5
                clear hi290_5 hl290_5
                replace p290 := eq_true p290
                replace q290 := eq_true q290
                have p291 : 0 ≤ (x5_1 : Int) := od (by assumption)
                have q291 : x5_1 < (l1.length : Int) := od (by assumption)
                obtain ⟨ad291, A291_0, c291_0, A291_4, c291_4, A291_5, c291_5, e291, hx291_0, hx291_1, hx291_2, hx291_3, hx291_4, hx291_5, hl291_0, hi291_0, hl291_4, hi291_4, hl291_5, hi291_5⟩ := at_T124 HR1.out x5_1 p291 q291
                have hw291_5 := hx291_5
                have hw291_4 := hx291_4
                have hw291_3 := hx291_3
                have hw291_2 := hx291_2
                have hw291_1 := hx291_1
                have hw291_0 := hx291_0
                cases e291
                replace hx291_0 := (HB.out.cell (World.block_lt_of_cell? w _ hx291_0)).trans hx291_0
                replace hx291_1 := (HB.out.cell (World.block_lt_of_cell? w _ hx291_1)).trans hx291_1
                replace hx291_2 := (HB.out.cell (World.block_lt_of_cell? w _ hx291_2)).trans hx291_2
                replace hx291_3 := (HB.out.cell (World.block_lt_of_cell? w _ hx291_3)).trans hx291_3
                replace hx291_4 := (HB.out.cell (World.block_lt_of_cell? w _ hx291_4)).trans hx291_4
                replace hx291_5 := (HB.out.cell (World.block_lt_of_cell? w _ hx291_5)).trans hx291_5
                have HR291_0 := am hi291_0
                have HC291_0 := am hl291_0
                clear hi291_0 hl291_0
                have HR291_4 := am hi291_4
                have HC291_4 := am hl291_4
                clear hi291_4 hl291_4
                have HR291_5 := am hi291_5
                have HC291_5 := am hl291_5
                clear hi291_5 hl291_5
                replace p291 := eq_true p291
                replace q291 := eq_true q291
                refine start_ (n := 10) (S := fun w' => w'.cell? (ad290.add ((x5_1).toNat * 6)) = some (.slice A290_0 ((rd_T124 l0 x5_1).f0).length c290_0) ∧ w'.cell? ⟨(ad290.add ((x5_1).toNat * 6)).block, (ad290.add ((x5_1).toNat * 6)).off + 1, none⟩ = some (.int .i64 ((rd_T124 l0 x5_1).f1.f0)) ∧ w'.cell? ⟨(ad290.add ((x5_1).toNat * 6)).block, (ad290.add ((x5_1).toNat * 6)).off + 2, none⟩ = some (.int .i64 ((rd_T124 l0 x5_1).f1.f1)) ∧ w'.cell? ⟨(ad290.add ((x5_1).toNat * 6)).block, (ad290.add ((x5_1).toNat * 6)).off + 3, none⟩ = some (.bool ((rd_T124 l0 x5_1).f1.f2)) ∧ w'.cell? ⟨(ad290.add ((x5_1).toNat * 6)).block, (ad290.add ((x5_1).toNat * 6)).off + 4, none⟩ = some (.slice A290_4 ((rd_T124 l0 x5_1).f2).length c290_4) ∧ w'.cell? ⟨(ad290.add ((x5_1).toNat * 6)).block, (ad290.add ((x5_1).toNat * 6)).off + 5, none⟩ = some (.slice A290_5 ((rd_T124 l0 x5_1).f3).length c290_5) ∧ w'.cell? (ad291.add ((x5_1).toNat * 6)) = some (.slice A291_0 ((rd_T124 l1 x5_1).f0).length c291_0) ∧ w'.cell? ⟨(ad291.add ((x5_1).toNat * 6)).block, (ad291.add ((x5_1).toNat * 6)).off + 1, none⟩ = some (.int .i64 ((rd_T124 l1 x5_1).f1.f0)) ∧ w'.cell? ⟨(ad291.add ((x5_1).toNat * 6)).block, (ad291.add ((x5_1).toNat * 6)).off + 2, none⟩ = some (.int .i64 ((rd_T124 l1 x5_1).f1.f1)) ∧ w'.cell? ⟨(ad291.add ((x5_1).toNat * 6)).block, (ad291.add ((x5_1).toNat * 6)).off + 3, none⟩ = some (.bool ((rd_T124 l1 x5_1).f1.f2)) ∧ w'.cell? ⟨(ad291.add ((x5_1).toNat * 6)).block, (ad291.add ((x5_1).toNat * 6)).off + 4, none⟩ = some (.slice A291_4 ((rd_T124 l1 x5_1).f2).length c291_4) ∧ w'.cell? ⟨(ad291.add ((x5_1).toNat * 6)).block, (ad291.add ((x5_1).toNat * 6)).off + 5, none⟩ = some (.slice A291_5 ((rd_T124 l1 x5_1).f3).length c291_5)) (ds := []) #[false, false, false, false, false, false, false, false, false, false] (by kernel_rfl) rfl rfl ⟨((HB.out.cell (World.block_lt_of_cell? w _ hw290_0)).trans hw290_0), ((HB.out.cell (World.block_lt_of_cell? w _ hw290_1)).trans hw290_1), ((HB.out.cell (World.block_lt_of_cell? w _ hw290_2)).trans hw290_2), ((HB.out.cell (World.block_lt_of_cell? w _ hw290_3)).trans hw290_3), ((HB.out.cell (World.block_lt_of_cell? w _ hw290_4)).trans hw290_4), ((HB.out.cell (World.block_lt_of_cell? w _ hw290_5)).trans hw290_5), ((HB.out.cell (World.block_lt_of_cell? w _ hw291_0)).trans hw291_0), ((HB.out.cell (World.block_lt_of_cell? w _ hw291_1)).trans hw291_1), ((HB.out.cell (World.block_lt_of_cell? w _ hw291_2)).trans hw291_2), ((HB.out.cell (World.block_lt_of_cell? w _ hw291_3)).trans hw291_3), ((HB.out.cell (World.block_lt_of_cell? w _ hw291_4)).trans hw291_4), ((HB.out.cell (World.block_lt_of_cell? w _ hw291_5)).trans hw291_5)⟩ (fun hHeld => ?_); refine with_tabW laws_eqFunS.tab6 laws_eqFunS.bits6 (fun HT_ HW_ => ?_)
                generalize wr.drew = w11 at HB HR290_0 HR290_4 HR290_5 HR291_0 HR291_4 HR291_5 hx290_0 hx290_1 hx290_2 hx290_3 hx290_4 hx290_5 hx291_0 hx291_1 hx291_2 hx291_3 hx291_4 hx291_5 hHeld ⊢
                refine pure_ (i := 0) (N := some 17) (v := ?_) (a' := ?_) #[true, false, false, false, false, false, false, false, false, false] rfl rfl (any_of HT_.out (by kernel_rfl)) (fun _ _ _ h => h) (Or.inl ⟨by rfl, ?_⟩) ?_ ?_
                rotate_left
                · intro w'
                  go_simp
                  with_reducible rfl
                rotate_left
                · simp only [Act.put, List.setIfInBounds_toArray, List.set_cons_zero, List.set_cons_succ, i64_w, i32_w]
                  rfl
                refine pure_ (i := 1) (N := some 18) (v := ?_) (a' := ?_) #[true, true, false, false, false, false, false, false, false, false] rfl rfl (any_of HT_.out (by kernel_rfl)) (fun _ _ _ h => h) (Or.inl ⟨by rfl, ?_⟩) ?_ ?_
                rotate_left
                · intro w'
                  go_simp
                  with_reducible rfl
                rotate_left
                · simp only [Act.put, List.setIfInBounds_toArray, List.set_cons_zero, List.set_cons_succ, i64_w, i32_w]
                  rfl
                refine pure_ (i := 2) (N := some 19) (v := ?_) (a' := ?_) #[true, true, true, false, false, false, false, false, false, false] rfl rfl (any_of HT_.out (by kernel_rfl)) (fun _ _ _ h => h) (Or.inl ⟨by rfl, ?_⟩) ?_ ?_
                rotate_left
                · intro w'
                  go_simp
                  with_reducible rfl
                rotate_left
                · simp only [Act.put, List.setIfInBounds_toArray, List.set_cons_zero, List.set_cons_succ, i64_w, i32_w]
                  rfl
                refine pure_ (i := 4) (N := some 21) (v := ?_) (a' := ?_) #[true, true, true, false, true, false, false, false, false, false] rfl rfl (any_of HT_.out (by kernel_rfl)) (fun _ _ _ h => h) (Or.inl ⟨by rfl, ?_⟩) ?_ ?_
                rotate_left
                · intro w'
                  go_simp
                  with_reducible rfl
                rotate_left
                · simp only [Act.put, List.setIfInBounds_toArray, List.set_cons_zero, List.set_cons_succ, i64_w, i32_w]
                  rfl
                refine pure_ (i := 5) (N := some 22) (v := ?_) (a' := ?_) #[true, true, true, false, true, true, false, false, false, false] rfl rfl (any_of HT_.out (by kernel_rfl)) (fun _ _ _ h => h) (Or.inl ⟨by rfl, ?_⟩) ?_ ?_
                rotate_left
                · intro w'
                  go_simp
                  with_reducible rfl
                rotate_left
                · simp only [Act.put, List.setIfInBounds_toArray, List.set_cons_zero, List.set_cons_succ, i64_w, i32_w]
                  rfl
                refine pure_ (i := 6) (N := some 23) (v := ?_) (a' := ?_) #[true, true, true, false, true, true, true, false, false, false] rfl rfl (any_of HT_.out (by kernel_rfl)) (fun _ _ _ h => h) (Or.inl ⟨by rfl, ?_⟩) ?_ ?_
                rotate_left
                · intro w'
                  go_simp
                  with_reducible rfl
                rotate_left
                · simp only [Act.put, List.setIfInBounds_toArray, List.set_cons_zero, List.set_cons_succ, i64_w, i32_w]
                  rfl
                refine take_ (i := 3) (N := some 20) (v := ?_) (a' := ?_) #[true, true, true, true, true, true, true, false, false, false] rfl rfl (take_ofW HT_.out HW_.out (by kernel_rfl)) (fun _ _ _ h => h) (Or.inl ⟨by rfl, ?_⟩) hHeld ?_ ?_
                rotate_left
                · rintro w' ⟨s0, s1, s2, s3, s4, s5, s6, s7, s8, s9, s10, s11⟩
                  go_simp
                  with_reducible rfl
                rotate_left
                · simp only [Act.put, List.setIfInBounds_toArray, List.set_cons_zero, List.set_cons_succ, i64_w, i32_w]
                  rfl
                refine take_ (i := 7) (N := some 24) (v := ?_) (a' := ?_) #[true, true, true, true, true, true, true, true, false, false] rfl rfl (take_ofW HT_.out HW_.out (by kernel_rfl)) (fun _ _ _ h => h) (Or.inl ⟨by rfl, ?_⟩) hHeld ?_ ?_
                rotate_left
                · rintro w' ⟨s0, s1, s2, s3, s4, s5, s6, s7, s8, s9, s10, s11⟩
                  go_simp
                  with_reducible rfl
                rotate_left
                · simp only [Act.put, List.setIfInBounds_toArray, List.set_cons_zero, List.set_cons_succ, i64_w, i32_w]
                  rfl
                refine one_ (i := 8) (N := some 25) #[true, true, true, true, true, true, true, true, true, false] rfl rfl (one_of HT_.out (by kernel_rfl)) (by decide) (fun K hK => ?_)
                refine goes_ Try.func125 (by kernel_rfl) rfl #[.agg #[.slice A290_0 ((rd_T124 l0 x5_1).f0).length c290_0, .int .i64 ((rd_T124 l0 x5_1).f1.f0), .int .i64 ((rd_T124 l0 x5_1).f1.f1), .bool ((rd_T124 l0 x5_1).f1.f2), .slice A290_4 ((rd_T124 l0 x5_1).f2).length c290_4, .slice A290_5 ((rd_T124 l0 x5_1).f3).length c290_5], .agg #[.slice A291_0 ((rd_T124 l1 x5_1).f0).length c291_0, .int .i64 ((rd_T124 l1 x5_1).f1.f0), .int .i64 ((rd_T124 l1 x5_1).f1.f1), .bool ((rd_T124 l1 x5_1).f1.f2), .slice A291_4 ((rd_T124 l1 x5_1).f2).length c291_4, .slice A291_5 ((rd_T124 l1 x5_1).f3).length c291_5]] (by rfl) rfl rfl (by (try simp only [List.map_toArray, List.map_cons, List.map_nil]); first | done | rfl | (simp only [List.length_drop, List.length_take]; rfl)) ?_
                with_reducible refine (laws_eqFun.calls k1 _ _ ((rd_T124 l0 x5_1).f0) ((rd_T124 l0 x5_1).f1.f0) ((rd_T124 l0 x5_1).f1.f1) ((rd_T124 l0 x5_1).f1.f2) _ _ ((rd_T124 l0 x5_1).f2) _ _ ((rd_T124 l0 x5_1).f3) _ _ ((rd_T124 l1 x5_1).f0) ((rd_T124 l1 x5_1).f1.f0) ((rd_T124 l1 x5_1).f1.f1) ((rd_T124 l1 x5_1).f1.f2) _ _ ((rd_T124 l1 x5_1).f2) _ _ ((rd_T124 l1 x5_1).f3) false _ ?side1 ?side2 ?side3 ?side4 ?side5 ?side6 ?side7 ?side8 ?side9 ?side10 ?side11 ?side12 A7.out).mono ?_
                (case side1 => exact Kd.C_below HR290_0.out HB.out)
                (case side2 => exact HC290_0.out)
                (case side3 => exact Kd.C_below HR290_4.out HB.out)
                (case side4 => exact HC290_4.out)
                (case side5 => exact Kd.C_below HR290_5.out HB.out)
                (case side6 => exact HC290_5.out)
                (case side7 => exact Kd.C_below HR291_0.out HB.out)
                (case side8 => exact HC291_0.out)
                (case side9 => exact Kd.C_below HR291_4.out HB.out)
                (case side10 => exact HC291_4.out)
                (case side11 => exact Kd.C_below HR291_5.out HB.out)
                (case side12 => exact HC291_5.out)
                rintro e w12 ⟨rfl, hb⟩
                refine ⟨_, rfl, ?_⟩
                have n0_ := am (below_step HB.out hb)
                clear HB
                have HB := n0_
                clear n0_
                (try clear hb)
                (try clear hb2)
                (try clear hk)
                (try clear hi)
                refine hK.out _ _ ⟨((HB.out.cell (World.block_lt_of_cell? w _ hw290_0)).trans hw290_0), ((HB.out.cell (World.block_lt_of_cell? w _ hw290_1)).trans hw290_1), ((HB.out.cell (World.block_lt_of_cell? w _ hw290_2)).trans hw290_2), ((HB.out.cell (World.block_lt_of_cell? w _ hw290_3)).trans hw290_3), ((HB.out.cell (World.block_lt_of_cell? w _ hw290_4)).trans hw290_4), ((HB.out.cell (World.block_lt_of_cell? w _ hw290_5)).trans hw290_5), ((HB.out.cell (World.block_lt_of_cell? w _ hw291_0)).trans hw291_0), ((HB.out.cell (World.block_lt_of_cell? w _ hw291_1)).trans hw291_1), ((HB.out.cell (World.block_lt_of_cell? w _ hw291_2)).trans hw291_2), ((HB.out.cell (World.block_lt_of_cell? w _ hw291_3)).trans hw291_3), ((HB.out.cell (World.block_lt_of_cell? w _ hw291_4)).trans hw291_4), ((HB.out.cell (World.block_lt_of_cell? w _ hw291_5)).trans hw291_5)⟩ (fun hHeld => ?_)
                clear hK K
                refine norm_ (a' := ?_) ?_ ?_
                rotate_left
                · show Act.put _ (some 25) _ = _
                  simp only [Act.put, List.setIfInBounds_toArray, List.set_cons_zero, List.set_cons_succ, i64_w, i32_w]
                  rfl
                refine pure_ (i := 9) (N := some 26) (v := ?_) (a' := ?_) #[true, true, true, true, true, true, true, true, true, true] rfl rfl (any_of HT_.out (by kernel_rfl)) (fun _ _ _ h => h) (Or.inl ⟨by rfl, ?_⟩) ?_ ?_
                rotate_left
                · intro w'
                  go_simp
                  with_reducible rfl
                rotate_left
                · simp only [Act.put, List.setIfInBounds_toArray, List.set_cons_zero, List.set_cons_succ, i64_w, i32_w]
                  rfl
                refine done_ (done_of HT_.out (by kernel_rfl)) ?_
                try go_wp2
                go_ret
                exact ⟨by first | rfl | (simp [errW_none, errW_some] <;> rfl) | (simp [*, errW_none, errW_some] <;> rfl), by repeat (first | (with_reducible first | exact HB.out | apply pa | apply pb | apply pc) | exact HB.out)⟩
            · rw [if_neg c6] at H
              exact absurd H (by simp)
          · rw [if_neg c5] at H
            exact absurd H (by simp)
        · rw [if_neg c4] at H
          have c4b0 : decide (x5_1 < (l0.length : Int)) = false := decide_eq_false c4
          clear c4
          obtain rfl := Option.some.inj H
          go_wp2
          go_ret
          exact ⟨by first | rfl | (simp [errW_none, errW_some] <;> rfl) | (simp [*, errW_none, errW_some] <;> rfl), by repeat (first | (with_reducible first | exact HB.out | apply pa | apply pb | apply pc) | exact HB.out)⟩
  · rw [if_neg c3] at H
    have c3b0 : ((l0.length : Int) == (l1.length : Int)) = false := beq_eq_false_iff_ne.mpr c3
    have c3b1 : ((l0.length : Int) != (l1.length : Int)) = true := bne_iff_ne.mpr c3
    have c3b2 : (l0.length == l1.length) = false := by first | simpa using c3 | (simp at c3 ⊢; omega)
    obtain rfl := Option.some.inj H
    go_enter Try.func103, Try.ntmps103
    go_wp2
    go_ret
    exact ⟨by first | rfl | (simp [errW_none, errW_some] <;> rfl) | (simp [*, errW_none, errW_some] <;> rfl), by repeat (first | (with_reducible first | exact HB.out | apply pa | apply pb | apply pc) | exact HB.out)⟩
def laws_eqProg.f (k : Nat) (l0_0 : List (List (S131))) (l0_1 : List (S36)) (l0_2 : List (S124)) (l1_0 : List (List (S131))) (l1_1 : List (S36)) (l1_2 : List (S124)) : Option (Bool) := (laws_eqTypeSS.f k l0_0 l1_0).bind fun t295 => (if t295 = true then ((laws_eqFieldS.f k l0_1 l1_1).bind fun t296 => (if t296 = true then ((laws_eqFunS.f k l0_2 l1_2).bind fun t297 => (if t297 = true then (some true) else (some false))) else (some false))) else (some false))
set_option maxHeartbeats 8000000 in
set_option maxRecDepth 100000 in
theorem laws_eqProg.calls (k : Nat) (A0_0 : Option Addr) (c0_0 : Nat) (l0_0 : List (List (S131))) (A0_1 : Option Addr) (c0_1 : Nat) (l0_1 : List (S36)) (A0_2 : Option Addr) (c0_2 : Nat) (l0_2 : List (S124)) (A1_0 : Option Addr) (c1_0 : Nat) (l1_0 : List (List (S131))) (A1_1 : Option Addr) (c1_1 : Nat) (l1_1 : List (S36)) (A1_2 : Option Addr) (c1_2 : Nat) (l1_2 : List (S124)) (r : Bool) (w : World) (hr0_0 : Kd.C (Kd.slice 131 k131) w A0_0 l0_0.length l0_0) (hc0_0 : l0_0.length ≤ c0_0) (hr0_1 : Kd.C k36 w A0_1 l0_1.length l0_1) (hc0_1 : l0_1.length ≤ c0_1) (hr0_2 : Kd.C k124 w A0_2 l0_2.length l0_2) (hc0_2 : l0_2.length ≤ c0_2) (hr1_0 : Kd.C (Kd.slice 131 k131) w A1_0 l1_0.length l1_0) (hc1_0 : l1_0.length ≤ c1_0) (hr1_1 : Kd.C k36 w A1_1 l1_1.length l1_1) (hc1_1 : l1_1.length ≤ c1_1) (hr1_2 : Kd.C k124 w A1_2 l1_2.length l1_2) (hc1_2 : l1_2.length ≤ c1_2) (h : laws_eqProg.f k l0_0 l0_1 l0_2 l1_0 l1_1 l1_2 = some r) :
    Calls Try.prog 55 #[.agg #[.slice A0_0 l0_0.length c0_0, .slice A0_1 l0_1.length c0_1, .slice A0_2 l0_2.length c0_2], .agg #[.slice A1_0 l1_0.length c1_0, .slice A1_1 l1_1.length c1_1, .slice A1_2 l1_2.length c1_2]] w fun e w' => e = .returned (.bool r) ∧ Below w.heap.size w w' := by
  have hu88 := Try.underlying88
  have HR0_0 := am hr0_0
  have HC0_0 := am hc0_0
  clear hr0_0 hc0_0
  have HR0_1 := am hr0_1
  have HC0_1 := am hc0_1
  clear hr0_1 hc0_1
  have HR0_2 := am hr0_2
  have HC0_2 := am hc0_2
  clear hr0_2 hc0_2
  have HR1_0 := am hr1_0
  have HC1_0 := am hc1_0
  clear hr1_0 hc1_0
  have HR1_1 := am hr1_1
  have HC1_1 := am hc1_1
  clear hr1_1 hc1_1
  have HR1_2 := am hr1_2
  have HC1_2 := am hc1_2
  clear hr1_2 hc1_2
  have HB := am (Below.refl w.heap.size w)
  have H : ((laws_eqTypeSS.f k l0_0 l1_0).bind fun t295 => (if t295 = true then ((laws_eqFieldS.f k l0_1 l1_1).bind fun t296 => (if t296 = true then ((laws_eqFunS.f k l0_2 l1_2).bind fun t297 => (if t297 = true then (some true) else (some false))) else (some false))) else (some false))) = some r := h
  clear h
  replace H := Option.bind_eq_some_iff.mp H
  obtain ⟨t295, A30, H⟩ := H
  replace H : (if t295 = true then ((laws_eqFieldS.f k l0_1 l1_1).bind fun t296 => (if t296 = true then ((laws_eqFunS.f k l0_2 l1_2).bind fun t297 => (if t297 = true then (some true) else (some false))) else (some false))) else (some false)) = some r := H
  have A3 := am A30
  clear A30
  by_cases c4 : t295 = true
  · subst c4
    have H1 : ((laws_eqFieldS.f k l0_1 l1_1).bind fun t296 => (if t296 = true then ((laws_eqFunS.f k l0_2 l1_2).bind fun t297 => (if t297 = true then (some true) else (some false))) else (some false))) = some r := by rw [if_pos rfl] at H; exact H
    clear H
    have H := H1
    clear H1
    replace H := Option.bind_eq_some_iff.mp H
    obtain ⟨t296, A50, H⟩ := H
    replace H : (if t296 = true then ((laws_eqFunS.f k l0_2 l1_2).bind fun t297 => (if t297 = true then (some true) else (some false))) else (some false)) = some r := H
    have A5 := am A50
    clear A50
    by_cases c6 : t296 = true
    · subst c6
      have H1 : ((laws_eqFunS.f k l0_2 l1_2).bind fun t297 => (if t297 = true then (some true) else (some false))) = some r := by rw [if_pos rfl] at H; exact H
      clear H
      have H := H1
      clear H1
      replace H := Option.bind_eq_some_iff.mp H
      obtain ⟨t297, A70, H⟩ := H
      replace H : (if t297 = true then (some true) else (some false)) = some r := H
      have A7 := am A70
      clear A70
      by_cases c8 : t297 = true
      · subst c8
        have H1 : (some true) = some r := by rw [if_pos rfl] at H; exact H
        clear H
        have H := H1
        clear H1
        obtain rfl := Option.some.inj H
        go_enter Try.func55, Try.ntmps55
        go_wp2_with (first | ((with_reducible refine gate_dst (N := 2) rfl ?_); refine box_event ?hg (N := 2) ?hd (cs := #[.slice A0_0 l0_0.length c0_0, .slice A0_1 l0_1.length c0_1, .slice A0_2 l0_2.length c0_2]) (t := 88) ?hr ?_; (case hd => rfl); (case hg => rfl); (case hr => first | (go_simp; done) | (go_simp; rfl)); intro gb293 hg w9 hbox hb; have n0_ := am (below_step HB.out hb); have n1_ := am (hbox); have n2_ := am ((by rw [hg]; exact (below_size HB.out) : w.heap.size ≤ gb293)); have n3_ := am ((by rw [hg]; exact (below_size HB.out) : w.heap.size ≤ gb293)); clear HB; have HB := n0_; have BK293 := n1_; have GW293 := n2_; have GE293 := n3_; clear n0_ n1_ n2_ n3_; clear hb hbox hg) | ((with_reducible refine gate_dst (N := 3) rfl ?_); refine box_event ?hg (N := 3) ?hd (cs := #[.slice A1_0 l1_0.length c1_0, .slice A1_1 l1_1.length c1_1, .slice A1_2 l1_2.length c1_2]) (t := 88) ?hr ?_; (case hd => rfl); (case hg => rfl); (case hr => first | (go_simp; done) | (go_simp; rfl)); intro gb294 hg w10 hbox hb; have n0_ := am (blk_below BK293.out hb); have n1_ := am (below_step (by repeat (first | (with_reducible first | exact HB.out | refine below_set ?_ GE293.out) | exact HB.out)) hb); have n2_ := am (hbox); have n3_ := am ((by rw [hg]; exact (below_size (by repeat (first | (with_reducible first | exact HB.out | refine below_set ?_ GE293.out) | exact HB.out))) : w.heap.size ≤ gb294)); have n4_ := am ((by rw [hg]; exact (below_size (by repeat (first | (with_reducible first | exact HB.out | refine below_set ?_ GE293.out) | exact HB.out))) : w.heap.size ≤ gb294)); have n5_ := am ((by rw [hg]; exact Nat.ne_of_lt (blk_lt BK293.out) : gb293 ≠ gb294)); have n6_ := am ((by rw [hg]; exact Nat.ne_of_gt (blk_lt BK293.out) : gb294 ≠ gb293)); clear BK293; clear HB; have BK293 := n0_; have HB := n1_; have BK294 := n2_; have GW294 := n3_; have GE294 := n4_; have NB293_294 := n5_; have NB294_293 := n6_; clear n0_ n1_ n2_ n3_ n4_ n5_ n6_; clear hb hbox hg; have hnb11 := NB293_294.out; have hnc11 := NB294_293.out; have hcz12_0 := bc BK293.out 0 (.slice A0_0 l0_0.length c0_0) rfl; have hcz12_1 := bc BK293.out 1 (.slice A0_1 l0_1.length c0_1) rfl; have hcz12_2 := bc BK293.out 2 (.slice A0_2 l0_2.length c0_2) rfl; have hfz12_0 := bf BK293.out 0; have hfz12_1 := bf BK293.out 1; have hfz12_2 := bf BK293.out 2; have hcz13_0 := bc BK294.out 0 (.slice A1_0 l1_0.length c1_0) rfl; have hcz13_1 := bc BK294.out 1 (.slice A1_1 l1_1.length c1_1) rfl; have hcz13_2 := bc BK294.out 2 (.slice A1_2 l1_2.length c1_2) rfl; have hfz13_0 := bf BK294.out 0; have hfz13_1 := bf BK294.out 1; have hfz13_2 := bf BK294.out 2) | ((with_reducible refine gate_callee (f := 101) rfl ?_); refine goesL_ (some 9) rfl rfl Try.func101 (by kernel_rfl) rfl #[.slice A0_0 l0_0.length c0_0, .slice A1_0 l1_0.length c1_0] rfl (by (try simp only [List.map_toArray, List.map_cons, List.map_nil]); first | done | rfl | (simp only [List.length_drop, List.length_take]; rfl)) ?_; (with_reducible refine (laws_eqTypeSS.calls k _ _ l0_0 _ _ l1_0 true _ ?side1 ?side2 ?side3 ?side4 A3.out).mono ?_); (case side1 => exact Kd.C_below HR0_0.out HB.out); (case side2 => exact HC0_0.out); (case side3 => exact Kd.C_below HR1_0.out HB.out); (case side4 => exact HC1_0.out); rintro e w14 ⟨rfl, hb⟩; refine ⟨_, rfl, ?_⟩; have n0_ := am (blk_below BK293.out hb); have n1_ := am (blk_below BK294.out hb); have n2_ := am (below_step (by repeat (first | (with_reducible first | exact HB.out | refine below_set ?_ GE293.out | refine below_set ?_ GE294.out) | exact HB.out)) hb); clear BK293; clear BK294; clear HB; have BK293 := n0_; have BK294 := n1_; have HB := n2_; clear n0_ n1_ n2_; (try clear hb); (try clear hb2); (try clear hk); (try clear hi); have hcz15_0 := bc BK293.out 0 (.slice A0_0 l0_0.length c0_0) rfl; have hcz15_1 := bc BK293.out 1 (.slice A0_1 l0_1.length c0_1) rfl; have hcz15_2 := bc BK293.out 2 (.slice A0_2 l0_2.length c0_2) rfl; have hfz15_0 := bf BK293.out 0; have hfz15_1 := bf BK293.out 1; have hfz15_2 := bf BK293.out 2; have hcz16_0 := bc BK294.out 0 (.slice A1_0 l1_0.length c1_0) rfl; have hcz16_1 := bc BK294.out 1 (.slice A1_1 l1_1.length c1_1) rfl; have hcz16_2 := bc BK294.out 2 (.slice A1_2 l1_2.length c1_2) rfl; have hfz16_0 := bf BK294.out 0; have hfz16_1 := bf BK294.out 1; have hfz16_2 := bf BK294.out 2) | ((with_reducible refine gate_callee (f := 102) rfl ?_); refine goesL_ (some 15) rfl rfl Try.func102 (by kernel_rfl) rfl #[.slice A0_1 l0_1.length c0_1, .slice A1_1 l1_1.length c1_1] rfl (by (try simp only [List.map_toArray, List.map_cons, List.map_nil]); first | done | rfl | (simp only [List.length_drop, List.length_take]; rfl)) ?_; (with_reducible refine (laws_eqFieldS.calls k _ _ l0_1 _ _ l1_1 true _ ?side1 ?side2 ?side3 ?side4 A5.out).mono ?_); (case side1 => exact Kd.C_below HR0_1.out HB.out); (case side2 => exact HC0_1.out); (case side3 => exact Kd.C_below HR1_1.out HB.out); (case side4 => exact HC1_1.out); rintro e w17 ⟨rfl, hb⟩; refine ⟨_, rfl, ?_⟩; have n0_ := am (blk_below BK293.out hb); have n1_ := am (blk_below BK294.out hb); have n2_ := am (below_step (by repeat (first | (with_reducible first | exact HB.out | refine below_set ?_ GE293.out | refine below_set ?_ GE294.out) | exact HB.out)) hb); clear BK293; clear BK294; clear HB; have BK293 := n0_; have BK294 := n1_; have HB := n2_; clear n0_ n1_ n2_; (try clear hb); (try clear hb2); (try clear hk); (try clear hi); have hcz18_0 := bc BK293.out 0 (.slice A0_0 l0_0.length c0_0) rfl; have hcz18_1 := bc BK293.out 1 (.slice A0_1 l0_1.length c0_1) rfl; have hcz18_2 := bc BK293.out 2 (.slice A0_2 l0_2.length c0_2) rfl; have hfz18_0 := bf BK293.out 0; have hfz18_1 := bf BK293.out 1; have hfz18_2 := bf BK293.out 2; have hcz19_0 := bc BK294.out 0 (.slice A1_0 l1_0.length c1_0) rfl; have hcz19_1 := bc BK294.out 1 (.slice A1_1 l1_1.length c1_1) rfl; have hcz19_2 := bc BK294.out 2 (.slice A1_2 l1_2.length c1_2) rfl; have hfz19_0 := bf BK294.out 0; have hfz19_1 := bf BK294.out 1; have hfz19_2 := bf BK294.out 2) | ((with_reducible refine gate_callee (f := 103) rfl ?_); refine goesL_ (some 21) rfl rfl Try.func103 (by kernel_rfl) rfl #[.slice A0_2 l0_2.length c0_2, .slice A1_2 l1_2.length c1_2] rfl (by (try simp only [List.map_toArray, List.map_cons, List.map_nil]); first | done | rfl | (simp only [List.length_drop, List.length_take]; rfl)) ?_; (with_reducible refine (laws_eqFunS.calls k _ _ l0_2 _ _ l1_2 true _ ?side1 ?side2 ?side3 ?side4 A7.out).mono ?_); (case side1 => exact Kd.C_below HR0_2.out HB.out); (case side2 => exact HC0_2.out); (case side3 => exact Kd.C_below HR1_2.out HB.out); (case side4 => exact HC1_2.out); rintro e w20 ⟨rfl, hb⟩; refine ⟨_, rfl, ?_⟩; have n0_ := am (blk_below BK293.out hb); have n1_ := am (blk_below BK294.out hb); have n2_ := am (below_step (by repeat (first | (with_reducible first | exact HB.out | refine below_set ?_ GE293.out | refine below_set ?_ GE294.out) | exact HB.out)) hb); clear BK293; clear BK294; clear HB; have BK293 := n0_; have BK294 := n1_; have HB := n2_; clear n0_ n1_ n2_; (try clear hb); (try clear hb2); (try clear hk); (try clear hi)))
        go_ret
        exact ⟨by first | rfl | (simp [errW_none, errW_some] <;> rfl) | (simp [*, errW_none, errW_some] <;> rfl), by repeat (first | (with_reducible first | exact HB.out | refine below_set ?_ GE293.out | refine below_set ?_ GE294.out) | exact HB.out)⟩
      · replace c8 := Bool.eq_false_iff.mpr c8
        subst c8
        have H1 : (some false) = some r := by rw [if_neg (show ¬ (false = true) by decide)] at H; exact H
        clear H
        have H := H1
        clear H1
        obtain rfl := Option.some.inj H
        go_enter Try.func55, Try.ntmps55
        go_wp2_with (first | ((with_reducible refine gate_dst (N := 2) rfl ?_); refine box_event ?hg (N := 2) ?hd (cs := #[.slice A0_0 l0_0.length c0_0, .slice A0_1 l0_1.length c0_1, .slice A0_2 l0_2.length c0_2]) (t := 88) ?hr ?_; (case hd => rfl); (case hg => rfl); (case hr => first | (go_simp; done) | (go_simp; rfl)); intro gb293 hg w21 hbox hb; have n0_ := am (below_step HB.out hb); have n1_ := am (hbox); have n2_ := am ((by rw [hg]; exact (below_size HB.out) : w.heap.size ≤ gb293)); have n3_ := am ((by rw [hg]; exact (below_size HB.out) : w.heap.size ≤ gb293)); clear HB; have HB := n0_; have BK293 := n1_; have GW293 := n2_; have GE293 := n3_; clear n0_ n1_ n2_ n3_; clear hb hbox hg) | ((with_reducible refine gate_dst (N := 3) rfl ?_); refine box_event ?hg (N := 3) ?hd (cs := #[.slice A1_0 l1_0.length c1_0, .slice A1_1 l1_1.length c1_1, .slice A1_2 l1_2.length c1_2]) (t := 88) ?hr ?_; (case hd => rfl); (case hg => rfl); (case hr => first | (go_simp; done) | (go_simp; rfl)); intro gb294 hg w22 hbox hb; have n0_ := am (blk_below BK293.out hb); have n1_ := am (below_step (by repeat (first | (with_reducible first | exact HB.out | refine below_set ?_ GE293.out) | exact HB.out)) hb); have n2_ := am (hbox); have n3_ := am ((by rw [hg]; exact (below_size (by repeat (first | (with_reducible first | exact HB.out | refine below_set ?_ GE293.out) | exact HB.out))) : w.heap.size ≤ gb294)); have n4_ := am ((by rw [hg]; exact (below_size (by repeat (first | (with_reducible first | exact HB.out | refine below_set ?_ GE293.out) | exact HB.out))) : w.heap.size ≤ gb294)); have n5_ := am ((by rw [hg]; exact Nat.ne_of_lt (blk_lt BK293.out) : gb293 ≠ gb294)); have n6_ := am ((by rw [hg]; exact Nat.ne_of_gt (blk_lt BK293.out) : gb294 ≠ gb293)); clear BK293; clear HB; have BK293 := n0_; have HB := n1_; have BK294 := n2_; have GW294 := n3_; have GE294 := n4_; have NB293_294 := n5_; have NB294_293 := n6_; clear n0_ n1_ n2_ n3_ n4_ n5_ n6_; clear hb hbox hg; have hnb23 := NB293_294.out; have hnc23 := NB294_293.out; have hcz24_0 := bc BK293.out 0 (.slice A0_0 l0_0.length c0_0) rfl; have hcz24_1 := bc BK293.out 1 (.slice A0_1 l0_1.length c0_1) rfl; have hcz24_2 := bc BK293.out 2 (.slice A0_2 l0_2.length c0_2) rfl; have hfz24_0 := bf BK293.out 0; have hfz24_1 := bf BK293.out 1; have hfz24_2 := bf BK293.out 2; have hcz25_0 := bc BK294.out 0 (.slice A1_0 l1_0.length c1_0) rfl; have hcz25_1 := bc BK294.out 1 (.slice A1_1 l1_1.length c1_1) rfl; have hcz25_2 := bc BK294.out 2 (.slice A1_2 l1_2.length c1_2) rfl; have hfz25_0 := bf BK294.out 0; have hfz25_1 := bf BK294.out 1; have hfz25_2 := bf BK294.out 2) | ((with_reducible refine gate_callee (f := 101) rfl ?_); refine goesL_ (some 9) rfl rfl Try.func101 (by kernel_rfl) rfl #[.slice A0_0 l0_0.length c0_0, .slice A1_0 l1_0.length c1_0] rfl (by (try simp only [List.map_toArray, List.map_cons, List.map_nil]); first | done | rfl | (simp only [List.length_drop, List.length_take]; rfl)) ?_; (with_reducible refine (laws_eqTypeSS.calls k _ _ l0_0 _ _ l1_0 true _ ?side1 ?side2 ?side3 ?side4 A3.out).mono ?_); (case side1 => exact Kd.C_below HR0_0.out HB.out); (case side2 => exact HC0_0.out); (case side3 => exact Kd.C_below HR1_0.out HB.out); (case side4 => exact HC1_0.out); rintro e w26 ⟨rfl, hb⟩; refine ⟨_, rfl, ?_⟩; have n0_ := am (blk_below BK293.out hb); have n1_ := am (blk_below BK294.out hb); have n2_ := am (below_step (by repeat (first | (with_reducible first | exact HB.out | refine below_set ?_ GE293.out | refine below_set ?_ GE294.out) | exact HB.out)) hb); clear BK293; clear BK294; clear HB; have BK293 := n0_; have BK294 := n1_; have HB := n2_; clear n0_ n1_ n2_; (try clear hb); (try clear hb2); (try clear hk); (try clear hi); have hcz27_0 := bc BK293.out 0 (.slice A0_0 l0_0.length c0_0) rfl; have hcz27_1 := bc BK293.out 1 (.slice A0_1 l0_1.length c0_1) rfl; have hcz27_2 := bc BK293.out 2 (.slice A0_2 l0_2.length c0_2) rfl; have hfz27_0 := bf BK293.out 0; have hfz27_1 := bf BK293.out 1; have hfz27_2 := bf BK293.out 2; have hcz28_0 := bc BK294.out 0 (.slice A1_0 l1_0.length c1_0) rfl; have hcz28_1 := bc BK294.out 1 (.slice A1_1 l1_1.length c1_1) rfl; have hcz28_2 := bc BK294.out 2 (.slice A1_2 l1_2.length c1_2) rfl; have hfz28_0 := bf BK294.out 0; have hfz28_1 := bf BK294.out 1; have hfz28_2 := bf BK294.out 2) | ((with_reducible refine gate_callee (f := 102) rfl ?_); refine goesL_ (some 15) rfl rfl Try.func102 (by kernel_rfl) rfl #[.slice A0_1 l0_1.length c0_1, .slice A1_1 l1_1.length c1_1] rfl (by (try simp only [List.map_toArray, List.map_cons, List.map_nil]); first | done | rfl | (simp only [List.length_drop, List.length_take]; rfl)) ?_; (with_reducible refine (laws_eqFieldS.calls k _ _ l0_1 _ _ l1_1 true _ ?side1 ?side2 ?side3 ?side4 A5.out).mono ?_); (case side1 => exact Kd.C_below HR0_1.out HB.out); (case side2 => exact HC0_1.out); (case side3 => exact Kd.C_below HR1_1.out HB.out); (case side4 => exact HC1_1.out); rintro e w29 ⟨rfl, hb⟩; refine ⟨_, rfl, ?_⟩; have n0_ := am (blk_below BK293.out hb); have n1_ := am (blk_below BK294.out hb); have n2_ := am (below_step (by repeat (first | (with_reducible first | exact HB.out | refine below_set ?_ GE293.out | refine below_set ?_ GE294.out) | exact HB.out)) hb); clear BK293; clear BK294; clear HB; have BK293 := n0_; have BK294 := n1_; have HB := n2_; clear n0_ n1_ n2_; (try clear hb); (try clear hb2); (try clear hk); (try clear hi); have hcz30_0 := bc BK293.out 0 (.slice A0_0 l0_0.length c0_0) rfl; have hcz30_1 := bc BK293.out 1 (.slice A0_1 l0_1.length c0_1) rfl; have hcz30_2 := bc BK293.out 2 (.slice A0_2 l0_2.length c0_2) rfl; have hfz30_0 := bf BK293.out 0; have hfz30_1 := bf BK293.out 1; have hfz30_2 := bf BK293.out 2; have hcz31_0 := bc BK294.out 0 (.slice A1_0 l1_0.length c1_0) rfl; have hcz31_1 := bc BK294.out 1 (.slice A1_1 l1_1.length c1_1) rfl; have hcz31_2 := bc BK294.out 2 (.slice A1_2 l1_2.length c1_2) rfl; have hfz31_0 := bf BK294.out 0; have hfz31_1 := bf BK294.out 1; have hfz31_2 := bf BK294.out 2) | ((with_reducible refine gate_callee (f := 103) rfl ?_); refine goesL_ (some 21) rfl rfl Try.func103 (by kernel_rfl) rfl #[.slice A0_2 l0_2.length c0_2, .slice A1_2 l1_2.length c1_2] rfl (by (try simp only [List.map_toArray, List.map_cons, List.map_nil]); first | done | rfl | (simp only [List.length_drop, List.length_take]; rfl)) ?_; (with_reducible refine (laws_eqFunS.calls k _ _ l0_2 _ _ l1_2 false _ ?side1 ?side2 ?side3 ?side4 A7.out).mono ?_); (case side1 => exact Kd.C_below HR0_2.out HB.out); (case side2 => exact HC0_2.out); (case side3 => exact Kd.C_below HR1_2.out HB.out); (case side4 => exact HC1_2.out); rintro e w32 ⟨rfl, hb⟩; refine ⟨_, rfl, ?_⟩; have n0_ := am (blk_below BK293.out hb); have n1_ := am (blk_below BK294.out hb); have n2_ := am (below_step (by repeat (first | (with_reducible first | exact HB.out | refine below_set ?_ GE293.out | refine below_set ?_ GE294.out) | exact HB.out)) hb); clear BK293; clear BK294; clear HB; have BK293 := n0_; have BK294 := n1_; have HB := n2_; clear n0_ n1_ n2_; (try clear hb); (try clear hb2); (try clear hk); (try clear hi)))
        go_ret
        exact ⟨by first | rfl | (simp [errW_none, errW_some] <;> rfl) | (simp [*, errW_none, errW_some] <;> rfl), by repeat (first | (with_reducible first | exact HB.out | refine below_set ?_ GE293.out | refine below_set ?_ GE294.out) | exact HB.out)⟩
    · replace c6 := Bool.eq_false_iff.mpr c6
      subst c6
      have H1 : (some false) = some r := by rw [if_neg (show ¬ (false = true) by decide)] at H; exact H
      clear H
      have H := H1
      clear H1
      obtain rfl := Option.some.inj H
      go_enter Try.func55, Try.ntmps55
      go_wp2_with (first | ((with_reducible refine gate_dst (N := 2) rfl ?_); refine box_event ?hg (N := 2) ?hd (cs := #[.slice A0_0 l0_0.length c0_0, .slice A0_1 l0_1.length c0_1, .slice A0_2 l0_2.length c0_2]) (t := 88) ?hr ?_; (case hd => rfl); (case hg => rfl); (case hr => first | (go_simp; done) | (go_simp; rfl)); intro gb293 hg w33 hbox hb; have n0_ := am (below_step HB.out hb); have n1_ := am (hbox); have n2_ := am ((by rw [hg]; exact (below_size HB.out) : w.heap.size ≤ gb293)); have n3_ := am ((by rw [hg]; exact (below_size HB.out) : w.heap.size ≤ gb293)); clear HB; have HB := n0_; have BK293 := n1_; have GW293 := n2_; have GE293 := n3_; clear n0_ n1_ n2_ n3_; clear hb hbox hg) | ((with_reducible refine gate_dst (N := 3) rfl ?_); refine box_event ?hg (N := 3) ?hd (cs := #[.slice A1_0 l1_0.length c1_0, .slice A1_1 l1_1.length c1_1, .slice A1_2 l1_2.length c1_2]) (t := 88) ?hr ?_; (case hd => rfl); (case hg => rfl); (case hr => first | (go_simp; done) | (go_simp; rfl)); intro gb294 hg w34 hbox hb; have n0_ := am (blk_below BK293.out hb); have n1_ := am (below_step (by repeat (first | (with_reducible first | exact HB.out | refine below_set ?_ GE293.out) | exact HB.out)) hb); have n2_ := am (hbox); have n3_ := am ((by rw [hg]; exact (below_size (by repeat (first | (with_reducible first | exact HB.out | refine below_set ?_ GE293.out) | exact HB.out))) : w.heap.size ≤ gb294)); have n4_ := am ((by rw [hg]; exact (below_size (by repeat (first | (with_reducible first | exact HB.out | refine below_set ?_ GE293.out) | exact HB.out))) : w.heap.size ≤ gb294)); have n5_ := am ((by rw [hg]; exact Nat.ne_of_lt (blk_lt BK293.out) : gb293 ≠ gb294)); have n6_ := am ((by rw [hg]; exact Nat.ne_of_gt (blk_lt BK293.out) : gb294 ≠ gb293)); clear BK293; clear HB; have BK293 := n0_; have HB := n1_; have BK294 := n2_; have GW294 := n3_; have GE294 := n4_; have NB293_294 := n5_; have NB294_293 := n6_; clear n0_ n1_ n2_ n3_ n4_ n5_ n6_; clear hb hbox hg; have hnb35 := NB293_294.out; have hnc35 := NB294_293.out; have hcz36_0 := bc BK293.out 0 (.slice A0_0 l0_0.length c0_0) rfl; have hcz36_1 := bc BK293.out 1 (.slice A0_1 l0_1.length c0_1) rfl; have hcz36_2 := bc BK293.out 2 (.slice A0_2 l0_2.length c0_2) rfl; have hfz36_0 := bf BK293.out 0; have hfz36_1 := bf BK293.out 1; have hfz36_2 := bf BK293.out 2; have hcz37_0 := bc BK294.out 0 (.slice A1_0 l1_0.length c1_0) rfl; have hcz37_1 := bc BK294.out 1 (.slice A1_1 l1_1.length c1_1) rfl; have hcz37_2 := bc BK294.out 2 (.slice A1_2 l1_2.length c1_2) rfl; have hfz37_0 := bf BK294.out 0; have hfz37_1 := bf BK294.out 1; have hfz37_2 := bf BK294.out 2) | ((with_reducible refine gate_callee (f := 101) rfl ?_); refine goesL_ (some 9) rfl rfl Try.func101 (by kernel_rfl) rfl #[.slice A0_0 l0_0.length c0_0, .slice A1_0 l1_0.length c1_0] rfl (by (try simp only [List.map_toArray, List.map_cons, List.map_nil]); first | done | rfl | (simp only [List.length_drop, List.length_take]; rfl)) ?_; (with_reducible refine (laws_eqTypeSS.calls k _ _ l0_0 _ _ l1_0 true _ ?side1 ?side2 ?side3 ?side4 A3.out).mono ?_); (case side1 => exact Kd.C_below HR0_0.out HB.out); (case side2 => exact HC0_0.out); (case side3 => exact Kd.C_below HR1_0.out HB.out); (case side4 => exact HC1_0.out); rintro e w38 ⟨rfl, hb⟩; refine ⟨_, rfl, ?_⟩; have n0_ := am (blk_below BK293.out hb); have n1_ := am (blk_below BK294.out hb); have n2_ := am (below_step (by repeat (first | (with_reducible first | exact HB.out | refine below_set ?_ GE293.out | refine below_set ?_ GE294.out) | exact HB.out)) hb); clear BK293; clear BK294; clear HB; have BK293 := n0_; have BK294 := n1_; have HB := n2_; clear n0_ n1_ n2_; (try clear hb); (try clear hb2); (try clear hk); (try clear hi); have hcz39_0 := bc BK293.out 0 (.slice A0_0 l0_0.length c0_0) rfl; have hcz39_1 := bc BK293.out 1 (.slice A0_1 l0_1.length c0_1) rfl; have hcz39_2 := bc BK293.out 2 (.slice A0_2 l0_2.length c0_2) rfl; have hfz39_0 := bf BK293.out 0; have hfz39_1 := bf BK293.out 1; have hfz39_2 := bf BK293.out 2; have hcz40_0 := bc BK294.out 0 (.slice A1_0 l1_0.length c1_0) rfl; have hcz40_1 := bc BK294.out 1 (.slice A1_1 l1_1.length c1_1) rfl; have hcz40_2 := bc BK294.out 2 (.slice A1_2 l1_2.length c1_2) rfl; have hfz40_0 := bf BK294.out 0; have hfz40_1 := bf BK294.out 1; have hfz40_2 := bf BK294.out 2) | ((with_reducible refine gate_callee (f := 102) rfl ?_); refine goesL_ (some 15) rfl rfl Try.func102 (by kernel_rfl) rfl #[.slice A0_1 l0_1.length c0_1, .slice A1_1 l1_1.length c1_1] rfl (by (try simp only [List.map_toArray, List.map_cons, List.map_nil]); first | done | rfl | (simp only [List.length_drop, List.length_take]; rfl)) ?_; (with_reducible refine (laws_eqFieldS.calls k _ _ l0_1 _ _ l1_1 false _ ?side1 ?side2 ?side3 ?side4 A5.out).mono ?_); (case side1 => exact Kd.C_below HR0_1.out HB.out); (case side2 => exact HC0_1.out); (case side3 => exact Kd.C_below HR1_1.out HB.out); (case side4 => exact HC1_1.out); rintro e w41 ⟨rfl, hb⟩; refine ⟨_, rfl, ?_⟩; have n0_ := am (blk_below BK293.out hb); have n1_ := am (blk_below BK294.out hb); have n2_ := am (below_step (by repeat (first | (with_reducible first | exact HB.out | refine below_set ?_ GE293.out | refine below_set ?_ GE294.out) | exact HB.out)) hb); clear BK293; clear BK294; clear HB; have BK293 := n0_; have BK294 := n1_; have HB := n2_; clear n0_ n1_ n2_; (try clear hb); (try clear hb2); (try clear hk); (try clear hi)))
      go_ret
      exact ⟨by first | rfl | (simp [errW_none, errW_some] <;> rfl) | (simp [*, errW_none, errW_some] <;> rfl), by repeat (first | (with_reducible first | exact HB.out | refine below_set ?_ GE293.out | refine below_set ?_ GE294.out) | exact HB.out)⟩
  · replace c4 := Bool.eq_false_iff.mpr c4
    subst c4
    have H1 : (some false) = some r := by rw [if_neg (show ¬ (false = true) by decide)] at H; exact H
    clear H
    have H := H1
    clear H1
    obtain rfl := Option.some.inj H
    go_enter Try.func55, Try.ntmps55
    go_wp2_with (first | ((with_reducible refine gate_dst (N := 2) rfl ?_); refine box_event ?hg (N := 2) ?hd (cs := #[.slice A0_0 l0_0.length c0_0, .slice A0_1 l0_1.length c0_1, .slice A0_2 l0_2.length c0_2]) (t := 88) ?hr ?_; (case hd => rfl); (case hg => rfl); (case hr => first | (go_simp; done) | (go_simp; rfl)); intro gb293 hg w42 hbox hb; have n0_ := am (below_step HB.out hb); have n1_ := am (hbox); have n2_ := am ((by rw [hg]; exact (below_size HB.out) : w.heap.size ≤ gb293)); have n3_ := am ((by rw [hg]; exact (below_size HB.out) : w.heap.size ≤ gb293)); clear HB; have HB := n0_; have BK293 := n1_; have GW293 := n2_; have GE293 := n3_; clear n0_ n1_ n2_ n3_; clear hb hbox hg) | ((with_reducible refine gate_dst (N := 3) rfl ?_); refine box_event ?hg (N := 3) ?hd (cs := #[.slice A1_0 l1_0.length c1_0, .slice A1_1 l1_1.length c1_1, .slice A1_2 l1_2.length c1_2]) (t := 88) ?hr ?_; (case hd => rfl); (case hg => rfl); (case hr => first | (go_simp; done) | (go_simp; rfl)); intro gb294 hg w43 hbox hb; have n0_ := am (blk_below BK293.out hb); have n1_ := am (below_step (by repeat (first | (with_reducible first | exact HB.out | refine below_set ?_ GE293.out) | exact HB.out)) hb); have n2_ := am (hbox); have n3_ := am ((by rw [hg]; exact (below_size (by repeat (first | (with_reducible first | exact HB.out | refine below_set ?_ GE293.out) | exact HB.out))) : w.heap.size ≤ gb294)); have n4_ := am ((by rw [hg]; exact (below_size (by repeat (first | (with_reducible first | exact HB.out | refine below_set ?_ GE293.out) | exact HB.out))) : w.heap.size ≤ gb294)); have n5_ := am ((by rw [hg]; exact Nat.ne_of_lt (blk_lt BK293.out) : gb293 ≠ gb294)); have n6_ := am ((by rw [hg]; exact Nat.ne_of_gt (blk_lt BK293.out) : gb294 ≠ gb293)); clear BK293; clear HB; have BK293 := n0_; have HB := n1_; have BK294 := n2_; have GW294 := n3_; have GE294 := n4_; have NB293_294 := n5_; have NB294_293 := n6_; clear n0_ n1_ n2_ n3_ n4_ n5_ n6_; clear hb hbox hg; have hnb44 := NB293_294.out; have hnc44 := NB294_293.out; have hcz45_0 := bc BK293.out 0 (.slice A0_0 l0_0.length c0_0) rfl; have hcz45_1 := bc BK293.out 1 (.slice A0_1 l0_1.length c0_1) rfl; have hcz45_2 := bc BK293.out 2 (.slice A0_2 l0_2.length c0_2) rfl; have hfz45_0 := bf BK293.out 0; have hfz45_1 := bf BK293.out 1; have hfz45_2 := bf BK293.out 2; have hcz46_0 := bc BK294.out 0 (.slice A1_0 l1_0.length c1_0) rfl; have hcz46_1 := bc BK294.out 1 (.slice A1_1 l1_1.length c1_1) rfl; have hcz46_2 := bc BK294.out 2 (.slice A1_2 l1_2.length c1_2) rfl; have hfz46_0 := bf BK294.out 0; have hfz46_1 := bf BK294.out 1; have hfz46_2 := bf BK294.out 2) | ((with_reducible refine gate_callee (f := 101) rfl ?_); refine goesL_ (some 9) rfl rfl Try.func101 (by kernel_rfl) rfl #[.slice A0_0 l0_0.length c0_0, .slice A1_0 l1_0.length c1_0] rfl (by (try simp only [List.map_toArray, List.map_cons, List.map_nil]); first | done | rfl | (simp only [List.length_drop, List.length_take]; rfl)) ?_; (with_reducible refine (laws_eqTypeSS.calls k _ _ l0_0 _ _ l1_0 false _ ?side1 ?side2 ?side3 ?side4 A3.out).mono ?_); (case side1 => exact Kd.C_below HR0_0.out HB.out); (case side2 => exact HC0_0.out); (case side3 => exact Kd.C_below HR1_0.out HB.out); (case side4 => exact HC1_0.out); rintro e w47 ⟨rfl, hb⟩; refine ⟨_, rfl, ?_⟩; have n0_ := am (blk_below BK293.out hb); have n1_ := am (blk_below BK294.out hb); have n2_ := am (below_step (by repeat (first | (with_reducible first | exact HB.out | refine below_set ?_ GE293.out | refine below_set ?_ GE294.out) | exact HB.out)) hb); clear BK293; clear BK294; clear HB; have BK293 := n0_; have BK294 := n1_; have HB := n2_; clear n0_ n1_ n2_; (try clear hb); (try clear hb2); (try clear hk); (try clear hi)))
    go_ret
    exact ⟨by first | rfl | (simp [errW_none, errW_some] <;> rfl) | (simp [*, errW_none, errW_some] <;> rfl), by repeat (first | (with_reducible first | exact HB.out | refine below_set ?_ GE293.out | refine below_set ?_ GE294.out) | exact HB.out)⟩
end Go.Proofs.Ytgbmfkfmimpaaaa.PFnExactProgSame
