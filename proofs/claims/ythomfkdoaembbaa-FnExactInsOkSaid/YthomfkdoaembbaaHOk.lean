/- The program's InsOk, walked. No condition. -/
import Derived.Test.YthomfkdoaembbaaHIns
import Derived.Test.YthomfkdoaembbaaPOkx1
import Derived.Deep.QuietTactic
import Derived.BigQuiet
import Derived.Outline
import Derived.Deep.RegionHeld3
namespace Go.Proofs.Ythomfkdoaembbaa.HOk
open Go.RowKit Go.Proofs.YthomfkdoaembbaaW.PrintWords Go.Proofs.YthomfkdoaembbaaW.PrintLast Go.Proofs.YthomfkdoaembbaaW.PrintMore Go.Proofs.Ythomfkdoaembbaa.PForms Go.Proofs.Ythomfkdoaembbaa.HForms Go.Proofs.Ythomfkdoaembbaa.HIns
set_option linter.unusedVariables false
theorem insOk_out (op a b : Int) (w : World) (h : op < 1 ∨ 33 < op) : Calls Try.prog 9 #[.agg #[.int .i64 op, .int .i64 a, .int .i64 b]] w fun e w' => e = .returned (.bool false) ∧ Below w.heap.size w w' := by
  go_enter Try.func9, Try.ntmps9
  go_wp2_with (first | ((with_reducible refine gate_callee (f := 10) rfl ?_); refine goesL_ (some 8) rfl rfl Try.func10 (by kernel_rfl) rfl #[.int .i64 op] rfl (by (try simp only [List.map_toArray, List.map_cons, List.map_nil]); first | done | rfl) ?_; refine (isOp_out op _ h).mono ?_; rintro e w1 ⟨rfl, rfl⟩; refine ⟨_, rfl, ?_⟩))
  go_ret
  exact ⟨rfl, by repeat (first | exact Below.refl _ _ | apply below_alloc)⟩
attribute [local go_sem] index_table field_has field_word
/-- What an operand may be. -/
def okOp (o : S38) (x : Int) : Bool := decide ((if o.f1 = true then (-2 : Int) else 0) ≤ x) && decide (x < o.f0)
def okAt (l : List S38) (i : Nat) (x : Int) : Bool := match l[i]? with
  | some o => okOp o x
  | none => x == 0
theorem ok_f (o : S38) (x : Int) : POk.impl_operand_ok.f o.f0 o.f1 x = some (okOp o x) := by
  unfold POk.impl_operand_ok.f okOp
  cases o.f1 <;> simp <;> split <;> simp <;> omega
theorem okAt_lt (l : List S38) (i : Nat) (x : Int) (h : i < l.length) : okAt l i x = okOp (rd_T38 l (i : Int)) x := by
  unfold okAt rd_T38
  rw [List.getElem?_eq_getElem h]
  simp [List.getD_eq_getElem?_getD, List.getElem?_eq_getElem h]
theorem okAt_ge (l : List S38) (i : Nat) (x : Int) (h : l.length ≤ i) : okAt l i x = (x == 0) := by
  unfold okAt
  rw [List.getElem?_eq_none h]
theorem rd_get (a b : Int) (i : Nat) : rd ([a, b] : List Int) (i : Int) = ([a, b] : List Int).getD i 0 := by simp [rd]
theorem ans_no {l : List S38} {a b : Int} {i : Nat} (hi : i < 2) (h : okAt l i (([a, b] : List Int).getD i 0) = false) : (okAt l 0 a && okAt l 1 b) = false := by
  match i, hi, h with
  | 0, _, h => have h' : okAt l 0 a = false := h; rw [h']; rfl
  | 1, _, h => have h' : okAt l 1 b = false := h; rw [h']; simp
theorem ans_yes {l : List S38} {a b : Int} (h : ∀ j, j < 2 → okAt l j (([a, b] : List Int).getD j 0) = true) : (okAt l 0 a && okAt l 1 b) = true := by
  have h0 : okAt l 0 a = true := h 0 (by omega)
  have h1 : okAt l 1 b = true := h 1 (by omega)
  rw [h0, h1]; rfl
theorem held3 {w W : World} {g n : Nat} {a b : Int} (h : W.heap[g]? = some (.cells #[.int .i64 (n : Int), .int .i64 a, .int .i64 b] 27 (0, 0))) (hb : Below w.heap.size w W) : W.cell? ⟨g, 0, none⟩ = some (.int .i64 (n : Int)) ∧ W.heap[g]? = some (.cells #[.int .i64 (n : Int), .int .i64 a, .int .i64 b] 27 (0, 0)) ∧ Below w.heap.size w W := ⟨(blk_cell h 0).trans rfl, h, hb⟩
set_option maxHeartbeats 4000000 in
theorem insOk_in (n : Nat) (a b : Int) (w : World) (h1 : 1 ≤ n) (h2 : n < 34) : Calls Try.prog 9 #[.agg #[.int .i64 (n : Int), .int .i64 a, .int .i64 b]] w fun e w' => e = .returned (.bool (okAt (has n) 0 a && okAt (has n) 1 b)) ∧ Below w.heap.size w w' := by
  have HB := Aside0.mk (Below.refl w.heap.size w)
  go_enter Try.func9, Try.ntmps9
  go_wp2_with (first | ((with_reducible refine gate_dst (N := 1) rfl ?_); refine box_event ?hg (N := 1) ?hd (cs := #[.int .i64 (n : Int), .int .i64 a, .int .i64 b]) (t := 27) ?hr ?_; (case hd => rfl); (case hg => rfl); (case hr => first | (go_simp; done) | (go_simp; rfl)); intro g hg w0 hbox hb; have n0_ := Aside0.mk (below_step HB.out hb); have BK := Aside0.mk hbox; have GW : Aside0 (w.heap.size ≤ g) := Aside0.mk (by rw [hg]; exact Nat.le_refl _); clear HB hbox hg hb; have HB := n0_; clear n0_; have hx0 : w0.cell? ⟨g, 0, none⟩ = some (.int .i64 (n : Int)) := (blk_cell BK.out 0).trans rfl) | ((with_reducible refine gate_callee (f := 10) rfl ?_); refine goesL_ (some 8) rfl rfl Try.func10 (by kernel_rfl) rfl #[.int .i64 (n : Int)] rfl (by (try simp only [List.map_toArray, List.map_cons, List.map_nil]); first | done | rfl) ?_; refine (isOp_in (n : Int) _ (by omega) (by omega)).mono ?_; rintro e w1 ⟨rfl, rfl⟩; refine ⟨_, rfl, ?_⟩))
  go_region_held3 (fun w' => w'.cell? ⟨g, 0, none⟩ = some (.int .i64 (n : Int)) ∧ w'.heap[g]? = some (.cells #[.int .i64 (n : Int), .int .i64 a, .int .i64 b] 27 (0, 0)) ∧ Below w.heap.size w w') (first | exact held3 BK.out HB.out | exact held3 (blk_drew BK.out) (below_drew1 HB.out) | exact held3 (blk_below BK.out hb) (below_step HB.out hb) | exact held3 (blk_below (blk_drew BK.out) hb) (below_step (below_drew1 HB.out) hb)) (first | (go_at_call 11; refine (forms_any _).mono ?_; rintro e w' ⟨A, c, rfl, hb, hf⟩))
  have HB' := Aside0.mk (below_step (below_drew1 HB.out) hb)
  have BK' := Aside0.mk (blk_below (blk_drew BK.out) hb)
  have HT := Aside0.mk (table_get hf n)
  clear hb hf HB BK hx0
  have hy1 : w'.cell? ⟨g, 1, none⟩ = some (.int .i64 a) := (blk_cell BK'.out 1).trans rfl
  have hy2 : w'.cell? ⟨g, 2, none⟩ = some (.int .i64 b) := (blk_cell BK'.out 2).trans rfl
  go_wp2_with (first | ((with_reducible refine gate_dst (N := 19) rfl ?_); refine Kd.R_lit (Kd.int .i64) _ 3 ?hg (N := 19) ?hd (xs := ([a, b] : List Int)) (inner := [.int .i64 a, .int .i64 b]) (ok := fun _ => True) (okp := fun _ => True) ?hr ?hp (fun _ hk => hk) trivial (Below.refl _ _) (Nat.le_refl _) (by simp) ?_; (case hd => rfl); (case hg => rfl); (case hr => first | (go_simp; done) | (go_simp; rfl)); (case hp => exact Reps.one (show Kd.M (Kd.int .i64) _ _ _ a [.int .i64 a] from rfl) (Reps.one (show Kd.M (Kd.int .i64) _ _ _ b [.int .i64 b] from rfl) (Reps.none _ _))); intro v19 w2 ho hb hg_ hnew_; clear hg_ hnew_; obtain ⟨A19, c19, rfl, hc19, hC19⟩ := Kd.R_reads ho; clear ho; have n0_ := Aside0.mk (below_step HB'.out hb); have n1_ := Aside0.mk hC19; have n2_ := Aside0.mk (Kd.C_below HT.out.2 hb); clear HB' hC19 hb; have HB := n0_; have HL := n1_; have HC := n2_; clear n0_ n1_ n2_))
  have HCC := Aside0.mk HT.out.1
  clear HT hy1 hy2 BK'
  go_loopg [21] 3 (fun kq v21 wq => ∃ i : Nat, v21 = .int .i64 (i : Int) ∧ Aside0 (kq + i = 3 ∧ i ≤ 2) ∧ Aside0 (∀ j, j < i → okAt (has n) j (([a, b] : List Int).getD j 0) = true) ∧ Aside0 (Below w.heap.size w wq) ∧ Aside0 (Kd.C (Kd.int .i64) wq A19 ([a, b] : List Int).length [a, b]) ∧ Aside0 (Kd.C k38 wq (pl A n) (has n).length (has n)))
  case atStart => exact ⟨0, rfl, ⟨rfl, by omega⟩, ⟨fun j hj => absurd hj (by omega)⟩, HB, HL, HC⟩
  case round =>
    obtain ⟨i, rfl, HK, HP, HB, HL, HC⟩ := hrel
    by_cases hi : i < 2
    · have hi0 : decide ((i : Int) < 2) = true := decide_eq_true (by omega)
      obtain ⟨k1, rfl⟩ : ∃ k1, gk = k1 + 1 := ⟨gk - 1, by have := HK.out; omega⟩
      obtain ⟨ad, ea, hxa⟩ := Kd.at_int HL.out (i : Int) (by omega) (by simp; omega)
      cases ea
      simp only [Int.toNat_natCast] at hxa
      by_cases hl : i < (has n).length
      · have hl0 : decide ((i : Int) < ((has n).length : Int)) = true := decide_eq_true (by omega)
        obtain ⟨ao, eo, hy0, hy1⟩ := at_T38 HC.out (i : Int) (by omega) (by omega)
        simp only [Int.toNat_natCast] at hy0 hy1
        have p1 := eq_true (show (0 : Int) ≤ (i : Int) by omega)
        have p2 := eq_true (show (i : Int) < ((has n).length : Int) by omega)
        rw [eo]
        cases ht : okOp (rd_T38 (has n) (i : Int)) (rd ([a, b] : List Int) (i : Int)) with
        | true =>
          have HT := Aside0.mk ((okAt_lt (has n) i _ hl).trans (by rw [← rd_get]; exact ht) : okAt (has n) i (([a, b] : List Int).getD i 0) = true)
          go_wp2_with (first | (go_at_call 15; refine (POk.impl_operand_ok.calls ((rd_T38 (has n) (i : Int)).f0) ((rd_T38 (has n) (i : Int)).f1) (rd ([a, b] : List Int) (i : Int)) _ _ ((ok_f _ _).trans (congrArg some ht))).mono ?_; rintro e w3 ⟨rfl, hb⟩; have n0_ := Aside0.mk (below_step HB.out hb); have n1_ := Aside0.mk (Kd.C_below HL.out hb); have n2_ := Aside0.mk (Kd.C_below HC.out hb); clear HB HL HC hb; have HB := n0_; have HL := n1_; have HC := n2_; clear n0_ n1_ n2_))
          rw [← eo]
          go_roundg k1
          case measure => omega
          case rel => exact ⟨i + 1, (by rfl), ⟨by have := HK.out; omega, by omega⟩, ⟨fun j hj => by
            rcases Nat.lt_or_ge j i with hj2 | hj2
            · exact HP.out j hj2
            · obtain rfl : j = i := by omega
              exact HT.out⟩, HB, HL, HC⟩
        | false =>
          have HT := Aside0.mk ((okAt_lt (has n) i _ hl).trans (by rw [← rd_get]; exact ht) : okAt (has n) i (([a, b] : List Int).getD i 0) = false)
          go_wp2_with (first | (go_at_call 15; refine (POk.impl_operand_ok.calls ((rd_T38 (has n) (i : Int)).f0) ((rd_T38 (has n) (i : Int)).f1) (rd ([a, b] : List Int) (i : Int)) _ _ ((ok_f _ _).trans (congrArg some ht))).mono ?_; rintro e w3 ⟨rfl, hb⟩; have n0_ := Aside0.mk (below_step HB.out hb); have n1_ := Aside0.mk (Kd.C_below HL.out hb); have n2_ := Aside0.mk (Kd.C_below HC.out hb); clear HB HL HC hb; have HB := n0_; have HL := n1_; have HC := n2_; clear n0_ n1_ n2_))
          go_ret
          exact ⟨by rw [ans_no hi HT.out]; rfl, HB.out⟩
      · have hl0 : decide ((i : Int) < ((has n).length : Int)) = false := decide_eq_false (by omega)
        have p2 := eq_false (show ¬ (i : Int) < ((has n).length : Int) by omega)
        by_cases hz : rd ([a, b] : List Int) (i : Int) = 0
        · have HT := Aside0.mk ((okAt_ge (has n) i _ (by omega)).trans (by rw [← rd_get, hz]; rfl) : okAt (has n) i (([a, b] : List Int).getD i 0) = true)
          go_wp2
          go_roundg k1
          case measure => omega
          case rel => exact ⟨i + 1, (by rfl), ⟨by have := HK.out; omega, by omega⟩, ⟨fun j hj => by
            rcases Nat.lt_or_ge j i with hj2 | hj2
            · exact HP.out j hj2
            · obtain rfl : j = i := by omega
              exact HT.out⟩, HB, HL, HC⟩
        · have HT := Aside0.mk ((okAt_ge (has n) i _ (by omega)).trans (by rw [← rd_get]; simp [hz]) : okAt (has n) i (([a, b] : List Int).getD i 0) = false)
          go_wp2
          go_ret
          exact ⟨by rw [ans_no hi HT.out]; rfl, HB.out⟩
    · have e2 : i = 2 := by have := HK.out; omega
      subst e2
      have HT := Aside0.mk (ans_yes HP.out)
      go_wp2
      go_ret
      exact ⟨by rw [HT.out]; rfl, HB.out⟩

/-- What InsOk comes to. -/
def insOk (op a b : Int) : Bool := if 1 ≤ op ∧ op ≤ 33 then okAt (has op.toNat) 0 a && okAt (has op.toNat) 1 b else false
theorem insOk_any (op a b : Int) (w : World) : Calls Try.prog 9 #[.agg #[.int .i64 op, .int .i64 a, .int .i64 b]] w fun e w' => e = .returned (.bool (insOk op a b)) ∧ Below w.heap.size w w' := by
  unfold insOk
  by_cases h : 1 ≤ op ∧ op ≤ 33
  · rw [if_pos h]
    obtain ⟨n, rfl⟩ : ∃ n : Nat, op = (n : Int) := ⟨op.toNat, by omega⟩
    exact insOk_in n a b w (by omega) (by omega)
  · rw [if_neg h]
    exact insOk_out op a b w (by omega)
end Go.Proofs.Ythomfkdoaembbaa.HOk
