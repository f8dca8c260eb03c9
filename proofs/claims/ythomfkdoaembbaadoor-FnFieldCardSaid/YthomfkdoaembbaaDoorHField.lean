/- The program's FieldText, walked. Condition: the library's table lies in the world. -/
import Derived.Test.YthomfkdoaembbaaDoorPFldx1
import Derived.Deep.QuietTactic
import Derived.BigQuiet
import Derived.Outline
import Derived.Deep.RegionHeld3
import Derived.MapKept
import Derived.Carry
namespace Go.Proofs.YthomfkdoaembbaaDoor.HField
open Go.RowKit Go.Proofs.YthomfkdoaembbaaDoorW.PrintWords Go.Proofs.YthomfkdoaembbaaDoorW.PrintLast Go.Proofs.YthomfkdoaembbaaDoorW.PrintMore Go.Proofs.YthomfkdoaembbaaDoor.PFld
set_option linter.unusedVariables false
theorem alloc_get (w : World) (o : Obj) : (w.alloc o).heap[w.heap.size]? = some o := by show (w.heap.push o)[w.heap.size]? = some o; simp
theorem push_set (a : Array Obj) (x y : Obj) : (a.push x).setIfInBounds a.size y = a.push y := by
  apply Array.ext_getElem?
  intro i
  rw [Array.getElem?_setIfInBounds, Array.getElem?_push, Array.getElem?_push]
  by_cases e : a.size = i
  · subst e; simp
  · rw [if_neg e, if_neg (fun h => e h.symm), if_neg (fun h => e h.symm)]
theorem ins (w : World) (es : Array MapEntry) (clock : Nat) (k : Int) (s : ByteArray) (hf : Instr.findNow (.int .i64) (.int .i64 k) es.toList 0 = some none) :
    (Instr.mapUpdate 91 (.map (some w.heap.size)) (.int .i64 k) (.string s)).run Tryd.prog (w.alloc (.map es clock)) = .ok () (w.alloc (.map (es.push ⟨.int .i64 k, .string s, clock⟩) (clock + 1))) := by
  have hb := alloc_get w (.map es clock)
  simp [Instr.mapUpdate, Instr.findKey, run_underlying Tryd.underlying91, run_underlying Tryd.underlying3, Go.MapKept.run_getObj_map hb, Go.MapKept.run_setObj_map _ hb, Go.MapKept.run_checkKey Tryd.underlying3 (show MapKept.IsKey (.int .i64) (.int .i64 k) from by simp [MapKept.IsKey]), hf, Result.andThen]
  show ({ w with heap := (w.heap.push _).setIfInBounds w.heap.size _ } : World) = { w with heap := w.heap.push _ }
  rw [push_set]
theorem look (w : World) (es : Array MapEntry) (clock : Nat) (k : Int) (s : ByteArray) (j : Nat) (hf : Instr.findNow (.int .i64) (.int .i64 k) es.toList 0 = some (some (j, .string s))) :
    (Instr.lookup 91 (.map (some w.heap.size)) (.int .i64 k) false).run Tryd.prog (w.alloc (.map es clock)) = .ok (.string s) (w.alloc (.map es clock)) := by
  have hb := alloc_get w (.map es clock)
  simp [Instr.lookup, Instr.findKey, run_underlying Tryd.underlying91, run_underlying Tryd.underlying3, Go.MapKept.run_getObj_map hb, Go.MapKept.run_checkKey Tryd.underlying3 (show MapKept.IsKey (.int .i64) (.int .i64 k) from by simp [MapKept.IsKey]), hf, Result.andThen]
def e1 : MapEntry := ⟨.int .i64 1, .string ⟨#[110]⟩, 0⟩
def e2 : MapEntry := ⟨.int .i64 2, .string ⟨#[114]⟩, 1⟩
def e3 : MapEntry := ⟨.int .i64 3, .string ⟨#[115]⟩, 2⟩
theorem ins1 (w : World) : (Instr.mapUpdate 91 (.map (some w.heap.size)) (.int .i64 1) (.string ⟨#[110]⟩)).run Tryd.prog (w.alloc (.map #[] 0)) = .ok () (w.alloc (.map #[e1] 1)) := ins w #[] 0 1 ⟨#[110]⟩ rfl
theorem ins2 (w : World) : (Instr.mapUpdate 91 (.map (some w.heap.size)) (.int .i64 2) (.string ⟨#[114]⟩)).run Tryd.prog (w.alloc (.map #[e1] 1)) = .ok () (w.alloc (.map #[e1, e2] 2)) := ins w #[e1] 1 2 ⟨#[114]⟩ rfl
theorem ins3 (w : World) : (Instr.mapUpdate 91 (.map (some w.heap.size)) (.int .i64 3) (.string ⟨#[115]⟩)).run Tryd.prog (w.alloc (.map #[e1, e2] 2)) = .ok () (w.alloc (.map #[e1, e2, e3] 3)) := ins w #[e1, e2] 2 3 ⟨#[115]⟩ rfl
theorem look1 (w : World) : (Instr.lookup 91 (.map (some w.heap.size)) (.int .i64 1) false).run Tryd.prog (w.alloc (.map #[e1, e2, e3] 3)) = .ok (.string ⟨#[110]⟩) (w.alloc (.map #[e1, e2, e3] 3)) := look w _ 3 1 _ 0 rfl
theorem look2 (w : World) : (Instr.lookup 91 (.map (some w.heap.size)) (.int .i64 2) false).run Tryd.prog (w.alloc (.map #[e1, e2, e3] 3)) = .ok (.string ⟨#[114]⟩) (w.alloc (.map #[e1, e2, e3] 3)) := look w _ 3 2 _ 1 rfl
theorem look3 (w : World) : (Instr.lookup 91 (.map (some w.heap.size)) (.int .i64 3) false).run Tryd.prog (w.alloc (.map #[e1, e2, e3] 3)) = .ok (.string ⟨#[115]⟩) (w.alloc (.map #[e1, e2, e3] 3)) := look w _ 3 3 _ 2 rfl
theorem made (w : World) : (Instr.makeMap 91 none).run Tryd.prog w = .ok (.map (some w.heap.size)) (w.alloc (.map #[] 0)) := run_makeMap 91 w
attribute [local go_sem] made ins1 ins2 ins3 look1 look2 look3
theorem text_no (k o : Int) (m : Bool) (w : World) (ho : impl_fieldOk.f k o m 8 = some false) : Calls Tryd.prog 28 #[.agg #[.int .i64 k, .int .i64 o, .bool m]] w fun e w' => e = .returned (.string ⟨#[]⟩) ∧ Below w.heap.size w w' := by
  have HB := Aside0.mk (Below.refl w.heap.size w)
  go_enter Tryd.func28, Tryd.ntmps28
  go_wp2_with (first | ((with_reducible refine gate_dst (N := 1) rfl ?_); refine box_event ?hg (N := 1) ?hd (cs := #[.int .i64 k, .int .i64 o, .bool m]) (t := 43) ?hr ?_; (case hd => rfl); (case hg => rfl); (case hr => first | (go_simp; done) | (go_simp; rfl)); intro g hg w0 hbox hb; have n0_ := Aside0.mk (below_step HB.out hb); have BK := Aside0.mk hbox; have GW : Aside0 (w.heap.size ≤ g) := Aside0.mk (by rw [hg]; exact Nat.le_refl _); clear HB hbox hg hb; have HB := n0_; clear n0_; have hx0 : w0.cell? ⟨g, 0, none⟩ = some (.int .i64 k) := (blk_cell BK.out 0).trans rfl; have hx1 : w0.cell? ⟨g, 1, none⟩ = some (.int .i64 o) := (blk_cell BK.out 1).trans rfl;  have hx2 : w0.cell? ⟨g, 2, none⟩ = some (.bool m) := (blk_cell BK.out 2).trans rfl) | ((with_reducible refine gate_callee (f := 67) rfl ?_); refine goesL_ (some 5) rfl rfl Tryd.func67 (by kernel_rfl) rfl #[.agg #[.int .i64 k, .int .i64 o, .bool m], .int .i64 8] rfl (by (try simp only [List.map_toArray, List.map_cons, List.map_nil]); first | done | rfl) ?_; refine (impl_fieldOk.calls k o m 8 false _ ho).mono ?_; rintro e w1 ⟨rfl, hb⟩; refine ⟨_, rfl, ?_⟩; have n0_ := Aside0.mk (below_step HB.out hb); have n1_ := Aside0.mk (blk_below BK.out hb); clear HB BK hb hx0 hx1 hx2; have HB := n0_; have BK := n1_; clear n0_ n1_; have hx0 : ∀ ob, (w1.alloc ob).cell? ⟨g, 0, none⟩ = some (.int .i64 k) := fun ob => (blk_cell (blk_alloc BK.out ob) 0).trans rfl; have hx1 : ∀ ob, (w1.alloc ob).cell? ⟨g, 1, none⟩ = some (.int .i64 o) := fun ob => (blk_cell (blk_alloc BK.out ob) 1).trans rfl; have hx2 : ∀ ob, (w1.alloc ob).cell? ⟨g, 2, none⟩ = some (.bool m) := fun ob => (blk_cell (blk_alloc BK.out ob) 2).trans rfl))
  go_ret; exact ⟨rfl, HB.out⟩
theorem text_one (o : Int) (m : Bool) (w : World) (ho : impl_fieldOk.f 1 o m 8 = some true) : Calls Tryd.prog 28 #[.agg #[.int .i64 1, .int .i64 o, .bool m]] w fun e w' => e = .returned (.string (if m = true then ⟨#[110]⟩ ++ ⟨#[33]⟩ else ⟨#[110]⟩)) ∧ Below w.heap.size w w' := by
  have HB := Aside0.mk (Below.refl w.heap.size w)
  cases m with
  | true =>
    go_enter Tryd.func28, Tryd.ntmps28
    go_wp2_with (first | ((with_reducible refine gate_dst (N := 1) rfl ?_); refine box_event ?hg (N := 1) ?hd (cs := #[.int .i64 1, .int .i64 o, .bool true]) (t := 43) ?hr ?_; (case hd => rfl); (case hg => rfl); (case hr => first | (go_simp; done) | (go_simp; rfl)); intro g hg w0 hbox hb; have n0_ := Aside0.mk (below_step HB.out hb); have BK := Aside0.mk hbox; have GW : Aside0 (w.heap.size ≤ g) := Aside0.mk (by rw [hg]; exact Nat.le_refl _); clear HB hbox hg hb; have HB := n0_; clear n0_; have hx0 : w0.cell? ⟨g, 0, none⟩ = some (.int .i64 1) := (blk_cell BK.out 0).trans rfl; have hx1 : w0.cell? ⟨g, 1, none⟩ = some (.int .i64 o) := (blk_cell BK.out 1).trans rfl;  have hx2 : w0.cell? ⟨g, 2, none⟩ = some (.bool true) := (blk_cell BK.out 2).trans rfl) | ((with_reducible refine gate_callee (f := 67) rfl ?_); refine goesL_ (some 5) rfl rfl Tryd.func67 (by kernel_rfl) rfl #[.agg #[.int .i64 1, .int .i64 o, .bool true], .int .i64 8] rfl (by (try simp only [List.map_toArray, List.map_cons, List.map_nil]); first | done | rfl) ?_; refine (impl_fieldOk.calls 1 o true 8 true _ ho).mono ?_; rintro e w1 ⟨rfl, hb⟩; refine ⟨_, rfl, ?_⟩; have n0_ := Aside0.mk (below_step HB.out hb); have n1_ := Aside0.mk (blk_below BK.out hb); clear HB BK hb hx0 hx1 hx2; have HB := n0_; have BK := n1_; clear n0_ n1_; have hx0 : ∀ ob, (w1.alloc ob).cell? ⟨g, 0, none⟩ = some (.int .i64 1) := fun ob => (blk_cell (blk_alloc BK.out ob) 0).trans rfl; have hx1 : ∀ ob, (w1.alloc ob).cell? ⟨g, 1, none⟩ = some (.int .i64 o) := fun ob => (blk_cell (blk_alloc BK.out ob) 1).trans rfl; have hx2 : ∀ ob, (w1.alloc ob).cell? ⟨g, 2, none⟩ = some (.bool true) := fun ob => (blk_cell (blk_alloc BK.out ob) 2).trans rfl))
    go_ret; exact ⟨rfl, below_alloc HB.out _⟩
  | false =>
    go_enter Tryd.func28, Tryd.ntmps28
    go_wp2_with (first | ((with_reducible refine gate_dst (N := 1) rfl ?_); refine box_event ?hg (N := 1) ?hd (cs := #[.int .i64 1, .int .i64 o, .bool false]) (t := 43) ?hr ?_; (case hd => rfl); (case hg => rfl); (case hr => first | (go_simp; done) | (go_simp; rfl)); intro g hg w0 hbox hb; have n0_ := Aside0.mk (below_step HB.out hb); have BK := Aside0.mk hbox; have GW : Aside0 (w.heap.size ≤ g) := Aside0.mk (by rw [hg]; exact Nat.le_refl _); clear HB hbox hg hb; have HB := n0_; clear n0_; have hx0 : w0.cell? ⟨g, 0, none⟩ = some (.int .i64 1) := (blk_cell BK.out 0).trans rfl; have hx1 : w0.cell? ⟨g, 1, none⟩ = some (.int .i64 o) := (blk_cell BK.out 1).trans rfl;  have hx2 : w0.cell? ⟨g, 2, none⟩ = some (.bool false) := (blk_cell BK.out 2).trans rfl) | ((with_reducible refine gate_callee (f := 67) rfl ?_); refine goesL_ (some 5) rfl rfl Tryd.func67 (by kernel_rfl) rfl #[.agg #[.int .i64 1, .int .i64 o, .bool false], .int .i64 8] rfl (by (try simp only [List.map_toArray, List.map_cons, List.map_nil]); first | done | rfl) ?_; refine (impl_fieldOk.calls 1 o false 8 true _ ho).mono ?_; rintro e w1 ⟨rfl, hb⟩; refine ⟨_, rfl, ?_⟩; have n0_ := Aside0.mk (below_step HB.out hb); have n1_ := Aside0.mk (blk_below BK.out hb); clear HB BK hb hx0 hx1 hx2; have HB := n0_; have BK := n1_; clear n0_ n1_; have hx0 : ∀ ob, (w1.alloc ob).cell? ⟨g, 0, none⟩ = some (.int .i64 1) := fun ob => (blk_cell (blk_alloc BK.out ob) 0).trans rfl; have hx1 : ∀ ob, (w1.alloc ob).cell? ⟨g, 1, none⟩ = some (.int .i64 o) := fun ob => (blk_cell (blk_alloc BK.out ob) 1).trans rfl; have hx2 : ∀ ob, (w1.alloc ob).cell? ⟨g, 2, none⟩ = some (.bool false) := fun ob => (blk_cell (blk_alloc BK.out ob) 2).trans rfl))
    go_ret; exact ⟨rfl, below_alloc HB.out _⟩
theorem text_two (o : Int) (m : Bool) (t : ByteArray) (w : World) (hT : Tab w) (ho : impl_fieldOk.f 2 o m 8 = some true) (ht : impl_ofText.f o = some t) (hl : t.size ≤ 100) : Calls Tryd.prog 28 #[.agg #[.int .i64 2, .int .i64 o, .bool m]] w fun e w' => e = .returned (.string (if m = true then (⟨#[114]⟩ ++ t) ++ ⟨#[33]⟩ else ⟨#[114]⟩ ++ t)) ∧ Below w.heap.size w w' := by
  have HB := Aside0.mk (Below.refl w.heap.size w)
  have h1 : (9223372036854775807 < 1 + t.size) = False := eq_false (by omega)
  have h2 : (9223372036854775807 < 1 + t.size + 1) = False := eq_false (by omega)
  cases m with
  | true =>
    go_enter Tryd.func28, Tryd.ntmps28
    go_wp2_with (first | ((with_reducible refine gate_dst (N := 1) rfl ?_); refine box_event ?hg (N := 1) ?hd (cs := #[.int .i64 2, .int .i64 o, .bool true]) (t := 43) ?hr ?_; (case hd => rfl); (case hg => rfl); (case hr => first | (go_simp; done) | (go_simp; rfl)); intro g hg w0 hbox hb; have n0_ := Aside0.mk (below_step HB.out hb); have BK := Aside0.mk hbox; have GW : Aside0 (w.heap.size ≤ g) := Aside0.mk (by rw [hg]; exact Nat.le_refl _); clear HB hbox hg hb; have HB := n0_; clear n0_; have hx0 : w0.cell? ⟨g, 0, none⟩ = some (.int .i64 2) := (blk_cell BK.out 0).trans rfl; have hx1 : w0.cell? ⟨g, 1, none⟩ = some (.int .i64 o) := (blk_cell BK.out 1).trans rfl;  have hx2 : w0.cell? ⟨g, 2, none⟩ = some (.bool true) := (blk_cell BK.out 2).trans rfl) | ((with_reducible refine gate_callee (f := 67) rfl ?_); refine goesL_ (some 5) rfl rfl Tryd.func67 (by kernel_rfl) rfl #[.agg #[.int .i64 2, .int .i64 o, .bool true], .int .i64 8] rfl (by (try simp only [List.map_toArray, List.map_cons, List.map_nil]); first | done | rfl) ?_; refine (impl_fieldOk.calls 2 o true 8 true _ ho).mono ?_; rintro e w1 ⟨rfl, hb⟩; refine ⟨_, rfl, ?_⟩; have n0_ := Aside0.mk (below_step HB.out hb); have n1_ := Aside0.mk (blk_below BK.out hb); clear HB BK hb hx0 hx1 hx2; have HB := n0_; have BK := n1_; clear n0_ n1_; have hx0 : ∀ ob, (w1.alloc ob).cell? ⟨g, 0, none⟩ = some (.int .i64 2) := fun ob => (blk_cell (blk_alloc BK.out ob) 0).trans rfl; have hx1 : ∀ ob, (w1.alloc ob).cell? ⟨g, 1, none⟩ = some (.int .i64 o) := fun ob => (blk_cell (blk_alloc BK.out ob) 1).trans rfl; have hx2 : ∀ ob, (w1.alloc ob).cell? ⟨g, 2, none⟩ = some (.bool true) := fun ob => (blk_cell (blk_alloc BK.out ob) 2).trans rfl) | ((with_reducible refine gate_callee (f := 46) rfl ?_); refine goesL_ (some 18) rfl rfl Tryd.func46 (by kernel_rfl) rfl #[.int .i64 o] rfl (by (try simp only [List.map_toArray, List.map_cons, List.map_nil]); first | done | rfl) ?_; refine (impl_ofText.calls o t _ (tab_below hT (below_alloc HB.out _)) ht).mono ?_; rintro e w2 ⟨rfl, hb⟩; refine ⟨_, rfl, ?_⟩; have n0_ := Aside0.mk (below_step (below_alloc HB.out _) hb); have n1_ := Aside0.mk (blk_below (blk_alloc BK.out _) hb); clear HB BK hb hx0 hx1 hx2; have HB := n0_; have BK := n1_; clear n0_ n1_; have hx2 : w2.cell? ⟨g, 2, none⟩ = some (.bool true) := (blk_cell BK.out 2).trans rfl))
    go_ret; exact ⟨rfl, HB.out⟩
  | false =>
    go_enter Tryd.func28, Tryd.ntmps28
    go_wp2_with (first | ((with_reducible refine gate_dst (N := 1) rfl ?_); refine box_event ?hg (N := 1) ?hd (cs := #[.int .i64 2, .int .i64 o, .bool false]) (t := 43) ?hr ?_; (case hd => rfl); (case hg => rfl); (case hr => first | (go_simp; done) | (go_simp; rfl)); intro g hg w0 hbox hb; have n0_ := Aside0.mk (below_step HB.out hb); have BK := Aside0.mk hbox; have GW : Aside0 (w.heap.size ≤ g) := Aside0.mk (by rw [hg]; exact Nat.le_refl _); clear HB hbox hg hb; have HB := n0_; clear n0_; have hx0 : w0.cell? ⟨g, 0, none⟩ = some (.int .i64 2) := (blk_cell BK.out 0).trans rfl; have hx1 : w0.cell? ⟨g, 1, none⟩ = some (.int .i64 o) := (blk_cell BK.out 1).trans rfl;  have hx2 : w0.cell? ⟨g, 2, none⟩ = some (.bool false) := (blk_cell BK.out 2).trans rfl) | ((with_reducible refine gate_callee (f := 67) rfl ?_); refine goesL_ (some 5) rfl rfl Tryd.func67 (by kernel_rfl) rfl #[.agg #[.int .i64 2, .int .i64 o, .bool false], .int .i64 8] rfl (by (try simp only [List.map_toArray, List.map_cons, List.map_nil]); first | done | rfl) ?_; refine (impl_fieldOk.calls 2 o false 8 true _ ho).mono ?_; rintro e w1 ⟨rfl, hb⟩; refine ⟨_, rfl, ?_⟩; have n0_ := Aside0.mk (below_step HB.out hb); have n1_ := Aside0.mk (blk_below BK.out hb); clear HB BK hb hx0 hx1 hx2; have HB := n0_; have BK := n1_; clear n0_ n1_; have hx0 : ∀ ob, (w1.alloc ob).cell? ⟨g, 0, none⟩ = some (.int .i64 2) := fun ob => (blk_cell (blk_alloc BK.out ob) 0).trans rfl; have hx1 : ∀ ob, (w1.alloc ob).cell? ⟨g, 1, none⟩ = some (.int .i64 o) := fun ob => (blk_cell (blk_alloc BK.out ob) 1).trans rfl; have hx2 : ∀ ob, (w1.alloc ob).cell? ⟨g, 2, none⟩ = some (.bool false) := fun ob => (blk_cell (blk_alloc BK.out ob) 2).trans rfl) | ((with_reducible refine gate_callee (f := 46) rfl ?_); refine goesL_ (some 18) rfl rfl Tryd.func46 (by kernel_rfl) rfl #[.int .i64 o] rfl (by (try simp only [List.map_toArray, List.map_cons, List.map_nil]); first | done | rfl) ?_; refine (impl_ofText.calls o t _ (tab_below hT (below_alloc HB.out _)) ht).mono ?_; rintro e w2 ⟨rfl, hb⟩; refine ⟨_, rfl, ?_⟩; have n0_ := Aside0.mk (below_step (below_alloc HB.out _) hb); have n1_ := Aside0.mk (blk_below (blk_alloc BK.out _) hb); clear HB BK hb hx0 hx1 hx2; have HB := n0_; have BK := n1_; clear n0_ n1_; have hx2 : w2.cell? ⟨g, 2, none⟩ = some (.bool false) := (blk_cell BK.out 2).trans rfl))
    go_ret; exact ⟨rfl, HB.out⟩
theorem text_three (o : Int) (m : Bool) (t : ByteArray) (w : World) (hT : Tab w) (ho : impl_fieldOk.f 3 o m 8 = some true) (ht : impl_ofText.f o = some t) (hl : t.size ≤ 100) : Calls Tryd.prog 28 #[.agg #[.int .i64 3, .int .i64 o, .bool m]] w fun e w' => e = .returned (.string (if m = true then (⟨#[115]⟩ ++ t) ++ ⟨#[33]⟩ else ⟨#[115]⟩ ++ t)) ∧ Below w.heap.size w w' := by
  have HB := Aside0.mk (Below.refl w.heap.size w)
  have h1 : (9223372036854775807 < 1 + t.size) = False := eq_false (by omega)
  have h2 : (9223372036854775807 < 1 + t.size + 1) = False := eq_false (by omega)
  cases m with
  | true =>
    go_enter Tryd.func28, Tryd.ntmps28
    go_wp2_with (first | ((with_reducible refine gate_dst (N := 1) rfl ?_); refine box_event ?hg (N := 1) ?hd (cs := #[.int .i64 3, .int .i64 o, .bool true]) (t := 43) ?hr ?_; (case hd => rfl); (case hg => rfl); (case hr => first | (go_simp; done) | (go_simp; rfl)); intro g hg w0 hbox hb; have n0_ := Aside0.mk (below_step HB.out hb); have BK := Aside0.mk hbox; have GW : Aside0 (w.heap.size ≤ g) := Aside0.mk (by rw [hg]; exact Nat.le_refl _); clear HB hbox hg hb; have HB := n0_; clear n0_; have hx0 : w0.cell? ⟨g, 0, none⟩ = some (.int .i64 3) := (blk_cell BK.out 0).trans rfl; have hx1 : w0.cell? ⟨g, 1, none⟩ = some (.int .i64 o) := (blk_cell BK.out 1).trans rfl;  have hx2 : w0.cell? ⟨g, 2, none⟩ = some (.bool true) := (blk_cell BK.out 2).trans rfl) | ((with_reducible refine gate_callee (f := 67) rfl ?_); refine goesL_ (some 5) rfl rfl Tryd.func67 (by kernel_rfl) rfl #[.agg #[.int .i64 3, .int .i64 o, .bool true], .int .i64 8] rfl (by (try simp only [List.map_toArray, List.map_cons, List.map_nil]); first | done | rfl) ?_; refine (impl_fieldOk.calls 3 o true 8 true _ ho).mono ?_; rintro e w1 ⟨rfl, hb⟩; refine ⟨_, rfl, ?_⟩; have n0_ := Aside0.mk (below_step HB.out hb); have n1_ := Aside0.mk (blk_below BK.out hb); clear HB BK hb hx0 hx1 hx2; have HB := n0_; have BK := n1_; clear n0_ n1_; have hx0 : ∀ ob, (w1.alloc ob).cell? ⟨g, 0, none⟩ = some (.int .i64 3) := fun ob => (blk_cell (blk_alloc BK.out ob) 0).trans rfl; have hx1 : ∀ ob, (w1.alloc ob).cell? ⟨g, 1, none⟩ = some (.int .i64 o) := fun ob => (blk_cell (blk_alloc BK.out ob) 1).trans rfl; have hx2 : ∀ ob, (w1.alloc ob).cell? ⟨g, 2, none⟩ = some (.bool true) := fun ob => (blk_cell (blk_alloc BK.out ob) 2).trans rfl) | ((with_reducible refine gate_callee (f := 46) rfl ?_); refine goesL_ (some 18) rfl rfl Tryd.func46 (by kernel_rfl) rfl #[.int .i64 o] rfl (by (try simp only [List.map_toArray, List.map_cons, List.map_nil]); first | done | rfl) ?_; refine (impl_ofText.calls o t _ (tab_below hT (below_alloc HB.out _)) ht).mono ?_; rintro e w2 ⟨rfl, hb⟩; refine ⟨_, rfl, ?_⟩; have n0_ := Aside0.mk (below_step (below_alloc HB.out _) hb); have n1_ := Aside0.mk (blk_below (blk_alloc BK.out _) hb); clear HB BK hb hx0 hx1 hx2; have HB := n0_; have BK := n1_; clear n0_ n1_; have hx2 : w2.cell? ⟨g, 2, none⟩ = some (.bool true) := (blk_cell BK.out 2).trans rfl))
    go_ret; exact ⟨rfl, HB.out⟩
  | false =>
    go_enter Tryd.func28, Tryd.ntmps28
    go_wp2_with (first | ((with_reducible refine gate_dst (N := 1) rfl ?_); refine box_event ?hg (N := 1) ?hd (cs := #[.int .i64 3, .int .i64 o, .bool false]) (t := 43) ?hr ?_; (case hd => rfl); (case hg => rfl); (case hr => first | (go_simp; done) | (go_simp; rfl)); intro g hg w0 hbox hb; have n0_ := Aside0.mk (below_step HB.out hb); have BK := Aside0.mk hbox; have GW : Aside0 (w.heap.size ≤ g) := Aside0.mk (by rw [hg]; exact Nat.le_refl _); clear HB hbox hg hb; have HB := n0_; clear n0_; have hx0 : w0.cell? ⟨g, 0, none⟩ = some (.int .i64 3) := (blk_cell BK.out 0).trans rfl; have hx1 : w0.cell? ⟨g, 1, none⟩ = some (.int .i64 o) := (blk_cell BK.out 1).trans rfl;  have hx2 : w0.cell? ⟨g, 2, none⟩ = some (.bool false) := (blk_cell BK.out 2).trans rfl) | ((with_reducible refine gate_callee (f := 67) rfl ?_); refine goesL_ (some 5) rfl rfl Tryd.func67 (by kernel_rfl) rfl #[.agg #[.int .i64 3, .int .i64 o, .bool false], .int .i64 8] rfl (by (try simp only [List.map_toArray, List.map_cons, List.map_nil]); first | done | rfl) ?_; refine (impl_fieldOk.calls 3 o false 8 true _ ho).mono ?_; rintro e w1 ⟨rfl, hb⟩; refine ⟨_, rfl, ?_⟩; have n0_ := Aside0.mk (below_step HB.out hb); have n1_ := Aside0.mk (blk_below BK.out hb); clear HB BK hb hx0 hx1 hx2; have HB := n0_; have BK := n1_; clear n0_ n1_; have hx0 : ∀ ob, (w1.alloc ob).cell? ⟨g, 0, none⟩ = some (.int .i64 3) := fun ob => (blk_cell (blk_alloc BK.out ob) 0).trans rfl; have hx1 : ∀ ob, (w1.alloc ob).cell? ⟨g, 1, none⟩ = some (.int .i64 o) := fun ob => (blk_cell (blk_alloc BK.out ob) 1).trans rfl; have hx2 : ∀ ob, (w1.alloc ob).cell? ⟨g, 2, none⟩ = some (.bool false) := fun ob => (blk_cell (blk_alloc BK.out ob) 2).trans rfl) | ((with_reducible refine gate_callee (f := 46) rfl ?_); refine goesL_ (some 18) rfl rfl Tryd.func46 (by kernel_rfl) rfl #[.int .i64 o] rfl (by (try simp only [List.map_toArray, List.map_cons, List.map_nil]); first | done | rfl) ?_; refine (impl_ofText.calls o t _ (tab_below hT (below_alloc HB.out _)) ht).mono ?_; rintro e w2 ⟨rfl, hb⟩; refine ⟨_, rfl, ?_⟩; have n0_ := Aside0.mk (below_step (below_alloc HB.out _) hb); have n1_ := Aside0.mk (blk_below (blk_alloc BK.out _) hb); clear HB BK hb hx0 hx1 hx2; have HB := n0_; have BK := n1_; clear n0_ n1_; have hx2 : w2.cell? ⟨g, 2, none⟩ = some (.bool false) := (blk_cell BK.out 2).trans rfl))
    go_ret; exact ⟨rfl, HB.out⟩
/-- What FieldText comes to. -/
def fieldText (k o : Int) (m : Bool) : Option ByteArray :=
  (impl_fieldOk.f k o m 8).bind fun ok => if ok = true then
    (if k = 1 then some (⟨#[110]⟩ : ByteArray) else (impl_ofText.f o).bind fun t => if t.size ≤ 100 then (if k = 2 then some (⟨#[114]⟩ ++ t) else if k = 3 then some (⟨#[115]⟩ ++ t) else none) else none).map fun s => if m = true then s ++ ⟨#[33]⟩ else s
  else some ⟨#[]⟩
theorem fieldText_any (k o : Int) (m : Bool) (r : ByteArray) (w : World) (hT : Tab w) (h : fieldText k o m = some r) : Calls Tryd.prog 28 #[.agg #[.int .i64 k, .int .i64 o, .bool m]] w fun e w' => e = .returned (.string r) ∧ Below w.heap.size w w' := by
  unfold fieldText at h
  obtain ⟨ok, ho, h⟩ := Option.bind_eq_some_iff.1 h
  cases ok with
  | false => obtain rfl := Option.some.inj h; exact text_no k o m w ho
  | true =>
    rw [if_pos rfl] at h
    obtain ⟨s, hs, rfl⟩ := Option.map_eq_some_iff.1 h
    by_cases k1 : k = 1
    · subst k1
      rw [if_pos rfl] at hs
      obtain rfl := Option.some.inj hs
      exact text_one o m w ho
    · rw [if_neg k1] at hs
      obtain ⟨t, ht, hs⟩ := Option.bind_eq_some_iff.1 hs
      by_cases hl : t.size ≤ 100
      · rw [if_pos hl] at hs
        by_cases k2 : k = 2
        · subst k2
          rw [if_pos rfl] at hs
          obtain rfl := Option.some.inj hs
          exact text_two o m t w hT ho ht hl
        · rw [if_neg k2] at hs
          by_cases k3 : k = 3
          · subst k3
            rw [if_pos rfl] at hs
            obtain rfl := Option.some.inj hs
            exact text_three o m t w hT ho ht hl
          · rw [if_neg k3] at hs; cases hs
      · rw [if_neg hl] at hs; cases hs
end Go.Proofs.YthomfkdoaembbaaDoor.HField
