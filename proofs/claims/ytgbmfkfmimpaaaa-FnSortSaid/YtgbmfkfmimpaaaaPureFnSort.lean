/- Proved: for every drawn field and count the law FnSort answers true: SortOk is FieldOk without Mut, as the reference has it, and stays so for one type more. No condition. -/
import Derived.Test.YtgbmfkfmimpaaaaQFnSortx2
namespace Go.Proofs.Ytgbmfkfmimpaaaa.Pure
open Go.RowKit Go.Proofs.Ytgbmfkfmimpaaaa.PFnSort Go.Proofs.YtgbmfkfmimpaaaaW.PrintWords Go.Proofs.YtgbmfkfmimpaaaaW.PrintLast
theorem w_id {x : Int} (h0 : -9223372036854775808 ≤ x) (h1 : x ≤ 9223372036854775807) : wrap64 x = x := by unfold wrap64; omega
theorem Ev.pos {α : Type} {c : Prop} [Decidable c] {f g : Nat → Option α} {r : α} (h : c) (k : Ev f r) : Ev (fun n => if c then f n else g n) r := Ev.congr (fun _ => if_pos h) k
theorem Ev.neg {α : Type} {c : Prop} [Decidable c] {f g : Nat → Option α} {r : α} (h : ¬ c) (k : Ev g r) : Ev (fun n => if c then f n else g n) r := Ev.congr (fun _ => if_neg h) k
theorem Ev.ite {α : Type} {c : Prop} [Decidable c] {f g : Nat → Option α} {r : α} (h : c → Ev f r) (k : ¬ c → Ev g r) : Ev (fun n => if c then f n else g n) r := by
  by_cases hc : c
  · exact Ev.pos hc (h hc)
  · exact Ev.neg hc (k hc)
theorem Ev.got {α β : Type} {o : Option α} {f : Nat → α → Option β} {a : α} {r : β} (h : o = some a) (k : Ev (fun n => f n a) r) : Ev (fun n => o.bind (f n)) r := Ev.congr (fun _ => by rw [h]; rfl) k
theorem Ev.next {α : Type} {g : Nat → Option α} {r : α} (k : Ev (fun n => g (n + 1)) r) : Ev g r := Ev.step (fun _ => rfl) k
theorem Ev.some_ {α : Type} {a r : α} (h : a = r) : Ev (fun _ => some a) r := ⟨0, fun _ _ => by rw [h]⟩
theorem xor_nonneg (x y : Int) (hx : 0 ≤ x) (hx1 : x < 4611686018427387904) (hy : 0 ≤ y) (hy1 : y < 4611686018427387904) : 0 ≤ Go.bits .xor .i64 x y := by
  obtain ⟨a, rfl⟩ := Int.eq_ofNat_of_zero_le hx
  obtain ⟨b, rfl⟩ := Int.eq_ofNat_of_zero_le hy
  have ha : a < 2 ^ 62 := by omega
  have hb : b < 2 ^ 62 := by omega
  have h := Nat.xor_lt_two_pow ha hb
  have ea : a % 2 ^ IntKind.i64.bits = a := Nat.mod_eq_of_lt (by show a < 2 ^ 64; omega)
  have eb : b % 2 ^ IntKind.i64.bits = b := Nat.mod_eq_of_lt (by show b < 2 ^ 64; omega)
  have e : Go.bits .xor .i64 (a : Int) (b : Int) = IntKind.i64.wrap (((a ^^^ b : Nat) : Nat) : Int) := by
    simp only [Go.bits, BitVec.ofInt_natCast, BitVec.toNat_xor, BitVec.toNat_ofNat, ea, eb]
  rw [e, IntKind.wrap_i64]
  omega
theorem rd_byte {b : List Int} (hb : ∀ x ∈ b, 0 ≤ x ∧ x ≤ 255) (i : Int) : 0 ≤ rd b i ∧ rd b i ≤ 255 := by
  unfold rd
  rw [List.getD_eq_getElem?_getD]
  cases h : b[i.toNat]? with
  | none => simp
  | some v => exact hb v (List.mem_of_getElem? h)
theorem pick_ev {b : List Int} (hb : ∀ x ∈ b, 0 ≤ x ∧ x ≤ 255) (hl : b.length ≤ 2000) (p n : Int) (hp : 0 ≤ p) (hp1 : p ≤ 1000000000) :
    ∃ v, Ev (fun k => spec_l14Rd_pick.f k b p n) (v, p + 1) ∧ 0 ≤ v ∧ (1 ≤ n → v < n) ∧ (n < 1 → v = 0) := by
  unfold spec_l14Rd_pick.f
  rw [w_id (x := p + 1) (by omega) (by omega)]
  by_cases hn : n < 1
  · refine ⟨0, Ev.pos hn (Ev.next ?_), by omega, fun h => by omega, fun _ => rfl⟩
    simp only [spec_l14Rd_pick.j0]
    exact Ev.pos trivial (Ev.now _)
  · suffices hs : ∃ v, Ev (fun k => spec_l14Rd_pick.j0 (k + 1) n ((b.length : Int) == 0) b (p + 1)) (v, p + 1) ∧ 0 ≤ v ∧ (1 ≤ n → v < n) ∧ (n < 1 → v = 0) by
      obtain ⟨v, h, r⟩ := hs
      exact ⟨v, Ev.neg hn (Ev.next h), r⟩
    have hm := fun x : Int => Int.tmod_nonneg (a := x) n
    have hm2 := fun x : Int => Int.tmod_lt_of_pos x (show 0 < n by omega)
    have ep : p + 1 - 1 = p := by omega
    simp only [spec_l14Rd_pick.j0, ep]
    by_cases h0 : (b.length : Int) = 0
    · exact ⟨0, Ev.pos (by simpa using h0) (Ev.now _), by omega, fun h => by omega, fun _ => rfl⟩
    · have e0 : ¬ ((((b.length : Int) == 0)) = true) := by simpa using h0
      rw [w_id (x := p) (by omega) (by omega)]
      by_cases hpl : p < (b.length : Int)
      · have r1 := rd_byte hb p
        refine ⟨_, Ev.neg e0 (Ev.pos hpl (Ev.pos hp (Ev.neg (by omega) (Ev.now _)))), ?_, fun _ => hm2 _, fun h => by omega⟩
        rw [w_id (by omega) (by omega)]
        exact hm _ r1.1
      · have hL : (0 : Int) < b.length := by omega
        have a0 : 0 ≤ Int.tmod p b.length := Int.tmod_nonneg _ hp
        have a1 := Int.tmod_lt_of_pos p hL
        rw [w_id (x := p * 7) (by omega) (by omega), w_id (x := p * 7 + 3) (by omega) (by omega)]
        have b0 : 0 ≤ Int.tmod (p * 7 + 3) b.length := Int.tmod_nonneg _ (by omega)
        have b1 := Int.tmod_lt_of_pos (p * 7 + 3) hL
        have r1 := rd_byte hb (Int.tmod p b.length)
        have r2 := rd_byte hb (Int.tmod (p * 7 + 3) b.length)
        have d0 : 0 ≤ Int.tdiv p b.length := Int.tdiv_nonneg hp (by omega)
        have d1 : Int.tdiv p b.length ≤ p := by rw [Int.tdiv_eq_ediv_of_nonneg hp]; exact Int.ediv_le_self _ hp
        generalize rd b (Int.tmod p b.length) = x at *
        generalize rd b (Int.tmod (p * 7 + 3) b.length) = y at *
        generalize Int.tdiv p b.length = d at *
        have e : wrap64 (wrap64 (wrap64 (wrap64 (wrap64 x * 131) + wrap64 (wrap64 y * 1117)) + wrap64 (p * 29)) + wrap64 (wrap64 d * 53)) = x * 131 + y * 1117 + p * 29 + d * 53 := by
          rw [w_id (x := x) (by omega) (by omega), w_id (x := y) (by omega) (by omega), w_id (x := d) (by omega) (by omega)]
          rw [w_id (x := x * 131) (by omega) (by omega), w_id (x := y * 1117) (by omega) (by omega), w_id (x := p * 29) (by omega) (by omega), w_id (x := d * 53) (by omega) (by omega)]
          rw [w_id (x := x * 131 + y * 1117) (by omega) (by omega), w_id (x := x * 131 + y * 1117 + p * 29) (by omega) (by omega), w_id (by omega) (by omega)]
        rw [e]
        have q0 : 0 ≤ Int.tdiv (x * 131 + y * 1117 + p * 29 + d * 53) 64 := Int.tdiv_nonneg (by omega) (by omega)
        have q1 : Int.tdiv (x * 131 + y * 1117 + p * 29 + d * 53) 64 ≤ x * 131 + y * 1117 + p * 29 + d * 53 := by rw [Int.tdiv_eq_ediv_of_nonneg (by omega)]; exact Int.ediv_le_self _ (by omega)
        rw [w_id (x := Int.tdiv _ 64) (by omega) (by omega)]
        refine ⟨_, Ev.neg e0 (Ev.neg hpl (Ev.neg h0 (Ev.pos a0 (Ev.pos a1 (Ev.pos b0 (Ev.pos b1 (Ev.neg (by omega) (Ev.now _)))))))), ?_, fun _ => hm2 _, fun h => by omega⟩
        exact hm _ (xor_nonneg _ _ (by omega) (by omega) q0 (by omega))
theorem open_ok {l : List Int} (hw : ∀ x ∈ l, (Lit.int .u8 x).wf = true) : ∃ b, spec_l14Open.f l = some (b, 0) ∧ (∀ x ∈ b, 0 ≤ x ∧ x ≤ 255) ∧ b.length ≤ 2000 := by
  have hx : ∀ x ∈ l, 0 ≤ x ∧ x ≤ 255 := fun x h => by simpa [Lit.wf, IntKind.min, IntKind.max, IntKind.signed, IntKind.bits] using hw x h
  unfold spec_l14Open.f
  by_cases h : (l.length : Int) > 2000
  · rw [if_pos h, if_pos (by omega)]
    exact ⟨_, rfl, fun x hm => hx x (List.mem_of_mem_take hm), by simp; omega⟩
  · rw [if_neg h]
    exact ⟨_, rfl, hx, by omega⟩
theorem num_ev {b : List Int} (hb : ∀ x ∈ b, 0 ≤ x ∧ x ≤ 255) (hl : b.length ≤ 2000) (p : Int) (hp : 0 ≤ p) (hp1 : p ≤ 1000000000) (l : List Int) (h0 : l ≠ []) :
    ∃ v, Ev (fun k => spec_l14Rd_num.f k b p l) (v, p + 1) ∧ v ∈ l := by
  have hlen : 0 < l.length := List.length_pos_iff.2 h0
  obtain ⟨v, h, v0, v1, _⟩ := pick_ev hb hl p (l.length : Int) hp hp1
  have hv := v1 (by omega)
  refine ⟨rd l v, ?_, ?_⟩
  · unfold spec_l14Rd_num.f
    refine h.bind ?_
    exact Ev.pos v0 (Ev.pos hv (Ev.now _))
  · unfold rd
    rw [List.getD_eq_getElem?_getD, List.getElem?_eq_getElem (by omega)]
    exact List.getElem_mem _
/-- Whether a field is valid among n types. -/
def fk (a b n : Int) : Bool := if a = 1 then b == 0 else if a = 2 then decide (b ≥ -2) && decide (b < n) else if a = 3 then decide (b ≥ -2) && decide (b < n) else false
theorem specFieldOk_eq (a b : Int) (m : Bool) (n : Int) : spec_FieldOk.f a b m n = some (fk a b n) := by
  unfold spec_FieldOk.f fk
  by_cases h1 : a = 1
  · rw [if_pos h1, if_pos h1]
  · rw [if_neg h1, if_neg h1]
    by_cases hb : b ≥ -2 <;> by_cases h2 : a = 2 <;> by_cases h3 : a = 3 <;> simp [h2, h3, hb]
theorem l1Field_ev {b : List Int} (hb : ∀ x ∈ b, 0 ≤ x ∧ x ≤ 255) (hl : b.length ≤ 2000) (p : Int) (hp : 0 ≤ p) (hp1 : p ≤ 900000000) (n : Int) (hn : -1 ≤ n) (hn1 : n ≤ 1000000) :
    ∃ K O M q, Ev (fun k => spec_l1Field.f k b p n) (K, O, M, q) ∧ p ≤ q ∧ q ≤ p + 3 ∧ (K = 1 ∨ K = 2 ∨ K = 3) ∧ (K = 1 → O = 0) ∧ -2 ≤ O ∧ (O < n ∨ O = 0) := by
  obtain ⟨v, h1, hv⟩ := num_ev hb hl p hp (by omega) [1, 2, 2, 3, 1, 2] (by simp)
  obtain ⟨x, h2, _⟩ := pick_ev hb hl (p + 1) 2 (by omega) (by omega)
  obtain ⟨y, h3, y0, y1, y2⟩ := pick_ev hb hl (p + 1 + 1) (n + 2) (by omega) (by omega)
  unfold spec_l1Field.f
  by_cases hv1 : v = 1
  · refine ⟨v, 0, _, p + 1 + 1, h1.bind (h2.bind (Ev.pos hv1 (Ev.now _))), by omega, by omega, by omega, fun _ => rfl, by omega, by omega⟩
  · have hy := y1 (by omega)
    refine ⟨v, y - 2, x == 0, p + 1 + 1 + 1, h1.bind (h2.bind (Ev.neg hv1 ?_)), by omega, by omega, by simp at hv; omega, fun h => absurd h hv1, by omega, by omega⟩
    rw [w_id (x := n + 2) (by omega) (by omega)]
    refine h3.bind (Ev.some_ ?_)
    rw [w_id (by omega) (by omega)]
theorem drawFieldOk_ev {l : List Int} (hw : ∀ x ∈ l, (Lit.int .u8 x).wf = true) : ∃ K O M N, Ev (fun k => spec_DrawFieldOk.f k l) (K, O, M, N) ∧ 0 ≤ N ∧ N ≤ 5 := by
  obtain ⟨b, ho, hb, hl⟩ := open_ok hw
  unfold spec_DrawFieldOk.f
  obtain ⟨n, h1, n0, n1, _⟩ := pick_ev hb hl 0 6 (by omega) (by omega)
  have n2 := n1 (by omega)
  obtain ⟨K, O, M, q, h2, q0, q1, hK, _, hO, hO1⟩ := l1Field_ev hb hl (0 + 1) (by omega) (by omega) (n + 1) (by omega) (by omega)
  obtain ⟨x, h3, x0, x1, _⟩ := pick_ev hb hl q 9 (by omega) (by omega)
  obtain ⟨y, h4, y0, y1, _⟩ := pick_ev hb hl (q + 1) 6 (by omega) (by omega)
  by_cases a : x = 0
  · exact ⟨_, _, _, n, Ev.got ho (h1.bind (by rw [w_id (x := n + 1) (by omega) (by omega)]; exact h2.bind (h3.bind (Ev.pos a (h4.bind (Ev.now _)))))), n0, by omega⟩
  · by_cases c : x = 1
    · exact ⟨_, _, _, n, Ev.got ho (h1.bind (by rw [w_id (x := n + 1) (by omega) (by omega)]; exact h2.bind (h3.bind (Ev.neg a (Ev.pos c (h4.bind (Ev.now _))))))), n0, by omega⟩
    · exact ⟨_, _, _, n, Ev.got ho (h1.bind (by rw [w_id (x := n + 1) (by omega) (by omega)]; exact h2.bind (h3.bind (Ev.neg a (Ev.neg c (Ev.now _)))))), n0, by omega⟩
theorem implFieldOk_eq (a b : Int) (m : Bool) (n : Int) : impl_fieldOk.f a b m n = some (fk a b n) := specFieldOk_eq a b m n
theorem implSortOk_eq (a b : Int) (m : Bool) (n : Int) : impl_SortOk.f a b m n = some (fk a b n && !m) := by
  unfold impl_SortOk.f impl_sortOk.f
  rw [implFieldOk_eq]
  cases fk a b n <;> simp
theorem specSortOk_eq (a b : Int) (m : Bool) (n : Int) : spec_SortOk.f a b m n = some (fk a b n && !m) := by
  unfold spec_SortOk.f
  rw [specFieldOk_eq]
  cases m <;> simp
theorem implFieldOkE_eq (a b : Int) (m : Bool) (n : Int) : impl_FieldOk.f a b m n = some (fk a b n) := by
  unfold impl_FieldOk.f
  rw [implFieldOk_eq]
  rfl
theorem fk_more (a b n : Int) (h : fk a b n = true) : fk a b (n + 1) = true := by
  unfold fk at h ⊢
  split at h
  · rename_i h1; rw [if_pos h1]; exact h
  · rename_i h1
    rw [if_neg h1]
    split at h
    · rename_i h2; rw [if_pos h2]; simp at h ⊢; omega
    · rename_i h2
      rw [if_neg h2]
      split at h
      · rename_i h3; rw [if_pos h3]; simp at h ⊢; omega
      · exact absurd h (by simp)
theorem sort_j0 (a b n : Int) (m : Bool) (hn : 0 ≤ n) (hn1 : n ≤ 5) : Ev (fun k => laws_FnSort.j0 k n false a b m) true := by
  refine Ev.next ?_
  simp only [laws_FnSort.j0]
  refine Ev.neg (by simp) ?_
  refine Ev.got (implSortOk_eq _ _ _ _) (Ev.neg (by simp) ?_)
  refine Ev.got (implSortOk_eq _ _ _ _) ?_
  refine Ev.ite (fun h => ?_) (fun _ => Ev.now _)
  rw [w_id (by omega) (by omega)]
  refine Ev.got (implSortOk_eq _ _ _ _) (Ev.some_ ?_)
  simp only [Bool.and_eq_true] at h ⊢
  exact ⟨fk_more _ _ _ h.1, h.2⟩
theorem FnSort : laws_FnSort.Pure := by
  intro l _ _ hw
  apply Ev.rounds
  unfold laws_FnSort.f
  refine Ev.ite (fun _ => Ev.now true) fun _ => ?_
  obtain ⟨a, b, m, n, h, n0, n1⟩ := drawFieldOk_ev hw
  have hd : Ev (fun k => spec_DrawSortOk.f k l) (a, b, m, n) := by
    unfold spec_DrawSortOk.f
    exact h.bind (Ev.now _)
  refine hd.bind ?_
  refine Ev.got (implSortOk_eq _ _ _ _) (Ev.got (specSortOk_eq _ _ _ _) (Ev.neg (by simp) ?_))
  refine Ev.got (implSortOk_eq _ _ _ _) (Ev.got (implFieldOkE_eq _ _ _ _) ?_)
  refine Ev.ite (fun h => ?_) (fun h => ?_)
  · have e : ((fk a b n && !m) != !m) = false := by simp at h; simp [h]
    simp only [e]
    exact sort_j0 a b n m n0 n1
  · have e : ((fk a b n && !m) != false) = false := by simp at h; simp [h]
    simp only [e]
    exact sort_j0 a b n m n0 n1
end Go.Proofs.Ytgbmfkfmimpaaaa.Pure
