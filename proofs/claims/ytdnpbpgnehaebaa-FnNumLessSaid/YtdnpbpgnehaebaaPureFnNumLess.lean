/- Proved: for every drawn numbers the law FnNumLess answers true: less-than is a strict total order on remainders, as the reference has it. No condition. -/
import Derived.Test.YtdnpbpgnehaebaaPFnNumLessx1
namespace Go.Proofs.Ytdnpbpgnehaebaa.Pure
open Go.RowKit Go.Proofs.Ytdnpbpgnehaebaa.PFnNumLess Go.Proofs.YtdnpbpgnehaebaaW.PrintWords Go.Proofs.YtdnpbpgnehaebaaW.PrintLast
theorem w_id {x : Int} (h0 : -9223372036854775808 ≤ x) (h1 : x ≤ 9223372036854775807) : wrap64 x = x := by unfold wrap64; omega
theorem Ev.pos {α : Type} {c : Prop} [Decidable c] {f g : Nat → Option α} {r : α} (h : c) (k : Ev f r) : Ev (fun n => if c then f n else g n) r := Ev.congr (fun _ => if_pos h) k
theorem Ev.neg {α : Type} {c : Prop} [Decidable c] {f g : Nat → Option α} {r : α} (h : ¬ c) (k : Ev g r) : Ev (fun n => if c then f n else g n) r := Ev.congr (fun _ => if_neg h) k
theorem Ev.ite {α : Type} {c : Prop} [Decidable c] {f g : Nat → Option α} {r : α} (h : c → Ev f r) (k : ¬ c → Ev g r) : Ev (fun n => if c then f n else g n) r := by
  by_cases hc : c
  · exact Ev.pos hc (h hc)
  · exact Ev.neg hc (k hc)
theorem Ev.got {α β : Type} {o : Option α} {f : Nat → α → Option β} {a : α} {r : β} (h : o = some a) (k : Ev (fun n => f n a) r) : Ev (fun n => o.bind (f n)) r := Ev.congr (fun _ => by rw [h]; rfl) k
theorem Ev.next {α : Type} {g : Nat → Option α} {r : α} (k : Ev (fun n => g (n + 1)) r) : Ev g r := Ev.step (fun _ => rfl) k
theorem Ev.some_ {α : Type} {a r : α} (h : a = r) : Ev (fun _ => some a) r := ⟨0, fun _ _ => by rw [h]⟩
theorem Ev.ex_ite {α : Type} {c : Prop} [Decidable c] {f g : Nat → Option α} {P : α → Prop} (h : c → ∃ r, Ev f r ∧ P r) (k : ¬ c → ∃ r, Ev g r ∧ P r) : ∃ r, Ev (fun n => if c then f n else g n) r ∧ P r := by
  by_cases hc : c
  · obtain ⟨r, a, b⟩ := h hc
    exact ⟨r, Ev.pos hc a, b⟩
  · obtain ⟨r, a, b⟩ := k hc
    exact ⟨r, Ev.neg hc a, b⟩
theorem xor_nonneg (x y : Int) (hx : 0 ≤ x) (hx1 : x < 4611686018427387904) (hy : 0 ≤ y) (hy1 : y < 4611686018427387904) : 0 ≤ Go.bits .xor .i64 x y := by
  obtain ⟨a, rfl⟩ := Int.eq_ofNat_of_zero_le hx
  obtain ⟨b, rfl⟩ := Int.eq_ofNat_of_zero_le hy
  have ha : a < 2 ^ 62 := by omega
  have hb : b < 2 ^ 62 := by omega
  have h := Nat.xor_lt_two_pow ha hb
  have ea : a % 2 ^ IntKind.i64.bits = a := Nat.mod_eq_of_lt (by show a < 2 ^ 64; omega)
  have eb : b % 2 ^ IntKind.i64.bits = b := Nat.mod_eq_of_lt (by show b < 2 ^ 64; omega)
  have e : Go.bits .xor .i64 (a : Int) (b : Int) = IntKind.i64.wrap (((a ^^^ b : Nat) : Nat) : Int) := by
    simp only [Go.bits, BitVec.ofInt_natCast, BitVec.toNat_xor, BitVec.toNat_ofNat, ea, eb]
  rw [e, IntKind.wrap_i64]
  omega
theorem rd_byte {b : List Int} (hb : ∀ x ∈ b, 0 ≤ x ∧ x ≤ 255) (i : Int) : 0 ≤ rd b i ∧ rd b i ≤ 255 := by
  unfold rd
  rw [List.getD_eq_getElem?_getD]
  cases h : b[i.toNat]? with
  | none => simp
  | some v => exact hb v (List.mem_of_getElem? h)
theorem pick_ev {b : List Int} (hb : ∀ x ∈ b, 0 ≤ x ∧ x ≤ 255) (hl : b.length ≤ 2000) (p n : Int) (hp : 0 ≤ p) (hp1 : p ≤ 1000000000) :
    ∃ v, Ev (fun k => spec_l14Rd_pick.f k b p n) (v, p + 1) ∧ 0 ≤ v ∧ (1 ≤ n → v < n) ∧ (n < 1 → v = 0) := by
  unfold spec_l14Rd_pick.f
  rw [w_id (x := p + 1) (by omega) (by omega)]
  by_cases hn : n < 1
  · refine ⟨0, Ev.pos hn (Ev.next ?_), by omega, fun h => by omega, fun _ => rfl⟩
    simp only [spec_l14Rd_pick.j0]
    exact Ev.pos trivial (Ev.now _)
  · suffices hs : ∃ v, Ev (fun k => spec_l14Rd_pick.j0 (k + 1) n ((b.length : Int) == 0) b (p + 1)) (v, p + 1) ∧ 0 ≤ v ∧ (1 ≤ n → v < n) ∧ (n < 1 → v = 0) by
      obtain ⟨v, h, r⟩ := hs
      exact ⟨v, Ev.neg hn (Ev.next h), r⟩
    have hm := fun x : Int => Int.tmod_nonneg (a := x) n
    have hm2 := fun x : Int => Int.tmod_lt_of_pos x (show 0 < n by omega)
    have ep : p + 1 - 1 = p := by omega
    simp only [spec_l14Rd_pick.j0, ep]
    by_cases h0 : (b.length : Int) = 0
    · exact ⟨0, Ev.pos (by simpa using h0) (Ev.now _), by omega, fun h => by omega, fun _ => rfl⟩
    · have e0 : ¬ ((((b.length : Int) == 0)) = true) := by simpa using h0
      rw [w_id (x := p) (by omega) (by omega)]
      by_cases hpl : p < (b.length : Int)
      · have r1 := rd_byte hb p
        refine ⟨_, Ev.neg e0 (Ev.pos hpl (Ev.pos hp (Ev.neg (by omega) (Ev.now _)))), ?_, fun _ => hm2 _, fun h => by omega⟩
        rw [w_id (by omega) (by omega)]
        exact hm _ r1.1
      · have hL : (0 : Int) < b.length := by omega
        have a0 : 0 ≤ Int.tmod p b.length := Int.tmod_nonneg _ hp
        have a1 := Int.tmod_lt_of_pos p hL
        rw [w_id (x := p * 7) (by omega) (by omega), w_id (x := p * 7 + 3) (by omega) (by omega)]
        have b0 : 0 ≤ Int.tmod (p * 7 + 3) b.length := Int.tmod_nonneg _ (by omega)
        have b1 := Int.tmod_lt_of_pos (p * 7 + 3) hL
        have r1 := rd_byte hb (Int.tmod p b.length)
        have r2 := rd_byte hb (Int.tmod (p * 7 + 3) b.length)
        have d0 : 0 ≤ Int.tdiv p b.length := Int.tdiv_nonneg hp (by omega)
        have d1 : Int.tdiv p b.length ≤ p := by rw [Int.tdiv_eq_ediv_of_nonneg hp]; exact Int.ediv_le_self _ hp
        generalize rd b (Int.tmod p b.length) = x at *
        generalize rd b (Int.tmod (p * 7 + 3) b.length) = y at *
        generalize Int.tdiv p b.length = d at *
        have e : wrap64 (wrap64 (wrap64 (wrap64 (wrap64 x * 131) + wrap64 (wrap64 y * 1117)) + wrap64 (p * 29)) + wrap64 (wrap64 d * 53)) = x * 131 + y * 1117 + p * 29 + d * 53 := by
          rw [w_id (x := x) (by omega) (by omega), w_id (x := y) (by omega) (by omega), w_id (x := d) (by omega) (by omega)]
          rw [w_id (x := x * 131) (by omega) (by omega), w_id (x := y * 1117) (by omega) (by omega), w_id (x := p * 29) (by omega) (by omega), w_id (x := d * 53) (by omega) (by omega)]
          rw [w_id (x := x * 131 + y * 1117) (by omega) (by omega), w_id (x := x * 131 + y * 1117 + p * 29) (by omega) (by omega), w_id (by omega) (by omega)]
        rw [e]
        have q0 : 0 ≤ Int.tdiv (x * 131 + y * 1117 + p * 29 + d * 53) 64 := Int.tdiv_nonneg (by omega) (by omega)
        have q1 : Int.tdiv (x * 131 + y * 1117 + p * 29 + d * 53) 64 ≤ x * 131 + y * 1117 + p * 29 + d * 53 := by rw [Int.tdiv_eq_ediv_of_nonneg (by omega)]; exact Int.ediv_le_self _ (by omega)
        rw [w_id (x := Int.tdiv _ 64) (by omega) (by omega)]
        refine ⟨_, Ev.neg e0 (Ev.neg hpl (Ev.neg h0 (Ev.pos a0 (Ev.pos a1 (Ev.pos b0 (Ev.pos b1 (Ev.neg (by omega) (Ev.now _)))))))), ?_, fun _ => hm2 _, fun h => by omega⟩
        exact hm _ (xor_nonneg _ _ (by omega) (by omega) q0 (by omega))
theorem open_ok {l : List Int} (hw : ∀ x ∈ l, (Lit.int .u8 x).wf = true) : ∃ b, spec_l14Open.f l = some (b, 0) ∧ (∀ x ∈ b, 0 ≤ x ∧ x ≤ 255) ∧ b.length ≤ 2000 := by
  have hx : ∀ x ∈ l, 0 ≤ x ∧ x ≤ 255 := fun x h => by simpa [Lit.wf, IntKind.min, IntKind.max, IntKind.signed, IntKind.bits] using hw x h
  unfold spec_l14Open.f
  by_cases h : (l.length : Int) > 2000
  · rw [if_pos h, if_pos (by omega)]
    exact ⟨_, rfl, fun x hm => hx x (List.mem_of_mem_take hm), by simp; omega⟩
  · rw [if_neg h]
    exact ⟨_, rfl, hx, by omega⟩
theorem num_ev {b : List Int} (hb : ∀ x ∈ b, 0 ≤ x ∧ x ≤ 255) (hl : b.length ≤ 2000) (p : Int) (hp : 0 ≤ p) (hp1 : p ≤ 1000000000) (l : List Int) (h0 : l ≠ []) :
    ∃ v, Ev (fun k => spec_l14Rd_num.f k b p l) (v, p + 1) ∧ v ∈ l := by
  have hlen : 0 < l.length := List.length_pos_iff.2 h0
  obtain ⟨v, h, v0, v1, _⟩ := pick_ev hb hl p (l.length : Int) hp hp1
  have hv := v1 (by omega)
  refine ⟨rd l v, ?_, ?_⟩
  · unfold spec_l14Rd_num.f
    refine h.bind ?_
    exact Ev.pos v0 (Ev.pos hv (Ev.now _))
  · unfold rd
    rw [List.getD_eq_getElem?_getD, List.getElem?_eq_getElem (by omega)]
    exact List.getElem_mem _
theorem nd7 (a b : Int) : HNumDo.numDo 7 a b = (a + b) % 9973 := by unfold HNumDo.numDo; simp
theorem nd8 (a b : Int) : HNumDo.numDo 8 a b = (a * b) % 9973 := by unfold HNumDo.numDo; simp [← Int.mul_emod]
theorem nd9 (a b : Int) : HNumDo.numDo 9 a b = if a % 9973 < b % 9973 then 1 else 0 := by unfold HNumDo.numDo; simp
theorem nd_range (op a b : Int) : 0 ≤ HNumDo.numDo op a b ∧ HNumDo.numDo op a b < 9973 := by
  unfold HNumDo.numDo
  repeat' split
  all_goals omega
theorem nd_comm (op a b : Int) (h : op ≠ 9) : HNumDo.numDo op a b = HNumDo.numDo op b a := by
  by_cases h7 : op = 7
  · subst h7; rw [nd7, nd7, Int.add_comm]
  · by_cases h8 : op = 8
    · subst h8; rw [nd8, nd8, Int.mul_comm]
    · unfold HNumDo.numDo; rw [if_neg h7, if_neg h8, if_neg h, if_neg h7, if_neg h8, if_neg h]
theorem implNumDo_eq (op a b : Int) : impl_NumDo.f op a b = some (HNumDo.numDo op a b) := rfl
theorem l2Mod_eq (a : Int) : spec_l2Mod.f a = some (a % 9973) := by
  have h1 := Int.tmod_lt_of_pos a (show (0:Int) < 9973 by omega)
  have h2 := Int.lt_tmod_of_pos a (show (0:Int) < 9973 by omega)
  have h3 := HNumDo.tmod_add a
  unfold spec_l2Mod.f
  split
  · rw [w_id (by omega) (by omega), ← h3, Int.emod_eq_of_lt (by omega) (by omega)]
  · rw [← h3]; congr 1; omega
theorem specNumDo_eq (op a b : Int) : spec_NumDo.f op a b = some (HNumDo.numDo op a b) := by
  have hm := HNumDo.mul_bounds (a % 9973) (b % 9973) (by omega) (by omega) (by omega) (by omega)
  unfold spec_NumDo.f
  rw [l2Mod_eq, l2Mod_eq]
  simp only [Option.bind_some]
  rw [w_id (x := a % 9973 + b % 9973) (by omega) (by omega), w_id (x := a % 9973 * (b % 9973)) (by omega) (by omega), l2Mod_eq, l2Mod_eq]
  unfold HNumDo.numDo
  by_cases h7 : op = 7
  · simp only [if_pos h7, Option.bind_some]
  · by_cases h8 : op = 8
    · simp only [if_neg h7, if_pos h8, Option.bind_some]
    · by_cases h9 : op = 9
      · simp only [if_neg h7, if_neg h8, if_pos h9]; split <;> rfl
      · simp only [if_neg h7, if_neg h8, if_neg h9]
theorem drawP {l : List Int} (hw : ∀ x ∈ l, (Lit.int .u8 x).wf = true) : ∃ op a b, Ev (fun k => spec_DrawNumDo.f k l) (op, a, b) := by
  obtain ⟨bs, ho, hb, hl⟩ := open_ok hw
  obtain ⟨op, h1, _⟩ := num_ev hb hl 0 (by omega) (by omega) [7, 8, 9, 8, 1] (by simp)
  obtain ⟨a, h2, _⟩ := num_ev hb hl (0 + 1) (by omega) (by omega) [0, 1, 2, 7, 9972, 9973, (-1), 5000, 9223372036854775807, (-9223372036854775808)] (by simp)
  obtain ⟨b, h3, _⟩ := num_ev hb hl (0 + 1 + 1) (by omega) (by omega) [0, 1, 2, 7, 9972, 9973, (-1), 5000, 9223372036854775807, (-9223372036854775808)] (by simp)
  refine ⟨op, a, b, ?_⟩
  unfold spec_DrawNumDo.f
  exact Ev.got ho (Ev.got rfl (h1.bind (h2.bind (h3.bind (Ev.now _)))))
theorem less_fin (a b c : Int) : Ev (fun _ => (impl_NumDo.f 7 a 0).bind fun t137 => ((impl_NumDo.f 7 b 0).bind fun t138 => ((impl_NumDo.f 7 c 0).bind fun t139 => ((impl_NumDo.f 9 t137 t138).bind fun t140 => ((impl_NumDo.f 9 t138 t137).bind fun t141 => ((impl_NumDo.f 9 t138 t139).bind fun t142 => (if (wrap64 (t140 + t141)) > 1 then (some false) else (if (((wrap64 (t140 + t141)) == 0) != (t137 == t138)) = true then (some false) else (if ((t140 == 1) != (decide (t137 < t138))) = true then (some false) else (if (wrap64 (t140 + t142)) < 2 then (some true) else ((impl_NumDo.f 9 t137 t139).bind fun t143 => (some (t143 == 1))))))))))))) true := by
  simp only [implNumDo_eq, nd7, nd9, Option.bind_some]
  have ea : (a + 0) % 9973 % 9973 = (a + 0) % 9973 := by omega
  have eb : (b + 0) % 9973 % 9973 = (b + 0) % 9973 := by omega
  have ec : (c + 0) % 9973 % 9973 = (c + 0) % 9973 := by omega
  rw [ea, eb, ec]
  generalize (a + 0) % 9973 = x
  generalize (b + 0) % 9973 = y
  generalize (c + 0) % 9973 = z
  rw [w_id (x := (if x < y then (1 : Int) else 0) + (if y < x then 1 else 0)) (by split <;> split <;> omega) (by split <;> split <;> omega), w_id (x := (if x < y then (1 : Int) else 0) + (if y < z then 1 else 0)) (by split <;> split <;> omega) (by split <;> split <;> omega)]
  refine Ev.neg (by split <;> split <;> omega) (Ev.neg ?_ (Ev.neg ?_ (Ev.ite (fun _ => Ev.now _) fun h => Ev.some_ ?_)))
  · rw [Bool.not_eq_true, bne_eq_false_iff_eq, Bool.eq_iff_iff, beq_iff_eq, beq_iff_eq]
    split <;> split <;> omega
  · rw [Bool.not_eq_true, bne_eq_false_iff_eq, Bool.eq_iff_iff, beq_iff_eq, decide_eq_true_iff]
    split <;> omega
  · have h1 : x < y := by
      refine Decidable.byContradiction fun n => ?_
      rw [if_neg n] at h
      split at h <;> omega
    have h2 : y < z := by
      refine Decidable.byContradiction fun n => ?_
      rw [if_neg n] at h
      split at h <;> omega
    rw [if_pos (by omega)]; rfl
theorem less_j0 (l m : List Int) (hl : ∀ x ∈ l, (Lit.int .u8 x).wf = true) (hm : ∀ x ∈ m, (Lit.int .u8 x).wf = true) : ∀ c : Bool, Ev (fun k => laws_FnNumLess.j0 k l m c) true := by
  intro c
  refine Ev.next ?_
  simp only [laws_FnNumLess.j0]
  refine Ev.ite (fun _ => Ev.now _) fun _ => ?_
  obtain ⟨op, a, b, h1⟩ := drawP hl
  obtain ⟨op', a', b', h2⟩ := drawP hm
  refine h1.bind (h2.bind (Ev.got (implNumDo_eq _ _ _) (Ev.got (specNumDo_eq _ _ _) (Ev.pos rfl ?_))))
  exact less_fin a b a'
theorem FnNumLess : laws_FnNumLess.Pure := by
  intro l m _ _ hl _ _ hm
  apply Ev.rounds
  unfold laws_FnNumLess.f
  exact Ev.ite (fun _ => less_j0 l m hl hm _) (fun _ => less_j0 l m hl hm _)
end Go.Proofs.Ytdnpbpgnehaebaa.Pure
