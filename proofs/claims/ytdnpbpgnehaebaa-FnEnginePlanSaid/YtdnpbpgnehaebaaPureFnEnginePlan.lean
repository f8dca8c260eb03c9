/- Proved: for every drawn plan the law FnEnginePlan answers true: a plan is right within its bounds only, as the reference has it. No condition. -/
import Derived.Test.YtdnpbpgnehaebaaPFnEnginePlanx3
namespace Go.Proofs.Ytdnpbpgnehaebaa.Pure
open Go.RowKit Go.Proofs.Ytdnpbpgnehaebaa.PFnEnginePlan Go.Proofs.YtdnpbpgnehaebaaW.PrintWords Go.Proofs.YtdnpbpgnehaebaaW.PrintLast
theorem w_id {x : Int} (h0 : -9223372036854775808 ≤ x) (h1 : x ≤ 9223372036854775807) : wrap64 x = x := by unfold wrap64; omega
theorem Ev.pos {α : Type} {c : Prop} [Decidable c] {f g : Nat → Option α} {r : α} (h : c) (k : Ev f r) : Ev (fun n => if c then f n else g n) r := Ev.congr (fun _ => if_pos h) k
theorem Ev.neg {α : Type} {c : Prop} [Decidable c] {f g : Nat → Option α} {r : α} (h : ¬ c) (k : Ev g r) : Ev (fun n => if c then f n else g n) r := Ev.congr (fun _ => if_neg h) k
theorem Ev.ite {α : Type} {c : Prop} [Decidable c] {f g : Nat → Option α} {r : α} (h : c → Ev f r) (k : ¬ c → Ev g r) : Ev (fun n => if c then f n else g n) r := by
  by_cases hc : c
  · exact Ev.pos hc (h hc)
  · exact Ev.neg hc (k hc)
theorem Ev.got {α β : Type} {o : Option α} {f : Nat → α → Option β} {a : α} {r : β} (h : o = some a) (k : Ev (fun n => f n a) r) : Ev (fun n => o.bind (f n)) r := Ev.congr (fun _ => by rw [h]; rfl) k
theorem Ev.next {α : Type} {g : Nat → Option α} {r : α} (k : Ev (fun n => g (n + 1)) r) : Ev g r := Ev.step (fun _ => rfl) k
theorem Ev.some_ {α : Type} {a r : α} (h : a = r) : Ev (fun _ => some a) r := ⟨0, fun _ _ => by rw [h]⟩
theorem Ev.ex_ite {α : Type} {c : Prop} [Decidable c] {f g : Nat → Option α} {P : α → Prop} (h : c → ∃ r, Ev f r ∧ P r) (k : ¬ c → ∃ r, Ev g r ∧ P r) : ∃ r, Ev (fun n => if c then f n else g n) r ∧ P r := by
  by_cases hc : c
  · obtain ⟨r, a, b⟩ := h hc
    exact ⟨r, Ev.pos hc a, b⟩
  · obtain ⟨r, a, b⟩ := k hc
    exact ⟨r, Ev.neg hc a, b⟩
theorem xor_nonneg (x y : Int) (hx : 0 ≤ x) (hx1 : x < 4611686018427387904) (hy : 0 ≤ y) (hy1 : y < 4611686018427387904) : 0 ≤ Go.bits .xor .i64 x y := by
  obtain ⟨a, rfl⟩ := Int.eq_ofNat_of_zero_le hx
  obtain ⟨b, rfl⟩ := Int.eq_ofNat_of_zero_le hy
  have ha : a < 2 ^ 62 := by omega
  have hb : b < 2 ^ 62 := by omega
  have h := Nat.xor_lt_two_pow ha hb
  have ea : a % 2 ^ IntKind.i64.bits = a := Nat.mod_eq_of_lt (by show a < 2 ^ 64; omega)
  have eb : b % 2 ^ IntKind.i64.bits = b := Nat.mod_eq_of_lt (by show b < 2 ^ 64; omega)
  have e : Go.bits .xor .i64 (a : Int) (b : Int) = IntKind.i64.wrap (((a ^^^ b : Nat) : Nat) : Int) := by
    simp only [Go.bits, BitVec.ofInt_natCast, BitVec.toNat_xor, BitVec.toNat_ofNat, ea, eb]
  rw [e, IntKind.wrap_i64]
  omega
theorem rd_byte {b : List Int} (hb : ∀ x ∈ b, 0 ≤ x ∧ x ≤ 255) (i : Int) : 0 ≤ rd b i ∧ rd b i ≤ 255 := by
  unfold rd
  rw [List.getD_eq_getElem?_getD]
  cases h : b[i.toNat]? with
  | none => simp
  | some v => exact hb v (List.mem_of_getElem? h)
theorem pick_ev {b : List Int} (hb : ∀ x ∈ b, 0 ≤ x ∧ x ≤ 255) (hl : b.length ≤ 2000) (p n : Int) (hp : 0 ≤ p) (hp1 : p ≤ 1000000000) :
    ∃ v, Ev (fun k => spec_l14Rd_pick.f k b p n) (v, p + 1) ∧ 0 ≤ v ∧ (1 ≤ n → v < n) ∧ (n < 1 → v = 0) := by
  unfold spec_l14Rd_pick.f
  rw [w_id (x := p + 1) (by omega) (by omega)]
  by_cases hn : n < 1
  · refine ⟨0, Ev.pos hn (Ev.next ?_), by omega, fun h => by omega, fun _ => rfl⟩
    simp only [spec_l14Rd_pick.j0]
    exact Ev.pos trivial (Ev.now _)
  · suffices hs : ∃ v, Ev (fun k => spec_l14Rd_pick.j0 (k + 1) n ((b.length : Int) == 0) b (p + 1)) (v, p + 1) ∧ 0 ≤ v ∧ (1 ≤ n → v < n) ∧ (n < 1 → v = 0) by
      obtain ⟨v, h, r⟩ := hs
      exact ⟨v, Ev.neg hn (Ev.next h), r⟩
    have hm := fun x : Int => Int.tmod_nonneg (a := x) n
    have hm2 := fun x : Int => Int.tmod_lt_of_pos x (show 0 < n by omega)
    have ep : p + 1 - 1 = p := by omega
    simp only [spec_l14Rd_pick.j0, ep]
    by_cases h0 : (b.length : Int) = 0
    · exact ⟨0, Ev.pos (by simpa using h0) (Ev.now _), by omega, fun h => by omega, fun _ => rfl⟩
    · have e0 : ¬ ((((b.length : Int) == 0)) = true) := by simpa using h0
      rw [w_id (x := p) (by omega) (by omega)]
      by_cases hpl : p < (b.length : Int)
      · have r1 := rd_byte hb p
        refine ⟨_, Ev.neg e0 (Ev.pos hpl (Ev.pos hp (Ev.neg (by omega) (Ev.now _)))), ?_, fun _ => hm2 _, fun h => by omega⟩
        rw [w_id (by omega) (by omega)]
        exact hm _ r1.1
      · have hL : (0 : Int) < b.length := by omega
        have a0 : 0 ≤ Int.tmod p b.length := Int.tmod_nonneg _ hp
        have a1 := Int.tmod_lt_of_pos p hL
        rw [w_id (x := p * 7) (by omega) (by omega), w_id (x := p * 7 + 3) (by omega) (by omega)]
        have b0 : 0 ≤ Int.tmod (p * 7 + 3) b.length := Int.tmod_nonneg _ (by omega)
        have b1 := Int.tmod_lt_of_pos (p * 7 + 3) hL
        have r1 := rd_byte hb (Int.tmod p b.length)
        have r2 := rd_byte hb (Int.tmod (p * 7 + 3) b.length)
        have d0 : 0 ≤ Int.tdiv p b.length := Int.tdiv_nonneg hp (by omega)
        have d1 : Int.tdiv p b.length ≤ p := by rw [Int.tdiv_eq_ediv_of_nonneg hp]; exact Int.ediv_le_self _ hp
        generalize rd b (Int.tmod p b.length) = x at *
        generalize rd b (Int.tmod (p * 7 + 3) b.length) = y at *
        generalize Int.tdiv p b.length = d at *
        have e : wrap64 (wrap64 (wrap64 (wrap64 (wrap64 x * 131) + wrap64 (wrap64 y * 1117)) + wrap64 (p * 29)) + wrap64 (wrap64 d * 53)) = x * 131 + y * 1117 + p * 29 + d * 53 := by
          rw [w_id (x := x) (by omega) (by omega), w_id (x := y) (by omega) (by omega), w_id (x := d) (by omega) (by omega)]
          rw [w_id (x := x * 131) (by omega) (by omega), w_id (x := y * 1117) (by omega) (by omega), w_id (x := p * 29) (by omega) (by omega), w_id (x := d * 53) (by omega) (by omega)]
          rw [w_id (x := x * 131 + y * 1117) (by omega) (by omega), w_id (x := x * 131 + y * 1117 + p * 29) (by omega) (by omega), w_id (by omega) (by omega)]
        rw [e]
        have q0 : 0 ≤ Int.tdiv (x * 131 + y * 1117 + p * 29 + d * 53) 64 := Int.tdiv_nonneg (by omega) (by omega)
        have q1 : Int.tdiv (x * 131 + y * 1117 + p * 29 + d * 53) 64 ≤ x * 131 + y * 1117 + p * 29 + d * 53 := by rw [Int.tdiv_eq_ediv_of_nonneg (by omega)]; exact Int.ediv_le_self _ (by omega)
        rw [w_id (x := Int.tdiv _ 64) (by omega) (by omega)]
        refine ⟨_, Ev.neg e0 (Ev.neg hpl (Ev.neg h0 (Ev.pos a0 (Ev.pos a1 (Ev.pos b0 (Ev.pos b1 (Ev.neg (by omega) (Ev.now _)))))))), ?_, fun _ => hm2 _, fun h => by omega⟩
        exact hm _ (xor_nonneg _ _ (by omega) (by omega) q0 (by omega))
theorem open_ok {l : List Int} (hw : ∀ x ∈ l, (Lit.int .u8 x).wf = true) : ∃ b, spec_l14Open.f l = some (b, 0) ∧ (∀ x ∈ b, 0 ≤ x ∧ x ≤ 255) ∧ b.length ≤ 2000 := by
  have hx : ∀ x ∈ l, 0 ≤ x ∧ x ≤ 255 := fun x h => by simpa [Lit.wf, IntKind.min, IntKind.max, IntKind.signed, IntKind.bits] using hw x h
  unfold spec_l14Open.f
  by_cases h : (l.length : Int) > 2000
  · rw [if_pos h, if_pos (by omega)]
    exact ⟨_, rfl, fun x hm => hx x (List.mem_of_mem_take hm), by simp; omega⟩
  · rw [if_neg h]
    exact ⟨_, rfl, hx, by omega⟩
theorem num_ev {b : List Int} (hb : ∀ x ∈ b, 0 ≤ x ∧ x ≤ 255) (hl : b.length ≤ 2000) (p : Int) (hp : 0 ≤ p) (hp1 : p ≤ 1000000000) (l : List Int) (h0 : l ≠ []) :
    ∃ v, Ev (fun k => spec_l14Rd_num.f k b p l) (v, p + 1) ∧ v ∈ l := by
  have hlen : 0 < l.length := List.length_pos_iff.2 h0
  obtain ⟨v, h, v0, v1, _⟩ := pick_ev hb hl p (l.length : Int) hp hp1
  have hv := v1 (by omega)
  refine ⟨rd l v, ?_, ?_⟩
  · unfold spec_l14Rd_num.f
    refine h.bind ?_
    exact Ev.pos v0 (Ev.pos hv (Ev.now _))
  · unfold rd
    rw [List.getD_eq_getElem?_getD, List.getElem?_eq_getElem (by omega)]
    exact List.getElem_mem _
/-- From some number of rounds on there is an answer of which P holds. -/
def EvP {α : Type} (g : Nat → Option α) (P : α → Prop) : Prop := ∃ r, Ev g r ∧ P r
theorem EvP.bind {α β : Type} {g : Nat → Option α} {f : Nat → α → Option β} {P : α → Prop} {Q : β → Prop} (h : EvP g P) (k : ∀ a, P a → EvP (fun n => f n a) Q) : EvP (fun n => (g n).bind (f n)) Q := by
  obtain ⟨a, ha, hp⟩ := h
  obtain ⟨b, hb, hq⟩ := k a hp
  exact ⟨b, ha.bind hb, hq⟩
theorem EvP.got {α β : Type} {o : Option α} {f : Nat → α → Option β} {a : α} {Q : β → Prop} (h : o = some a) (k : EvP (fun n => f n a) Q) : EvP (fun n => o.bind (f n)) Q := by
  obtain ⟨b, hb, hq⟩ := k
  exact ⟨b, Ev.got h hb, hq⟩
theorem EvP.ite {α : Type} {c : Prop} [Decidable c] {f g : Nat → Option α} {Q : α → Prop} (h : c → EvP f Q) (k : ¬ c → EvP g Q) : EvP (fun n => if c then f n else g n) Q := by
  by_cases hc : c
  · obtain ⟨r, a, b⟩ := h hc
    exact ⟨r, Ev.pos hc a, b⟩
  · obtain ⟨r, a, b⟩ := k hc
    exact ⟨r, Ev.neg hc a, b⟩
theorem EvP.pos {α : Type} {c : Prop} [Decidable c] {f g : Nat → Option α} {Q : α → Prop} (hc : c) (h : EvP f Q) : EvP (fun n => if c then f n else g n) Q := EvP.ite (fun _ => h) (fun n => absurd hc n)
theorem EvP.neg {α : Type} {c : Prop} [Decidable c] {f g : Nat → Option α} {Q : α → Prop} (hc : ¬ c) (h : EvP g Q) : EvP (fun n => if c then f n else g n) Q := EvP.ite (fun n => absurd n hc) (fun _ => h)
theorem EvP.now {α : Type} {Q : α → Prop} {a : α} (h : Q a) : EvP (fun _ => some a) Q := ⟨a, Ev.now a, h⟩
theorem EvP.next {α : Type} {g : Nat → Option α} {Q : α → Prop} (k : EvP (fun n => g (n + 1)) Q) : EvP g Q := by
  obtain ⟨r, a, b⟩ := k
  exact ⟨r, Ev.next a, b⟩
theorem EvP.of {α : Type} {g : Nat → Option α} {Q : α → Prop} {r : α} (h : Ev g r) (q : Q r) : EvP g Q := ⟨r, h, q⟩
theorem EvP.weak {α : Type} {g : Nat → Option α} {P Q : α → Prop} (h : EvP g P) (k : ∀ a, P a → Q a) : EvP g Q := by
  obtain ⟨r, a, b⟩ := h
  exact ⟨r, a, k r b⟩
theorem EvP.congr {α : Type} {g f : Nat → Option α} {Q : α → Prop} (h : ∀ k, g k = f k) (k : EvP f Q) : EvP g Q := by
  obtain ⟨r, a, b⟩ := k
  exact ⟨r, Ev.congr h a, b⟩
theorem pickP {b : List Int} (hb : ∀ x ∈ b, 0 ≤ x ∧ x ≤ 255) (hl : b.length ≤ 2000) (p n : Int) (hp : 0 ≤ p) (hp1 : p ≤ 1000000000) :
    EvP (fun k => spec_l14Rd_pick.f k b p n) (fun r => r.2 = p + 1 ∧ 0 ≤ r.1 ∧ (1 ≤ n → r.1 < n) ∧ (n < 1 → r.1 = 0)) := by
  obtain ⟨v, h, r⟩ := pick_ev hb hl p n hp hp1
  exact ⟨_, h, rfl, r⟩
theorem numP {b : List Int} (hb : ∀ x ∈ b, 0 ≤ x ∧ x ≤ 255) (hl : b.length ≤ 2000) (p : Int) (hp : 0 ≤ p) (hp1 : p ≤ 1000000000) (l : List Int) (h0 : l ≠ []) :
    EvP (fun k => spec_l14Rd_num.f k b p l) (fun r => r.2 = p + 1 ∧ r.1 ∈ l) := by
  obtain ⟨v, h, r⟩ := num_ev hb hl p hp hp1 l h0
  exact ⟨_, h, rfl, r⟩
/-- Whether a plan is right. -/
def planB (a b c d : Int) : Bool := decide (1 ≤ a ∧ a ≤ 120 ∧ 0 ≤ b ∧ b ≤ 40 ∧ 0 ≤ c ∧ c ≤ 300 ∧ 0 ≤ d ∧ d ≤ 300)
theorem implPlan_eq (a b c d : Int) : impl_PlanOk.f a b c d = some (planB a b c d) := by
  unfold impl_PlanOk.f planB
  repeat' split
  all_goals (congr 1; rw [eq_comm])
  · rw [decide_eq_decide]; omega
  all_goals rw [decide_eq_false_iff_not]; omega
theorem specPlan_eq (a b c d : Int) : spec_PlanOk.f a b c d = some (planB a b c d) := implPlan_eq a b c d
theorem l10PlanP {b : List Int} (hb : ∀ x ∈ b, 0 ≤ x ∧ x ≤ 255) (hl : b.length ≤ 2000) (p : Int) (hp : 0 ≤ p) (hp1 : p ≤ 900000000) : EvP (fun k => spec_l10Plan.f k b p) (fun r => 0 ≤ r.2.2.2.2 ∧ r.2.2.2.2 ≤ p + 10) := by
  unfold spec_l10Plan.f
  refine (numP hb hl p hp (by omega) _ (by simp)).bind fun r1 h1 => ?_
  refine (numP hb hl _ (by omega) (by omega) _ (by simp)).bind fun r2 h2 => ?_
  refine (numP hb hl _ (by omega) (by omega) _ (by simp)).bind fun r3 h3 => ?_
  refine (numP hb hl _ (by omega) (by omega) _ (by simp)).bind fun r4 h4 => ?_
  refine (pickP hb hl _ _ (by omega) (by omega)).bind fun r5 h5 => ?_
  refine EvP.ite (fun _ => (numP hb hl _ (by omega) (by omega) _ (by simp)).bind fun r6 h6 => EvP.now ?_) fun _ => ?_
  · simp only; omega
  refine EvP.ite (fun _ => (numP hb hl _ (by omega) (by omega) _ (by simp)).bind fun r6 h6 => EvP.now ?_) fun _ => ?_
  · simp only; omega
  refine EvP.ite (fun _ => (numP hb hl _ (by omega) (by omega) _ (by simp)).bind fun r6 h6 => EvP.now ?_) fun _ => ?_
  · simp only; omega
  refine EvP.ite (fun _ => (numP hb hl _ (by omega) (by omega) _ (by simp)).bind fun r6 h6 => EvP.now ?_) fun _ => EvP.now ?_
  · simp only; omega
  · simp only; omega
theorem drawPlanP {l : List Int} (hw : ∀ x ∈ l, (Lit.int .u8 x).wf = true) : EvP (fun k => spec_DrawPlanOk.f k l) (fun _ => True) := by
  obtain ⟨b, ho, hb, hl⟩ := open_ok hw
  unfold spec_DrawPlanOk.f
  refine EvP.got ho ((l10PlanP hb hl 0 (by omega) (by omega)).bind fun r1 h1 => ?_)
  refine (pickP hb hl _ _ (by omega) (by omega)).bind fun r5 h5 => ?_
  refine EvP.ite (fun _ => (numP hb hl _ (by omega) (by omega) _ (by simp)).bind fun r6 h6 => EvP.now trivial) fun _ => ?_
  refine EvP.ite (fun _ => (numP hb hl _ (by omega) (by omega) _ (by simp)).bind fun r6 h6 => EvP.now trivial) fun _ => ?_
  refine EvP.ite (fun _ => (numP hb hl _ (by omega) (by omega) _ (by simp)).bind fun r6 h6 => EvP.now trivial) fun _ => ?_
  exact EvP.ite (fun _ => (numP hb hl _ (by omega) (by omega) _ (by simp)).bind fun r6 h6 => EvP.now trivial) fun _ => EvP.now trivial
theorem FnEnginePlan : laws_FnEnginePlan.Pure := by
  intro l _ _ hw
  apply Ev.rounds
  unfold laws_FnEnginePlan.f
  refine Ev.ite (fun _ => Ev.now true) fun _ => ?_
  obtain ⟨⟨a, b, c, d⟩, h, _⟩ := drawPlanP hw
  refine h.bind ?_
  refine Ev.got (implPlan_eq _ _ _ _) (Ev.got (specPlan_eq _ _ _ _) (Ev.neg (by simp) ?_))
  refine Ev.got (implPlan_eq _ _ _ _) (Ev.neg (by simp [planB]) ?_)
  refine Ev.got (implPlan_eq _ _ _ _) (Ev.neg (by simp [planB]) ?_)
  refine Ev.got (implPlan_eq _ _ _ _) (Ev.neg (by simp [planB]) ?_)
  refine Ev.got (implPlan_eq _ _ _ _) (Ev.neg (by simp [planB]) ?_)
  refine Ev.ite (fun e => ?_) (fun _ => Ev.now _)
  dsimp only at e ⊢
  simp [planB] at e
  rw [w_id (by omega) (by omega)]
  refine Ev.pos (by omega) (Ev.got (implPlan_eq _ _ _ _) (Ev.some_ ?_))
  simp [planB]
  omega
end Go.Proofs.Ytdnpbpgnehaebaa.Pure
