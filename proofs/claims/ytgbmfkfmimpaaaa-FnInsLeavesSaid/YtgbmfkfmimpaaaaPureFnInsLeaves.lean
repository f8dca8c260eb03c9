/- Proved: for every drawn instruction the law FnInsLeaves answers true: control leaves only at jumps, tail calls and returns, as the reference has it, whatever the operands. No condition. -/
import Derived.Test.YtgbmfkfmimpaaaaQFnInsLeavesx4
namespace Go.Proofs.Ytgbmfkfmimpaaaa.Pure
open Go.RowKit Go.Proofs.Ytgbmfkfmimpaaaa.PFnInsLeaves Go.Proofs.YtgbmfkfmimpaaaaW.PrintWords Go.Proofs.YtgbmfkfmimpaaaaW.PrintLast
theorem w_id {x : Int} (h0 : -9223372036854775808 ≤ x) (h1 : x ≤ 9223372036854775807) : wrap64 x = x := by unfold wrap64; omega
theorem Ev.pos {α : Type} {c : Prop} [Decidable c] {f g : Nat → Option α} {r : α} (h : c) (k : Ev f r) : Ev (fun n => if c then f n else g n) r := Ev.congr (fun _ => if_pos h) k
theorem Ev.neg {α : Type} {c : Prop} [Decidable c] {f g : Nat → Option α} {r : α} (h : ¬ c) (k : Ev g r) : Ev (fun n => if c then f n else g n) r := Ev.congr (fun _ => if_neg h) k
theorem Ev.ite {α : Type} {c : Prop} [Decidable c] {f g : Nat → Option α} {r : α} (h : c → Ev f r) (k : ¬ c → Ev g r) : Ev (fun n => if c then f n else g n) r := by
  by_cases hc : c
  · exact Ev.pos hc (h hc)
  · exact Ev.neg hc (k hc)
theorem Ev.got {α β : Type} {o : Option α} {f : Nat → α → Option β} {a : α} {r : β} (h : o = some a) (k : Ev (fun n => f n a) r) : Ev (fun n => o.bind (f n)) r := Ev.congr (fun _ => by rw [h]; rfl) k
theorem Ev.next {α : Type} {g : Nat → Option α} {r : α} (k : Ev (fun n => g (n + 1)) r) : Ev g r := Ev.step (fun _ => rfl) k
theorem Ev.some_ {α : Type} {a r : α} (h : a = r) : Ev (fun _ => some a) r := ⟨0, fun _ _ => by rw [h]⟩
theorem Ev.ex_ite {α : Type} {c : Prop} [Decidable c] {f g : Nat → Option α} {P : α → Prop} (h : c → ∃ r, Ev f r ∧ P r) (k : ¬ c → ∃ r, Ev g r ∧ P r) : ∃ r, Ev (fun n => if c then f n else g n) r ∧ P r := by
  by_cases hc : c
  · obtain ⟨r, a, b⟩ := h hc
    exact ⟨r, Ev.pos hc a, b⟩
  · obtain ⟨r, a, b⟩ := k hc
    exact ⟨r, Ev.neg hc a, b⟩
theorem xor_nonneg (x y : Int) (hx : 0 ≤ x) (hx1 : x < 4611686018427387904) (hy : 0 ≤ y) (hy1 : y < 4611686018427387904) : 0 ≤ Go.bits .xor .i64 x y := by
  obtain ⟨a, rfl⟩ := Int.eq_ofNat_of_zero_le hx
  obtain ⟨b, rfl⟩ := Int.eq_ofNat_of_zero_le hy
  have ha : a < 2 ^ 62 := by omega
  have hb : b < 2 ^ 62 := by omega
  have h := Nat.xor_lt_two_pow ha hb
  have ea : a % 2 ^ IntKind.i64.bits = a := Nat.mod_eq_of_lt (by show a < 2 ^ 64; omega)
  have eb : b % 2 ^ IntKind.i64.bits = b := Nat.mod_eq_of_lt (by show b < 2 ^ 64; omega)
  have e : Go.bits .xor .i64 (a : Int) (b : Int) = IntKind.i64.wrap (((a ^^^ b : Nat) : Nat) : Int) := by
    simp only [Go.bits, BitVec.ofInt_natCast, BitVec.toNat_xor, BitVec.toNat_ofNat, ea, eb]
  rw [e, IntKind.wrap_i64]
  omega
theorem rd_byte {b : List Int} (hb : ∀ x ∈ b, 0 ≤ x ∧ x ≤ 255) (i : Int) : 0 ≤ rd b i ∧ rd b i ≤ 255 := by
  unfold rd
  rw [List.getD_eq_getElem?_getD]
  cases h : b[i.toNat]? with
  | none => simp
  | some v => exact hb v (List.mem_of_getElem? h)
theorem pick_ev {b : List Int} (hb : ∀ x ∈ b, 0 ≤ x ∧ x ≤ 255) (hl : b.length ≤ 2000) (p n : Int) (hp : 0 ≤ p) (hp1 : p ≤ 1000000000) :
    ∃ v, Ev (fun k => spec_l14Rd_pick.f k b p n) (v, p + 1) ∧ 0 ≤ v ∧ (1 ≤ n → v < n) ∧ (n < 1 → v = 0) := by
  unfold spec_l14Rd_pick.f
  rw [w_id (x := p + 1) (by omega) (by omega)]
  by_cases hn : n < 1
  · refine ⟨0, Ev.pos hn (Ev.next ?_), by omega, fun h => by omega, fun _ => rfl⟩
    simp only [spec_l14Rd_pick.j0]
    exact Ev.pos trivial (Ev.now _)
  · suffices hs : ∃ v, Ev (fun k => spec_l14Rd_pick.j0 (k + 1) n ((b.length : Int) == 0) b (p + 1)) (v, p + 1) ∧ 0 ≤ v ∧ (1 ≤ n → v < n) ∧ (n < 1 → v = 0) by
      obtain ⟨v, h, r⟩ := hs
      exact ⟨v, Ev.neg hn (Ev.next h), r⟩
    have hm := fun x : Int => Int.tmod_nonneg (a := x) n
    have hm2 := fun x : Int => Int.tmod_lt_of_pos x (show 0 < n by omega)
    have ep : p + 1 - 1 = p := by omega
    simp only [spec_l14Rd_pick.j0, ep]
    by_cases h0 : (b.length : Int) = 0
    · exact ⟨0, Ev.pos (by simpa using h0) (Ev.now _), by omega, fun h => by omega, fun _ => rfl⟩
    · have e0 : ¬ ((((b.length : Int) == 0)) = true) := by simpa using h0
      rw [w_id (x := p) (by omega) (by omega)]
      by_cases hpl : p < (b.length : Int)
      · have r1 := rd_byte hb p
        refine ⟨_, Ev.neg e0 (Ev.pos hpl (Ev.pos hp (Ev.neg (by omega) (Ev.now _)))), ?_, fun _ => hm2 _, fun h => by omega⟩
        rw [w_id (by omega) (by omega)]
        exact hm _ r1.1
      · have hL : (0 : Int) < b.length := by omega
        have a0 : 0 ≤ Int.tmod p b.length := Int.tmod_nonneg _ hp
        have a1 := Int.tmod_lt_of_pos p hL
        rw [w_id (x := p * 7) (by omega) (by omega), w_id (x := p * 7 + 3) (by omega) (by omega)]
        have b0 : 0 ≤ Int.tmod (p * 7 + 3) b.length := Int.tmod_nonneg _ (by omega)
        have b1 := Int.tmod_lt_of_pos (p * 7 + 3) hL
        have r1 := rd_byte hb (Int.tmod p b.length)
        have r2 := rd_byte hb (Int.tmod (p * 7 + 3) b.length)
        have d0 : 0 ≤ Int.tdiv p b.length := Int.tdiv_nonneg hp (by omega)
        have d1 : Int.tdiv p b.length ≤ p := by rw [Int.tdiv_eq_ediv_of_nonneg hp]; exact Int.ediv_le_self _ hp
        generalize rd b (Int.tmod p b.length) = x at *
        generalize rd b (Int.tmod (p * 7 + 3) b.length) = y at *
        generalize Int.tdiv p b.length = d at *
        have e : wrap64 (wrap64 (wrap64 (wrap64 (wrap64 x * 131) + wrap64 (wrap64 y * 1117)) + wrap64 (p * 29)) + wrap64 (wrap64 d * 53)) = x * 131 + y * 1117 + p * 29 + d * 53 := by
          rw [w_id (x := x) (by omega) (by omega), w_id (x := y) (by omega) (by omega), w_id (x := d) (by omega) (by omega)]
          rw [w_id (x := x * 131) (by omega) (by omega), w_id (x := y * 1117) (by omega) (by omega), w_id (x := p * 29) (by omega) (by omega), w_id (x := d * 53) (by omega) (by omega)]
          rw [w_id (x := x * 131 + y * 1117) (by omega) (by omega), w_id (x := x * 131 + y * 1117 + p * 29) (by omega) (by omega), w_id (by omega) (by omega)]
        rw [e]
        have q0 : 0 ≤ Int.tdiv (x * 131 + y * 1117 + p * 29 + d * 53) 64 := Int.tdiv_nonneg (by omega) (by omega)
        have q1 : Int.tdiv (x * 131 + y * 1117 + p * 29 + d * 53) 64 ≤ x * 131 + y * 1117 + p * 29 + d * 53 := by rw [Int.tdiv_eq_ediv_of_nonneg (by omega)]; exact Int.ediv_le_self _ (by omega)
        rw [w_id (x := Int.tdiv _ 64) (by omega) (by omega)]
        refine ⟨_, Ev.neg e0 (Ev.neg hpl (Ev.neg h0 (Ev.pos a0 (Ev.pos a1 (Ev.pos b0 (Ev.pos b1 (Ev.neg (by omega) (Ev.now _)))))))), ?_, fun _ => hm2 _, fun h => by omega⟩
        exact hm _ (xor_nonneg _ _ (by omega) (by omega) q0 (by omega))
theorem open_ok {l : List Int} (hw : ∀ x ∈ l, (Lit.int .u8 x).wf = true) : ∃ b, spec_l14Open.f l = some (b, 0) ∧ (∀ x ∈ b, 0 ≤ x ∧ x ≤ 255) ∧ b.length ≤ 2000 := by
  have hx : ∀ x ∈ l, 0 ≤ x ∧ x ≤ 255 := fun x h => by simpa [Lit.wf, IntKind.min, IntKind.max, IntKind.signed, IntKind.bits] using hw x h
  unfold spec_l14Open.f
  by_cases h : (l.length : Int) > 2000
  · rw [if_pos h, if_pos (by omega)]
    exact ⟨_, rfl, fun x hm => hx x (List.mem_of_mem_take hm), by simp; omega⟩
  · rw [if_neg h]
    exact ⟨_, rfl, hx, by omega⟩
theorem num_ev {b : List Int} (hb : ∀ x ∈ b, 0 ≤ x ∧ x ≤ 255) (hl : b.length ≤ 2000) (p : Int) (hp : 0 ≤ p) (hp1 : p ≤ 1000000000) (l : List Int) (h0 : l ≠ []) :
    ∃ v, Ev (fun k => spec_l14Rd_num.f k b p l) (v, p + 1) ∧ v ∈ l := by
  have hlen : 0 < l.length := List.length_pos_iff.2 h0
  obtain ⟨v, h, v0, v1, _⟩ := pick_ev hb hl p (l.length : Int) hp hp1
  have hv := v1 (by omega)
  refine ⟨rd l v, ?_, ?_⟩
  · unfold spec_l14Rd_num.f
    refine h.bind ?_
    exact Ev.pos v0 (Ev.pos hv (Ev.now _))
  · unfold rd
    rw [List.getD_eq_getElem?_getD, List.getElem?_eq_getElem (by omega)]
    exact List.getElem_mem _
theorem insHas_ev (op : Int) : ∃ n, Ev (fun k => spec_InsHas.f k op) n ∧ 0 ≤ n ∧ n ≤ 2 := by
  have h : ∀ b : Bool, ∃ n, Ev (fun k => spec_InsHas.j0 k op b) n ∧ 0 ≤ n ∧ n ≤ 2 := by
    intro b
    suffices hs : ∃ n, Ev (fun k => spec_InsHas.j0 (k + 1) op b) n ∧ 0 ≤ n ∧ n ≤ 2 by
      obtain ⟨n, h, r⟩ := hs
      exact ⟨n, Ev.next h, r⟩
    simp only [spec_InsHas.j0]
    repeat' (first | exact ⟨_, Ev.now _, by omega, by omega⟩ | refine Ev.ex_ite (fun _ => ?_) (fun _ => ?_))
  unfold spec_InsHas.f
  by_cases hn : op = 14
  · obtain ⟨n, hr, r⟩ := h (op == 14)
    exact ⟨n, Ev.pos hn hr, r⟩
  · obtain ⟨n, hr, r⟩ := h (op == 15)
    exact ⟨n, Ev.neg hn hr, r⟩
theorem most_ev (op : Int) : ∃ n, Ev (fun k => spec_l2Most.f k op) n ∧ 2 ≤ n ∧ n ≤ 9973 := by
  have h3 : ∀ b : Bool, ∃ n, Ev (fun k => spec_l2Most.j3 k op b) n ∧ 2 ≤ n ∧ n ≤ 9973 := by
    intro b
    suffices hs : ∃ n, Ev (fun k => spec_l2Most.j3 (k + 1) op b) n ∧ 2 ≤ n ∧ n ≤ 9973 by
      obtain ⟨n, h, r⟩ := hs
      exact ⟨n, Ev.next h, r⟩
    simp only [spec_l2Most.j3]
    repeat' (first | exact ⟨_, Ev.now _, by omega, by omega⟩ | split)
  have h2 : ∀ b : Bool, ∃ n, Ev (fun k => spec_l2Most.j2 k op b) n ∧ 2 ≤ n ∧ n ≤ 9973 := by
    intro b
    suffices hs : ∃ n, Ev (fun k => spec_l2Most.j2 (k + 1) op b) n ∧ 2 ≤ n ∧ n ≤ 9973 by
      obtain ⟨n, h, r⟩ := hs
      exact ⟨n, Ev.next h, r⟩
    simp only [spec_l2Most.j2]
    repeat' (first | exact ⟨_, Ev.now _, by omega, by omega⟩ | exact h3 _ | split)
  have h1 : ∀ b : Bool, ∃ n, Ev (fun k => spec_l2Most.j1 k op b) n ∧ 2 ≤ n ∧ n ≤ 9973 := by
    intro b
    suffices hs : ∃ n, Ev (fun k => spec_l2Most.j1 (k + 1) op b) n ∧ 2 ≤ n ∧ n ≤ 9973 by
      obtain ⟨n, h, r⟩ := hs
      exact ⟨n, Ev.next h, r⟩
    simp only [spec_l2Most.j1]
    repeat' (first | exact ⟨_, Ev.now _, by omega, by omega⟩ | exact h2 _ | split)
  have h0 : ∀ b : Bool, ∃ n, Ev (fun k => spec_l2Most.j0 k op b) n ∧ 2 ≤ n ∧ n ≤ 9973 := by
    intro b
    suffices hs : ∃ n, Ev (fun k => spec_l2Most.j0 (k + 1) op b) n ∧ 2 ≤ n ∧ n ≤ 9973 by
      obtain ⟨n, h, r⟩ := hs
      exact ⟨n, Ev.next h, r⟩
    simp only [spec_l2Most.j0]
    repeat' (first | exact ⟨_, Ev.now _, by omega, by omega⟩ | exact h1 _ | split)
  unfold spec_l2Most.f
  repeat' (first | exact ⟨_, Ev.now _, by omega, by omega⟩ | exact h0 _ | split)
theorem isOf_some (op : Int) : ∃ b, spec_l2IsOf.f op = some b := by
  unfold spec_l2IsOf.f
  repeat' (first | exact ⟨_, rfl⟩ | split)
theorem l2Ins_ev {b : List Int} (hb : ∀ x ∈ b, 0 ≤ x ∧ x ≤ 255) (hl : b.length ≤ 2000) (p : Int) (hp : 0 ≤ p) (hp1 : p ≤ 900000000) :
    ∃ O A B q, Ev (fun k => spec_l2Ins.f k b p) (O, A, B, q) ∧ p ≤ q ∧ q ≤ p + 5 := by
  have j1 : ∀ (q O A B : Int), 0 ≤ q → q ≤ 900000100 → ∃ O' A' B' q', Ev (fun k => spec_l2Ins.j1 k b q O A B) (O', A', B', q') ∧ q ≤ q' ∧ q' ≤ q + 2 := by
    intro q O A B hq hq1
    suffices hs : ∃ O' A' B' q', Ev (fun k => spec_l2Ins.j1 (k + 1) b q O A B) (O', A', B', q') ∧ q ≤ q' ∧ q' ≤ q + 2 by
      obtain ⟨x1, x2, x3, x4, h, r⟩ := hs
      exact ⟨x1, x2, x3, x4, Ev.next h, r⟩
    simp only [spec_l2Ins.j1]
    obtain ⟨t, ht⟩ := isOf_some O
    by_cases c : t = true
    · obtain ⟨x, h1, _⟩ := pick_ev hb hl q 2 (by omega) (by omega)
      by_cases d : x = 0
      · obtain ⟨y, h2, _⟩ := num_ev hb hl (q + 1) (by omega) (by omega) [-1, -2] (by simp)
        exact ⟨_, _, _, _, Ev.got ht (Ev.pos c (h1.bind (Ev.pos d (h2.bind (Ev.now _))))), by omega, by omega⟩
      · exact ⟨_, _, _, _, Ev.got ht (Ev.pos c (h1.bind (Ev.neg d (Ev.now _)))), by omega, by omega⟩
    · exact ⟨_, _, _, _, Ev.got ht (Ev.neg c (Ev.now _)), by omega, by omega⟩
  have j0 : ∀ (q O A B : Int), 0 ≤ q → q ≤ 900000050 → ∃ O' A' B' q', Ev (fun k => spec_l2Ins.j0 k b q O A B) (O', A', B', q') ∧ q ≤ q' ∧ q' ≤ q + 3 := by
    intro q O A B hq hq1
    suffices hs : ∃ O' A' B' q', Ev (fun k => spec_l2Ins.j0 (k + 1) b q O A B) (O', A', B', q') ∧ q ≤ q' ∧ q' ≤ q + 3 by
      obtain ⟨x1, x2, x3, x4, h, r⟩ := hs
      exact ⟨x1, x2, x3, x4, Ev.next h, r⟩
    simp only [spec_l2Ins.j0]
    obtain ⟨n, hn, _⟩ := insHas_ev O
    by_cases c : n = 2
    · obtain ⟨x, h1, _⟩ := pick_ev hb hl q 4 (by omega) (by omega)
      obtain ⟨x1, x2, x3, x4, h, r1, r2⟩ := j1 (q + 1) O A x (by omega) (by omega)
      exact ⟨_, _, _, _, hn.bind (Ev.pos c (h1.bind h)), by omega, by omega⟩
    · obtain ⟨x1, x2, x3, x4, h, r1, r2⟩ := j1 q O A B (by omega) (by omega)
      exact ⟨_, _, _, _, hn.bind (Ev.neg c h), by omega, by omega⟩
  unfold spec_l2Ins.f
  obtain ⟨x, h1, x0, x1, _⟩ := pick_ev hb hl p 33 (by omega) (by omega)
  obtain ⟨n, hn, _⟩ := insHas_ev (wrap64 (1 + x))
  by_cases c : n > 0
  · obtain ⟨m, hm, _⟩ := most_ev (wrap64 (1 + x))
    obtain ⟨y, h2, _⟩ := pick_ev hb hl (p + 1) m (by omega) (by omega)
    obtain ⟨x1, x2, x3, x4, h, r1, r2⟩ := j0 (p + 1 + 1) (wrap64 (1 + x)) y 0 (by omega) (by omega)
    exact ⟨_, _, _, _, h1.bind (hn.bind (Ev.pos c (hm.bind (h2.bind h)))), by omega, by omega⟩
  · obtain ⟨x1, x2, x3, x4, h, r1, r2⟩ := j0 (p + 1) (wrap64 (1 + x)) 0 0 (by omega) (by omega)
    exact ⟨_, _, _, _, h1.bind (hn.bind (Ev.neg c h)), by omega, by omega⟩
theorem l2Bent_ev {b : List Int} (hb : ∀ x ∈ b, 0 ≤ x ∧ x ≤ 255) (hl : b.length ≤ 2000) (p : Int) (hp : 0 ≤ p) (hp1 : p ≤ 800000000) :
    ∃ O A B q, Ev (fun k => spec_l2Bent.f k b p) (O, A, B, q) ∧ p ≤ q ∧ q ≤ p + 7 := by
  unfold spec_l2Bent.f
  obtain ⟨O, A, B, q, h, q0, q1⟩ := l2Ins_ev hb hl p hp (by omega)
  obtain ⟨x, h1, _⟩ := pick_ev hb hl q 24 (by omega) (by omega)
  by_cases c0 : x = 0
  · obtain ⟨y, h2, _⟩ := num_ev hb hl (q + 1) (by omega) (by omega) [0, 34, -1, 12] (by simp)
    exact ⟨_, _, _, _, h.bind (h1.bind (Ev.pos c0 (h2.bind (Ev.now _)))), by omega, by omega⟩
  · by_cases c1 : x = 1
    · obtain ⟨m, hm, _⟩ := most_ev O
      obtain ⟨y, h2, _⟩ := num_ev hb hl (q + 1) (by omega) (by omega) [-1, -2, -3, m, wrap64 (m - 1)] (by simp)
      exact ⟨_, _, _, _, h.bind (h1.bind (Ev.neg c0 (Ev.pos c1 (hm.bind (hm.bind (h2.bind (Ev.now _))))))), by omega, by omega⟩
    · by_cases c2 : x = 2
      · obtain ⟨y, h2, _⟩ := num_ev hb hl (q + 1) (by omega) (by omega) [-1, 1, 4] (by simp)
        exact ⟨_, _, _, _, h.bind (h1.bind (Ev.neg c0 (Ev.neg c1 (Ev.pos c2 (h2.bind (Ev.now _)))))), by omega, by omega⟩
      · exact ⟨_, _, _, _, h.bind (h1.bind (Ev.neg c0 (Ev.neg c1 (Ev.neg c2 (Ev.now _))))), by omega, by omega⟩
/-- Whether control leaves. -/
def lv (op : Int) : Bool := op == 25 || op == 28 || op == 29
theorem implLeaves_eq (op a b : Int) : impl_InsLeaves.f op a b = some (lv op) := by
  unfold impl_InsLeaves.f lv
  by_cases h : op = 25 <;> by_cases h2 : op = 28 <;> simp [h, h2]
theorem specLeaves_eq (op a b : Int) : spec_InsLeaves.f op a b = some (lv op) := implLeaves_eq op a b
theorem FnInsLeaves : laws_FnInsLeaves.Pure := by
  intro l _ _ hw
  apply Ev.rounds
  unfold laws_FnInsLeaves.f
  refine Ev.ite (fun _ => Ev.now true) fun _ => ?_
  obtain ⟨bs, ho, hb, hl⟩ := open_ok hw
  obtain ⟨O, A, B, q, h, _⟩ := l2Bent_ev hb hl 0 (by omega) (by omega)
  have hd : Ev (fun k => spec_DrawInsLeaves.f k l) (O, A, B) := by
    unfold spec_DrawInsLeaves.f
    exact Ev.got ho (h.bind (Ev.now _))
  refine hd.bind ?_
  refine Ev.got (implLeaves_eq _ _ _) (Ev.got (specLeaves_eq _ _ _) (Ev.neg (by simp) ?_))
  refine Ev.got (implLeaves_eq _ _ _) (Ev.got (implLeaves_eq _ _ _) (Ev.pos (by simp) (Ev.got (implLeaves_eq _ _ _) ?_)))
  by_cases h1 : O = 25
  · exact Ev.pos h1 (Ev.some_ (by simp [lv, h1]))
  · by_cases h2 : O = 28
    · exact Ev.neg h1 (Ev.pos h2 (Ev.some_ (by simp [lv, h2])))
    · exact Ev.neg h1 (Ev.neg h2 (Ev.some_ (by simp [lv, h1, h2])))
end Go.Proofs.Ytgbmfkfmimpaaaa.Pure
