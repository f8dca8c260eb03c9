/- Proved: the law FnExactWordVal answers true: the program's WordVal and the reference's agree at every field and word. No condition. -/
import Derived.Test.YtdnpbpgnehaebaaPFnExactWordValx2
namespace Go.Proofs.Ytdnpbpgnehaebaa.Pure
open Go.RowKit Go.Proofs.Ytdnpbpgnehaebaa.PFnExactWordVal Go.Proofs.YtdnpbpgnehaebaaW.PrintWords Go.Proofs.YtdnpbpgnehaebaaW.PrintLast
theorem w_id {x : Int} (h0 : -9223372036854775808 ≤ x) (h1 : x ≤ 9223372036854775807) : wrap64 x = x := by unfold wrap64; omega
theorem Ev.pos {α : Type} {c : Prop} [Decidable c] {f g : Nat → Option α} {r : α} (h : c) (k : Ev f r) : Ev (fun n => if c then f n else g n) r := Ev.congr (fun _ => if_pos h) k
theorem Ev.neg {α : Type} {c : Prop} [Decidable c] {f g : Nat → Option α} {r : α} (h : ¬ c) (k : Ev g r) : Ev (fun n => if c then f n else g n) r := Ev.congr (fun _ => if_neg h) k
theorem Ev.ite {α : Type} {c : Prop} [Decidable c] {f g : Nat → Option α} {r : α} (h : c → Ev f r) (k : ¬ c → Ev g r) : Ev (fun n => if c then f n else g n) r := by
  by_cases hc : c
  · exact Ev.pos hc (h hc)
  · exact Ev.neg hc (k hc)
theorem Ev.got {α β : Type} {o : Option α} {f : Nat → α → Option β} {a : α} {r : β} (h : o = some a) (k : Ev (fun n => f n a) r) : Ev (fun n => o.bind (f n)) r := Ev.congr (fun _ => by rw [h]; rfl) k
theorem Ev.next {α : Type} {g : Nat → Option α} {r : α} (k : Ev (fun n => g (n + 1)) r) : Ev g r := Ev.step (fun _ => rfl) k
theorem Ev.some_ {α : Type} {a r : α} (h : a = r) : Ev (fun _ => some a) r := ⟨0, fun _ _ => by rw [h]⟩
theorem Ev.ex_ite {α : Type} {c : Prop} [Decidable c] {f g : Nat → Option α} {P : α → Prop} (h : c → ∃ r, Ev f r ∧ P r) (k : ¬ c → ∃ r, Ev g r ∧ P r) : ∃ r, Ev (fun n => if c then f n else g n) r ∧ P r := by
  by_cases hc : c
  · obtain ⟨r, a, b⟩ := h hc
    exact ⟨r, Ev.pos hc a, b⟩
  · obtain ⟨r, a, b⟩ := k hc
    exact ⟨r, Ev.neg hc a, b⟩
/-- The word of a value. -/
def word (K N : Int) : Int := if K = 1 ∧ 0 ≤ N ∧ N < 9973 then N else if K = 3 ∧ 0 ≤ N ∧ N < 9973 then 2 * N + 1 else if K = 4 ∧ 0 ≤ N ∧ N < 160 then 2 * N + 2 else 0
theorem isNum_eq (n : Int) : impl_isNum.f n = some (decide (0 ≤ n ∧ n < 9973)) := by
  unfold impl_isNum.f
  by_cases h : n ≥ 0
  · rw [if_pos h]; simp [h]
  · rw [if_neg h]; simp; omega
theorem implWordOf_ev (K N : Int) : Ev (fun k => impl_WordOf.f k K N) (word K N) := by
  have j1 : ∀ b : Bool, b = decide (K = 3 ∧ 0 ≤ N ∧ N < 9973) → ¬ (K = 1 ∧ 0 ≤ N ∧ N < 9973) → Ev (fun k => impl_WordOf.j1 k b K N) (word K N) := by
    intro b hb h1
    refine Ev.next ?_
    simp only [impl_WordOf.j1]
    refine Ev.ite (fun c => ?_) (fun c => ?_)
    · have c' : K = 3 ∧ 0 ≤ N ∧ N < 9973 := by rw [hb] at c; simpa using c
      refine Ev.some_ ?_
      rw [w_id (x := 2 * N) (by omega) (by omega), w_id (by omega) (by omega)]
      unfold word; (repeat' split) <;> omega
    · have c' : ¬ (K = 3 ∧ 0 ≤ N ∧ N < 9973) := by rw [hb] at c; simpa using c
      refine Ev.ite (fun d => Ev.ite (fun e => Ev.ite (fun g => Ev.some_ ?_) (fun g => Ev.some_ ?_)) (fun e => Ev.some_ ?_)) (fun d => Ev.some_ ?_)
      · rw [w_id (x := 2 * N) (by omega) (by omega), w_id (by omega) (by omega)]
        unfold word; (repeat' split) <;> omega
      all_goals unfold word; (repeat' split) <;> omega
  have j0 : ∀ b : Bool, b = decide (K = 1 ∧ 0 ≤ N ∧ N < 9973) → Ev (fun k => impl_WordOf.j0 k b K N) (word K N) := by
    intro b hb
    refine Ev.next ?_
    simp only [impl_WordOf.j0]
    refine Ev.ite (fun c => ?_) (fun c => ?_)
    · have c' : K = 1 ∧ 0 ≤ N ∧ N < 9973 := by rw [hb] at c; simpa using c
      refine Ev.some_ ?_
      unfold word; (repeat' split) <;> omega
    · have c' : ¬ (K = 1 ∧ 0 ≤ N ∧ N < 9973) := by rw [hb] at c; simpa using c
      by_cases d : K = 3
      · exact Ev.pos d (Ev.got (isNum_eq N) (j1 _ (by simp [d]) c'))
      · exact Ev.neg d (j1 _ (by simp [d]) c')
  unfold impl_WordOf.f
  by_cases h : K = 1
  · exact Ev.pos h (Ev.got (isNum_eq N) (j0 _ (by simp [h])))
  · exact Ev.neg h (j0 _ (by simp [h]))
/-- Whether a value has the form of its kind. -/
def form (K N : Int) : Bool := if K = 1 ∨ K = 3 then decide (0 ≤ N ∧ N < 9973) else if K = 2 then N == 0 else if K = 4 then decide (0 ≤ N ∧ N < 160) else false
theorem specForm_ev (K N : Int) : Ev (fun k => spec_l5Form.f k K N 160) (form K N) := by
  have num : spec_l5Number.f N = some (decide (0 ≤ N ∧ N < 9973)) := by
    unfold spec_l5Number.f
    by_cases h : N ≥ 0
    · rw [if_pos h]; simp [h]
    · rw [if_neg h]; simp; omega
  have j0 : ∀ b : Bool, b = decide (K = 1 ∨ K = 3) → Ev (fun k => spec_l5Form.j0 k 160 K b K N) (form K N) := by
    intro b hb
    refine Ev.next ?_
    simp only [spec_l5Form.j0]
    refine Ev.ite (fun c => Ev.got num (Ev.some_ ?_)) (fun c => Ev.ite (fun d => Ev.some_ ?_) (fun d => Ev.ite (fun e => Ev.ite (fun g => Ev.some_ ?_) (fun g => Ev.some_ ?_)) (fun e => Ev.some_ ?_)))
    · have c' : K = 1 ∨ K = 3 := by rw [hb] at c; simpa using c
      unfold form; rw [if_pos c']
    all_goals have c' : ¬ (K = 1 ∨ K = 3) := by rw [hb] at c; simpa using c
    all_goals unfold form; rw [if_neg c']
    · rw [if_pos d]
    · rw [if_neg d, if_pos e]; simp [g]
    · rw [if_neg d, if_pos e]; simp; omega
    · rw [if_neg d, if_neg e]
  unfold spec_l5Form.f
  by_cases h : K = 1
  · exact Ev.pos h (j0 _ (by simp [h]))
  · exact Ev.neg h (j0 _ (by simp [h]; rfl))
theorem form_ev (K N : Int) : Ev (fun k => spec_l7Form.f k K N) (form K N) := by
  unfold spec_l7Form.f
  exact Ev.got rfl ((specForm_ev K N).bind (Ev.now _))
/-- The value of a word. -/
def wval (FK w : Int) : Int × Int × Bool :=
  if w < 0 ∨ FK < 1 ∨ FK > 3 then (0, 0, false) else if FK = 1 then (if w < 9973 then (1, w, true) else (0, 0, false)) else if w = 0 then (if FK = 3 then (0, 0, false) else (2, 0, true)) else
  if w % 2 = 1 then (if w / 2 < 9973 then (3, w / 2, true) else (0, 0, false)) else if w / 2 - 1 < 160 then (4, w / 2 - 1, true) else (0, 0, false)
theorem word3 {N : Int} (h : 0 ≤ N) : word 3 N = if N < 9973 then 2 * N + 1 else 0 := by unfold word; (repeat' split) <;> omega
theorem word4 {N : Int} (h : 0 ≤ N) : word 4 N = if N < 160 then 2 * N + 2 else 0 := by unfold word; (repeat' split) <;> omega
theorem word1 {N : Int} (h : 0 ≤ N) : word 1 N = if N < 9973 then N else 0 := by unfold word; (repeat' split) <;> omega
theorem implWordVal_ev (FK O : Int) (M : Bool) (w : Int) (hw : (Lit.int .i64 w).wf = true) : Ev (fun k => impl_WordVal.f k FK O M w) (wval FK w) := by
  have hw2 : -9223372036854775808 ≤ w ∧ w ≤ 9223372036854775807 := by simpa [Lit.wf, IntKind.min, IntKind.max, IntKind.signed, IntKind.bits] using hw
  have j1 : ∀ b : Bool, b = decide (w = 0 ∧ FK = 3) → 0 ≤ w → ¬ (FK < 1 ∨ FK > 3) → FK ≠ 1 → Ev (fun k => impl_WordVal.j1 k w b) (wval FK w) := by
    intro b hb h0 h1 h2
    refine Ev.next ?_
    simp only [impl_WordVal.j1]
    rw [Int.tmod_eq_emod_of_nonneg h0, Int.tdiv_eq_ediv_of_nonneg h0, w_id (x := w / 2) (by omega) (by omega), w_id (x := w / 2 - 1) (by omega) (by omega)]
    refine Ev.ite (fun c => Ev.some_ ?_) (fun c => Ev.ite (fun z => Ev.some_ ?_) (fun z => Ev.ite (fun d => ?_) (fun d => ?_)))
    · have c' : w = 0 ∧ FK = 3 := by rw [hb] at c; simpa using c
      unfold wval; (repeat' split) <;> first | rfl | (exfalso; omega)
    · have c' : ¬ (w = 0 ∧ FK = 3) := by rw [hb] at c; simpa using c
      unfold wval; (repeat' split) <;> first | rfl | (exfalso; omega)
    · refine (implWordOf_ev 3 (w / 2)).bind ?_
      rw [word3 (by omega)]
      refine Ev.ite (fun e => Ev.some_ ?_) (fun e => Ev.some_ ?_)
      all_goals split at e
      all_goals unfold wval; (repeat' split) <;> first | rfl | (exfalso; omega)
    · refine (implWordOf_ev 4 (w / 2 - 1)).bind ?_
      rw [word4 (by omega)]
      refine Ev.ite (fun e => Ev.some_ ?_) (fun e => Ev.some_ ?_)
      all_goals split at e
      all_goals unfold wval; (repeat' split) <;> first | rfl | (exfalso; omega)
  have j0 : ∀ b : Bool, b = decide (w < 0 ∨ FK < 1 ∨ FK > 3) → Ev (fun k => impl_WordVal.j0 k w b FK O M) (wval FK w) := by
    intro b hb
    refine Ev.next ?_
    simp only [impl_WordVal.j0]
    refine Ev.ite (fun c => Ev.some_ ?_) (fun c => ?_)
    · have c' : w < 0 ∨ FK < 1 ∨ FK > 3 := by rw [hb] at c; simpa using c
      unfold wval; (repeat' split) <;> first | rfl | (exfalso; omega)
    · have c' : ¬ (w < 0 ∨ FK < 1 ∨ FK > 3) := by rw [hb] at c; simpa using c
      refine Ev.ite (fun d => ?_) (fun d => ?_)
      · refine (implWordOf_ev 1 w).bind ?_
        rw [word1 (by omega)]
        refine Ev.ite (fun e => Ev.some_ ?_) (fun e => Ev.some_ ?_)
        all_goals split at e
        all_goals unfold wval; (repeat' split) <;> first | rfl | (exfalso; omega)
      · by_cases z : w = 0
        · exact Ev.pos z (j1 _ (by simp [z]; rfl) (by omega) (by omega) d)
        · exact Ev.neg z (j1 _ (by simp [z]) (by omega) (by omega) d)
  unfold impl_WordVal.f
  by_cases h : w < 0
  · exact Ev.pos h (j0 _ (by simp [h]))
  · by_cases h2 : FK < 1
    · exact Ev.neg h (Ev.pos h2 (j0 _ (by simp [h2])))
    · exact Ev.neg h (Ev.neg h2 (j0 _ (by simp [h, h2])))
theorem specWordVal_ev (FK O : Int) (M : Bool) (w : Int) (hw : (Lit.int .i64 w).wf = true) : Ev (fun k => spec_WordVal.f k FK O M w) (wval FK w) := by
  have hw2 : -9223372036854775808 ≤ w ∧ w ≤ 9223372036854775807 := by simpa [Lit.wf, IntKind.min, IntKind.max, IntKind.signed, IntKind.bits] using hw
  unfold spec_WordVal.f
  by_cases c : w < 0 ∨ FK < 1 ∨ FK > 3
  · obtain ⟨v, hv⟩ : ∃ v, spec_l7Val.f FK O M w = some v := by
      unfold spec_l7Val.f spec_l5NumVal.f
      repeat' (first | exact ⟨_, rfl⟩ | split)
    rw [show wval FK w = (0, 0, false) from if_pos c]
    refine Ev.got hv (Ev.ite (fun _ => Ev.now _) fun a => Ev.ite (fun _ => Ev.now _) fun b => Ev.pos (by omega) (Ev.now _))
  · have h0 : 0 ≤ w := by omega
    have fin : ∀ K N, spec_l7Val.f FK O M w = some (K, N) → (form K N = true → wval FK w = if FK = 3 ∧ K = 2 then (0, 0, false) else (K, N, true)) → (form K N = false → wval FK w = (0, 0, false)) → Ev (fun k => (spec_l7Val.f FK O M w).bind fun bt122 => (if FK < 1 then (some (0, 0, false)) else (if FK > 3 then (some (0, 0, false)) else (if w < 0 then (some (0, 0, false)) else ((spec_l7Form.f k bt122.1 bt122.2).bind fun t125 => (if t125 = true then (if FK = 3 then (if bt122.1 = 2 then (some (0, 0, false)) else (some (bt122.1, bt122.2, true))) else (some (bt122.1, bt122.2, true))) else (some (0, 0, false)))))))) (wval FK w) := by
      intro K N h1 h2 h3
      refine Ev.got h1 (Ev.neg (by omega) (Ev.neg (by omega) (Ev.neg (by omega) ((form_ev K N).bind ?_))))
      refine Ev.ite (fun e => ?_) (fun e => Ev.some_ (h3 (by simpa using e)).symm)
      rw [h2 e]
      refine Ev.ite (fun g => Ev.ite (fun i => Ev.some_ (by rw [if_pos ⟨g, i⟩])) (fun i => Ev.some_ (by rw [if_neg (by omega)]))) (fun g => Ev.some_ (by rw [if_neg (by omega)]))
    by_cases d : FK = 1
    · refine fin 1 w (by unfold spec_l7Val.f; rw [if_pos d]; rfl) (fun h => ?_) (fun h => ?_)
      all_goals simp [form] at h
      all_goals unfold wval; (repeat' split) <;> first | rfl | (exfalso; omega)
    · by_cases z : w = 0
      · refine fin 2 0 (by unfold spec_l7Val.f; rw [if_neg d, if_pos z]) (fun h => ?_) (fun h => ?_)
        all_goals simp [form] at h
        all_goals unfold wval; (repeat' split) <;> first | rfl | (exfalso; omega)
      · by_cases p : w % 2 = 1
        · refine fin 3 (w / 2) (by unfold spec_l7Val.f; rw [if_neg d, if_neg z, Int.tmod_eq_emod_of_nonneg h0, Int.tdiv_eq_ediv_of_nonneg h0, w_id (x := w / 2) (by omega) (by omega), if_pos p]) (fun h => ?_) (fun h => ?_)
          all_goals simp [form] at h
          all_goals unfold wval; (repeat' split) <;> first | rfl | (exfalso; omega)
        · refine fin 4 (w / 2 - 1) (by unfold spec_l7Val.f; rw [if_neg d, if_neg z, Int.tmod_eq_emod_of_nonneg h0, Int.tdiv_eq_ediv_of_nonneg h0, w_id (x := w / 2) (by omega) (by omega), w_id (x := w / 2 - 1) (by omega) (by omega), if_neg p]) (fun h => ?_) (fun h => ?_)
          all_goals simp [form] at h
          all_goals unfold wval; (repeat' split) <;> first | rfl | (exfalso; omega)
theorem FnExactWordVal : laws_FnExactWordVal.Pure := by
  intro FK O M w _ _ hw
  apply Ev.rounds
  unfold laws_FnExactWordVal.f laws_toField.f
  refine Ev.got rfl ((specWordVal_ev FK O M w hw).bind (Ev.got rfl ((implWordVal_ev FK O M w hw).bind ?_)))
  refine Ev.got (a := true) (by unfold laws_eqVal.f; rw [if_pos rfl, if_pos rfl]) (Ev.pos rfl (Ev.neg (by simp) (Ev.now _)))
end Go.Proofs.Ytdnpbpgnehaebaa.Pure
