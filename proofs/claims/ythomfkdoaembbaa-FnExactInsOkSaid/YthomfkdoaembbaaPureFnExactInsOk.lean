/- Proved: the law FnExactInsOk answers true: the program's InsOk and the reference's agree at all instructions. No condition. -/
import Derived.Test.YthomfkdoaembbaaPFnExactInsOkx2
namespace Go.Proofs.Ythomfkdoaembbaa.Pure
open Go.RowKit Go.Proofs.Ythomfkdoaembbaa.PFnExactInsOk Go.Proofs.YthomfkdoaembbaaW.PrintWords Go.Proofs.YthomfkdoaembbaaW.PrintLast
theorem one_ (m : Int) (a b : Int) : HOk.okAt [⟨m, false⟩] 0 a = (decide (0 ≤ a) && decide (a < m)) ∧ HOk.okAt [⟨m, false⟩] 1 b = (b == 0) := by
  constructor <;> simp [HOk.okAt, HOk.okOp]
theorem of_ (m : Int) (a b : Int) : HOk.okAt [⟨m, true⟩] 0 a = (decide (-2 ≤ a) && decide (a < m)) ∧ HOk.okAt [⟨m, true⟩] 1 b = (b == 0) := by
  constructor <;> simp [HOk.okAt, HOk.okOp]
theorem two_ (m n : Int) (a b : Int) : HOk.okAt [⟨m, false⟩, ⟨n, false⟩] 0 a = (decide (0 ≤ a) && decide (a < m)) ∧ HOk.okAt [⟨m, false⟩, ⟨n, false⟩] 1 b = (decide (0 ≤ b) && decide (b < n)) := by
  constructor <;> simp [HOk.okAt, HOk.okOp]
theorem nil_ (a b : Int) : HOk.okAt [] 0 a = (a == 0) ∧ HOk.okAt [] 1 b = (b == 0) := by
  constructor <;> simp [HOk.okAt]
def want (c m : Int) (io : Bool) (a b : Int) : Bool :=
  if c = 0 then (a == 0) && (b == 0) else (if io = true then decide (-2 ≤ a) && decide (a < 8) else decide (0 ≤ a) && decide (a < m)) && (if c = 2 then decide (0 ≤ b) && decide (b < 4) else (b == 0))
theorem shape (op a b c m : Int) (io : Bool) (h1 : 1 ≤ op) (h2 : op ≤ 33) (H : spec_InsHas.f 7 op = some c) (M : spec_l2Most.f 6 op = some m) (I : spec_l2IsOf.f op = some io) (hc : c = 0 ∨ c = 1 ∨ c = 2 := by omega) : spec_InsOk.f 8 op a b = some (want c m io a b) := by
  unfold spec_InsOk.f
  rw [if_neg (by omega)]
  have e : decide (op > 33) = false := decide_eq_false (by omega)
  rw [e]
  simp only [spec_InsOk.j0, spec_InsOk.j1, H, M, I, Option.bind_some, spec_l1Of.f]
  unfold want
  rcases hc with rfl | rfl | rfl <;> cases io <;> simp <;> (repeat' split) <;> (first | omega | (simp_all; done) | (simp_all; omega) | (rw [Bool.eq_iff_iff]; simp [*]; omega) | (rw [Bool.eq_iff_iff]; simp_all; omega))
theorem spec_ok (op a b : Int) : spec_InsOk.f 8 op a b = some (HOk.insOk op a b) := by
  by_cases h : 1 ≤ op ∧ op ≤ 33
  · have h33 : op = 1 ∨ op = 2 ∨ op = 3 ∨ op = 4 ∨ op = 5 ∨ op = 6 ∨ op = 7 ∨ op = 8 ∨ op = 9 ∨ op = 10 ∨ op = 11 ∨ op = 12 ∨ op = 13 ∨ op = 14 ∨ op = 15 ∨ op = 16 ∨ op = 17 ∨ op = 18 ∨ op = 19 ∨ op = 20 ∨ op = 21 ∨ op = 22 ∨ op = 23 ∨ op = 24 ∨ op = 25 ∨ op = 26 ∨ op = 27 ∨ op = 28 ∨ op = 29 ∨ op = 30 ∨ op = 31 ∨ op = 32 ∨ op = 33 := by omega
    rcases h33 with rfl | rfl | rfl | rfl | rfl | rfl | rfl | rfl | rfl | rfl | rfl | rfl | rfl | rfl | rfl | rfl | rfl | rfl | rfl | rfl | rfl | rfl | rfl | rfl | rfl | rfl | rfl | rfl | rfl | rfl | rfl | rfl | rfl
    · exact (shape 1 a b 1 9973 false (by omega) (by omega) rfl rfl rfl).trans (congrArg some (by rw [show HOk.insOk 1 a b = (HOk.okAt (HForms.has 1) 0 a && HOk.okAt (HForms.has 1) 1 b) from rfl]; show _ = (HOk.okAt _ 0 a && HOk.okAt _ 1 b); simp only [HForms.has]; rw [(one_ 9973 a b).1, (one_ 9973 a b).2]; rfl))
    · exact (shape 2 a b 1 6 false (by omega) (by omega) rfl rfl rfl).trans (congrArg some (by rw [show HOk.insOk 2 a b = (HOk.okAt (HForms.has 2) 0 a && HOk.okAt (HForms.has 2) 1 b) from rfl]; show _ = (HOk.okAt _ 0 a && HOk.okAt _ 1 b); simp only [HForms.has]; rw [(one_ 6 a b).1, (one_ 6 a b).2]; rfl))
    · exact (shape 3 a b 1 6 false (by omega) (by omega) rfl rfl rfl).trans (congrArg some (by rw [show HOk.insOk 3 a b = (HOk.okAt (HForms.has 3) 0 a && HOk.okAt (HForms.has 3) 1 b) from rfl]; show _ = (HOk.okAt _ 0 a && HOk.okAt _ 1 b); simp only [HForms.has]; rw [(one_ 6 a b).1, (one_ 6 a b).2]; rfl))
    · exact (shape 4 a b 1 3 false (by omega) (by omega) rfl rfl rfl).trans (congrArg some (by rw [show HOk.insOk 4 a b = (HOk.okAt (HForms.has 4) 0 a && HOk.okAt (HForms.has 4) 1 b) from rfl]; show _ = (HOk.okAt _ 0 a && HOk.okAt _ 1 b); simp only [HForms.has]; rw [(one_ 3 a b).1, (one_ 3 a b).2]; rfl))
    · exact (shape 5 a b 1 3 false (by omega) (by omega) rfl rfl rfl).trans (congrArg some (by rw [show HOk.insOk 5 a b = (HOk.okAt (HForms.has 5) 0 a && HOk.okAt (HForms.has 5) 1 b) from rfl]; show _ = (HOk.okAt _ 0 a && HOk.okAt _ 1 b); simp only [HForms.has]; rw [(one_ 3 a b).1, (one_ 3 a b).2]; rfl))
    · exact (shape 6 a b 0 8 false (by omega) (by omega) rfl rfl rfl).trans (congrArg some (by rw [show HOk.insOk 6 a b = (HOk.okAt (HForms.has 6) 0 a && HOk.okAt (HForms.has 6) 1 b) from rfl]; show _ = (HOk.okAt _ 0 a && HOk.okAt _ 1 b); simp only [HForms.has]; rw [(nil_ a b).1, (nil_ a b).2]; rfl))
    · exact (shape 7 a b 0 8 false (by omega) (by omega) rfl rfl rfl).trans (congrArg some (by rw [show HOk.insOk 7 a b = (HOk.okAt (HForms.has 7) 0 a && HOk.okAt (HForms.has 7) 1 b) from rfl]; show _ = (HOk.okAt _ 0 a && HOk.okAt _ 1 b); simp only [HForms.has]; rw [(nil_ a b).1, (nil_ a b).2]; rfl))
    · exact (shape 8 a b 0 8 false (by omega) (by omega) rfl rfl rfl).trans (congrArg some (by rw [show HOk.insOk 8 a b = (HOk.okAt (HForms.has 8) 0 a && HOk.okAt (HForms.has 8) 1 b) from rfl]; show _ = (HOk.okAt _ 0 a && HOk.okAt _ 1 b); simp only [HForms.has]; rw [(nil_ a b).1, (nil_ a b).2]; rfl))
    · exact (shape 9 a b 0 8 false (by omega) (by omega) rfl rfl rfl).trans (congrArg some (by rw [show HOk.insOk 9 a b = (HOk.okAt (HForms.has 9) 0 a && HOk.okAt (HForms.has 9) 1 b) from rfl]; show _ = (HOk.okAt _ 0 a && HOk.okAt _ 1 b); simp only [HForms.has]; rw [(nil_ a b).1, (nil_ a b).2]; rfl))
    · exact (shape 10 a b 0 8 false (by omega) (by omega) rfl rfl rfl).trans (congrArg some (by rw [show HOk.insOk 10 a b = (HOk.okAt (HForms.has 10) 0 a && HOk.okAt (HForms.has 10) 1 b) from rfl]; show _ = (HOk.okAt _ 0 a && HOk.okAt _ 1 b); simp only [HForms.has]; rw [(nil_ a b).1, (nil_ a b).2]; rfl))
    · exact (shape 11 a b 0 8 false (by omega) (by omega) rfl rfl rfl).trans (congrArg some (by rw [show HOk.insOk 11 a b = (HOk.okAt (HForms.has 11) 0 a && HOk.okAt (HForms.has 11) 1 b) from rfl]; show _ = (HOk.okAt _ 0 a && HOk.okAt _ 1 b); simp only [HForms.has]; rw [(nil_ a b).1, (nil_ a b).2]; rfl))
    · exact (shape 12 a b 1 8 true (by omega) (by omega) rfl rfl rfl).trans (congrArg some (by rw [show HOk.insOk 12 a b = (HOk.okAt (HForms.has 12) 0 a && HOk.okAt (HForms.has 12) 1 b) from rfl]; show _ = (HOk.okAt _ 0 a && HOk.okAt _ 1 b); simp only [HForms.has]; rw [(of_ 8 a b).1, (of_ 8 a b).2]; rfl))
    · exact (shape 13 a b 1 8 false (by omega) (by omega) rfl rfl rfl).trans (congrArg some (by rw [show HOk.insOk 13 a b = (HOk.okAt (HForms.has 13) 0 a && HOk.okAt (HForms.has 13) 1 b) from rfl]; show _ = (HOk.okAt _ 0 a && HOk.okAt _ 1 b); simp only [HForms.has]; rw [(one_ 8 a b).1, (one_ 8 a b).2]; rfl))
    · exact (shape 14 a b 2 8 false (by omega) (by omega) rfl rfl rfl).trans (congrArg some (by rw [show HOk.insOk 14 a b = (HOk.okAt (HForms.has 14) 0 a && HOk.okAt (HForms.has 14) 1 b) from rfl]; show _ = (HOk.okAt _ 0 a && HOk.okAt _ 1 b); simp only [HForms.has]; rw [(two_ 8 4 a b).1, (two_ 8 4 a b).2]; rfl))
    · exact (shape 15 a b 2 8 false (by omega) (by omega) rfl rfl rfl).trans (congrArg some (by rw [show HOk.insOk 15 a b = (HOk.okAt (HForms.has 15) 0 a && HOk.okAt (HForms.has 15) 1 b) from rfl]; show _ = (HOk.okAt _ 0 a && HOk.okAt _ 1 b); simp only [HForms.has]; rw [(two_ 8 4 a b).1, (two_ 8 4 a b).2]; rfl))
    · exact (shape 16 a b 1 8 false (by omega) (by omega) rfl rfl rfl).trans (congrArg some (by rw [show HOk.insOk 16 a b = (HOk.okAt (HForms.has 16) 0 a && HOk.okAt (HForms.has 16) 1 b) from rfl]; show _ = (HOk.okAt _ 0 a && HOk.okAt _ 1 b); simp only [HForms.has]; rw [(one_ 8 a b).1, (one_ 8 a b).2]; rfl))
    · exact (shape 17 a b 1 8 false (by omega) (by omega) rfl rfl rfl).trans (congrArg some (by rw [show HOk.insOk 17 a b = (HOk.okAt (HForms.has 17) 0 a && HOk.okAt (HForms.has 17) 1 b) from rfl]; show _ = (HOk.okAt _ 0 a && HOk.okAt _ 1 b); simp only [HForms.has]; rw [(one_ 8 a b).1, (one_ 8 a b).2]; rfl))
    · exact (shape 18 a b 1 8 false (by omega) (by omega) rfl rfl rfl).trans (congrArg some (by rw [show HOk.insOk 18 a b = (HOk.okAt (HForms.has 18) 0 a && HOk.okAt (HForms.has 18) 1 b) from rfl]; show _ = (HOk.okAt _ 0 a && HOk.okAt _ 1 b); simp only [HForms.has]; rw [(one_ 8 a b).1, (one_ 8 a b).2]; rfl))
    · exact (shape 19 a b 1 8 false (by omega) (by omega) rfl rfl rfl).trans (congrArg some (by rw [show HOk.insOk 19 a b = (HOk.okAt (HForms.has 19) 0 a && HOk.okAt (HForms.has 19) 1 b) from rfl]; show _ = (HOk.okAt _ 0 a && HOk.okAt _ 1 b); simp only [HForms.has]; rw [(one_ 8 a b).1, (one_ 8 a b).2]; rfl))
    · exact (shape 20 a b 0 8 false (by omega) (by omega) rfl rfl rfl).trans (congrArg some (by rw [show HOk.insOk 20 a b = (HOk.okAt (HForms.has 20) 0 a && HOk.okAt (HForms.has 20) 1 b) from rfl]; show _ = (HOk.okAt _ 0 a && HOk.okAt _ 1 b); simp only [HForms.has]; rw [(nil_ a b).1, (nil_ a b).2]; rfl))
    · exact (shape 21 a b 0 8 false (by omega) (by omega) rfl rfl rfl).trans (congrArg some (by rw [show HOk.insOk 21 a b = (HOk.okAt (HForms.has 21) 0 a && HOk.okAt (HForms.has 21) 1 b) from rfl]; show _ = (HOk.okAt _ 0 a && HOk.okAt _ 1 b); simp only [HForms.has]; rw [(nil_ a b).1, (nil_ a b).2]; rfl))
    · exact (shape 22 a b 1 8 true (by omega) (by omega) rfl rfl rfl).trans (congrArg some (by rw [show HOk.insOk 22 a b = (HOk.okAt (HForms.has 22) 0 a && HOk.okAt (HForms.has 22) 1 b) from rfl]; show _ = (HOk.okAt _ 0 a && HOk.okAt _ 1 b); simp only [HForms.has]; rw [(of_ 8 a b).1, (of_ 8 a b).2]; rfl))
    · exact (shape 23 a b 1 8 true (by omega) (by omega) rfl rfl rfl).trans (congrArg some (by rw [show HOk.insOk 23 a b = (HOk.okAt (HForms.has 23) 0 a && HOk.okAt (HForms.has 23) 1 b) from rfl]; show _ = (HOk.okAt _ 0 a && HOk.okAt _ 1 b); simp only [HForms.has]; rw [(of_ 8 a b).1, (of_ 8 a b).2]; rfl))
    · exact (shape 24 a b 0 8 false (by omega) (by omega) rfl rfl rfl).trans (congrArg some (by rw [show HOk.insOk 24 a b = (HOk.okAt (HForms.has 24) 0 a && HOk.okAt (HForms.has 24) 1 b) from rfl]; show _ = (HOk.okAt _ 0 a && HOk.okAt _ 1 b); simp only [HForms.has]; rw [(nil_ a b).1, (nil_ a b).2]; rfl))
    · exact (shape 25 a b 1 30 false (by omega) (by omega) rfl rfl rfl).trans (congrArg some (by rw [show HOk.insOk 25 a b = (HOk.okAt (HForms.has 25) 0 a && HOk.okAt (HForms.has 25) 1 b) from rfl]; show _ = (HOk.okAt _ 0 a && HOk.okAt _ 1 b); simp only [HForms.has]; rw [(one_ 30 a b).1, (one_ 30 a b).2]; rfl))
    · exact (shape 26 a b 1 30 false (by omega) (by omega) rfl rfl rfl).trans (congrArg some (by rw [show HOk.insOk 26 a b = (HOk.okAt (HForms.has 26) 0 a && HOk.okAt (HForms.has 26) 1 b) from rfl]; show _ = (HOk.okAt _ 0 a && HOk.okAt _ 1 b); simp only [HForms.has]; rw [(one_ 30 a b).1, (one_ 30 a b).2]; rfl))
    · exact (shape 27 a b 1 5 false (by omega) (by omega) rfl rfl rfl).trans (congrArg some (by rw [show HOk.insOk 27 a b = (HOk.okAt (HForms.has 27) 0 a && HOk.okAt (HForms.has 27) 1 b) from rfl]; show _ = (HOk.okAt _ 0 a && HOk.okAt _ 1 b); simp only [HForms.has]; rw [(one_ 5 a b).1, (one_ 5 a b).2]; rfl))
    · exact (shape 28 a b 1 5 false (by omega) (by omega) rfl rfl rfl).trans (congrArg some (by rw [show HOk.insOk 28 a b = (HOk.okAt (HForms.has 28) 0 a && HOk.okAt (HForms.has 28) 1 b) from rfl]; show _ = (HOk.okAt _ 0 a && HOk.okAt _ 1 b); simp only [HForms.has]; rw [(one_ 5 a b).1, (one_ 5 a b).2]; rfl))
    · exact (shape 29 a b 0 8 false (by omega) (by omega) rfl rfl rfl).trans (congrArg some (by rw [show HOk.insOk 29 a b = (HOk.okAt (HForms.has 29) 0 a && HOk.okAt (HForms.has 29) 1 b) from rfl]; show _ = (HOk.okAt _ 0 a && HOk.okAt _ 1 b); simp only [HForms.has]; rw [(nil_ a b).1, (nil_ a b).2]; rfl))
    · exact (shape 30 a b 0 8 false (by omega) (by omega) rfl rfl rfl).trans (congrArg some (by rw [show HOk.insOk 30 a b = (HOk.okAt (HForms.has 30) 0 a && HOk.okAt (HForms.has 30) 1 b) from rfl]; show _ = (HOk.okAt _ 0 a && HOk.okAt _ 1 b); simp only [HForms.has]; rw [(nil_ a b).1, (nil_ a b).2]; rfl))
    · exact (shape 31 a b 0 8 false (by omega) (by omega) rfl rfl rfl).trans (congrArg some (by rw [show HOk.insOk 31 a b = (HOk.okAt (HForms.has 31) 0 a && HOk.okAt (HForms.has 31) 1 b) from rfl]; show _ = (HOk.okAt _ 0 a && HOk.okAt _ 1 b); simp only [HForms.has]; rw [(nil_ a b).1, (nil_ a b).2]; rfl))
    · exact (shape 32 a b 0 8 false (by omega) (by omega) rfl rfl rfl).trans (congrArg some (by rw [show HOk.insOk 32 a b = (HOk.okAt (HForms.has 32) 0 a && HOk.okAt (HForms.has 32) 1 b) from rfl]; show _ = (HOk.okAt _ 0 a && HOk.okAt _ 1 b); simp only [HForms.has]; rw [(nil_ a b).1, (nil_ a b).2]; rfl))
    · exact (shape 33 a b 1 2 false (by omega) (by omega) rfl rfl rfl).trans (congrArg some (by rw [show HOk.insOk 33 a b = (HOk.okAt (HForms.has 33) 0 a && HOk.okAt (HForms.has 33) 1 b) from rfl]; show _ = (HOk.okAt _ 0 a && HOk.okAt _ 1 b); simp only [HForms.has]; rw [(one_ 2 a b).1, (one_ 2 a b).2]; rfl))
  · unfold HOk.insOk
    rw [if_neg h]
    by_cases h1 : op < 1
    · simp [spec_InsOk.f, spec_InsOk.j0, h1]
    · have h2 : op > 33 := by omega
      simp [spec_InsOk.f, spec_InsOk.j0, h1, h2]
theorem FnExactInsOk : laws_FnExactInsOk.Pure := by
  intro op a b _ _ _
  refine ⟨8, ?_⟩
  unfold laws_FnExactInsOk.f laws_toIns.f impl_InsOk.f
  simp [spec_ok]
end Go.Proofs.Ythomfkdoaembbaa.Pure
