/- Small laws beside the print's words: a store over a store into one cell, read back; what holds from some number of rounds on (Ev), over tests and binds. No condition. -/
import Derived.Test.YtepjadcnnakpoaaWWords
import Derived.Test.YtepjadcnnakpoaaWLast
import Derived.Test.YtepjadcnnakpoaaWMore
namespace Go.Proofs.Ytepjadcnnakpoaa.Aid
open Go.RowKit Go.Proofs.YtepjadcnnakpoaaW.PrintWords
theorem cell_twice (w : World) (a : Addr) (v v' : Value) (h : (w.cell? a).isSome = true) : ((w.setCell a v).setCell a v').cell? a = some v' :=
  World.cell?_setCell_same' _ a v' (by rw [World.cell?_setCell_same' w a v h]; rfl)
/-- The operation is a call of a value in a place. -/
theorem gate_calleeT {P : Program} {ops : Array Oper} {Q : Exit → Act → World → Prop} {o : Oper} {rest : List Oper} {a : Act} {W : World} {p : Tmp} {as : Array Operand} {ts : Array TypeId} (_ho : o.op = .call { callee := .value (.tmp p), args := as, argTypes := ts }) (h : wpList P ops Q (o :: rest) a W) : wpList P ops Q (o :: rest) a W := h
open Go.Proofs.YtepjadcnnakpoaaW.PrintLast in
/-- A call of a value that is a known function, in a plain region. -/
theorem goesT_ {P : Program} {ops : Array Oper} {Q : Exit → Act → World → Prop} {rest : List Oper} {oi : Oper} {a : Act} {w : World} (N : Option Tmp) (hd : oi.dst = N) (hg : oi.guard = none) {f : FuncId} {fn : Func} {cv : Operand} {as : Array Operand} {ts : Array TypeId} (hf : P.funcs[f]? = some fn) (hname : (fn.name == "runtime.NumGoroutine") = false) (hb : fn.body.isSome = true) (args : Array Value)
    (hop : oi.op = .call { callee := .value cv, args := as, argTypes := ts }) (hcv : a.eval cv = .func (.func f) #[] #[]) (hargs : as.map a.eval = args)
    (h : Calls P f args w fun e w' => ∃ v, e = .returned v ∧ wpList P ops Q rest (a.put N v) w') : wpList P ops Q (oi :: rest) a w := by
  refine wpList_plain hg fun K hK => ?_
  have he := enters_ hf hname hb args w
  have hrun : (execOp a.eval oi).run P w = .ok (.enter f args) w := by
    unfold execOp
    simp [hop, resolve, Deferred.ofValue, invoke, hcv, hargs, he]
  unfold Oper.wp
  rw [hrun, Oper.upon_enter]
  refine h.mono fun e w'' hh => ?_
  obtain ⟨v, rfl, hk⟩ := hh
  subst hd
  exact hK _ _ hk
end Go.Proofs.Ytepjadcnnakpoaa.Aid
