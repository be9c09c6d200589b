-- Printed by the session (wip/myprint.py).
import Derived.Test.YthfgdcnngklfoaaProg
import Derived.Below
import Derived.Deep.Draws
import Derived.Deep.AppendLies
import Derived.Maps.AppendAt
import Derived.OwnWalk
import Derived.Laws.BytesArg
import Derived.Laws.MakeOwn
import Derived.Laws.OwnMore
import Derived.Deep.OwnRows
import Derived.Tactics
import Derived.Lib.ConvBytes
import Derived.Laws.Slices
import Derived.WalkKit
import Derived.KernelRfl
import Derived.RowKit3
import Derived.Deep.LoopGhost
import Derived.Deep.QuietTactic
import Derived.BigQuiet
import Derived.WideLaws
import Derived.Deep.DeepCutAuto
import Derived.Deep.CutBlock
import Derived.Deep.RegionHeld3
import Derived.Laws.Rows
import Derived.Lib.AppendStr
import Derived.ArgAppend
import Derived.Laws.IdiomCopy
import Derived.OrdersHeld
import Derived.Laws.BitsLemmas
import Derived.RowKit
import Derived.Test.YthfgdcnngklfoaaWWords
import Derived.Test.YthfgdcnngklfoaaWLast
import Derived.Test.YthfgdcnngklfoaaWTab
import Derived.Test.YthfgdcnngklfoaaWFour
import Derived.Test.YthfgdcnngklfoaaWQPut
import Derived.Test.YthfgdcnngklfoaaWApart
import Derived.Test.YthfgdcnngklfoaaWArr
import Derived.Test.YthfgdcnngklfoaaWZeros
import Derived.Test.YthfgdcnngklfoaaWFoot
import Derived.Test.YthfgdcnngklfoaaWKept
import Derived.Test.YthfgdcnngklfoaaWShare
import Derived.Test.YthfgdcnngklfoaaWN
import Derived.Test.YthfgdcnngklfoaaWFootNe
import Derived.Test.YthfgdcnngklfoaaWAt
import Derived.Test.YthfgdcnngklfoaaWEqStruct
import Derived.Test.YthfgdcnngklfoaaWRepsOne
import Derived.Test.YthfgdcnngklfoaaWInv
import Derived.Test.YthfgdcnngklfoaaWInvWords
import Derived.Test.YthfgdcnngklfoaaWGuard
import Derived.Test.YthfgdcnngklfoaaWNEv
import Derived.Test.YthfgdcnngklfoaaWMore
namespace Go.Proofs.Ythfgdcnngklfoaa.PFnBreakEven
open Go.RowKit Go.Proofs.YthfgdcnngklfoaaW.PrintWords Go.Proofs.YthfgdcnngklfoaaW.PrintLast Go.Proofs.YthfgdcnngklfoaaW.PrintMore
attribute [local go_sem] max2_int min2_int max_two min_two max_three min_three max_four min_four   -- for this text's walks alone
set_option linter.unusedVariables false
set_option linter.unusedSimpArgs false



def errW : Option Int → Value
  | none => .nilIface
  | some c => .iface 0 (.int .i64 c)
theorem errW_none : errW none = .nilIface := rfl
theorem errW_some (c : Int) : errW (some c) = .iface 0 (.int .i64 c) := rfl

theorem info2 : (Try.prog.info? 2).map (fun i => (i.zero, i.size, i.bytes)) = some (some (.int .i64 0), 1, 8) := by kernel_rfl
-- the values' own types

section
variable {P : Program} {ops : Array Oper} {rest : List Oper} {o : Oper} {a : Act} {Q : Exit → Act → World → Prop} {W : World}
/-- A call of a function value that is known (a cheap look ahead of a dear step). -/
theorem gate_calleeV {f : FuncId} {x : Operand} {xs : Array Operand} {ts : Array TypeId} (_ho : o.op = .call { callee := .value x, args := xs, argTypes := ts }) (_hv : a.eval x = .func (.func f) #[] #[]) (h : wpList P ops Q (o :: rest) a W) : wpList P ops Q (o :: rest) a W := h
/-- A call of a function value in a plain region. -/
theorem goesV_ {oi : Oper} {w : World} (N : Option Tmp) (hd : oi.dst = N) (hg : oi.guard = none) {f : FuncId} {fn : Func} {x : Operand} {xs : Array Operand} {ts : Array TypeId} (hf : P.funcs[f]? = some fn) (hname : (fn.name == "runtime.NumGoroutine") = false) (hb : fn.body.isSome = true) (args : Array Value)
    (hop : oi.op = .call { callee := .value x, args := xs, argTypes := ts }) (hv : a.eval x = .func (.func f) #[] #[]) (hargs : xs.map a.eval = args)
    (h : Calls P f args w fun e w' => ∃ v, e = .returned v ∧ wpList P ops Q rest (a.put N v) w') : wpList P ops Q (oi :: rest) a w := by
  refine wpList_plain hg fun K hK => ?_
  have he := enters_ hf hname hb args w
  have hrun : (execOp a.eval oi).run P w = .ok (.enter f args) w := by
    unfold execOp
    simp [hop, resolve, Deferred.ofValue, invoke, hv, hargs, he]
  unfold Oper.wp
  rw [hrun, Oper.upon_enter]
  refine h.mono fun e w'' hh => ?_
  obtain ⟨v, rfl, hk⟩ := hh
  subst hd
  exact hK _ _ hk
end
end Go.Proofs.Ythfgdcnngklfoaa.PFnBreakEven
