/- One operation of a region by hand: a call, a store. -/
import Derived.Test.YtfhomgggbhjglaaSxAl
namespace Go.Sx
open Go.RowKit
theorem op_hand {P : Program} {r0 : Option Nat} {ops : Array Oper} {Q : Exit → Act → World → Prop} {i : Nat} {rest : List Nat} {o : Oper} {a : Act} {w : World} (hi : ops[i]? = some o) (hg : o.guard = none) (hd : ∀ c,o.op ≠ .defer c)
    (h : Does P (execOp a.eval o) w fun v w' => wpOpsIn (FR r0) 0 P ops Q rest (a.put o.dst v) w') : wpOpsIn (FR r0) 0 P ops Q (i :: rest) a w:=by
  have hw : Region.wanted o (yielded ops a.tmps) = true:=by simp [Region.wanted,hg]
  simp only [wpOpsIn,hi]
  rw [hw,if_pos rfl]
  exact wpIn_of_does hd h
theorem call_hand {P : Program} {r0 : Option Nat} {ops : Array Oper} {Q : Exit → Act → World → Prop} {i : Nat} {rest : List Nat} {o : Oper} {a : Act} {w : World} {f : FuncId} {xs : Array Operand} {ts : Array TypeId} (hi : ops[i]? = some o) (hg : o.guard = none)
    (ho : o.op = .call { callee:=.value (.func f),args:=xs,argTypes:=ts }) (hent : entB P f = true) (hb : Nat.ble 4294967296 f = false)
    (h : Calls P f (xs.map a.eval) w fun e w' => ∃ v,e = .returned v ∧ wpOpsIn (FR r0) 0 P ops Q rest (a.put o.dst v) w') : wpOpsIn (FR r0) 0 P ops Q (i :: rest) a w:=by
  refine op_hand hi hg (fun c hc => by rw [ho] at hc; cases hc) ?_
  refine Does.enter (f:=f) (args:=xs.map a.eval) (w':=w) ?_ h
  unfold execOp
  simp only [ho,resolve]
  have e:=entB_run hent (xs.map a.eval) w
  have e0 : a.eval (.func f) = .func (.func f) #[] #[]:=by
    simp [Act.eval]
  simp only [e0,Deferred.ofValue,Sem.run_bind,Sem.run_pure,Result.andThen_ok,invoke]
  simpa using e
theorem store_hand {P : Program} {r0 : Option Nat} {ops : Array Oper} {Q : Exit → Act → World → Prop} {i : Nat} {rest : List Nat} {o : Oper} {a : Act} {w w' : World} {t : TypeId} {x y : Operand} (hi : ops[i]? = some o) (hg : o.guard = none)
    (ho : o.op = .store t x y) (hr : (execOp a.eval o).run P w = .ok .skip w') (h : wpOpsIn (FR r0) 0 P ops Q rest (a.put o.dst undef) w') : wpOpsIn (FR r0) 0 P ops Q (i :: rest) a w :=
  op_hand hi hg (fun c hc => by rw [ho] at hc; cases hc) (Does.skip hr h)
end Go.Sx
