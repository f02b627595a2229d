/- A call of a function, as one step of a region that draws its order. Conditions: none. -/
import Derived.Test.YtjflllfkgbhemaaVt
namespace Go.Proofs.Ytjflllfkgbhemaa
open Go.RowKit
theorem step_call {P : Program} {ops : Array Oper} {o : Oper} {a : Act} {w : World} {K : Act → World → Prop} {Q : Exit → Act → World → Prop} {E : Prop}
    (hg : o.guard = none) (f : Nat) (x : Operand) (t : TypeId) (hop : o.op = Op.call { callee := Callee.value (Operand.func f), args := #[x], argTypes := #[t] })
    (F : Func) (hF : P.funcs[f]? = some F) (hF1 : F.name ≠ "runtime.NumGoroutine") (hF2 : F.body ≠ none) (v : Value) (hx : a.eval x = v) (R : Value → World → Prop) (hc : Calls P f #[v] w fun e w' => ∃ v', e = .returned v' ∧ R v' w') (hK : ∀ v' w', R v' w' → K (a.put o.dst v') w') :
    if Region.wanted o (yielded ops a.tmps) = true then Oper.wp P o a w K Q else E := by
  have hw : Region.wanted o (yielded ops a.tmps) = true := by simp [Region.wanted, hg]
  rw [if_pos hw]
  obtain ⟨fv, hf⟩ : ∃ fv, a.eval (Operand.func f) = fv := ⟨_, rfl⟩
  have hf2 := hf
  simp only [Act.eval] at hf2
  subst hf2
  unfold Oper.wp
  simp [execOp, hop, resolve, invoke, hx, hf, Deferred.ofValue, callFunc, hF, hF1, hF2, Result.andThen]
  refine hc.mono ?_
  rintro e w' ⟨v', rfl, hr⟩
  exact hK v' w' hr
end Go.Proofs.Ytjflllfkgbhemaa
