/- A whole block loaded at once, at the operation. -/
import Derived.Test.YtpoekljclapbfaaGsFits
namespace Go.Proofs.Ytpoekljclapbfaa.Gs
theorem wp_load {P : Program} {o : Oper} {a : Act} {w : World} {K : Act → World → Prop} {Q : Exit → Act → World → Prop} {t : TypeId} {x : Operand} {b : Nat} {cs : Array Value} (ho : o.op = .load t x) (hx : a.eval x = .pointer (some ⟨b, 0, none⟩))
    (h : (loadVar t ⟨b, 0, none⟩).run P w = .ok (.agg cs) w) (hk : K (a.put o.dst (.agg cs)) w) : Oper.wp P o a w K Q := by
  unfold Oper.wp
  have e : (execOp a.eval o).run P w = .ok (.value (.agg cs)) w := by
    unfold execOp
    rw [ho]
    simp only [hx, Instr.loadAt, Instr.sureAddr, Sem.run_bind, Sem.run_pure, Result.andThen, h]
  rw [e]
  exact hk
end Go.Proofs.Ytpoekljclapbfaa.Gs
