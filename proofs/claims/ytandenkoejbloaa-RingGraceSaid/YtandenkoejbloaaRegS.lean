/- An acting operation that is not wanted. Plain: over any program. -/
import Derived.Test.YtandenkoejbloaaRegM
namespace Go.Proofs.Ytandenkoejbloaa
open Go
theorem t_actskip {P : Program} {ops : Array Oper} {Q : Exit → Act → World → Prop} {U : World → Prop} {bd : Nat → Bool} {i : Nat} {t r : PTree} {a a' : Act} {w : World} {dst : Option Tmp} {op : Op} {type : TypeId} {pos : String} {after : Array Edge} {guard : Option (Nat × Bool)}
    (ho : ops[i]? = some ⟨dst, op, type, pos, after, guard⟩) (hw : Region.wanted ⟨dst, op, type, pos, after, guard⟩ (yielded ops a.tmps) = false)
    (ha : a.put dst undef = a') (hU : U w) (h : wpT P ops Q U bd t a' w) (hr : wpT P ops Q U bd r a w) : wpT P ops Q U bd (.alt i t r) a w := by
  subst ha
  refine ⟨?_, hr⟩
  unfold wpOp
  simp only [ho, hw]
  exact ⟨hU, h⟩
end Go.Proofs.Ytandenkoejbloaa
