/-
  The contract of mewstop.lives: it tells true, whatever stands in memory. No condition.
-/
import Derived.Test.YtmnpfkdiknfkoaaN1
import Derived.Test.YtmnpfkdiknfkoaaG1
import Derived.Test.YtmnpfkdiknfkoaaFB1
namespace Go.Proofs.Ytmnpfkdiknfkoaa
open Go Go.Proofs.Ytmnpfkdiknfkoaa.Sx
theorem t15 : TriP Try.prog 15 [] (.one (.sc .bool)) true := by
  intro x F K h
  suffices Ent x F (f15.m K) from fun w hw => f15.ok K (this w hw)
  unfold f15.m
  refine t136 (-7) (by omega) (by omega) x F _ ?_
  have e : textS (-7) = ⟨#[45, 55]⟩ := by decide +kernel
  rw [e]
  refine Ent.ifT (by simp) ?_
  refine t20 ⟨#[104, 91, 97, 45, 99, 93, 108, 108, 111, 42]⟩ ⟨#[104, 98, 108, 108, 111, 33]⟩ (by decide) (by decide) 30 true (by decide +kernel) x F _ ?_
  refine Ent.ifT rfl ?_
  exact t20 ⟨#[104, 91, 97, 45, 99, 93, 108, 108, 111, 42]⟩ ⟨#[104, 100, 108, 108, 111]⟩ (by decide) (by decide) 30 false (by decide +kernel) x F _ h
end Go.Proofs.Ytmnpfkdiknfkoaa
