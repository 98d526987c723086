/-
  The contracts of bucket.Take and bucket.When. No condition.
-/
import Derived.Test.YtmnpfkdiknfkoaaB1
namespace Go.Proofs.Ytmnpfkdiknfkoaa
open Go Go.Proofs.Ytmnpfkdiknfkoaa.Sx
def takeS (left last b r now : Int) : (Int × Int) × Bool :=
  if (fillS left last b r now).1 = 0 then (fillS left last b r now, false)
  else ((IntKind.i64.wrap ((fillS left last b r now).1 - 1), (fillS left last b r now).2), true)
theorem t13 (left last b r now : Int) : TriP Try.prog 13 [.agg #[.int .i64 left, .int .i64 last], .int .i64 b, .int .i64 r, .int .i64 now] (.tup [.agg [.int .i64, .int .i64], .sc .bool])
    (((takeS left last b r now).1.1, (takeS left last b r now).1.2, ()), (takeS left last b r now).2, ()) := by
  intro x F K h
  suffices Ent x F (f13.m (left, last, ()) b r now K) from fun w hw => f13.ok (left, last, ()) b r now K (this w hw)
  unfold f13.m
  rw [zc24]
  refine Ent.new fun r4 => Ent.new fun r8 => Ent.ldA (left, last, ()) ?_
  refine t12 left last b r now x _ _ ?_
  unfold takeS at h
  generalize fillS left last b r now = q at h ⊢
  obtain ⟨a, c⟩ := q
  refine Ent.st #[.int .i64 a, .int .i64 c] ?_
  refine Ent.ld a ?_
  refine Ent.ifP (fun h1 => ?_) (fun h1 => ?_)
  · have h1 : a = 0 := by simpa using h1
    rw [if_pos h1] at h
    refine Ent.ldA (a, c, ()) ?_
    refine Ent.st #[.int .i64 a, .int .i64 c] (Ent.rdA (a, c, ()) ?_)
    exact Ent.imp (Imp.drop_left _ _) (Ent.imp (Imp.drop_left _ _) h)
  · have h1 : ¬ a = 0 := by simpa using h1
    rw [if_neg h1] at h
    refine Ent.ld a ?_
    refine Ent.st #[.int .i64 (IntKind.i64.wrap (a - 1)), .int .i64 c] ?_
    refine Ent.ldA (IntKind.i64.wrap (a - 1), c, ()) ?_
    refine Ent.st #[.int .i64 (IntKind.i64.wrap (a - 1)), .int .i64 c] (Ent.rdA (IntKind.i64.wrap (a - 1), c, ()) ?_)
    exact Ent.imp (Imp.drop_left _ _) (Ent.imp (Imp.drop_left _ _) h)
def whenS (left last b r : Int) : Int := if (fillS left last b r last).1 > 0 then 0 else if each r > 0 then 1 else -1
theorem t14 (left last b r : Int) : TriP Try.prog 14 [.agg #[.int .i64 left, .int .i64 last], .int .i64 b, .int .i64 r] (.one (.sc (.int .i64))) (whenS left last b r) := by
  intro x F K h
  suffices Ent x F (f14.m (left, last, ()) b r K) from fun w hw => f14.ok (left, last, ()) b r K (this w hw)
  unfold f14.m
  refine Ent.new fun r3 => t134 _ _ x _ _ (Ent.ldA (left, last, ()) (Ent.ld last (t12 left last b r last x _ _ ?_)))
  unfold whenS at h
  have h := Ent.imp (Imp.drop_left (pt r3 (.cells #[.int .i64 left, .int .i64 last] 24)) F) h
  refine Ent.ifP (fun h1 => ?_) (fun h1 => ?_)
  · rw [if_pos (of_decide_eq_true h1)] at h; exact h
  · rw [if_neg (of_decide_eq_false h1)] at h
    refine Ent.ifP (fun h2 => ?_) (fun h2 => ?_)
    · rw [if_pos (of_decide_eq_true h2)] at h; exact h
    · rw [if_neg (of_decide_eq_false h2)] at h; exact h
end Go.Proofs.Ytmnpfkdiknfkoaa
