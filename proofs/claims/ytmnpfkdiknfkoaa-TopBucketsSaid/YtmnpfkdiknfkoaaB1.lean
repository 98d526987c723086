/-
  The contracts of package bucket: what New, Fill, Take, When give, whatever stands in memory. No condition.
-/
import Derived.Test.YtmnpfkdiknfkoaaT
import Derived.Test.YtmnpfkdiknfkoaaFB1
namespace Go.Proofs.Ytmnpfkdiknfkoaa
open Go Go.Proofs.Ytmnpfkdiknfkoaa.Sx

theorem zc24 : zc Try.prog 24 = #[.int .i64 0, .int .i64 0] := by kernel_rfl

theorem t213 (a b c : Int) : TriP Try.prog 213 [.int .i64 a, .int .i64 b, .int .i64 c] (.one (.sc (.int .i64))) (minI (maxI a b) c) :=
  fun _ _ K h w hw => f213.ok a b c K (h w hw)
theorem t135 (a b c : Int) : TriP Try.prog 135 [.int .i64 a, .int .i64 b, .int .i64 c] (.one (.sc (.int .i64))) (minI (maxI a b) c) :=
  fun _ _ K h w hw => f135.ok a b c K (h w hw)
def most (b : Int) : Int := minI (maxI b 1) 1073741824
def each (r : Int) : Int := minI (maxI r 0) 1048576
theorem t134 (b r : Int) : TriP Try.prog 134 [.int .i64 b, .int .i64 r] (.tup [.sc (.int .i64), .sc (.int .i64)]) (most b, each r, ()) := by
  intro x F K h
  suffices Ent x F (f134.m b r K) from fun w hw => f134.ok b r K (this w hw)
  unfold f134.m
  exact t213 _ _ _ x F _ (t213 _ _ _ x F _ h)
theorem t11 (b n : Int) : TriP Try.prog 11 [.int .i64 b, .int .i64 n] (.one (.agg [.int .i64, .int .i64])) (most b, n, ()) := by
  intro x F K h
  suffices Ent x F (f11.m b n K) from fun w hw => f11.ok b n K (this w hw)
  unfold f11.m
  rw [zc24]
  refine Ent.new fun r4 => t134 _ _ x _ _ ?_
  refine Ent.st #[.int .i64 (most b), .int .i64 n] ?_
  refine Ent.rdA (most b, n, ()) ?_
  exact Ent.imp (Imp.drop_left _ _) h
/-- a bucket at a time -/
def fillS (left last b r now : Int) : Int × Int :=
  if now ≤ last then (minI (maxI left 0) (most b), last)
  else if each r > 0 ∧ IntKind.u64.wrap (IntKind.u64.wrap now - IntKind.u64.wrap last) ≥ IntKind.u64.wrap (most b) then (most b, now)
  else if each r > 0 then (minI (IntKind.i64.wrap (minI (maxI left 0) (most b) + IntKind.i64.wrap (each r * IntKind.i64.wrap (IntKind.u64.wrap (IntKind.u64.wrap now - IntKind.u64.wrap last))))) (most b), now)
  else (minI (maxI left 0) (most b), now)
theorem t12 (left last b r now : Int) : TriP Try.prog 12 [.agg #[.int .i64 left, .int .i64 last], .int .i64 b, .int .i64 r, .int .i64 now] (.one (.agg [.int .i64, .int .i64]))
    ((fillS left last b r now).1, (fillS left last b r now).2, ()) := by
  intro x F K h
  suffices Ent x F (f12.m (left, last, ()) b r now K) from fun w hw => f12.ok (left, last, ()) b r now K (this w hw)
  unfold f12.m
  rw [zc24]
  refine Ent.new fun r4 => Ent.new fun r8 => t134 _ _ x _ _ ?_
  refine Ent.ld left ?_
  refine t135 _ _ _ x _ _ ?_
  refine Ent.st #[.int .i64 (minI (maxI left 0) (most b)), .int .i64 last] ?_
  refine Ent.ld last ?_
  refine Ent.ifP (fun h1 => ?_) (fun h1 => ?_)
  · refine Ent.ldA (minI (maxI left 0) (most b), last, ()) ?_
    refine Ent.st #[.int .i64 (minI (maxI left 0) (most b)), .int .i64 last] ?_
    refine Ent.rdA (minI (maxI left 0) (most b), last, ()) ?_
    have e : fillS left last b r now = (minI (maxI left 0) (most b), last) := if_pos (of_decide_eq_true h1)
    rw [e] at h
    exact Ent.imp (Imp.drop_left _ _) (Ent.imp (Imp.drop_left _ _) h)
  · have n1 := of_decide_eq_false h1
    refine Ent.ld last ?_
    have k10 : ∀ left', fillS left last b r now = (left', now) → Ent x (pt r8 (.cells #[.int .i64 0, .int .i64 0] 24) * (pt r4 (.cells #[.int .i64 left', .int .i64 last] 24) * F)) (f12.k10 K now r4 r8) := by
      intro left' e
      unfold f12.k10
      refine Ent.st #[.int .i64 left', .int .i64 now] ?_
      refine Ent.ldA (left', now, ()) ?_
      refine Ent.st #[.int .i64 left', .int .i64 now] ?_
      refine Ent.rdA (left', now, ()) ?_
      rw [e] at h
      exact Ent.imp (Imp.drop_left _ _) (Ent.imp (Imp.drop_left _ _) h)
    have e0 : fillS left last b r now = if each r > 0 ∧ IntKind.u64.wrap (IntKind.u64.wrap now - IntKind.u64.wrap last) ≥ IntKind.u64.wrap (most b) then (most b, now)
      else if each r > 0 then (minI (IntKind.i64.wrap (minI (maxI left 0) (most b) + IntKind.i64.wrap (each r * IntKind.i64.wrap (IntKind.u64.wrap (IntKind.u64.wrap now - IntKind.u64.wrap last))))) (most b), now)
      else (minI (maxI left 0) (most b), now) := if_neg n1
    show Ent x _ (Sx.ifP _ (f12.k7 _ _ _ _ _ _ _ _ _) (f12.k7 _ _ _ _ _ _ _ _ _))
    refine Ent.ifP (fun h2 => ?_) (fun h2 => ?_)
    · have h2 := of_decide_eq_true h2
      unfold f12.k7
      refine Ent.ifP (fun h3 => ?_) (fun h3 => ?_)
      · have h3 := of_decide_eq_true h3
        refine Ent.st #[.int .i64 (most b), .int .i64 last] ?_
        exact k10 _ (by rw [e0, if_pos ⟨h2, h3⟩])
      · have h3 := of_decide_eq_false h3
        refine Ent.ifT (decide_eq_true h2) ?_
        refine Ent.ld (minI (maxI left 0) (most b)) ?_
        refine Ent.st #[.int .i64 _, .int .i64 last] ?_
        exact k10 _ (by rw [e0, if_neg (fun h => h3 h.2), if_pos h2])
    · have h2 := of_decide_eq_false h2
      unfold f12.k7
      refine Ent.ifF rfl ?_
      refine Ent.ifF (decide_eq_false h2) ?_
      exact k10 _ (by rw [e0, if_neg (fun h => h2 h.1), if_neg h2])
end Go.Proofs.Ytmnpfkdiknfkoaa
