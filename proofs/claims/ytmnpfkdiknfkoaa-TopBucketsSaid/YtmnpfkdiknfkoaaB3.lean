/-
  Two buckets held against each other. No condition.
-/
import Derived.Test.YtmnpfkdiknfkoaaB2
import Derived.Tactics
namespace Go.Proofs.Ytmnpfkdiknfkoaa
open Go Go.Proofs.Ytmnpfkdiknfkoaa.Sx
theorem part_run {P : Program} {T : TypeId} [k : Ty1 P T] {cs : Array Value} {off : Nat} {v : Value} (h : cs[off]? = some v) (w : World) : (part T cs off).run P w = .ok v w := by
  simp [part, k.run, h]
theorem eqF_cons {P : Program} {d : Nat} {xs ys : Array Value} {f : Field} {fs : List Field} {w : World} {u v : Value} {r : Bool} (hn : f.name ≠ "_") (hx : (part f.type xs f.offset).run P w = .ok u w)
    (hy : (part f.type ys f.offset).run P w = .ok v w) (he : (Op.equalIn d f.type u v).run P w = .ok r w) :
    (Op.eqFields d xs ys (f :: fs)).run P w = match r with | true => (Op.eqFields d xs ys fs).run P w | false => .ok false w := by
  simp only [Op.eqFields, if_pos hn, Sem.run_bind, hx, hy, he, Result.andThen_ok]
  cases r <;> simp
theorem eqInt {P : Program} {T : TypeId} {k : IntKind} (h : P.underlying T = some (.int k)) : ∀ d, 0 < d → ∀ (a b : Int) (w : World), (Op.equalIn d T (.int k a) (.int k b)).run P w = .ok (a == b) w
  | d + 1, _, a, b, w => run_equalIn_int w d T k k a b h
theorem eqStruct {P : Program} {t : TypeId} (ht : P.underlying t = some (.struct (P.fieldsOf t))) (hp : P.stoodInHeld t = false) : ∀ d, 0 < d → ∀ (xs ys : Array Value) (w : World),
    (Op.equalIn d t (.agg xs) (.agg ys)).run P w = (Op.eqFields (d - 1) xs ys (P.fieldsOf t).toList).run P w
  | d + 1, _, xs, ys, w => run_equalIn_struct w d t xs ys ht hp
theorem guard24 : Try.prog.eqGuardType Try.prog.depth 24 = false := by kernel_rfl
theorem held24 : Try.prog.stoodInHeld 24 = false := by kernel_rfl
theorem fields24 : (Try.prog.fieldsOf 24).toList = [{ name := "Left", type := 2, offset := 0, embedded := false, tag := "", pkgPath := "", byteOffset := 0 }, { name := "Last", type := 2, offset := 1, embedded := false, tag := "", pkgPath := "", byteOffset := 8 }] := by kernel_rfl
theorem und24 : Try.prog.underlying 24 = some (.struct (Try.prog.fieldsOf 24)) := by kernel_rfl
theorem flat2 {P : Program} {d : Nat} {T1 T2 : TypeId} {n1 n2 : String} {e1 e2 : Bool} {g1 g2 p1 p2 : String} {y1 y2 : Nat} {a b c e : Value} {r1 r2 : Bool} {w : World} [Ty1 P T1] [Ty1 P T2] (h1 : n1 ≠ "_") (h2 : n2 ≠ "_")
    (q1 : (Op.equalIn d T1 a c).run P w = .ok r1 w) (q2 : (Op.equalIn d T2 b e).run P w = .ok r2 w) :
    (Op.eqFields d #[a, b] #[c, e] [{ name := n1, type := T1, offset := 0, embedded := e1, tag := g1, pkgPath := p1, byteOffset := y1 }, { name := n2, type := T2, offset := 1, embedded := e2, tag := g2, pkgPath := p2, byteOffset := y2 }]).run P w = .ok (r1 && r2) w := by
  refine (eqF_cons (f := { name := n1, type := T1, offset := 0, embedded := e1, tag := g1, pkgPath := p1, byteOffset := y1 }) h1 (part_run (P := P) (T := T1) rfl w) (part_run (P := P) (T := T1) rfl w) q1).trans ?_
  cases r1 with
  | false => rfl
  | true =>
    refine (eqF_cons (f := { name := n2, type := T2, offset := 1, embedded := e2, tag := g2, pkgPath := p2, byteOffset := y2 }) h2 (part_run (P := P) (T := T2) rfl w) (part_run (P := P) (T := T2) rfl w) q2).trans ?_
    cases r2 <;> rfl
theorem eq24 (a b c d : Int) (w : World) : (Op.equalIn 10000 24 (.agg #[.int .i64 a, .int .i64 b]) (.agg #[.int .i64 c, .int .i64 d])).run Try.prog w = .ok (a == c && b == d) w := by
  rw [eqStruct und24 held24 10000 (by decide), fields24]
  exact flat2 (by simp) (by simp) (eqInt Try.underlying2 _ (by decide) a c w) (eqInt Try.underlying2 _ (by decide) b d w)
theorem eqs24 (x y : Operand) (a b c d : Int) (w : World) : (eqS .eql 24 x y (.agg #[.int .i64 a, .int .i64 b]) (.agg #[.int .i64 c, .int .i64 d])).run Try.prog w = .ok (.bool (a == c && b == d)) w := by
  simp only [eqS, Sem.run_bind, run_eqGuard_agg w .eql 24 x y _ _ guard24, Result.andThen_ok, run_eql_struct, eq24]
theorem nes24 (x y : Operand) (a b c d : Int) (w : World) : (eqS .neq 24 x y (.agg #[.int .i64 a, .int .i64 b]) (.agg #[.int .i64 c, .int .i64 d])).run Try.prog w = .ok (.bool (!(a == c && b == d))) w := by
  simp only [eqS, Sem.run_bind, run_eqGuard_agg w .neq 24 x y _ _ guard24, Result.andThen_ok, run_neq_struct, eq24]
end Go.Proofs.Ytmnpfkdiknfkoaa
