/-
  Words for the printed denotations, and what ties them to the program. No condition.
-/
import Derived.Test.YtmnpfkdiknfkoaaS2
import Derived.Test.YtmnpfkdiknfkoaaProg
import Derived.KernelRfl
namespace Go.Proofs.Ytmnpfkdiknfkoaa.Sx
open Go
def codeOf (fn : Func) : Code := match fn.body with | some c => c | none => .skip
theorem callT_mk {P : Program} (hm : P.follows .mixedOrders = true) {f : Nat} {fn : Func} {A : Ann} {args : List Value} {τ : Ty} {K : Res τ → PT} {m : PT} {w : World}
    (hf : P.funcs[f]? = some fn) (hb : fn.body = some (codeOf fn)) (hn : Nat.ble args.length fn.ntmps = true) (e : m = denF P fn A (codeOf fn) args τ K) (h : m w) : callT P f args τ K w :=
  denF_sound hm hf hb hn (Eq.mp (congrFun e w) h)
theorem mixed : Try.prog.follows .mixedOrders = true := by kernel_rfl
def bAnd (k : IntKind) (x y : Int) : Int := k.wrap ((BitVec.ofInt k.bits x &&& BitVec.ofInt k.bits y).toNat)
def bOr (k : IntKind) (x y : Int) : Int := k.wrap ((BitVec.ofInt k.bits x ||| BitVec.ofInt k.bits y).toNat)
def bXor (k : IntKind) (x y : Int) : Int := k.wrap ((BitVec.ofInt k.bits x ^^^ BitVec.ofInt k.bits y).toNat)
def bAndNot (k : IntKind) (x y : Int) : Int := k.wrap ((BitVec.ofInt k.bits x &&& ~~~BitVec.ofInt k.bits y).toNat)
def bNot (k : IntKind) (x : Int) : Int := bXor k (if k.signed then -1 else k.max) x
def minI (x y : Int) : Int := if y < x then y else x
def maxI (x y : Int) : Int := if y > x then y else x
def eqS (op : BinOp) (t : TypeId) (x y : Operand) (a b : Value) : Sem Value := do eqGuard op t x y a b; binOp op t a b
end Go.Proofs.Ytmnpfkdiknfkoaa.Sx
