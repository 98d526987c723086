/-
  A denotation of loaded Go code as predicate transformers over typed values, and its soundness against the library's own 'Code.wp'. Generic in the program. No condition.
-/
import Derived.Orders
import Derived.Below
namespace Go.Proofs.Ytmnpfkdiknfkoaa.Sx
open Go

/-! ### Typed values -/
inductive Sc where
  | int (k : IntKind) | bool | str | slice | ptr | adr | box | fn | map | iface
structure Sl where
  a : Option Addr
  len : Nat
  cap : Nat
abbrev RSc : Sc → Type
  | .int _ => Int | .bool => Bool | .str => ByteArray | .slice => Sl | .ptr => Option Addr | .adr => Addr | .box => Nat | .fn => Value | .map => Option Nat | .iface => Value
def eSc : (s : Sc) → RSc s → Value
  | .int k, n => .int k n | .bool, b => .bool b | .str, s => .string s | .slice, s => .slice s.a s.len s.cap | .ptr, a => .pointer a
  | .adr, a => .pointer (some a) | .box, b => .pointer (some ⟨b, 0, none⟩) | .fn, v => v | .map, r => .map r | .iface, v => v
abbrev RL : List Sc → Type
  | [] => Unit | s :: l => RSc s × RL l
def eL : (l : List Sc) → RL l → List Value
  | [], _ => [] | s :: l, r => eSc s r.1 :: eL l r.2
inductive T1 where
  | sc (s : Sc) | agg (l : List Sc) | clo (f : Nat) (l : List Sc) | any
abbrev R1 : T1 → Type
  | .sc s => RSc s | .agg l => RL l | .clo _ l => RL l | .any => Value
def e1 : (t : T1) → R1 t → Value
  | .sc s, r => eSc s r | .agg l, r => .agg ⟨eL l r⟩ | .clo f l, r => .func (.func f) #[] ⟨eL l r⟩ | .any, v => v
abbrev RT : List T1 → Type
  | [] => Unit | t :: l => R1 t × RT l
def eTs : (l : List T1) → RT l → List Value
  | [], _ => [] | t :: l, r => e1 t r.1 :: eTs l r.2
inductive Ty where
  | one (t : T1) | tup (l : List T1)
abbrev Res : Ty → Type
  | .one t => R1 t | .tup l => RT l
def eT : (τ : Ty) → Res τ → Value
  | .one t, r => e1 t r | .tup l, r => .tuple ⟨eTs l r⟩

/-! the other way -/
def dSc : (s : Sc) → Value → Option (RSc s)
  | .int k, .int j n => if j = k then some n else none
  | .bool, .bool b => some b
  | .str, .string s => some s
  | .slice, .slice a l c => some ⟨a, l, c⟩
  | .ptr, .pointer a => some a
  | .adr, .pointer (some a) => some a
  | .box, .pointer (some ⟨b, 0, none⟩) => some b
  | .fn, v => some v
  | .map, .map r => some r
  | .iface, v => some v
  | _, _ => none
def dL : (l : List Sc) → List Value → Option (RL l)
  | [], [] => some ()
  | s :: l, v :: vs => match dSc s v with
    | some x => match dL l vs with
      | some y => some (x, y)
      | none => none
    | none => none
  | _, _ => none
def d1 : (t : T1) → Value → Option (R1 t)
  | .sc s, v => dSc s v
  | .agg l, .agg ⟨vs⟩ => dL l vs
  | .clo f l, .func (.func g) ⟨[]⟩ ⟨vs⟩ => if g = f then dL l vs else none
  | .any, v => some v
  | _, _ => none
def dTs : (l : List T1) → List Value → Option (RT l)
  | [], [] => some ()
  | t :: l, v :: vs => match d1 t v with
    | some x => match dTs l vs with
      | some y => some (x, y)
      | none => none
    | none => none
  | _, _ => none
def dT : (τ : Ty) → Value → Option (Res τ)
  | .one t, v => d1 t v
  | .tup l, .tuple ⟨vs⟩ => dTs l vs
  | _, _ => none

theorem dSc_ok : ∀ (s : Sc) (v : Value) (r : RSc s), dSc s v = some r → eSc s r = v := by
  intro s v r h
  cases s <;> cases v <;> simp only [dSc, reduceCtorEq] at h
  case int.int k j n => split at h <;> simp_all [eSc]
  all_goals try (simp only [Option.some.injEq] at h; subst h; rfl)
  case adr.pointer p => cases p <;> simp_all [eSc]
  case box.pointer p =>
    cases p with
    | none => simp at h
    | some a =>
      obtain ⟨b, o, s⟩ := a
      cases o <;> cases s <;> simp_all [eSc]
theorem dL_ok : ∀ (l : List Sc) (vs : List Value) (r : RL l), dL l vs = some r → eL l r = vs
  | [], [], _, _ => rfl
  | [], _ :: _, _, h => by simp [dL] at h
  | _ :: _, [], _, h => by simp [dL] at h
  | s :: l, v :: vs, r, h => by
    simp only [dL] at h
    cases h1 : dSc s v with
    | none => simp [h1] at h
    | some x =>
      cases h2 : dL l vs with
      | none => simp [h1, h2] at h
      | some y =>
        simp only [h1, h2, Option.some.injEq] at h
        subst h
        simp [eL, dSc_ok s v x h1, dL_ok l vs y h2]
theorem d1_ok : ∀ (t : T1) (v : Value) (r : R1 t), d1 t v = some r → e1 t r = v := by
  intro t v r h
  cases t with
  | sc s => exact dSc_ok s v r h
  | any => simp only [d1, Option.some.injEq] at h; exact h.symm
  | agg l =>
    cases v <;> simp only [d1, reduceCtorEq] at h
    case agg c => obtain ⟨vs⟩ := c; simp only [e1]; rw [dL_ok l vs r h]
  | clo f l =>
    cases v <;> simp only [d1, reduceCtorEq] at h
    case func fn first cap =>
      obtain ⟨fs⟩ := first; obtain ⟨vs⟩ := cap
      cases fn <;> cases fs <;> simp only [reduceCtorEq] at h
      split at h
      · rename_i g hg; subst hg; simp only [e1]; rw [dL_ok l vs r h]
      · simp at h
theorem dTs_ok : ∀ (l : List T1) (vs : List Value) (r : RT l), dTs l vs = some r → eTs l r = vs
  | [], [], _, _ => rfl
  | [], _ :: _, _, h => by simp [dTs] at h
  | _ :: _, [], _, h => by simp [dTs] at h
  | s :: l, v :: vs, r, h => by
    simp only [dTs] at h
    cases h1 : d1 s v with
    | none => simp [h1] at h
    | some x =>
      cases h2 : dTs l vs with
      | none => simp [h1, h2] at h
      | some y =>
        simp only [h1, h2, Option.some.injEq] at h
        subst h
        simp [eTs, d1_ok s v x h1, dTs_ok l vs y h2]
theorem dT_ok : ∀ (τ : Ty) (v : Value) (r : Res τ), dT τ v = some r → eT τ r = v := by
  intro τ v r h
  cases τ with
  | one t => exact d1_ok t v r h
  | tup l =>
    cases v <;> simp only [dT, reduceCtorEq] at h
    case tuple c => obtain ⟨vs⟩ := c; simp only [eT]; rw [dTs_ok l vs r h]

/-! ### Predicate transformers -/
abbrev PT := World → Prop
def fail : PT := fun _ => False
def ifP (b : Bool) (A B : PT) : PT := match b with | true => A | false => B
/-- run an operation whose result is of a type -/
def opT (P : Program) (τ : Ty) (s : Sem Value) (K : Res τ → PT) : PT := fun w => ∃ r w', s.run P w = .ok (eT τ r) w' ∧ K r w'
def opU (P : Program) (s : Sem Unit) (K : PT) : PT := fun w => ∃ w', s.run P w = .ok () w' ∧ K w'
def nnP : Option Addr → (Addr → PT) → PT
  | some a, K => K a
  | none, _ => fail
def idxP (s : Sl) (i : Int) (size : Nat) (K : Addr → PT) : PT := fun w => ∃ a, s.a = some a ∧ 0 ≤ i ∧ i < s.len ∧ K (a.add (i.toNat * size)) w
def idxA (a : Addr) (n : Nat) (i : Int) (size : Nat) (K : Addr → PT) : PT := fun w => 0 ≤ i ∧ i < n ∧ K (a.add (i.toNat * size)) w
def newP (cs : Array Value) (t : TypeId) (K : Nat → PT) : PT := fun w => K w.heap.size (w.alloc (.cells cs t))
def callT (P : Program) (f : Nat) (args : List Value) (τ : Ty) (K : Res τ → PT) : PT :=
  fun w => Calls P f ⟨args⟩ w fun e w' => ∃ r, e = .returned (eT τ r) ∧ K r w'
/-- a function without a body: what the model gives for it -/
def extT (P : Program) (f : Nat) (args : List Value) (τ : Ty) (K : Res τ → PT) : PT := fun w => ∃ r w', (callFunc f ⟨args⟩).run P w = .ok (.value (eT τ r)) w' ∧ K r w'
def isPlain (P : Program) (f : Nat) : Bool :=
  match P.funcs[f]? with
  | some fn => fn.body.isSome && !(fn.name == "runtime.NumGoroutine")
  | none => false
def callV (P : Program) (v : Value) (args : List Value) (τ : Ty) (K : Res τ → PT) : PT :=
  match v with
  | .func (.func f) first caps => match isPlain P f with
    | true => callT P f (first.toList ++ args ++ caps.toList) τ K
    | false => fail
  | _ => fail
/-- a loop: the least fixpoint -/
def loopP {S : Type} (body : S → (S → PT) → PT) (s : S) : PT := fun w =>
  ∀ X : S → World → Prop, (∀ s w (Y : S → PT), (∀ s w, Y s w → X s w) → body s Y w → X s w) → X s w
theorem loopP_unfold {S : Type} {body : S → (S → PT) → PT} {s : S} {w : World} (h : body s (loopP body) w) : loopP body s w :=
  fun X hX => hX s w (loopP body) (fun _ _ h => h X hX) h

/-! ### Environments: what is known of a frame -/
abbrev Env := List (Nat × Value)
def Env.get : Env → Nat → Option Value
  | [], _ => none
  | (u, v) :: e, t => match Nat.beq u t with
    | true => some v
    | false => Env.get e t
def Env.eval (e : Env) : Operand → Value
  | .tmp t => (e.get t).getD undef
  | .const v => v
  | .global g => .pointer (some ⟨g, 0, none⟩)
  | .func f => .func (.func f) #[] #[]
def Env.has (e : Env) : Operand → Bool
  | .tmp t => (e.get t).isSome
  | _ => true
def Env.put (e : Env) : Option Tmp → Value → Env
  | some d, v => (d, v) :: e
  | none, _ => e
structure Agrees (n : Nat) (e : Env) (a : Act) : Prop where
  size : a.tmps.size = n
  defers : a.defers = []
  at' : ∀ t v, e.get t = some v → a.tmps[t]? = some v
theorem Agrees.eval {n : Nat} {e : Env} {a : Act} (h : Agrees n e a) {x : Operand} (hx : e.has x = true) : a.eval x = e.eval x := by
  cases x with
  | tmp t =>
    simp only [Env.has, Option.isSome_iff_exists] at hx
    obtain ⟨v, hv⟩ := hx
    simp [Act.eval, Env.eval, hv, h.at' t v hv]
  | _ => rfl
def dstOk (n : Nat) : Option Tmp → Bool
  | some d => Nat.blt d n
  | none => true
theorem Agrees.put {n : Nat} {e : Env} {a : Act} (h : Agrees n e a) {d : Option Tmp} (hd : dstOk n d = true) (v : Value) : Agrees n (e.put d v) (a.put d v) := by
  cases d with
  | none => exact h
  | some d =>
    have hd : d < n := by simpa [dstOk] using hd
    refine ⟨by simp [Act.put, h.size], by simpa [Act.put] using h.defers, fun t u ht => ?_⟩
    simp only [Env.put, Env.get] at ht
    by_cases hdt : d = t
    · subst hdt
      simp only [Nat.beq_refl, Option.some.injEq] at ht
      subst ht
      simp [Act.put, h.size, hd]
    · have hb : Nat.beq d t = false := by rw [← Bool.not_eq_true]; intro h; exact hdt (Nat.eq_of_beq_eq_true h)
      simp only [hb] at ht
      simp only [Act.put]
      rw [Array.getElem?_setIfInBounds_ne hdt]
      exact h.at' t u ht
/-- Knowing less. -/
theorem Agrees.putLit {n : Nat} {e : Env} {a : Act} (h : Agrees n e a) {d : Tmp} {v : Value} (hv : e.get d = some v) : Agrees n ((d, v) :: e) a := by
  refine ⟨h.size, h.defers, fun t u ht => ?_⟩
  simp only [Env.get] at ht
  by_cases hdt : d = t
  · subst hdt
    simp only [Nat.beq_refl, Option.some.injEq] at ht
    subst ht
    exact h.at' _ _ hv
  · have hb : Nat.beq d t = false := by rw [← Bool.not_eq_true]; intro h; exact hdt (Nat.eq_of_beq_eq_true h)
    simp only [hb] at ht
    exact h.at' t u ht

/-! ### Types of the program -/
def scOf : TypeDesc → Option Sc
  | .bool => some .bool | .int k => some (.int k) | .string => some .str | .slice _ => some .slice | .pointer _ => some .ptr
  | .map _ _ => some .map | .func _ _ _ => some .fn | .interface _ => some .iface | _ => none
def flatOf (P : Program) : Nat → TypeId → Option (List Sc)
  | 0, _ => none
  | d + 1, t => match P.underlying t with
    | some (.struct fs) => fs.toList.foldr (fun f acc => match flatOf P d f.type, acc with | some a, some b => some (a ++ b) | _, _ => none) (some [])
    | some (.array n e) => match flatOf P d e with
      | some l => some ((List.replicate n l).foldr (· ++ ·) [])
      | none => none
    | some x => match scOf x with
      | some s => some [s]
      | none => none
    | none => none
def t1Of (P : Program) (t : TypeId) : T1 :=
  match P.underlying t with
  | some (.struct _) | some (.array _ _) => match flatOf P 8 t with
    | some l => .agg l
    | none => .any
  | some x => match scOf x with
    | some s => .sc s
    | none => .any
  | none => .any
def tyOf (P : Program) (t : TypeId) : Ty :=
  match P.underlying t with
  | some (.tuple ts) => .tup (ts.toList.map (t1Of P))
  | _ => .one (t1Of P t)
/-- an operation's type -/
def tyO (P : Program) (o : Oper) : Ty :=
  match o.op with
  | .mapEntry t _ _ => match P.underlying t with
    | some (.map _ e) => .tup [t1Of P e, .sc (.int .i64)]
    | _ => tyOf P o.type
  | _ => tyOf P o.type
/-- the cells of a type's zero -/
def zc (P : Program) (t : TypeId) : Array Value :=
  match P.info? t with
  | some i => match i.zero with
    | some v => v.cells
    | none => #[]
  | none => #[]

/-! ### Pure operations: run without a world -/
def pureRun {α : Type} (P : Program) : Sem α → Option α
  | .pure a => some a
  | .program k => pureRun P (k P)
  | _ => none
theorem pureRun_ok {α : Type} (P : Program) (s : Sem α) : ∀ a, pureRun P s = some a → ∀ w, s.run P w = .ok a w := by
  induction s with
  | pure a => intro b h w; simp only [pureRun, Option.some.injEq] at h; subst h; rfl
  | program k ih => intro b h w; simp only [pureRun] at h; exact ih P b h w
  | _ => intro b h; simp [pureRun] at h
def isIntT (P : Program) (t : TypeId) : Bool := match P.underlying t with | some (.int _) => true | _ => false
def isBoolT (P : Program) (t : TypeId) : Bool := match P.underlying t with | some .bool => true | _ => false
def isStrT (P : Program) (t : TypeId) : Bool := match P.underlying t with | some .string => true | _ => false
def isMapT (P : Program) (t : TypeId) : Bool := match P.underlying t with | some (.map _ _) => true | _ => false
def isFlatLen (P : Program) (t : TypeId) : Bool := match P.underlying t with | some .string | some (.slice _) | some (.array _ _) => true | _ => false
def litInt : Operand → Option Int
  | .const (.int _ n) => some n
  | _ => none
def isPure (P : Program) : Op → Bool
  | .move _ | .assign _ | .field _ _ _ | .extract _ _ | .build _ _ | .makeFunc _ _ _ | .unOp _ _ _ => true
  | .binOp op t _ y _ => match isIntT P t with
    | true => match op with
      | .quo | .rem => match litInt y with | some n => !(n == 0) | none => false
      | .shl | .shr => match litInt y with | some n => !decide (n < 0) | none => false
      | _ => true
    | false => match isBoolT P t with
      | true => true
      | false => match isStrT P t with
        | true => match op with | .add => false | _ => true
        | false => false
  | .convert s d _ => (isIntT P s && isIntT P d) || (isStrT P s && isStrT P d)
  | .call c => match c.callee with
    | .builtin .len | .builtin .cap => match c.argTypes[0]? with | some t => isFlatLen P t | none => false
    | .builtin .min | .builtin .max => match c.argTypes[0]? with | some t => isIntT P t | none => false
    | _ => false
  | _ => false

/-! ### One operation -/
def semV (ρ : Operand → Value) (o : Oper) : Option (Sem Value) :=
  match o.op with
  | .load t a => some (Instr.loadAt t (ρ a))
  | .binOp op xType x y _ => some (do eqGuard op xType x y (ρ x) (ρ y); binOp op xType (ρ x) (ρ y))
  | .convert src dst x => some (convert src dst (ρ x))
  | .makeInterface xType x => some (Instr.makeInterface xType (ρ x))
  | .makeMap t r => some (Instr.makeMap t (r.map ρ))
  | .makeSlice t l c => some (Instr.makeSlice t (ρ l) (ρ c))
  | .slice t x lo hi mx => some (Instr.sliceAt t (ρ x) (lo.map ρ) (hi.map ρ) (mx.map ρ))
  | .fieldAddr s x f => some (Instr.fieldAt s (ρ x) f)
  | .index xType x ix => some (Instr.index xType (ρ x) (ρ ix))
  | .lookup xType x ix ok => some (Instr.lookup xType (ρ x) (ρ ix) ok)
  | .buildSlice t len parts => some (Instr.buildSlice t len (parts.map fun (i, x) => (i, ρ x)))
  | .mapEntry t m k => some (Instr.mapEntry t (ρ m) (ρ k))
  | .call c => match c.callee with
    | .builtin .append => some (Builtin.append_ c.argTypes o.type (c.args.map ρ))
    | .builtin .copy => some (Builtin.copy_ c.argTypes o.type (c.args.map ρ))
    | .builtin .clear => some (Builtin.clear_ c.argTypes o.type (c.args.map ρ))
    | .builtin .delete => some (Builtin.delete_ c.argTypes o.type (c.args.map ρ))
    | .builtin .len => some (Builtin.len_ c.argTypes o.type (c.args.map ρ))
    | .builtin .min => some (Builtin.min_ c.argTypes o.type (c.args.map ρ))
    | .builtin .max => some (Builtin.max_ c.argTypes o.type (c.args.map ρ))
    | .builtin .unsafeString => some (Builtin.unsafeString_ c.argTypes o.type (c.args.map ρ))
    | .builtin .unsafeStringData => some (Builtin.unsafeStringData_ c.argTypes o.type (c.args.map ρ))
    | .builtin .unsafeSliceData => some (Builtin.unsafeSliceData_ c.argTypes o.type (c.args.map ρ))
    | _ => none
  | _ => none
theorem semV_ok {ρ : Operand → Value} {o : Oper} {s : Sem Value} (h : semV ρ o = some s) : execOp ρ o = (do pure (.value (← s))) := by
  obtain ⟨dst, op, type, pos, after, guard⟩ := o
  cases op <;> simp only [semV, Option.some.injEq, reduceCtorEq] at h
  case call c =>
    obtain ⟨callee, args, argTypes⟩ := c
    cases callee with
    | value f => simp at h
    | invoke r m => simp at h
    | builtin b => cases b <;> simp only [Option.some.injEq, reduceCtorEq] at h <;> subst h <;> rfl
  all_goals (subst h; rfl)
def semU (ρ : Operand → Value) (o : Oper) : Option (Sem Unit) :=
  match o.op with
  | .store t a x => some (Instr.storeAt t (ρ a) (ρ x))
  | .mapUpdate t m k x | .insert t m k x => some (Instr.mapUpdate t (ρ m) (ρ k) (ρ x))
  | .entryStore t m s x => some (Instr.entryStore t (ρ m) (ρ s) (ρ x))
  | _ => none
theorem semU_ok {ρ : Operand → Value} {o : Oper} {s : Sem Unit} (h : semU ρ o = some s) : execOp ρ o = (do s; pure .skip) := by
  obtain ⟨dst, op, type, pos, after, guard⟩ := o
  cases op <;> simp only [semU, Option.some.injEq, reduceCtorEq] at h
  all_goals (subst h; rfl)
def hasAll (e : Env) : List Operand → Bool
  | [] => true
  | x :: l => match e.has x with
    | true => hasAll e l
    | false => false
theorem hasAll_mem {e : Env} : ∀ {l : List Operand}, hasAll e l = true → ∀ x ∈ l, e.has x = true
  | [], _, _, hx => by cases hx
  | y :: l, h, x, hx => by
    simp only [hasAll] at h
    cases hy : e.has y with
    | false => simp [hy] at h
    | true =>
      simp only [hy] at h
      rcases List.mem_cons.1 hx with rfl | hx
      · exact hy
      · exact hasAll_mem h x hx
def notSelect : Op → Bool
  | .select _ _ => false
  | _ => true
/-- One operation's predicate transformer, in an environment. -/
def dOp (P : Program) (n : Nat) (o : Oper) (env : Env) (K : Env → PT) : PT :=
  match hasAll env o.op.operands.toList && dstOk n o.dst && notSelect o.op with
  | false => fail
  | true => match o.op with
    | .nilCheck x => match env.eval x with
      | .pointer p => nnP p fun a => K (env.put o.dst (.pointer (some a)))
      | _ => fail
    | .fieldAddr _ _ _ => match pureRun P (execOp env.eval o) with
      | some (.value v) => K (env.put o.dst v)
      | _ => fail
    | .indexAddr t x i => match P.underlying t with
      | some (.slice e) => match env.eval x with
        | .slice a len cap => match env.eval i with
          | .int _ i => match P.info? e with
            | some _ => idxP ⟨a, len, cap⟩ i (P.cellsOf e) fun a => K (env.put o.dst (.pointer (some a)))
            | none => fail
          | _ => fail
        | _ => fail
      | some (.array len e) => match env.eval x with
        | .pointer (some a) => match env.eval i with
          | .int _ i => match P.info? e with
            | some _ => idxA a len i (P.cellsOf e) fun a => K (env.put o.dst (.pointer (some a)))
            | none => fail
          | _ => fail
        | _ => fail
      | _ => fail
    | .alloc t => match P.info? t with
      | some i => match i.zero with
        | some _ => newP (zc P t) t fun b => K (env.put o.dst (.pointer (some ⟨b, 0, none⟩)))
        | none => fail
      | none => fail
    | .box t x => newP (env.eval x).cells t fun b => K (env.put o.dst (.pointer (some ⟨b, 0, none⟩)))
    | .pick c a b => match env.eval c with
      | .bool cb => ifP cb (K (env.put o.dst (env.eval a))) (K (env.put o.dst (env.eval b)))
      | _ => fail
    | .call c => match c.callee with
      | .value (.func f) => match isPlain P f with
        | true => callT P f (c.args.toList.map env.eval) (tyOf P o.type) fun r => K (env.put o.dst (eT _ r))
        | false => extT P f (c.args.toList.map env.eval) (tyOf P o.type) fun r => K (env.put o.dst (eT _ r))
      | .value f => callV P (env.eval f) (c.args.toList.map env.eval) (tyOf P o.type) fun r => K (env.put o.dst (eT _ r))
      | .builtin _ => match isPure P o.op with
        | true => match pureRun P (execOp env.eval o) with
          | some (.value v) => K (env.put o.dst v)
          | _ => fail
        | false => match semV env.eval o with
          | some s => opT P (tyOf P o.type) s fun r => K (env.put o.dst (eT _ r))
          | none => fail
      | _ => fail
    | _ => match isPure P o.op with
      | true => match pureRun P (execOp env.eval o) with
        | some (.value v) => K (env.put o.dst v)
        | _ => fail
      | false => match semV env.eval o with
        | some s => opT P (tyO P o) s fun r => K (env.put o.dst (eT _ r))
        | none => match semU env.eval o with
          | some s => opU P s (K (env.put o.dst undef))
          | none => fail


/-! ### Soundness of one operation -/
theorem run_vNext {P : Program} {s : Sem Value} {w w' : World} {v : Value} (h : s.run P w = .ok v w') :
    (do pure (Next.value (← s)) : Sem Next).run P w = .ok (.value v) w' := by
  rw [Sem.run_bind, h]; rfl
theorem run_uNext {P : Program} {s : Sem Unit} {w w' : World} (h : s.run P w = .ok () w') :
    (do s; pure Next.skip : Sem Next).run P w = .ok .skip w' := by
  rw [Sem.run_bind, h]; rfl
theorem isPlain_ok {P : Program} {f : Nat} (h : isPlain P f = true) (args : Array Value) (w : World) : (callFunc f args).run P w = .ok (.enter f args) w := by
  unfold isPlain at h
  cases hf : P.funcs[f]? with
  | none => rw [hf] at h; simp at h
  | some fn =>
    rw [hf] at h
    simp only [Bool.and_eq_true, Bool.not_eq_true', Option.isSome_iff_ne_none] at h
    obtain ⟨hb, hn⟩ := h
    have hb' : fn.body.isNone = false := by cases hbb : fn.body <;> simp_all
    unfold callFunc
    simp only [Sem.run_bind, run_program, Result.andThen_ok, hf, hn, hb']
    rfl
theorem upon_callT {P : Program} {o : Oper} {a : Act} {next : Act → World → Prop} {Q : Exit → Act → World → Prop} {f : Nat} {args : List Value} {τ : Ty} {K : Res τ → PT} {w : World}
    (h : callT P f args τ K w) (hk : ∀ r w', K r w' → next (a.put o.dst (eT τ r)) w') : o.upon P a next Q (.ok (.enter f ⟨args⟩) w) := by
  rw [Oper.upon_enter]
  refine Calls.mono h ?_
  rintro e w' ⟨r, rfl, hr⟩
  exact hk r w' hr
theorem toList_map_eq {f : Operand → Value} (c : Array Operand) : (⟨c.toList.map f⟩ : Array Value) = c.map f := by
  apply Array.ext'; simp
theorem dOp_sound {P : Program} {n : Nat} {o : Oper} {env : Env} {K : Env → PT} {a : Act} {w : World} {next : Act → World → Prop} {Q : Exit → Act → World → Prop}
    (h : dOp P n o env K w) (ha : Agrees n env a) (hk : ∀ env' a' w', K env' w' → Agrees n env' a' → next a' w') : o.wp P a w next Q := by
  unfold dOp at h
  cases hc : hasAll env o.op.operands.toList && dstOk n o.dst && notSelect o.op with
  | false => simp only [hc] at h; exact h.elim
  | true =>
  simp only [hc] at h
  simp only [Bool.and_eq_true] at hc
  obtain ⟨⟨hall, hdst⟩, hns⟩ := hc
  have hex : execOp a.eval o = execOp env.eval o := execOp_congr o (fun cs b e => by rw [e] at hns; cases hns)
    (fun x hx => ha.eval (hasAll_mem hall x (by simpa using hx)))
  have fin : ∀ v w', K (env.put o.dst v) w' → next (a.put o.dst v) w' := fun v w' hv => hk _ _ _ hv (ha.put hdst v)
  unfold Oper.wp
  rw [hex]
  have purely : (match pureRun P (execOp env.eval o) with
        | some (.value v) => K (env.put o.dst v)
        | _ => fail : PT) w → o.upon P a next Q ((execOp env.eval o).run P w) := by
    intro h
    cases hv : pureRun P (execOp env.eval o) with
    | none => simp only [hv] at h; exact h.elim
    | some x =>
      simp only [hv] at h
      cases x with
      | value v => rw [pureRun_ok P _ _ hv w]; exact fin v w h
      | _ => exact h.elim
  have typed : ∀ τ s, semV env.eval o = some s → opT P τ s (fun r => K (env.put o.dst (eT τ r))) w → o.upon P a next Q ((execOp env.eval o).run P w) := by
    intro τ s hs hK
    obtain ⟨r, w', hr, hr2⟩ := hK
    rw [semV_ok hs, run_vNext hr]
    exact fin _ _ hr2
  have general : (match isPure P o.op with
      | true => match pureRun P (execOp env.eval o) with
        | some (.value v) => K (env.put o.dst v)
        | _ => fail
      | false => match semV env.eval o with
        | some s => opT P (tyO P o) s fun r => K (env.put o.dst (eT _ r))
        | none => match semU env.eval o with
          | some s => opU P s (K (env.put o.dst undef))
          | none => fail : PT) w → o.upon P a next Q ((execOp env.eval o).run P w) := by
    intro h
    cases hp : isPure P o.op with
    | true => simp only [hp] at h; exact purely h
    | false =>
      simp only [hp] at h
      cases hs : semV env.eval o with
      | some s => simp only [hs] at h; exact typed _ _ hs h
      | none =>
        simp only [hs] at h
        cases hs : semU env.eval o with
        | some s =>
          simp only [hs] at h
          obtain ⟨w', hr, hr2⟩ := h
          rw [semU_ok hs, run_uNext hr]
          exact fin _ _ hr2
        | none => simp only [hs] at h; exact h.elim
  have bi : (match isPure P o.op with
        | true => match pureRun P (execOp env.eval o) with
          | some (.value v) => K (env.put o.dst v)
          | _ => fail
        | false => match semV env.eval o with
          | some s => opT P (tyOf P o.type) s fun r => K (env.put o.dst (eT _ r))
          | none => fail : PT) w → o.upon P a next Q ((execOp env.eval o).run P w) := by
    intro h
    cases hp : isPure P o.op with
    | true => simp only [hp] at h; exact purely h
    | false =>
      simp only [hp] at h
      cases hs : semV env.eval o with
      | some s => simp only [hs] at h; exact typed _ _ hs h
      | none => simp only [hs] at h; exact h.elim
  cases hop : o.op with
  | nilCheck x =>
    simp only [hop] at h
    cases hx : env.eval x <;> simp only [hx] at h <;> first | exact h.elim | skip
    rename_i p
    cases p with
    | none => exact h.elim
    | some ad =>
      have hrun : (execOp env.eval o).run P w = .ok (.value (.pointer (some ad))) w := by
        unfold execOp
        rw [hop]
        simp only [hx]
        rfl
      rw [hrun]
      exact fin _ _ h
  | fieldAddr t x f =>
    simp only [hop] at h
    exact purely h
  | indexAddr t x i =>
    simp only [hop] at h
    have hex2 : execOp env.eval o = (do pure (.value (← Instr.indexAt t (env.eval x) (env.eval i)))) := by
      obtain ⟨dst, op, type, pos, after, guard⟩ := o; simp only at hop; subst hop; rfl
    have hcells : ∀ e, ∀ w, (sizeOf e).run P w = match P.info? e with | some i => .ok i.size w | none => .halt (.stuck "no such type") w := by
      intro e w
      simp only [sizeOf, typeInfo, Sem.run_bind, run_program, Result.andThen_ok]
      cases P.info? e <;> simp
    cases hu : P.underlying t with
    | none => simp only [hu] at h; exact h.elim
    | some u =>
      simp only [hu] at h
      cases u <;> try exact h.elim
      case slice e =>
        simp only at h
        cases hx : env.eval x <;> simp only [hx] at h <;> try exact h.elim
        rename_i ad len cap
        cases hi : env.eval i <;> simp only [hi] at h <;> try exact h.elim
        rename_i ik iv
        cases hinfo : P.info? e with
        | none => simp only [hinfo] at h; exact h.elim
        | some info =>
        simp only [hinfo] at h
        obtain ⟨ad', had, h0, h1, hK⟩ := h
        simp only at had h1
        subst had
        have hrun : (Instr.indexAt t (.slice (some ad') len cap) (.int ik iv)).run P w = .ok (.pointer (some (ad'.add (iv.toNat * P.cellsOf e)))) w := by
          simp only [Instr.indexAt, asIntOf, underlying, Sem.run_bind, run_program, Sem.run_pure, Result.andThen_ok, hu, h0, h1, and_self, if_true, hcells, hinfo, Program.cellsOf, Option.map_some, Option.getD_some]
        rw [hex2, hx, hi, run_vNext hrun]
        exact fin _ _ hK
      case array len e =>
        simp only at h
        cases hx : env.eval x <;> simp only [hx] at h <;> try exact h.elim
        rename_i p
        cases p <;> simp only at h <;> try exact h.elim
        rename_i ad
        cases hi : env.eval i <;> simp only [hi] at h <;> try exact h.elim
        rename_i ik iv
        cases hinfo : P.info? e with
        | none => simp only [hinfo] at h; exact h.elim
        | some info =>
        simp only [hinfo] at h
        obtain ⟨h0, h1, hK⟩ := h
        have hrun : (Instr.indexAt t (.pointer (some ad)) (.int ik iv)).run P w = .ok (.pointer (some (ad.add (iv.toNat * P.cellsOf e)))) w := by
          simp only [Instr.indexAt, asIntOf, underlying, Instr.sureAddr, Sem.run_bind, run_program, Sem.run_pure, Result.andThen_ok, hu, h0, h1, and_self, if_true, hcells, hinfo, Program.cellsOf, Option.map_some, Option.getD_some]
        rw [hex2, hx, hi, run_vNext hrun]
        exact fin _ _ hK
  | alloc t =>
    simp only [hop] at h
    have hex2 : execOp env.eval o = (do pure (.value (← Instr.alloc t true (.tuple #[])))) := by
      obtain ⟨dst, op, type, pos, after, guard⟩ := o; simp only at hop; subst hop; rfl
    cases hinfo : P.info? t with
    | none => simp only [hinfo] at h; exact h.elim
    | some info =>
      simp only [hinfo] at h
      cases hz : info.zero with
      | none => simp only [hz] at h; exact h.elim
      | some z =>
        simp only [hz] at h
        have hrun : (Instr.alloc t true (.tuple #[])).run P w = .ok (.pointer (some ⟨w.heap.size, 0, none⟩)) (w.alloc (.cells (zc P t) t)) := by
          simp [Instr.alloc, zeroValue, typeInfo, hinfo, hz, newVar, newRow, zc]
        rw [hex2, run_vNext hrun]
        exact fin _ _ h
  | box t x =>
    simp only [hop] at h
    have hex2 : execOp env.eval o = (do pure (.value (← Instr.box t (env.eval x)))) := by
      obtain ⟨dst, op, type, pos, after, guard⟩ := o; simp only at hop; subst hop; rfl
    have hrun : (Instr.box t (env.eval x)).run P w = .ok (.pointer (some ⟨w.heap.size, 0, none⟩)) (w.alloc (.cells (env.eval x).cells t)) := by
      simp [Instr.box, newVar, newRow]
    rw [hex2, run_vNext hrun]
    exact fin _ _ h
  | pick c x y =>
    simp only [hop] at h
    cases hcb : env.eval c <;> simp only [hcb] at h <;> try exact h.elim
    rename_i cb
    have hex2 : (execOp env.eval o).run P w = .ok (.value (if cb then env.eval x else env.eval y)) w := by
      obtain ⟨dst, op, type, pos, after, guard⟩ := o; simp only at hop; subst hop
      simp [execOp, hcb, asBool]
    rw [hex2]
    cases cb
    · exact fin _ _ h
    · exact fin _ _ h
  | call c =>
    simp only [hop] at h
    cases hcal : c.callee with
    | invoke r m => simp only [hcal] at h; exact h.elim
    | builtin b => simp only [hcal] at h; refine bi ?_; rw [hop]; exact h
    | value f =>
      have dyn : callV P (env.eval f) (c.args.toList.map env.eval) (tyOf P o.type) (fun r => K (env.put o.dst (eT _ r))) w →
          o.upon P a next Q ((execOp env.eval o).run P w) := by
        intro h
        unfold callV at h
        cases hval : env.eval f <;> simp only [hval] at h <;> try exact h.elim
        rename_i fn first caps
        cases fn <;> simp only at h <;> try exact h.elim
        rename_i f'
        cases hpl : isPlain P f' with
        | false => simp only [hpl] at h; exact h.elim
        | true =>
          simp only [hpl] at h
          have hex2 : (execOp env.eval o).run P w = .ok (.enter f' ⟨first.toList ++ c.args.toList.map env.eval ++ caps.toList⟩) w := by
            obtain ⟨dst, op, type, pos, after, guard⟩ := o; simp only at hop; subst hop
            simp only [execOp, resolve, hcal, hval, Deferred.ofValue, invoke, Sem.run_bind, Sem.run_pure, Result.andThen_ok]
            rw [isPlain_ok hpl]
            congr 2
            apply Array.ext'; simp
          rw [hex2]
          exact upon_callT h fun r w' hr => fin _ _ hr
      cases f with
      | func f' =>
        simp only [hcal] at h
        cases hpl : isPlain P f' with
        | false =>
          simp only [hpl] at h
          obtain ⟨r, w', hr, hK⟩ := h
          have hex2 : (execOp env.eval o).run P w = .ok (.value (eT _ r)) w' := by
            rw [← hr]
            obtain ⟨dst, op, type, pos, after, guard⟩ := o; simp only at hop; subst hop
            simp only [execOp, resolve, hcal, Env.eval, Deferred.ofValue, invoke, Sem.run_bind, Sem.run_pure, Result.andThen_ok]
            simp [toList_map_eq]
          rw [hex2]
          exact fin _ _ hK
        | true =>
          simp only [hpl] at h
          have hex2 : (execOp env.eval o).run P w = .ok (.enter f' ⟨c.args.toList.map env.eval⟩) w := by
            obtain ⟨dst, op, type, pos, after, guard⟩ := o; simp only at hop; subst hop
            simp only [execOp, resolve, hcal, Env.eval, Deferred.ofValue, invoke, Sem.run_bind, Sem.run_pure, Result.andThen_ok]
            rw [isPlain_ok hpl]
            simp [toList_map_eq]
          rw [hex2]
          exact upon_callT h fun r w' hr => fin _ _ hr
      | _ => simp only [hcal] at h; exact dyn h
  | _ => simp only [hop] at h; refine general ?_; rw [hop]; exact h

end Go.Proofs.Ytmnpfkdiknfkoaa.Sx
