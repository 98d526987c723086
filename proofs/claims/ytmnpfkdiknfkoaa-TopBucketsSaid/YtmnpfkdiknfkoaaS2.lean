/-
  The denotation of whole code (regions in text order and regions that draw their order, branches, blocks, loops, joins) and its soundness. Generic in the program. No condition.
-/
import Derived.Test.YtmnpfkdiknfkoaaS1
namespace Go.Proofs.Ytmnpfkdiknfkoaa.Sx
open Go

/-! ### Regions in text order -/
def guardP (b : Bool) (f : Bool → PT) : PT := match b with | true => f true | false => f false
def bxor : Bool → Bool → Bool
  | true, true => true | false, false => true | _, _ => false
/-- One operation with its guard. 'gd': the temporary that the guard's operation writes. -/
def dGuarded (P : Program) (n : Nat) (ops : List Oper) (o : Oper) (env : Env) (K : Env → PT) : PT :=
  match o.guard with
  | none => dOp P n o env K
  | some (j, want) => match ops[j]? with
    | none => fail
    | some oj => match oj.dst with
      | none => fail
      | some d => match env.get d with
        | none => fail
        | some v => match dstOk n o.dst with
          | false => fail
          | true => match v with
            | .bool b => guardP b fun l => match bxor l want with
              | true => dOp P n o ((d, .bool l) :: env) K
              | false => K (Env.put ((d, .bool l) :: env) o.dst undef)
            | _ => K (env.put o.dst undef)
def dOps (P : Program) (n : Nat) (ops : List Oper) : List Oper → Env → (Env → PT) → PT
  | [], env, K => K env
  | o :: rest, env, K => dGuarded P n ops o env fun env' => dOps P n ops rest env' K

theorem yielded_of {n : Nat} {env : Env} {a : Act} (ha : Agrees n env a) {ops : Array Oper} {j : Nat} {oj : Oper} {d : Tmp} {v : Value}
    (hj : ops.toList[j]? = some oj) (hd : oj.dst = some d) (hv : env.get d = some v) : yielded ops a.tmps j = match v with | .bool b => some b | _ => none := by
  have h1 : ops[j]? = some oj := by simpa using hj
  unfold yielded
  simp only [h1, Option.bind_some, hd, ha.at' d v hv]
  cases v <;> rfl
theorem dGuarded_sound {P : Program} {n : Nat} {ops : Array Oper} {i : Nat} {o : Oper} (hi : ops[i]? = some o) {env : Env} {K : Env → PT} {a : Act} {w : World}
    {next : Act → World → Prop} {Q : Exit → Act → World → Prop}
    (h : dGuarded P n ops.toList o env K w) (ha : Agrees n env a) (hk : ∀ env' a' w', K env' w' → Agrees n env' a' → next a' w') : wpOp P ops Q i next a w := by
  unfold wpOp
  simp only [hi]
  unfold dGuarded at h
  cases hg : o.guard with
  | none =>
    simp only [hg] at h
    simp only [Region.wanted, hg, if_true]
    exact .inl (dOp_sound h ha hk)
  | some jw =>
    obtain ⟨j, want⟩ := jw
    simp only [hg] at h
    cases hj : ops.toList[j]? with
    | none => simp only [hj] at h; exact h.elim
    | some oj =>
    simp only [hj] at h
    cases hd : oj.dst with
    | none => simp only [hd] at h; exact h.elim
    | some d =>
    simp only [hd] at h
    cases hv : env.get d with
    | none => simp only [hv] at h; exact h.elim
    | some v =>
    simp only [hv] at h
    cases hdst : dstOk n o.dst with
    | false => simp only [hdst] at h; exact h.elim
    | true =>
    simp only [hdst] at h
    have hy := yielded_of ha hj hd hv
    have skip : (∀ b, v ≠ .bool b) → K (env.put o.dst undef) w → (if Region.wanted o (yielded ops a.tmps) then o.wp P a w next Q ∨ (o.asks P a w ∧ LetsOut Q) else next (a.put o.dst undef) w) := by
      intro hnb hK
      have hw : Region.wanted o (yielded ops a.tmps) = false := by
        simp only [Region.wanted, hg, hy]
        cases v <;> first | rfl | exact absurd rfl (hnb _)
      rw [hw]
      exact hk _ _ _ hK (ha.put hdst undef)
    cases v <;> simp only at h <;> first | exact skip (by simp) h | skip
    rename_i b
    have hlit : ∀ l, b = l → (match bxor l want with
              | true => dOp P n o ((d, .bool l) :: env) K
              | false => K (Env.put ((d, .bool l) :: env) o.dst undef) : PT) w →
              (if Region.wanted o (yielded ops a.tmps) then o.wp P a w next Q ∨ (o.asks P a w ∧ LetsOut Q) else next (a.put o.dst undef) w) := by
      rintro l rfl h
      have ha' : Agrees n ((d, .bool b) :: env) a := ha.putLit hv
      have hw : Region.wanted o (yielded ops a.tmps) = bxor b want := by
        simp only [Region.wanted, hg, hy]
        cases b <;> cases want <;> rfl
      rw [hw]
      cases hx : bxor b want with
      | true => simp only [hx] at h; simp only [if_true]; exact .inl (dOp_sound h ha' hk)
      | false => simp only [hx] at h; exact hk _ _ _ h (ha'.put hdst undef)
    cases b
    · exact hlit false rfl h
    · exact hlit true rfl h
theorem dOps_sound {P : Program} {n : Nat} {ops : Array Oper} {Q : Exit → Act → World → Prop} {K : Env → PT} (hk : ∀ env' a' w', K env' w' → Agrees n env' a' → Q .normal a' w') :
    ∀ (l : List Oper) (k : Nat) (_ : ops.toList.drop k = l) (env : Env) (a : Act) (w : World), dOps P n ops.toList l env K w → Agrees n env a →
      wpOps P ops Q (List.range' k l.length) a w
  | [], k, _, env, a, w, h, ha => by simpa [wpOps] using hk _ _ _ h ha
  | o :: rest, k, hl, env, a, w, h, ha => by
    have hi : ops[k]? = some o := by
      have : ops.toList[k]? = some o := by
        have := congrArg List.head? hl
        simpa [List.head?_drop] using this
      simpa using this
    rw [List.length_cons, List.range'_succ, wpOps_cons]
    refine dGuarded_sound hi h ha fun env' a' w' h' ha' => ?_
    refine dOps_sound hk rest (k + 1) ?_ env' a' w' h' ha'
    have := congrArg List.tail hl
    simpa [List.tail_drop] using this

/-! ### Regions that draw their order -/
def rdP (P : Program) (τ : Ty) (s : Sem Value) (K : Res τ → PT) : PT := fun w => ∃ r, s.run P w = .ok (eT τ r) w ∧ K r w
/-- no world is changed by it -/
def isQuiet (P : Program) (o : Oper) : Bool :=
  match o.op with
  | .assign _ => false
  | .move _ | .nilCheck _ | .fieldAddr _ _ _ | .indexAddr _ _ _ | .pick _ _ _ | .load _ _ | .slice _ _ _ _ _ | .index _ _ _ | .lookup _ _ _ _ | .binOp _ _ _ _ _ => true
  | .call c => match c.callee with
    | .builtin .len => true
    | .builtin _ => isPure P o.op
    | _ => false
  | .convert s _ _ => isPure P o.op || (match P.underlying s with | some (.slice _) => true | _ => false)
  | op => isPure P op
abbrev Owed := List (Nat × Sem Value × Value)
/-- A quiet operation: behind it what is owed, if its value hangs on the world. -/
def dQ (P : Program) (n : Nat) (o : Oper) (env : Env) (K : Env → Option (Sem Value × Value) → PT) : PT :=
  match hasAll env o.op.operands.toList && dstOk n o.dst && notSelect o.op with
  | false => fail
  | true => match o.op with
    | .nilCheck x => match env.eval x with
      | .pointer p => nnP p fun a => K (env.put o.dst (.pointer (some a))) none
      | _ => fail
    | .indexAddr t x i => match P.underlying t with
      | some (.slice e) => match env.eval x with
        | .slice a len cap => match env.eval i with
          | .int _ i => match P.info? e with
            | some _ => idxP ⟨a, len, cap⟩ i (P.cellsOf e) fun a => K (env.put o.dst (.pointer (some a))) none
            | none => fail
          | _ => fail
        | _ => fail
      | some (.array len e) => match env.eval x with
        | .pointer (some a) => match env.eval i with
          | .int _ i => match P.info? e with
            | some _ => idxA a len i (P.cellsOf e) fun a => K (env.put o.dst (.pointer (some a))) none
            | none => fail
          | _ => fail
        | _ => fail
      | _ => fail
    | .pick c a b => match env.eval c with
      | .bool cb => ifP cb (K (env.put o.dst (env.eval a)) none) (K (env.put o.dst (env.eval b)) none)
      | _ => fail
    | op => match (match op with | .fieldAddr _ _ _ => true | op => isPure P op) with
      | true => match pureRun P (execOp env.eval o) with
        | some (.value v) => K (env.put o.dst v) none
        | _ => fail
      | false => match semV env.eval o with
        | some s => rdP P (tyOf P o.type) s fun r => K (env.put o.dst (eT _ r)) (some (s, eT _ r))
        | none => fail
def dQuiet (P : Program) (n : Nat) (ops : List Oper) (o : Oper) (env : Env) (K : Env → Option (Sem Value × Value) → PT) : PT :=
  match o.guard with
  | none => dQ P n o env K
  | some (j, want) => match ops[j]? with
    | none => fail
    | some oj => match oj.dst with
      | none => fail
      | some d => match env.get d with
        | none => fail
        | some v => match dstOk n o.dst with
          | false => fail
          | true => match v with
            | .bool b => guardP b fun l => match bxor l want with
              | true => dQ P n o ((d, .bool l) :: env) K
              | false => K (Env.put ((d, .bool l) :: env) o.dst undef) none
            | _ => K (env.put o.dst undef) none
/-- everything that is bound to come before: bit masks -/
def befAcc (acc : List Nat) : List Edge → Nat
  | [] => 0
  | e :: l => match Region.binds .any e with
    | true => (2 ^ e.on ||| acc.getD e.on 0) ||| befAcc acc l
    | false => befAcc acc l
def befTab : List Oper → List Nat → List Nat
  | [], acc => acc
  | o :: l, acc => befTab l (acc ++ [befAcc acc o.after.toList])
def tabOkGo (tab : List Nat) : List Oper → Nat → Bool
  | [], _ => true
  | o :: l, i => match Nat.beq (tab.getD i 0) (befAcc tab o.after.toList) with
    | true => tabOkGo tab l (i + 1)
    | false => false
/-- whom an operation waits for, as a bit mask -/
def emask : List Edge → Nat
  | [] => 0
  | e :: l => match Region.binds .any e with
    | true => 2 ^ e.on ||| emask l
    | false => emask l
def dmask (o : Oper) : Nat := emask o.after.toList
def isReady (done : Nat) (o : Oper) : Bool := Nat.beq (Nat.land (dmask o) done) (dmask o)
def readyQ (P : Program) (done : Nat) : List Oper → Nat → Option (Nat × Oper)
  | [], _ => none
  | o :: l, i => match !done.testBit i && isQuiet P o && isReady done o with
    | true => some (i, o)
    | false => readyQ P done l (i + 1)
def readyAll (done : Nat) : List Oper → Nat → List (Nat × Oper)
  | [], _ => []
  | o :: l, i => match !done.testBit i && isReady done o with
    | true => (i, o) :: readyAll done l (i + 1)
    | false => readyAll done l (i + 1)
def keepOwed (m : Nat) : Owed → Owed
  | [] => []
  | (i, s, v) :: l => match m.testBit i with
    | true => keepOwed m l
    | false => (i, s, v) :: keepOwed m l
def chkP (P : Program) (s : Sem Value) (v : Value) (K : PT) : PT := fun w => s.run P w = .ok v w ∧ K w
def chkAll (P : Program) : Owed → PT → PT
  | [], K => K
  | (_, s, v) :: l, K => chkP P s v (chkAll P l K)
def allP : List PT → PT
  | [] => fun _ => True
  | [p] => p
  | p :: q :: l => fun w => p w ∧ allP (q :: l) w
def drawGo (P : Program) (n : Nat) (ops : List Oper) (tab : List Nat) : Nat → Nat → Owed → Env → (Env → PT) → PT
  | 0, done, _, env, K => match readyAll done ops 0 with
    | [] => K env
    | _ => fail
  | f + 1, done, owed, env, K => match readyQ P done ops 0 with
    | some (i, o) => dQuiet P n ops o env fun env' ow => drawGo P n ops tab f (done ||| 2 ^ i) (match ow with | none => owed | some (s, v) => (i, s, v) :: owed) env' K
    | none => match readyAll done ops 0 with
      | [] => K env
      | l => allP (l.map fun jo => dGuarded P n ops jo.2 env fun env' =>
          chkAll P (keepOwed (tab.getD jo.1 0) owed) (drawGo P n ops tab f (done ||| 2 ^ jo.1) (keepOwed (tab.getD jo.1 0) owed) env' K))
/-- temporaries as a bit mask -/
def tmask : List Tmp → Nat
  | [] => 0
  | t :: l => 2 ^ t ||| tmask l
def wmask (o : Oper) : Nat := match o.dst with | some d => 2 ^ d | none => 0
def lmask (ops : Array Oper) (o : Oper) : Nat := tmask (o.looksAt ops)
/-- of a quiet operation and another one: one waits for the other, or neither touches what the other has -/
def pairOk (ops : Array Oper) (i : Nat) (oi : Oper) (j : Nat) (oj : Oper) : Bool :=
  Nat.beq i j || !Nat.beq (Nat.land (dmask oj) (2 ^ i)) 0 || !Nat.beq (Nat.land (dmask oi) (2 ^ j)) 0 ||
    (Nat.beq (Nat.land (wmask oi) (Nat.lor (lmask ops oj) (wmask oj))) 0 && Nat.beq (Nat.land (wmask oj) (lmask ops oi)) 0)
def freeRow (ops : Array Oper) (i : Nat) (oi : Oper) : List Oper → Nat → Bool
  | [], _ => true
  | oj :: l, j => pairOk ops i oi j oj && freeRow ops i oi l (j + 1)
def freeAll (P : Program) (ops : Array Oper) : List Oper → Nat → Bool
  | [], _ => true
  | oi :: l, i => (!isQuiet P oi || (freeRow ops i oi ops.toList 0 && (match oi.dst with | some d => !(oi.looksAt ops).contains d | none => true))) && freeAll P ops l (i + 1)
def drawP (m : PT) : PT := fun w => m { w with drawn := w.drawn + 1 }
/-- every edge points at an operation of the region -/
def edgesIn (n : Nat) : List Oper → Bool
  | [] => true
  | o :: l => (o.after.toList.all fun e => Nat.blt e.on n) && edgesIn n l
def dDraw (P : Program) (n : Nat) (ops : List Oper) (env : Env) (K : Env → PT) : PT :=
  match freeAll P ⟨ops⟩ ops 0 && tabOkGo (befTab ops []) ops 0 && Region.noSelect ⟨ops⟩ && edgesIn ops.length ops with
  | true => drawP (drawGo P n ops (befTab ops []) ops.length 0 [] env K)
  | false => fail

/-! its soundness -/
/-- Any order from here on, what is owed being yielded again behind each operation that may come ahead. -/
def wpO (P : Program) (ops : Array Oper) (Q : Exit → Act → World → Prop) (tab : List Nat) : Owed → Nat → Array Bool → Act → World → Prop
  | _, 0, listed, a, w => Region.ready .any ops listed = [] ∧ Q .normal a w
  | owed, fuel + 1, listed, a, w =>
    (Region.ready .any ops listed = [] → Q .normal a w) ∧
    ∀ j ∈ Region.ready .any ops listed, wpOp P ops Q j (fun a' w' => (∀ x ∈ keepOwed (tab.getD j 0) owed, x.2.1.run P w' = .ok x.2.2 w') ∧
      wpO P ops Q tab (keepOwed (tab.getD j 0) owed) fuel (listed.setIfInBounds j true) a' w') a w
theorem wpO_any {P : Program} {ops : Array Oper} {Q : Exit → Act → World → Prop} {tab : List Nat} : ∀ (fuel : Nat) (owed : Owed) (listed : Array Bool) (a : Act) (w : World),
    wpO P ops Q tab owed fuel listed a w → wpAny P .any ops Q fuel listed a w
  | 0, _, _, _, _, h => h
  | fuel + 1, _, _, _, _, h => ⟨h.1, fun j hj => wpOp_mono (fun a' w' h' => wpO_any fuel _ _ a' w' h'.2) (h.2 j hj)⟩
theorem mem_keep {m : Nat} {x : Nat × Sem Value × Value} : ∀ {l : Owed}, x ∈ keepOwed m l ↔ x ∈ l ∧ m.testBit x.1 = false
  | [] => by simp [keepOwed]
  | (i, s, v) :: l => by
    simp only [keepOwed]
    cases h : m.testBit i with
    | true =>
      simp only [mem_keep (l := l), List.mem_cons]
      constructor
      · rintro ⟨h1, h2⟩; exact ⟨.inr h1, h2⟩
      · rintro ⟨h1 | h1, h2⟩
        · subst h1; simp only at h2; rw [h] at h2; cases h2
        · exact ⟨h1, h2⟩
    | false =>
      simp only [List.mem_cons, mem_keep (l := l)]
      constructor
      · rintro (rfl | ⟨h1, h2⟩)
        · exact ⟨.inl rfl, h⟩
        · exact ⟨.inr h1, h2⟩
      · rintro ⟨rfl | h1, h2⟩
        · exact .inl rfl
        · exact .inr ⟨h1, h2⟩
theorem wpO_less {P : Program} {ops : Array Oper} {Q : Exit → Act → World → Prop} {tab : List Nat} : ∀ (fuel : Nat) (owed owed' : Owed) (listed : Array Bool) (a : Act) (w : World),
    (∀ x ∈ owed', x ∈ owed) → wpO P ops Q tab owed fuel listed a w → wpO P ops Q tab owed' fuel listed a w
  | 0, _, _, _, _, _, _, h => h
  | fuel + 1, owed, owed', _, _, _, hs, h => ⟨h.1, fun j hj => wpOp_mono (fun a' w' h' => by
      have hs' : ∀ x ∈ keepOwed (tab.getD j 0) owed', x ∈ keepOwed (tab.getD j 0) owed := fun x hx => by
        rw [mem_keep] at *
        exact ⟨hs x hx.1, hx.2⟩
      exact ⟨fun x hx => h'.1 x (hs' x hx), wpO_less fuel _ _ _ a' w' hs' h'.2⟩) (h.2 j hj)⟩
/-- the table fits: what is bound to come before is the direct ones and what comes before these -/
def TabFits (ops : Array Oper) (tab : List Nat) : Prop :=
  ∀ j o, ops[j]? = some o → ∀ i, (tab.getD j 0).testBit i = true → ∃ e ∈ o.after, Region.binds .any e = true ∧ (e.on = i ∨ (tab.getD e.on 0).testBit i = true)
theorem befAcc_mem {acc : List Nat} : ∀ {l : List Edge} {i : Nat}, (befAcc acc l).testBit i = true → ∃ e ∈ l, Region.binds .any e = true ∧ (e.on = i ∨ (acc.getD e.on 0).testBit i = true)
  | [], i, h => by simp [befAcc] at h
  | e :: l, i, h => by
    simp only [befAcc] at h
    cases hb : Region.binds .any e with
    | false =>
      simp only [hb] at h
      obtain ⟨e', h1, h2⟩ := befAcc_mem h
      exact ⟨e', List.mem_cons_of_mem _ h1, h2⟩
    | true =>
      simp only [hb, Nat.testBit_or, Bool.or_eq_true, Nat.testBit_two_pow, decide_eq_true_eq] at h
      rcases h with (h | h) | h
      · exact ⟨e, List.mem_cons_self, hb, .inl h⟩
      · exact ⟨e, List.mem_cons_self, hb, .inr h⟩
      · obtain ⟨e', h1, h2⟩ := befAcc_mem h
        exact ⟨e', List.mem_cons_of_mem _ h1, h2⟩
theorem tabOk_fits {tab : List Nat} : ∀ {l : List Oper} {k : Nat}, tabOkGo tab l k = true → ∀ j o, l[j]? = some o → tab.getD (k + j) 0 = befAcc tab o.after.toList
  | [], _, _, j, o, hj => by simp at hj
  | x :: l, k, h, j, o, hj => by
    simp only [tabOkGo] at h
    cases hb : Nat.beq (tab.getD k 0) (befAcc tab x.after.toList) with
    | false => simp only [hb] at h; cases h
    | true =>
      simp only [hb] at h
      cases j with
      | zero => simp only [List.getElem?_cons_zero, Option.some.injEq] at hj; subst hj; exact Nat.eq_of_beq_eq_true hb
      | succ j => rw [show k + (j + 1) = k + 1 + j from by omega]; exact tabOk_fits h j o (by simpa using hj)
theorem fits_of {ops : List Oper} {tab : List Nat} (h : tabOkGo tab ops 0 = true) : TabFits ⟨ops⟩ tab := by
  intro j o hj i hi
  have hj' : ops[j]? = some o := by simpa using hj
  rw [show j = 0 + j from by omega, tabOk_fits h j o hj'] at hi
  obtain ⟨e, h1, h2⟩ := befAcc_mem hi
  exact ⟨e, by simpa using h1, h2⟩
/-- whatever has come, all that is bound to come before it has -/
def Closed (tab : List Nat) (listed : Array Bool) : Prop := ∀ j, listed.getD j false = true → ∀ i, (tab.getD j 0).testBit i = true → listed.getD i false = true
theorem Closed.ready {ops : Array Oper} {tab : List Nat} {listed : Array Bool} (hf : TabFits ops tab) (hc : Closed tab listed) {j : Nat} (hj : j ∈ Region.ready .any ops listed) :
    ∀ i, (tab.getD j 0).testBit i = true → listed.getD i false = true := by
  intro i hi
  obtain ⟨_, o, ho, hall⟩ := mem_ready.1 hj
  obtain ⟨e, he, hb, h⟩ := hf j o ho i hi
  have he' := hall e he hb
  rcases h with rfl | h
  · exact he'
  · exact hc _ he' i h
theorem Closed.set {ops : Array Oper} {tab : List Nat} {listed : Array Bool} (hf : TabFits ops tab) (hc : Closed tab listed) {j : Nat} (hj : j ∈ Region.ready .any ops listed) :
    Closed tab (listed.setIfInBounds j true) := by
  intro k hk i hi
  refine getD_set_true ?_
  by_cases hkj : j = k
  · subst hkj; exact hc.ready hf hj i hi
  · rw [getD_set_ne false hkj] at hk; exact hc k hk i hi
theorem unlisted {listed : Array Bool} {i : Nat} (h : listed.getD i true = false) : listed.getD i false = false := by
  rcases Nat.lt_or_ge i listed.size with h' | h'
  · simp [h'] at h ⊢; exact h
  · simp [Array.getElem?_eq_none h'] at h
section
variable {P : Program} {ops : Array Oper} {Q : Exit → Act → World → Prop}
/-- In this state and world the operation gives the value, and does nothing else. -/
def Gives (P : Program) (ops : Array Oper) (o : Oper) (v : Value) (a : Act) (w : World) : Prop :=
  (Region.wanted o (yielded ops a.tmps) = true ∧ (execOp a.eval o).run P w = .ok (.value v) w) ∨
  (Region.wanted o (yielded ops a.tmps) = false ∧ v = undef)
theorem Gives.wpOp {i : Nat} {o : Oper} {v : Value} {a : Act} (hi : ops[i]? = some o) {K : Act → World → Prop} {w : World} (hy : Gives P ops o v a w) (h : K (a.put o.dst v) w) :
    wpOp P ops Q i K a w := by
  unfold Go.wpOp
  simp only [hi]
  rcases hy with ⟨hw, hv⟩ | ⟨hw, rfl⟩
  · simp only [hw, if_true, Oper.wp, hv, Oper.upon]; exact .inl h
  · simp only [hw, Bool.false_eq_true, if_false]; exact h
theorem wpOp_putG {j : Nat} {oi oj : Oper} {v : Value} (hj : ops[j]? = some oj) (hap : oi.apart ops oj = true)
    (hsi : ∀ cs b, oi.op ≠ .select cs b) (hsj : ∀ cs b, oj.op ≠ .select cs b)
    (hQ : ∀ c a w, Q (.panic c) (a.put oi.dst v) w → Q (.panic c) a w) {K : Act → World → Prop} {a : Act} {w : World}
    (h : wpOp P ops Q j K (a.put oi.dst v) w) :
    wpOp P ops Q j (fun a' w' => (execOp a'.eval oi = execOp a.eval oi ∧ Region.wanted oi (yielded ops a'.tmps) = Region.wanted oi (yielded ops a.tmps)) ∧ K (a'.put oi.dst v) w') a w := by
  obtain ⟨h1, h2, h3⟩ := Oper.apart_spec hap
  have keep : ∀ u, execOp (a.put oj.dst u).eval oi = execOp a.eval oi ∧ Region.wanted oi (yielded ops (a.put oj.dst u).tmps) = Region.wanted oi (yielded ops a.tmps) := fun u =>
    ⟨execOp_put oi hsi a oj.dst u h3, wanted_put oi a oj.dst u h3⟩
  have keepD : ∀ d u, execOp (({ a with defers := d :: a.defers } : Act).put oj.dst u).eval oi = execOp a.eval oi ∧
      Region.wanted oi (yielded ops (({ a with defers := d :: a.defers } : Act).put oj.dst u).tmps) = Region.wanted oi (yielded ops a.tmps) := fun d u =>
    ⟨(execOp_put oi hsi _ oj.dst u h3).trans rfl, (wanted_put oi _ oj.dst u h3).trans rfl⟩
  unfold wpOp at *
  simp only [hj] at *
  rw [wanted_put oj a oi.dst v h1] at h
  split
  · rename_i hw
    simp only [hw, if_true] at h
    rcases h with h | ⟨hasks, hlets⟩
    case inr => exact .inr ⟨by unfold Oper.asks at *; rw [execOp_put oj hsj a oi.dst v h1] at hasks; exact hasks, hlets⟩
    refine .inl ?_
    unfold Oper.wp at *
    rw [execOp_put oj hsj a oi.dst v h1] at h
    generalize (execOp a.eval oj).run P w = r at *
    cases r with
    | ok x w' =>
      cases x <;> simp only [Oper.upon] at h ⊢
      case value u => exact ⟨keep u, by rw [← Act.put_comm a v u h2]; exact h⟩
      case skip => exact ⟨keep _, by rw [← Act.put_comm a v undef h2]; exact h⟩
      case defer d =>
        refine ⟨keepD _ _, ?_⟩
        rw [← Act.put_comm _ v undef h2, ← Act.put_defers]
        exact h
      case enter f args =>
        refine Calls.mono h fun e w'' he => ?_
        cases e with
        | returned u => exact ⟨keep u, by rw [← Act.put_comm a v u h2]; exact he⟩
        | panicked c => exact hQ _ _ _ he
        | outgrown => exact he
      case row row args => exact Rows.mono h fun u w'' he => ⟨keep u, by rw [← Act.put_comm a v u h2]; exact he⟩
    | halt x w' =>
      cases x <;> simp only [Oper.upon] at h ⊢ <;> first | exact hQ _ _ _ h | exact h
  · rename_i hw
    simp only [hw, Bool.false_eq_true, if_false] at h
    exact ⟨keep _, by rw [← Act.put_comm a v undef h2]; exact h⟩
def addO (i : Nat) (v : Value) : Option (Sem Value) → Owed → Owed
  | some s, l => (i, s, v) :: l
  | none, l => l
def Src (P : Program) (E : Sem Next) (W : Bool) (v : Value) : Option (Sem Value) → Prop
  | some s => W = true ∧ E = (do pure (.value (← s)))
  | none => ∀ w, (W = true ∧ E.run P w = .ok (.value v) w) ∨ (W = false ∧ v = undef)
/-- **A quiet operation may be taken first**, if what it reads is there again behind each operation that may come ahead of it. -/
theorem wpO_first {tab : List Nat} (hfit : TabFits ops tab) {i : Nat} {oi : Oper} {v : Value} {ow : Option (Sem Value)} (hi : ops[i]? = some oi)
    (hsel : ∀ (j : Nat) (o : Oper) cs b, ops[j]? = some o → o.op ≠ .select cs b) (hQ : ∀ c a w, Q (.panic c) (a.put oi.dst v) w → Q (.panic c) a w)
    (hfree : ∀ j oj, ops[j]? = some oj → j ≠ i → (∀ e ∈ oj.after, Region.binds .any e = true → e.on ≠ i) → (∀ e ∈ oi.after, Region.binds .any e = true → e.on ≠ j) → oi.apart ops oj = true)
    (E : Sem Next) (W : Bool) (hEW : Src P E W v ow) :
    ∀ (fuel : Nat) (owed : Owed) (listed : Array Bool) (a : Act) (w : World),
      execOp a.eval oi = E → Region.wanted oi (yielded ops a.tmps) = W → Closed tab listed → i ∈ Region.ready .any ops listed →
      (∀ s, ow = some s → s.run P w = .ok v w) →
      (∀ x ∈ owed, x.2.1.run P w = .ok x.2.2 w) →
      wpO P ops Q tab (addO i v ow owed) fuel (listed.setIfInBounds i true) (a.put oi.dst v) w →
      wpO P ops Q tab owed (fuel + 1) listed a w := by
  have gives : ∀ a w, execOp a.eval oi = E → Region.wanted oi (yielded ops a.tmps) = W → (∀ s, ow = some s → s.run P w = .ok v w) → Gives P ops oi v a w := by
    intro a w hE hW hs
    cases ow with
    | some s =>
      refine .inl ⟨by rw [hW, hEW.1], ?_⟩
      rw [hE, hEW.2, run_vNext (hs s rfl)]
    | none =>
      rcases hEW w with ⟨h1, h2⟩ | ⟨h1, h2⟩
      · exact .inl ⟨by rw [hW, h1], by rw [hE, h2]⟩
      · exact .inr ⟨by rw [hW, h1], h2⟩
  have sub : ∀ (owed : Owed) x, x ∈ owed → x ∈ addO i v ow owed := by
    intro owed x hx
    cases ow with
    | some s => exact List.mem_cons_of_mem _ hx
    | none => exact hx
  intro fuel
  induction fuel with
  | zero =>
    intro owed listed a w hE hW hc hr hs hold H
    refine ⟨fun h => (by rw [h] at hr; cases hr), fun j hj => ?_⟩
    by_cases hji : j = i
    · subst hji
      exact (gives a w hE hW hs).wpOp hi ⟨fun x hx => hold x (mem_keep.1 hx).1, H⟩
    · have := ready_mono hj hji
      rw [H.1] at this
      cases this
  | succ fuel ih =>
    intro owed listed a w hE hW hc hr hs hold H
    refine ⟨fun h => (by rw [h] at hr; cases hr), fun j hj => ?_⟩
    by_cases hji : j = i
    · subst hji
      exact (gives a w hE hW hs).wpOp hi ⟨fun x hx => hold x (mem_keep.1 hx).1, wpO_less _ _ _ _ _ _ (fun x hx => sub owed x (mem_keep.1 hx).1) H⟩
    · have h1 := H.2 j (ready_mono hj hji)
      obtain ⟨hjun, oj, hoj, hall⟩ := mem_ready.1 hj
      obtain ⟨hiun, oi', hoi', halli⟩ := mem_ready.1 hr
      rw [hi] at hoi'
      obtain rfl := Option.some.inj hoi'
      have hnot : ∀ e ∈ oj.after, Region.binds .any e = true → e.on ≠ i := fun e he hb heq => by
        have h1 := hall e he hb
        rw [heq, unlisted hiun] at h1; cases h1
      have hnot' : ∀ e ∈ oi.after, Region.binds .any e = true → e.on ≠ j := fun e he hb heq => by
        have h1 := halli e he hb
        rw [heq, unlisted hjun] at h1; cases h1
      have hbit : (tab.getD j 0).testBit i = false := by
        cases hb : (tab.getD j 0).testBit i with
        | false => rfl
        | true => have := hc.ready hfit hj i hb; rw [unlisted hiun] at this; cases this
      have h2 := wpOp_putG hoj (hfree j oj hoj hji hnot hnot') (fun cs b => hsel i oi cs b hi) (fun cs b => hsel j oj cs b hoj) hQ h1
      refine wpOp_mono (fun a' w' h3 => ?_) h2
      obtain ⟨⟨hE', hW'⟩, hchk, h4⟩ := h3
      have hkeep : keepOwed (tab.getD j 0) (addO i v ow owed) = addO i v ow (keepOwed (tab.getD j 0) owed) := by
        cases ow with
        | some s => simp only [addO, keepOwed, hbit]
        | none => rfl
      rw [hkeep] at hchk h4
      refine ⟨fun x hx => hchk x (sub _ x hx), ih _ (listed.setIfInBounds j true) a' w' (hE'.trans hE) (hW'.trans hW) (hc.set hfit hj) (ready_mono hr (Ne.symm hji)) ?_ (fun x hx => hchk x (sub _ x hx)) ?_⟩
      · intro s hs'
        subst hs'
        exact hchk (i, s, v) List.mem_cons_self
      · rw [Array.setIfInBounds_comm _ _ hji]
        exact h4
end
theorem dQ_cases {P : Program} {n : Nat} {o : Oper} {env : Env} {K : Env → Option (Sem Value × Value) → PT} {a : Act} {w : World} (h : dQ P n o env K w) (ha : Agrees n env a) :
    dstOk n o.dst = true ∧ ∃ v ow, K (env.put o.dst v) (match ow with | some s => some (s, v) | none => none) w ∧ Src P (execOp a.eval o) true v ow ∧ (∀ s, ow = some s → s.run P w = .ok v w) := by
  unfold dQ at h
  cases hc : hasAll env o.op.operands.toList && dstOk n o.dst && notSelect o.op with
  | false => simp only [hc] at h; exact h.elim
  | true =>
  simp only [hc] at h
  simp only [Bool.and_eq_true] at hc
  obtain ⟨⟨hall, hdst⟩, hns⟩ := hc
  have hex : execOp a.eval o = execOp env.eval o := execOp_congr o (fun cs b e => by rw [e] at hns; cases hns)
    (fun x hx => ha.eval (hasAll_mem hall x (by simpa using hx)))
  refine ⟨hdst, ?_⟩
  rw [hex]
  have fin : ∀ v, (∀ w, (execOp env.eval o).run P w = .ok (.value v) w) → K (env.put o.dst v) none w →
      ∃ v ow, K (env.put o.dst v) (match ow with | some s => some (s, v) | none => none) w ∧ Src P (execOp env.eval o) true v ow ∧ (∀ s, ow = some s → s.run P w = .ok v w) :=
    fun v hv hK => ⟨v, none, hK, fun w => .inl ⟨rfl, hv w⟩, fun s hs => by cases hs⟩
  have general : ∀ b : Bool, (match b with
      | true => match pureRun P (execOp env.eval o) with
        | some (.value v) => K (env.put o.dst v) none
        | _ => fail
      | false => match semV env.eval o with
        | some s => rdP P (tyOf P o.type) s fun r => K (env.put o.dst (eT _ r)) (some (s, eT _ r))
        | none => fail : PT) w →
      ∃ v ow, K (env.put o.dst v) (match ow with | some s => some (s, v) | none => none) w ∧ Src P (execOp env.eval o) true v ow ∧ (∀ s, ow = some s → s.run P w = .ok v w) := by
    intro b h
    cases b with
    | true =>
      cases hv : pureRun P (execOp env.eval o) with
      | none => simp only [hv] at h; exact h.elim
      | some x =>
        simp only [hv] at h
        cases x with
        | value v => exact fin v (pureRun_ok P _ _ hv) h
        | _ => exact h.elim
    | false =>
      cases hs : semV env.eval o with
      | none => simp only [hs] at h; exact h.elim
      | some s =>
        simp only [hs] at h
        obtain ⟨r, hr, hK⟩ := h
        exact ⟨_, some s, hK, ⟨rfl, semV_ok hs⟩, fun s' hs' => by cases hs'; exact hr⟩
  cases hop : o.op with
  | nilCheck x =>
    simp only [hop] at h
    cases hx : env.eval x <;> simp only [hx] at h <;> first | exact h.elim | skip
    rename_i p
    cases p with
    | none => exact h.elim
    | some ad =>
      refine fin _ (fun w => ?_) h
      unfold execOp
      rw [hop]
      simp only [hx]
      rfl
  | indexAddr t x i =>
    simp only [hop] at h
    have hex2 : execOp env.eval o = (do pure (.value (← Instr.indexAt t (env.eval x) (env.eval i)))) := by
      obtain ⟨dst, op, type, pos, after, guard⟩ := o; simp only at hop; subst hop; rfl
    have hcells : ∀ e, ∀ w, (sizeOf e).run P w = match P.info? e with | some i => .ok i.size w | none => .halt (.stuck "no such type") w := by
      intro e w
      simp only [sizeOf, typeInfo, Sem.run_bind, run_program, Result.andThen_ok]
      cases P.info? e <;> simp
    cases hu : P.underlying t with
    | none => simp only [hu] at h; exact h.elim
    | some u =>
      simp only [hu] at h
      cases u <;> try exact h.elim
      case slice e =>
        simp only at h
        cases hx : env.eval x <;> simp only [hx] at h <;> try exact h.elim
        rename_i ad len cap
        cases hi : env.eval i <;> simp only [hi] at h <;> try exact h.elim
        rename_i ik iv
        cases hinfo : P.info? e with
        | none => simp only [hinfo] at h; exact h.elim
        | some info =>
        simp only [hinfo] at h
        obtain ⟨ad', had, h0, h1, hK⟩ := h
        simp only at had h1
        subst had
        refine fin _ (fun w => ?_) hK
        rw [hex2, hx, hi]
        refine run_vNext ?_
        simp only [Instr.indexAt, asIntOf, underlying, Sem.run_bind, run_program, Sem.run_pure, Result.andThen_ok, hu, h0, h1, and_self, if_true, hcells, hinfo, Program.cellsOf, Option.map_some, Option.getD_some]
      case array len e =>
        simp only at h
        cases hx : env.eval x <;> simp only [hx] at h <;> try exact h.elim
        rename_i p
        cases p <;> simp only at h <;> try exact h.elim
        rename_i ad
        cases hi : env.eval i <;> simp only [hi] at h <;> try exact h.elim
        rename_i ik iv
        cases hinfo : P.info? e with
        | none => simp only [hinfo] at h; exact h.elim
        | some info =>
        simp only [hinfo] at h
        obtain ⟨h0, h1, hK⟩ := h
        refine fin _ (fun w => ?_) hK
        rw [hex2, hx, hi]
        refine run_vNext ?_
        simp only [Instr.indexAt, asIntOf, underlying, Instr.sureAddr, Sem.run_bind, run_program, Sem.run_pure, Result.andThen_ok, hu, h0, h1, and_self, if_true, hcells, hinfo, Program.cellsOf, Option.map_some, Option.getD_some]
  | pick c x y =>
    simp only [hop] at h
    cases hcb : env.eval c <;> simp only [hcb] at h <;> try exact h.elim
    rename_i cb
    have hex2 : ∀ w, (execOp env.eval o).run P w = .ok (.value (if cb then env.eval x else env.eval y)) w := by
      intro w
      obtain ⟨dst, op, type, pos, after, guard⟩ := o; simp only at hop; subst hop
      simp [execOp, hcb, asBool]
    cases cb
    · exact fin _ hex2 h
    · exact fin _ hex2 h
  | fieldAddr t x f => simp only [hop] at h; exact general true h
  | _ => simp only [hop] at h; refine general (isPure P o.op) ?_; rw [hop]; exact h
theorem dQuiet_cases {P : Program} {n : Nat} {ops : Array Oper} {o : Oper} {env : Env} {K : Env → Option (Sem Value × Value) → PT} {a : Act} {w : World}
    (h : dQuiet P n ops.toList o env K w) (ha : Agrees n env a) :
    ∃ env' v ow, K env' (match ow with | some s => some (s, v) | none => none) w ∧ Agrees n env' (a.put o.dst v) ∧ Src P (execOp a.eval o) (Region.wanted o (yielded ops a.tmps)) v ow ∧
      (∀ s, ow = some s → s.run P w = .ok v w) := by
  unfold dQuiet at h
  cases hg : o.guard with
  | none =>
    simp only [hg] at h
    obtain ⟨hd, v, ow, h1, h2, h3⟩ := dQ_cases h ha
    refine ⟨_, v, ow, h1, ha.put hd v, ?_, h3⟩
    simpa only [Region.wanted, hg] using h2
  | some jw =>
    obtain ⟨j, want⟩ := jw
    simp only [hg] at h
    cases hj : ops.toList[j]? with
    | none => simp only [hj] at h; exact h.elim
    | some oj =>
    simp only [hj] at h
    cases hd : oj.dst with
    | none => simp only [hd] at h; exact h.elim
    | some d =>
    simp only [hd] at h
    cases hv : env.get d with
    | none => simp only [hv] at h; exact h.elim
    | some v =>
    simp only [hv] at h
    cases hdst : dstOk n o.dst with
    | false => simp only [hdst] at h; exact h.elim
    | true =>
    simp only [hdst] at h
    have hy := yielded_of ha hj hd hv
    have skip : (∀ b, v ≠ .bool b) → K (env.put o.dst undef) none w → ∃ env' v ow, K env' (match ow with | some s => some (s, v) | none => none) w ∧ Agrees n env' (a.put o.dst v) ∧
        Src P (execOp a.eval o) (Region.wanted o (yielded ops a.tmps)) v ow ∧ (∀ s, ow = some s → s.run P w = .ok v w) := by
      intro hnb hK
      have hw : Region.wanted o (yielded ops a.tmps) = false := by
        simp only [Region.wanted, hg, hy]
        cases v <;> first | rfl | exact absurd rfl (hnb _)
      exact ⟨_, undef, none, hK, ha.put hdst undef, fun w => .inr ⟨hw, rfl⟩, fun s hs => by cases hs⟩
    cases v <;> simp only at h <;> first | exact skip (by simp) h | skip
    rename_i b
    have hlit : ∀ l, b = l → (match bxor l want with
              | true => dQ P n o ((d, .bool l) :: env) K
              | false => K (Env.put ((d, .bool l) :: env) o.dst undef) none : PT) w → ∃ env' v ow, K env' (match ow with | some s => some (s, v) | none => none) w ∧ Agrees n env' (a.put o.dst v) ∧
        Src P (execOp a.eval o) (Region.wanted o (yielded ops a.tmps)) v ow ∧ (∀ s, ow = some s → s.run P w = .ok v w) := by
      rintro l rfl h
      have ha' : Agrees n ((d, .bool b) :: env) a := ha.putLit hv
      have hw : Region.wanted o (yielded ops a.tmps) = bxor b want := by
        simp only [Region.wanted, hg, hy]
        cases b <;> cases want <;> rfl
      cases hx : bxor b want with
      | true =>
        simp only [hx] at h
        obtain ⟨hd, v, ow, h1, h2, h3⟩ := dQ_cases h ha'
        exact ⟨_, v, ow, h1, ha'.put hd v, by rw [hw, hx]; exact h2, h3⟩
      | false =>
        simp only [hx] at h
        exact ⟨_, undef, none, h, ha'.put hdst undef, fun w => .inr ⟨by rw [hw, hx], rfl⟩, fun s hs => by cases hs⟩
    cases b
    · exact hlit false rfl h
    · exact hlit true rfl h

structure Rel (ops : Array Oper) (done : Nat) (listed : Array Bool) : Prop where
  size : listed.size = ops.size
  bits : ∀ i, i < ops.size → done.testBit i = listed.getD i false
theorem emask_bit : ∀ {l : List Edge} {i : Nat}, (emask l).testBit i = true ↔ ∃ e ∈ l, Region.binds .any e = true ∧ e.on = i
  | [], i => by simp [emask]
  | e :: l, i => by
    simp only [emask]
    cases hb : Region.binds .any e with
    | false => simp [emask_bit (l := l), hb]
    | true =>
      simp only [Nat.testBit_or, Nat.testBit_two_pow, Bool.or_eq_true, decide_eq_true_eq, emask_bit (l := l), List.mem_cons, exists_eq_or_imp, hb, true_and]
theorem isReady_iff {done : Nat} {o : Oper} : isReady done o = true ↔ ∀ e ∈ o.after.toList, Region.binds .any e = true → done.testBit e.on = true := by
  unfold isReady
  constructor
  · intro h e he hb
    have h := Nat.eq_of_beq_eq_true h
    have h1 : (dmask o).testBit e.on = true := emask_bit.2 ⟨e, he, hb, rfl⟩
    rw [← h] at h1
    have : (dmask o &&& done).testBit e.on = true := h1
    rw [Nat.testBit_and, Bool.and_eq_true] at this
    exact this.2
  · intro h
    have : dmask o &&& done = dmask o := by
      apply Nat.eq_of_testBit_eq
      intro i
      rw [Nat.testBit_and]
      cases hb : (dmask o).testBit i with
      | false => rfl
      | true =>
        obtain ⟨e, he, hbi, rfl⟩ := emask_bit.1 hb
        rw [h e he hbi]; rfl
    show Nat.beq (dmask o &&& done) (dmask o) = true
    rw [this]; exact Nat.beq_refl _
theorem tmask_bit : ∀ {l : List Tmp} {i : Nat}, (tmask l).testBit i = true ↔ i ∈ l
  | [], i => by simp [tmask]
  | t :: l, i => by
    simp only [tmask, Nat.testBit_or, Nat.testBit_two_pow, Bool.or_eq_true, decide_eq_true_eq, tmask_bit (l := l), List.mem_cons]
    exact ⟨fun h => h.imp Eq.symm id, fun h => h.imp Eq.symm id⟩
theorem land_zero {a b : Nat} (h : Nat.beq (Nat.land a b) 0 = true) (i : Nat) (ha : a.testBit i = true) : b.testBit i = false := by
  have h := Nat.eq_of_beq_eq_true h
  have : (a &&& b).testBit i = false := by show (Nat.land a b).testBit i = false; rw [h]; simp
  rw [Nat.testBit_and, ha] at this
  simpa using this
theorem land_bit {a i : Nat} (h : (!Nat.beq (Nat.land a (2 ^ i)) 0) = true) : a.testBit i = true := by
  cases hb : a.testBit i with
  | true => rfl
  | false =>
    have : a &&& 2 ^ i = 0 := by
      apply Nat.eq_of_testBit_eq
      intro j
      rw [Nat.testBit_and, Nat.testBit_two_pow]
      by_cases hij : i = j
      · subst hij; simp [hb]
      · simp [hij]
    have h' : Nat.land a (2 ^ i) = 0 := this
    rw [h'] at h; simp at h
theorem apart_of {ops : Array Oper} {oi oj : Oper} (h1 : Nat.beq (Nat.land (wmask oi) (Nat.lor (lmask ops oj) (wmask oj))) 0 = true) (h2 : Nat.beq (Nat.land (wmask oj) (lmask ops oi)) 0 = true) :
    oi.apart ops oj = true := by
  have w : ∀ {o : Oper} {d}, o.dst = some d → (wmask o).testBit d = true := by
    intro o d hd; simp [wmask, hd]
  have a1 : ∀ d, oi.dst = some d → (oj.looksAt ops).contains d = false ∧ oj.dst ≠ some d := by
    intro d hd
    have := land_zero h1 d (w hd)
    have : (lmask ops oj ||| wmask oj).testBit d = false := this
    rw [Nat.testBit_or, Bool.or_eq_false_iff] at this
    refine ⟨?_, fun h => ?_⟩
    · cases hc : (oj.looksAt ops).contains d with
      | false => rfl
      | true =>
        have hm : d ∈ oj.looksAt ops := by simpa using hc
        have h3 : (lmask ops oj).testBit d = true := tmask_bit.2 hm
        rw [this.1] at h3; cases h3
    · have := w h; simp_all
  have a2 : ∀ d, oj.dst = some d → (oi.looksAt ops).contains d = false := by
    intro d hd
    have := land_zero h2 d (w hd)
    cases hc : (oi.looksAt ops).contains d with
    | false => rfl
    | true =>
      have hm : d ∈ oi.looksAt ops := by simpa using hc
      have h3 : (lmask ops oi).testBit d = true := tmask_bit.2 hm
      rw [this] at h3; cases h3
  unfold Oper.apart
  cases hi : oi.dst with
  | none =>
    cases hj : oj.dst with
    | none => rfl
    | some e => simp only [a2 e hj]; rfl
  | some d =>
    obtain ⟨b1, b2⟩ := a1 d hi
    cases hj : oj.dst with
    | none => simp only [b1]; rfl
    | some e =>
      simp only [b1, a2 e hj]
      have : e ≠ d := fun h => b2 (by rw [hj, h])
      simp [this]
theorem edgesIn_mem {n : Nat} : ∀ {l : List Oper}, edgesIn n l = true → ∀ o ∈ l, ∀ e ∈ o.after, e.on < n
  | [], _, o, ho => by cases ho
  | x :: l, h, o, ho => by
    simp only [edgesIn, Bool.and_eq_true, List.all_eq_true] at h
    rcases List.mem_cons.1 ho with rfl | ho
    · intro e he
      have := h.1 e (by simpa using he)
      simpa using this
    · exact edgesIn_mem h.2 o ho
theorem Rel.ready {ops : Array Oper} {done : Nat} {listed : Array Bool} (hr : Rel ops done listed) (he : edgesIn ops.size ops.toList = true) {i : Nat} {o : Oper} (hi : ops[i]? = some o) :
    i ∈ Region.ready .any ops listed ↔ done.testBit i = false ∧ isReady done o = true := by
  have hlt : i < ops.size := (Array.getElem?_eq_some_iff.1 hi).1
  rw [mem_ready, isReady_iff, hr.bits i hlt]
  have h1 : listed.getD i true = listed.getD i false := by
    have : i < listed.size := by rw [hr.size]; exact hlt
    simp [this]
  rw [h1]
  constructor
  · rintro ⟨h0, o', ho', h⟩
    rw [hi] at ho'; obtain rfl := Option.some.inj ho'
    refine ⟨h0, fun e hem hb => ?_⟩
    rw [hr.bits e.on (edgesIn_mem he o (by simpa using Array.mem_of_getElem? hi) e (by simpa using hem))]
    exact h e (by simpa using hem) hb
  · rintro ⟨h0, h⟩
    refine ⟨h0, o, hi, fun e hem hb => ?_⟩
    rw [← hr.bits e.on (edgesIn_mem he o (by simpa using Array.mem_of_getElem? hi) e hem)]
    exact h e (by simpa using hem) hb
theorem Rel.set {ops : Array Oper} {done : Nat} {listed : Array Bool} (hr : Rel ops done listed) {j : Nat} (_hj : j < ops.size) : Rel ops (done ||| 2 ^ j) (listed.setIfInBounds j true) := by
  refine ⟨by simp [hr.size], fun i hi => ?_⟩
  rw [Nat.testBit_or, Nat.testBit_two_pow, hr.bits i hi]
  have hi' : i < listed.size := by rw [hr.size]; exact hi
  by_cases hij : j = i
  · subst hij; simp [hi']
  · rw [getD_set_ne false hij]; simp [hij]
theorem readyQ_some {P : Program} {done : Nat} : ∀ {l : List Oper} {k i : Nat} {o : Oper}, readyQ P done l k = some (i, o) →
    ∃ j, i = k + j ∧ l[j]? = some o ∧ done.testBit i = false ∧ isQuiet P o = true ∧ isReady done o = true
  | [], k, i, o, h => by simp [readyQ] at h
  | x :: l, k, i, o, h => by
    simp only [readyQ] at h
    cases hb : !done.testBit k && isQuiet P x && isReady done x with
    | true =>
      simp only [hb, Option.some.injEq, Prod.mk.injEq] at h
      obtain ⟨rfl, rfl⟩ := h
      simp only [Bool.and_eq_true, Bool.not_eq_true'] at hb
      exact ⟨0, rfl, rfl, hb.1.1, hb.1.2, hb.2⟩
    | false =>
      simp only [hb] at h
      obtain ⟨j, h1, h2, h3⟩ := readyQ_some h
      exact ⟨j + 1, by omega, by simpa using h2, h3⟩
theorem mem_readyAll {done : Nat} : ∀ {l : List Oper} {k i : Nat} {o : Oper}, (i, o) ∈ readyAll done l k ↔ ∃ j, i = k + j ∧ l[j]? = some o ∧ done.testBit i = false ∧ isReady done o = true
  | [], k, i, o => by simp [readyAll]
  | x :: l, k, i, o => by
    simp only [readyAll]
    have step : (∃ j, i = k + j ∧ (x :: l)[j]? = some o ∧ done.testBit i = false ∧ isReady done o = true) ↔
        (i = k ∧ x = o ∧ done.testBit i = false ∧ isReady done o = true) ∨ (i, o) ∈ readyAll done l (k + 1) := by
      rw [mem_readyAll]
      constructor
      · rintro ⟨j, h1, h2, h3⟩
        cases j with
        | zero => simp only [List.getElem?_cons_zero, Option.some.injEq] at h2; exact .inl ⟨h1, h2, h3⟩
        | succ j => exact .inr ⟨j, by omega, by simpa using h2, h3⟩
      · rintro (⟨h1, h2, h3⟩ | ⟨j, h1, h2, h3⟩)
        · exact ⟨0, h1, by simp [h2], h3⟩
        · exact ⟨j + 1, by omega, by simpa using h2, h3⟩
    rw [step]
    cases hb : !done.testBit k && isReady done x with
    | true =>
      simp only [Bool.and_eq_true, Bool.not_eq_true'] at hb
      simp only [List.mem_cons, Prod.mk.injEq]
      constructor
      · rintro (⟨h1, h2⟩ | h)
        · exact .inl ⟨h1, h2.symm, by rw [h1]; exact hb.1, by rw [h2]; exact hb.2⟩
        · exact .inr h
      · rintro (⟨h1, h2, _⟩ | h)
        · exact .inl ⟨h1, h2.symm⟩
        · exact .inr h
    | false =>
      constructor
      · exact .inr
      · rintro (⟨rfl, rfl, h3, h4⟩ | h)
        · simp [h3, h4] at hb
        · exact h
theorem allP_mem {w : World} : ∀ {l : List PT}, allP l w → ∀ p ∈ l, p w
  | [], _, p, hp => by cases hp
  | [q], h, p, hp => by simp only [List.mem_singleton] at hp; subst hp; exact h
  | q :: r :: l, h, p, hp => by
    rcases List.mem_cons.1 hp with rfl | hp
    · exact h.1
    · exact allP_mem h.2 p hp
theorem chkAll_ok {P : Program} {K : PT} {w : World} : ∀ {l : Owed}, chkAll P l K w → (∀ x ∈ l, x.2.1.run P w = .ok x.2.2 w) ∧ K w
  | [], h => ⟨(fun x hx => by cases hx), h⟩
  | (i, s, v) :: l, h => by
    obtain ⟨h1, h2⟩ := h
    obtain ⟨h3, h4⟩ := chkAll_ok h2
    refine ⟨fun x hx => ?_, h4⟩
    rcases List.mem_cons.1 hx with rfl | hx
    · exact h1
    · exact h3 x hx
theorem freeRow_mem {ops : Array Oper} {i : Nat} {oi : Oper} : ∀ {l : List Oper} {k : Nat}, freeRow ops i oi l k = true → ∀ j oj, l[j]? = some oj → pairOk ops i oi (k + j) oj = true
  | [], _, _, j, oj, hj => by simp at hj
  | x :: l, k, h, j, oj, hj => by
    simp only [freeRow, Bool.and_eq_true] at h
    cases j with
    | zero => simp only [List.getElem?_cons_zero, Option.some.injEq] at hj; subst hj; exact h.1
    | succ j => rw [show k + (j + 1) = k + 1 + j from by omega]; exact freeRow_mem h.2 j oj (by simpa using hj)
theorem freeAll_mem {P : Program} {ops : Array Oper} : ∀ {l : List Oper} {k : Nat}, freeAll P ops l k = true → ∀ i oi, l[i]? = some oi → isQuiet P oi = true → freeRow ops (k + i) oi ops.toList 0 = true
  | [], _, _, i, oi, hi, _ => by simp at hi
  | x :: l, k, h, i, oi, hi, hq => by
    simp only [freeAll, Bool.and_eq_true] at h
    cases i with
    | zero =>
      simp only [List.getElem?_cons_zero, Option.some.injEq] at hi; subst hi
      have := h.1
      simp only [hq, Bool.not_true, Bool.false_or, Bool.and_eq_true] at this
      exact this.1
    | succ i => rw [show k + (i + 1) = k + 1 + i from by omega]; exact freeAll_mem h.2 i oi (by simpa using hi) hq
theorem free_of {P : Program} {ops : Array Oper} (h : freeAll P ops ops.toList 0 = true) {i : Nat} {oi : Oper} (hi : ops[i]? = some oi) (hq : isQuiet P oi = true) :
    ∀ j oj, ops[j]? = some oj → j ≠ i → (∀ e ∈ oj.after, Region.binds .any e = true → e.on ≠ i) → (∀ e ∈ oi.after, Region.binds .any e = true → e.on ≠ j) → oi.apart ops oj = true := by
  intro j oj hj hji h1 h2
  have := freeAll_mem h i oi (by simpa using hi) hq
  have := freeRow_mem this j oj (by simpa using hj)
  rw [show 0 + i = i from by omega, show 0 + j = j from by omega] at this
  unfold pairOk at this
  simp only [Bool.or_eq_true] at this
  rcases this with ((h | h) | h) | h
  · exact absurd (Nat.eq_of_beq_eq_true h).symm hji
  · obtain ⟨e, he, hb, ho⟩ := emask_bit.1 (land_bit h)
    exact absurd ho (h1 e (by simpa using he) hb)
  · obtain ⟨e, he, hb, ho⟩ := emask_bit.1 (land_bit h)
    exact absurd ho (h2 e (by simpa using he) hb)
  · rw [Bool.and_eq_true] at h
    exact apart_of h.1 h.2
theorem drawGo_sound {P : Program} {n : Nat} {ops : Array Oper} {tab : List Nat} {Q : Exit → Act → World → Prop} {K : Env → PT}
    (hfit : TabFits ops tab) (hfree : freeAll P ops ops.toList 0 = true) (hsel : Region.noSelect ops = true) (hedge : edgesIn ops.size ops.toList = true)
    (hQ : ∀ c a w, ¬ Q (.panic c) a w) (hk : ∀ env' a' w', K env' w' → Agrees n env' a' → Q .normal a' w') :
    ∀ (f done : Nat) (owed : Owed) (env : Env) (listed : Array Bool) (a : Act) (w : World), drawGo P n ops.toList tab f done owed env K w → Agrees n env a → Rel ops done listed →
      Closed tab listed → (∀ x ∈ owed, x.2.1.run P w = .ok x.2.2 w) → wpO P ops Q tab owed f listed a w := by
  have none_ready : ∀ {done : Nat} {listed : Array Bool}, Rel ops done listed → readyAll done ops.toList 0 = [] → Region.ready .any ops listed = [] := by
    intro done listed hr h0
    cases hrd : Region.ready .any ops listed with
    | nil => rfl
    | cons j l =>
      have hj : j ∈ Region.ready .any ops listed := by rw [hrd]; exact List.mem_cons_self
      obtain ⟨_, o, ho, _⟩ := mem_ready.1 hj
      have h1 := (hr.ready hedge ho).1 hj
      have : (j, o) ∈ readyAll done ops.toList 0 := mem_readyAll.2 ⟨j, by omega, by simpa using ho, h1.1, h1.2⟩
      rw [h0] at this; cases this
  intro f
  induction f with
  | zero =>
    intro done owed env listed a w h ha hr hc hold
    simp only [drawGo] at h
    cases h0 : readyAll done ops.toList 0 with
    | nil => simp only [h0] at h; exact ⟨none_ready hr h0, hk _ _ _ h ha⟩
    | cons x l => simp only [h0] at h; exact h.elim
  | succ f ih =>
    intro done owed env listed a w h ha hr hc hold
    simp only [drawGo] at h
    cases hq : readyQ P done ops.toList 0 with
    | some io =>
      obtain ⟨i, o⟩ := io
      simp only [hq] at h
      obtain ⟨j, hij, hj, hnd, hqu, hrd⟩ := readyQ_some hq
      obtain rfl : i = j := by omega
      have hi : ops[i]? = some o := by simpa using hj
      have hlt : i < ops.size := (Array.getElem?_eq_some_iff.1 hi).1
      have hmem := (hr.ready hedge hi).2 ⟨hnd, hrd⟩
      obtain ⟨env', v, ow, h1, h2, h3, h4⟩ := dQuiet_cases h ha
      refine wpO_first hfit hi (Region.noSelect_spec hsel) (fun c a w h => absurd h (hQ c _ w)) (free_of hfree hi hqu) _ _ h3 f owed listed a w rfl rfl hc hmem h4 hold ?_
      refine ih (done ||| 2 ^ i) _ env' _ _ _ ?_ h2 (hr.set hlt) (hc.set hfit hmem) ?_
      · cases ow <;> exact h1
      · cases ow with
        | none => exact hold
        | some s =>
          intro x hx
          rcases List.mem_cons.1 hx with rfl | hx
          · exact h4 s rfl
          · exact hold x hx
    | none =>
      simp only [hq] at h
      cases h0 : readyAll done ops.toList 0 with
      | nil =>
        simp only [h0] at h
        have hn := none_ready hr h0
        exact ⟨fun _ => hk _ _ _ h ha, (by rw [hn]; intro j hj; cases hj)⟩
      | cons x l =>
        rw [h0] at h
        simp only at h
        rw [← h0] at h
        refine ⟨fun hn => ?_, fun j hj => ?_⟩
        · have hx : (x.1, x.2) ∈ readyAll done ops.toList 0 := by rw [h0]; exact List.mem_cons_self
          obtain ⟨j, h1, h2, h3, h4⟩ := mem_readyAll.1 hx
          have := (hr.ready hedge (i := x.1) (o := x.2) (by rw [h1, Nat.zero_add]; simpa using h2)).2 ⟨h3, h4⟩
          rw [hn] at this; cases this
        · obtain ⟨_, o, ho, _⟩ := mem_ready.1 hj
          have hlt : j < ops.size := (Array.getElem?_eq_some_iff.1 ho).1
          have h1 := (hr.ready hedge ho).1 hj
          have hm : (j, o) ∈ readyAll done ops.toList 0 := mem_readyAll.2 ⟨j, by omega, by simpa using ho, h1.1, h1.2⟩
          have h2 := allP_mem h _ (List.mem_map.2 ⟨(j, o), hm, rfl⟩)
          refine dGuarded_sound ho h2 ha fun env' a' w' h3 ha' => ?_
          obtain ⟨h4, h5⟩ := chkAll_ok h3
          exact ⟨h4, ih _ _ env' _ a' w' h5 ha' (hr.set hlt) (hc.set hfit hj) h4⟩
theorem dDraw_sound {P : Program} (hm : P.follows .mixedOrders = true) {n : Nat} {id : Nat} {ops : Array Oper} {env : Env} {K : Env → PT} {a : Act} {w : World}
    {Q : Exit → Act → World → Prop} (h : dDraw P n ops.toList env K w) (ha : Agrees n env a) (hQ : ∀ c a w, ¬ Q (.panic c) a w)
    (hk : ∀ env' a' w', K env' w' → Agrees n env' a' → Q .normal a' w') :
    (Code.region id ops true).wp P Q a w := by
  unfold dDraw at h
  cases hc : freeAll P ⟨ops.toList⟩ ops.toList 0 && tabOkGo (befTab ops.toList []) ops.toList 0 && Region.noSelect ⟨ops.toList⟩ && edgesIn ops.toList.length ops.toList with
  | false => simp only [hc] at h; exact h.elim
  | true =>
    simp only [hc] at h
    simp only [Bool.and_eq_true] at hc
    obtain ⟨⟨⟨h1, h2⟩, h3⟩, h4⟩ := hc
    refine wp_region_any hm (wpO_any (tab := befTab ops.toList []) ops.size [] _ a _ ?_)
    exact drawGo_sound (fits_of h2) h1 h3 h4 hQ hk ops.toList.length 0 [] env _ a _ h ha
      ⟨by simp, fun i hi => by simp [hi]⟩ (fun j hj i hi => by
        exfalso
        rcases Nat.lt_or_ge j ops.size with h' | h'
        · simp [h'] at hj
        · simp [h'] at hj) (fun x hx => by cases hx)


/-! ### Code -/
structure Ann where
  joins : List (Nat × List (Nat × T1))
  loops : List (Nat × List (Nat × T1))
def look : List (Nat × List (Nat × T1)) → Nat → Option (List (Nat × T1))
  | [], _ => none
  | (u, l) :: r, t => match Nat.beq u t with
    | true => some l
    | false => look r t
def firstRegion : Code → Option Nat
  | .region id _ _ => some id
  | .seq x y => match firstRegion x with
    | some i => some i
    | none => firstRegion y
  | .cond _ x y => match firstRegion x with
    | some i => some i
    | none => firstRegion y
  | .block _ c => firstRegion c
  | .loop c => firstRegion c
  | .scope c => firstRegion c
  | _ => none
/-- how many loops stand around the first region -/
def loopDepth : Code → Nat
  | .seq x y => match firstRegion x with
    | some _ => loopDepth x
    | none => loopDepth y
  | .cond _ x y => match firstRegion x with
    | some _ => loopDepth x
    | none => loopDepth y
  | .block _ c => loopDepth c
  | .loop c => loopDepth c + 1
  | .scope c => loopDepth c
  | _ => 0
def loopAnn (l : List (Nat × List (Nat × T1))) (c : Code) : Option (List (Nat × T1)) :=
  match firstRegion c with
  | some i => look l (i + 1000 * loopDepth c)
  | none => none
def annOf (l : List (Nat × List (Nat × T1))) (c : Code) : Option (List (Nat × T1)) :=
  match firstRegion c with
  | some i => look l i
  | none => none
abbrev ST : List (Nat × T1) → Type
  | [] => Unit | (_, t) :: l => R1 t × ST l
def encE : (l : List (Nat × T1)) → ST l → Env
  | [], _ => [] | (u, t) :: l, s => (u, e1 t s.1) :: encE l s.2
def decE : (l : List (Nat × T1)) → Env → Option (ST l)
  | [], _ => some ()
  | (u, t) :: l, env => match env.get u with
    | some v => match d1 t v with
      | some x => match decE l env with
        | some y => some (x, y)
        | none => none
      | none => none
    | none => none
theorem decE_ok : ∀ (l : List (Nat × T1)) (env : Env) (s : ST l), decE l env = some s → ∀ t v, (encE l s).get t = some v → env.get t = some v
  | [], _, _, _, t, v, h => by simp [encE, Env.get] at h
  | (u, τ) :: l, env, s, h, t, v, hv => by
    simp only [decE] at h
    cases h1 : env.get u with
    | none => simp only [h1] at h; cases h
    | some v1 =>
    simp only [h1] at h
    cases h2 : d1 τ v1 with
    | none => simp only [h2] at h; cases h
    | some x =>
    simp only [h2] at h
    cases h3 : decE l env with
    | none => simp only [h3] at h; cases h
    | some y =>
    simp only [h3, Option.some.injEq] at h
    subst h
    simp only [encE, Env.get] at hv
    cases hb : Nat.beq u t with
    | true =>
      simp only [hb, Option.some.injEq] at hv
      have := Nat.eq_of_beq_eq_true hb
      subst this
      rw [h1, ← hv, d1_ok τ v1 x h2]
    | false =>
      simp only [hb] at hv
      exact decE_ok l env y h3 t v hv
theorem Agrees.dec {n : Nat} {env : Env} {a : Act} (h : Agrees n env a) {l : List (Nat × T1)} {s : ST l} (hs : decE l env = some s) : Agrees n (encE l s) a :=
  ⟨h.size, h.defers, fun t v hv => h.at' t v (decE_ok l env s hs t v hv)⟩

abbrev Post := Exit → Env → PT
def joinP {S : Type} (f : S → PT) (b : (S → PT) → PT) : PT := b f
def den (P : Program) (n : Nat) (A : Ann) : Code → Env → Post → PT
  | .skip, env, Q => Q .normal env
  | .region _ ops draw, env, Q => match draw with
    | false => dOps P n ops.toList ops.toList env (Q .normal)
    | true => dDraw P n ops.toList env (Q .normal)
  | .seq x y, env, Q => match annOf A.joins y with
    | none => den P n A x env fun e env' => match e with
      | .normal => den P n A y env' Q
      | e => Q e env'
    | some l => joinP (fun s => den P n A y (encE l s) Q) fun k => den P n A x env fun e env' => match e with
      | .normal => match decE l env' with
        | some s => k s
        | none => fail
      | e => Q e env'
  | .cond c x y, env, Q => match env.has c with
    | false => fail
    | true => match env.eval c with
      | .bool b => ifP b (den P n A x env Q) (den P n A y env Q)
      | _ => fail
  | .block id c, env, Q => den P n A c env fun e env' => match e with
    | .exit i => match Nat.beq i id with
      | true => Q .normal env'
      | false => Q (.exit i) env'
    | e => Q e env'
  | .loop c, env, Q => match loopAnn A.loops c with
    | none => fail
    | some l => match decE l env with
      | none => fail
      | some s => loopP (fun s k => den P n A c (encE l s) fun e env' => match e with
        | .normal => match decE l env' with
          | some s' => k s'
          | none => fail
        | e => Q e env') s
  | .exit id, env, Q => Q (.exit id) env
  | .ret, env, Q => Q .ret env
  | _, _, _ => fail

/-- what the machine's post is, of an environment's -/
def lift (n : Nat) (Q : Post) : Exit → Act → World → Prop
  | .normal, a, w => ∃ env, Agrees n env a ∧ Q .normal env w
  | .exit i, a, w => ∃ env, Agrees n env a ∧ Q (.exit i) env w
  | .ret, a, w => ∃ env, Agrees n env a ∧ Q .ret env w
  | _, _, _ => False

theorem den_sound {P : Program} (hm : P.follows .mixedOrders = true) {n : Nat} {A : Ann} : ∀ (c : Code) (env : Env) (Q : Post) (a : Act) (w : World),
    den P n A c env Q w → Agrees n env a → c.wp P (lift n Q) a w := by
  intro c
  induction c with
  | skip => intro env Q a w h ha; exact wp_skip ⟨env, ha, h⟩
  | region id ops draw =>
    intro env Q a w h ha
    cases draw with
    | false =>
      simp only [den] at h
      refine wp_region ?_
      rw [List.range_eq_range']
      have := dOps_sound (Q := lift n Q) (ops := ops) (fun env' a' w' h' ha' => ⟨env', ha', h'⟩) ops.toList 0 (by simp) env a w h ha
      simpa using this
    | true => simp only [den] at h; exact dDraw_sound hm h ha (fun c a w h => h) fun env' a' w' h' ha' => ⟨env', ha', h'⟩
  | seq x y ihx ihy =>
    intro env Q a w h ha
    refine wp_seq ?_
    simp only [den] at h
    cases hj : annOf A.joins y with
    | none =>
      simp only [hj] at h
      refine wp_mono (ihx env _ a w h ha) ?_
      intro e a' w' he
      cases e <;> simp only [lift] at he <;> first | exact he.elim | skip
      · obtain ⟨env', ha', h'⟩ := he; exact ihy env' Q a' w' h' ha'
      · obtain ⟨env', ha', h'⟩ := he; exact ⟨env', ha', h'⟩
      · obtain ⟨env', ha', h'⟩ := he; exact ⟨env', ha', h'⟩
    | some l =>
      simp only [hj, joinP] at h
      refine wp_mono (ihx env _ a w h ha) ?_
      intro e a' w' he
      cases e <;> simp only [lift] at he <;> first | exact he.elim | skip
      · obtain ⟨env', ha', h'⟩ := he
        cases hd : decE l env' with
        | none => simp only [hd] at h'; exact h'.elim
        | some s => simp only [hd] at h'; exact ihy _ Q a' w' h' (ha'.dec hd)
      · obtain ⟨env', ha', h'⟩ := he; exact ⟨env', ha', h'⟩
      · obtain ⟨env', ha', h'⟩ := he; exact ⟨env', ha', h'⟩
  | cond c x y ihx ihy =>
    intro env Q a w h ha
    simp only [den] at h
    cases hh : env.has c with
    | false => simp only [hh] at h; exact h.elim
    | true =>
    simp only [hh] at h
    have he := ha.eval hh
    cases hb : env.eval c <;> simp only [hb] at h <;> try exact h.elim
    rename_i b
    rw [hb] at he
    cases b
    · exact wp_cond_false he (ihy env Q a w h ha)
    · exact wp_cond_true he (ihx env Q a w h ha)
  | block id c ih =>
    intro env Q a w h ha
    simp only [den] at h
    refine wp_block (wp_mono (ih env _ a w h ha) ?_)
    intro e a' w' he
    cases e <;> simp only [lift] at he <;> first | exact he.elim | skip
    · exact he
    · rename_i i
      obtain ⟨env', ha', h'⟩ := he
      simp only [Exit.inBlock]
      cases hb : Nat.beq i id with
      | true =>
        simp only [hb] at h'
        rw [if_pos (Nat.eq_of_beq_eq_true hb)]
        exact ⟨env', ha', h'⟩
      | false =>
        simp only [hb] at h'
        rw [if_neg (fun e => by subst e; rw [show Nat.beq i i = true from Nat.beq_refl i] at hb; cases hb)]
        exact ⟨env', ha', h'⟩
    · exact he
  | loop c ih =>
    intro env Q a w h ha
    simp only [den] at h
    cases hl : loopAnn A.loops c with
    | none => simp only [hl] at h; exact h.elim
    | some l =>
    simp only [hl] at h
    cases hd : decE l env with
    | none => simp only [hd] at h; exact h.elim
    | some s =>
    simp only [hd] at h
    have key := h (fun s w => ∀ a, Agrees n (encE l s) a → ∀ (b : Frame) (k : List Item) (cs : List Frame),
      ∃ e a' w', lift n Q e a' w' ∧ Arrives P (lone (b.at a (.code c :: .inLoop c :: k)) cs w) b k cs e a' w') ?_
    · intro b k cs
      obtain ⟨e, a', w', hq, harr⟩ := key a (ha.dec hd) b k cs
      exact ⟨e, a', w', hq, .of_steps (.one step_loop) harr⟩
    · intro s w Y hY hbody a ha b k cs
      obtain ⟨e, a₁, w₁, hq, harr⟩ := ih (encE l s) _ a w hbody ha b (.inLoop c :: k) cs
      have pass : e ≠ .normal → lift n Q e a₁ w₁ → ∃ e a' w', lift n Q e a' w' ∧ Arrives P (lone (b.at a (.code c :: .inLoop c :: k)) cs w) b k cs e a' w' := fun hne hq =>
        ⟨e, a₁, w₁, hq, .pass (x := .inLoop c) rfl (fun _ _ => .inl hne) harr⟩
      cases e <;> simp only [lift] at hq <;> first | exact hq.elim | skip
      · obtain ⟨env', ha', h'⟩ := hq
        cases hd' : decE l env' with
        | none => simp only [hd'] at h'; exact h'.elim
        | some s' =>
          simp only [hd'] at h'
          obtain ⟨e₂, a₂, w₂, hq₂, harr₂⟩ := hY s' w₁ h' a₁ (ha'.dec hd') b k cs
          exact ⟨e₂, a₂, w₂, hq₂, .of_steps (Steps.trans harr (.one step_inLoop)) harr₂⟩
      · obtain ⟨env', ha', h'⟩ := hq; exact pass (by simp) ⟨env', ha', h'⟩
      · obtain ⟨env', ha', h'⟩ := hq; exact pass (by simp) ⟨env', ha', h'⟩
  | exit id => intro env Q a w h ha; exact wp_exit ⟨env, ha, h⟩
  | ret => intro env Q a w h ha; exact wp_ret ⟨env, ha, h⟩
  | _ => intro env Q a w h ha; exact h.elim

/-! ### Whole functions -/
/-- the results, read from the frame (a result that lies in memory is loaded) -/
def dRes (P : Program) (env : Env) : List ResultVar → (List Value → PT) → PT
  | [], K => K []
  | .tmp t :: rest, K => match env.get t with
    | some v => dRes P env rest fun vs => K (v :: vs)
    | none => fail
  | .cell t ty :: rest, K => match env.get t with
    | some (.pointer (some a)) => rdP P (.one (t1Of P ty)) (loadVar ty a) fun r => dRes P env rest fun vs => K (e1 _ r :: vs)
    | _ => fail
def packV (l : List Value) : Value := match l with | [v] => v | l => .tuple ⟨l⟩
def denF (P : Program) (fn : Func) (A : Ann) (c : Code) (args : List Value) (τ : Ty) (K : Res τ → PT) : PT :=
  den P fn.ntmps A c ((List.range args.length).zip args) fun e env => match e with
    | .normal => dRes P env fn.results.toList fun vs => match dT τ (packV vs) with
      | some r => K r
      | none => fail
    | .ret => dRes P env fn.results.toList fun vs => match dT τ (packV vs) with
      | some r => K r
      | none => fail
    | _ => fail

theorem dRes_sound {P : Program} {n : Nat} {env : Env} {a : Act} (ha : Agrees n env a) : ∀ (l : List ResultVar) (K : List Value → PT) (w : World), dRes P env l K w →
    ∃ vs, (l.mapM (m := Sem) fun
      | .tmp t => pure (a.tmps.getD t undef)
      | .cell t ty => do loadVar ty (← asAddr (a.tmps.getD t undef))).run P w = .ok vs w ∧ K vs w
  | [], K, w, h => ⟨[], by simp, h⟩
  | .tmp t :: rest, K, w, h => by
    simp only [dRes] at h
    cases hv : env.get t with
    | none => simp only [hv] at h; exact h.elim
    | some v =>
      simp only [hv] at h
      obtain ⟨vs, h1, h2⟩ := dRes_sound ha rest _ w h
      refine ⟨v :: vs, ?_, h2⟩
      have hg : a.tmps.getD t undef = v := by simp [ha.at' t v hv]
      simp only [List.mapM_cons, Sem.run_bind, Sem.run_pure, Result.andThen_ok, hg, h1]
  | .cell t ty :: rest, K, w, h => by
    simp only [dRes] at h
    cases hv : env.get t with
    | none => simp only [hv] at h; exact h.elim
    | some v =>
      simp only [hv] at h
      cases v <;> first | exact h.elim | skip
      rename_i p
      cases p <;> first | exact h.elim | skip
      rename_i ad
      obtain ⟨r, hr, h⟩ := h
      obtain ⟨vs, h1, h2⟩ := dRes_sound ha rest _ w h
      refine ⟨_ :: vs, ?_, h2⟩
      have hg : a.tmps.getD t undef = .pointer (some ad) := by simp [ha.at' t _ hv]
      have hg2 : asAddr (a.tmps.getD t undef) = pure ad := by rw [hg]; rfl
      simp only [List.mapM_cons, Sem.run_bind, Sem.run_pure, Result.andThen_ok, hg2, hr, h1, eT]
theorem results_pack {P : Program} {fn : Func} {tmps : Array Value} {vs : List Value} {w : World}
    (h : (fn.results.toList.mapM (m := Sem) fun
      | .tmp t => pure (tmps.getD t undef)
      | .cell t ty => do loadVar ty (← asAddr (tmps.getD t undef))).run P w = .ok vs w) : (results fn tmps).run P w = .ok (packV vs) w := by
  unfold results
  rw [Array.mapM_eq_mapM_toList]
  simp only [Sem.run_bind, Sem.run_map]
  erw [h]
  simp only [Result.andThen_ok, Sem.run_pure]
  congr 1
  match vs with
  | [] => simp [packV]
  | [v] => simp [packV]
  | v :: u :: r => simp [packV]
theorem Agrees.start (args : List Value) (n : Nat) (hn : args.length ≤ n) :
    Agrees n ((List.range args.length).zip args) { tmps := ⟨args⟩ ++ Array.replicate (n - args.length) undef, defers := [] } := by
  refine ⟨by simp; omega, rfl, fun t v h => ?_⟩
  have key : ∀ (l : List Value) (k : Nat), Env.get ((List.range' k l.length).zip l) t = some v → ∃ j, t = k + j ∧ l[j]? = some v := by
    intro l
    induction l with
    | nil => intro k h; simp [Env.get] at h
    | cons x l ih =>
      intro k h
      simp only [List.length_cons, List.range'_succ, List.zip_cons_cons, Env.get] at h
      cases hb : Nat.beq k t with
      | true =>
        simp only [hb, Option.some.injEq] at h
        exact ⟨0, (Nat.eq_of_beq_eq_true hb).symm, by simpa using h⟩
      | false =>
        simp only [hb] at h
        obtain ⟨j, h1, h2⟩ := ih (k + 1) h
        exact ⟨j + 1, by omega, by simpa using h2⟩
  rw [List.range_eq_range'] at h
  obtain ⟨j, h1, h2⟩ := key args 0 h
  have hj : j < args.length := (List.getElem?_eq_some_iff.1 h2).1
  have ht : t = j := by omega
  subst ht
  simp only [Array.getElem?_append, List.size_toArray, hj, if_true]
  simpa using h2
/-- **A function called, by its denotation.** -/
theorem denF_sound {P : Program} (hm : P.follows .mixedOrders = true) {f : Nat} {fn : Func} {c : Code} {A : Ann} {args : List Value} {τ : Ty} {K : Res τ → PT} {w : World}
    (hf : P.funcs[f]? = some fn) (hb : fn.body = some c) (hn : Nat.ble args.length fn.ntmps = true) (h : denF P fn A c args τ K w) : callT P f args τ K w := by
  have hn : args.length ≤ fn.ntmps := Nat.le_of_ble_eq_true hn
  refine calls_of_wp hf hb (wp_mono (den_sound hm c _ _ _ w h (Agrees.start args fn.ntmps hn)) ?_)
  have fin : ∀ (env : Env) (a : Act) (w : World), Agrees fn.ntmps env a → (dRes P env fn.results.toList fun vs => match dT τ (packV vs) with
      | some r => K r
      | none => fail) w → a.defers = [] ∧ ∃ v, (results fn a.tmps).run P w = .ok v w ∧ ∃ r, Ending.returned v = .returned (eT τ r) ∧ K r w := by
    intro env a w ha h
    obtain ⟨vs, h1, h2⟩ := dRes_sound ha _ _ w h
    refine ⟨ha.defers, _, results_pack h1, ?_⟩
    cases hd : dT τ (packV vs) with
    | none => simp only [hd] at h2; exact h2.elim
    | some r => simp only [hd] at h2; exact ⟨r, by rw [dT_ok τ _ r hd], h2⟩
  intro e a w he
  cases e <;> simp only [lift] at he <;> first | exact he.elim | skip
  · obtain ⟨env, ha, h⟩ := he; exact fin env a w ha h
  · obtain ⟨env, ha, h⟩ := he; exact h.elim
  · obtain ⟨env, ha, h⟩ := he; exact fin env a w ha h

end Go.Proofs.Ytmnpfkdiknfkoaa.Sx
