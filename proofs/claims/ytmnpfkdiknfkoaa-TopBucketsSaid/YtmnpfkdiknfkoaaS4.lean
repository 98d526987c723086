/-
  Assertions over the heap's blocks (separation), sequents of a denotation under an assertion, and the rules of the plain operations. Generic in the program. No condition.
-/
import Derived.Test.YtmnpfkdiknfkoaaS3
import Derived.Laws.CopyRow
import Derived.Laws.StructEq
import Derived.Laws.Cells
namespace Go.Proofs.Ytmnpfkdiknfkoaa.Sx
open Go

abbrev Hp := Nat → Option Obj
/-- an assertion over some blocks -/
def SP := Hp → Prop
def Hp.or (a b : Hp) : Hp := fun k => (a k).or (b k)
def Hp.apart (a b : Hp) : Prop := ∀ k, a k = none ∨ b k = none
def SP.star (A B : SP) : SP := fun h => ∃ a b, A a ∧ B b ∧ Hp.apart a b ∧ h = Hp.or a b
instance : Mul SP := ⟨SP.star⟩
def emp : SP := fun h => ∀ k, h k = none
def pt (b : Nat) (o : Obj) : SP := fun h => h = fun k => if k = b then some o else none
/-- a plain fact -/
def fact (p : Prop) : SP := fun h => p ∧ ∀ k, h k = none
def exS {α : Type} (A : α → SP) : SP := fun h => ∃ a, A a h
def anyS : SP := fun _ => True
theorem SP.ext {A B : SP} (h : ∀ x, A x ↔ B x) : A = B := funext fun x => propext (h x)
theorem star_def {A B : SP} {h : Hp} : (A * B) h ↔ ∃ a b, A a ∧ B b ∧ Hp.apart a b ∧ h = Hp.or a b := Iff.rfl
theorem Hp.or_comm {a b : Hp} (h : Hp.apart a b) : Hp.or a b = Hp.or b a := by
  funext k; rcases h k with h | h <;> simp [Hp.or, h]
theorem star_comm (A B : SP) : A * B = B * A := by
  apply SP.ext; intro h
  constructor
  · rintro ⟨a, b, ha, hb, hab, rfl⟩; exact ⟨b, a, hb, ha, fun k => (hab k).symm, Hp.or_comm hab⟩
  · rintro ⟨a, b, ha, hb, hab, rfl⟩; exact ⟨b, a, hb, ha, fun k => (hab k).symm, Hp.or_comm hab⟩
theorem star_assoc (A B C : SP) : A * B * C = A * (B * C) := by
  apply SP.ext; intro h
  constructor
  · rintro ⟨x, c, ⟨a, b, ha, hb, hab, rfl⟩, hc, hxc, rfl⟩
    have h1 : ∀ k, a k = none ∨ c k = none := fun k => by
      rcases hxc k with h | h
      · simp only [Hp.or, Option.or_eq_none_iff] at h; exact .inl h.1
      · exact .inr h
    have h2 : ∀ k, b k = none ∨ c k = none := fun k => by
      rcases hxc k with h | h
      · simp only [Hp.or, Option.or_eq_none_iff] at h; exact .inl h.2
      · exact .inr h
    refine ⟨a, Hp.or b c, ha, ⟨b, c, hb, hc, h2, rfl⟩, fun k => ?_, ?_⟩
    · rcases hab k with h | h
      · exact .inl h
      · rcases h1 k with h' | h'
        · exact .inl h'
        · exact .inr (by simp [Hp.or, h, h'])
    · funext k; simp [Hp.or, Option.or_assoc]
  · rintro ⟨a, x, ha, ⟨b, c, hb, hc, hbc, rfl⟩, hax, rfl⟩
    have h1 : ∀ k, a k = none ∨ b k = none := fun k => by
      rcases hax k with h | h
      · exact .inl h
      · simp only [Hp.or, Option.or_eq_none_iff] at h; exact .inr h.1
    have h2 : ∀ k, a k = none ∨ c k = none := fun k => by
      rcases hax k with h | h
      · exact .inl h
      · simp only [Hp.or, Option.or_eq_none_iff] at h; exact .inr h.2
    refine ⟨Hp.or a b, c, ⟨a, b, ha, hb, h1, rfl⟩, hc, fun k => ?_, ?_⟩
    · rcases hbc k with h | h
      · rcases h2 k with h' | h'
        · exact .inl (by simp [Hp.or, h, h'])
        · exact .inr h'
      · exact .inr h
    · funext k; simp [Hp.or, Option.or_assoc]
instance : Std.Associative (α := SP) (· * ·) := ⟨star_assoc⟩
instance : Std.Commutative (α := SP) (· * ·) := ⟨star_comm⟩
theorem star_left_comm (A B C : SP) : A * (B * C) = B * (A * C) := by rw [← star_assoc, star_comm A B, star_assoc]
theorem emp_star (A : SP) : emp * A = A := by
  apply SP.ext; intro h
  constructor
  · rintro ⟨a, b, ha, hb, hab, rfl⟩
    have : Hp.or a b = b := by funext k; simp [Hp.or, ha k]
    rw [this]; exact hb
  · intro h1; exact ⟨fun _ => none, h, fun _ => rfl, h1, fun k => .inl rfl, by funext k; simp [Hp.or]⟩
theorem star_emp (A : SP) : A * emp = A := by rw [star_comm, emp_star]

/-- The world bears the assertion, and its streams are those of x. -/
structure Holds (x : World) (R : SP) (w : World) : Prop where
  os : w.os = x.os
  tape : w.tape = x.tape
  output : w.output = x.output
  heap : ∃ h, R h ∧ ∀ b o, h b = some o → w.heap[b]? = some o
def Ent (x : World) (R : SP) (m : PT) : Prop := ∀ w, Holds x R w → m w
theorem Holds.mono {x : World} {R R' : SP} {w : World} (h : Holds x R w) (hr : ∀ p, R p → ∃ q, R' q ∧ ∀ b o, q b = some o → p b = some o) : Holds x R' w := by
  obtain ⟨h1, h2, h3, p, hp, hw⟩ := h
  obtain ⟨q, hq, hqp⟩ := hr p hp
  exact ⟨h1, h2, h3, q, hq, fun b o hb => hw b o (hqp b o hb)⟩
/-- one assertion gives another one, over fewer blocks maybe -/
def Imp (R R' : SP) : Prop := ∀ p, R p → ∃ q, R' q ∧ ∀ b o, q b = some o → p b = some o
theorem Imp.refl (R : SP) : Imp R R := fun p h => ⟨p, h, fun _ _ h => h⟩
theorem Imp.of_eq {R R' : SP} (h : R = R') : Imp R R' := h ▸ Imp.refl R
theorem Imp.trans {A B C : SP} (h : Imp A B) (k : Imp B C) : Imp A C := fun p hp => by
  obtain ⟨q, hq, h1⟩ := h p hp
  obtain ⟨r, hr, h2⟩ := k q hq
  exact ⟨r, hr, fun b o hb => h1 b o (h2 b o hb)⟩
theorem Imp.star {A A' B B' : SP} (h : Imp A A') (k : Imp B B') : Imp (A * B) (A' * B') := by
  rintro p ⟨a, b, ha, hb, hab, rfl⟩
  obtain ⟨a', ha', h1⟩ := h a ha
  obtain ⟨b', hb', h2⟩ := k b hb
  have hap : Hp.apart a' b' := fun i => by
    rcases hab i with hi | hi
    · refine .inl ?_
      cases hx : a' i with
      | none => rfl
      | some o => rw [h1 i o hx] at hi; cases hi
    · refine .inr ?_
      cases hx : b' i with
      | none => rfl
      | some o => rw [h2 i o hx] at hi; cases hi
  refine ⟨Hp.or a' b', ⟨a', b', ha', hb', hap, rfl⟩, fun i o hi => ?_⟩
  simp only [Hp.or] at hi ⊢
  cases hx : a' i with
  | some o' => rw [hx] at hi; simp only [Option.some_or, Option.some.injEq] at hi; subst hi; rw [h1 i _ hx]; rfl
  | none =>
    rw [hx] at hi; simp only [Option.none_or] at hi
    have hb2 := h2 i o hi
    rcases hab i with h | h
    · rw [h, hb2]; rfl
    · rw [hb2] at h; cases h
theorem Imp.frame {A B : SP} (h : Imp A B) (F : SP) : Imp (A * F) (B * F) := h.star (Imp.refl F)
theorem Imp.drop_left (A B : SP) : Imp (A * B) B := by
  rintro p ⟨a, b, ha, hb, hab, rfl⟩
  refine ⟨b, hb, fun i o hi => ?_⟩
  rcases hab i with h | h
  · simp [Hp.or, h, hi]
  · rw [hi] at h; cases h
theorem Imp.drop_right (A B : SP) : Imp (A * B) A := by rw [star_comm]; exact Imp.drop_left B A
theorem Ent.imp {x : World} {R R' : SP} {m : PT} (h : Imp R R') (k : Ent x R' m) : Ent x R m := fun w hw => k w (hw.mono h)
theorem Holds.imp {x : World} {R R' : SP} {w : World} (hw : Holds x R w) (h : Imp R R') : Holds x R' w := hw.mono h
theorem Ent.cong {x : World} {R R' : SP} {m : PT} (h : R = R') (k : Ent x R' m) : Ent x R m := h ▸ k
theorem Ent.ex {x : World} {α : Type} {A : α → SP} {F : SP} {m : PT} (h : ∀ a, Ent x (A a * F) m) : Ent x (exS A * F) m := by
  intro w hw
  obtain ⟨h1, h2, h3, p, ⟨a, b, ⟨v, ha⟩, hb, hab, rfl⟩, hp⟩ := hw
  exact h v w ⟨h1, h2, h3, _, ⟨a, b, ha, hb, hab, rfl⟩, hp⟩
theorem Ent.fact {x : World} {p : Prop} {F : SP} {m : PT} (h : p → Ent x F m) : Ent x (fact p * F) m := by
  intro w hw
  obtain ⟨h1, h2, h3, q, ⟨a, b, ⟨hp, ha⟩, hb, hab, rfl⟩, hq⟩ := hw
  refine h hp w ⟨h1, h2, h3, b, hb, fun i o hi => hq i o ?_⟩
  simp [Hp.or, ha i, hi]
theorem Imp.fact {p : Prop} (h : p) (F : SP) : Imp F (Sx.fact p * F) := fun q hq => ⟨q, ⟨fun _ => none, q, ⟨h, fun _ => rfl⟩, hq, fun _ => .inl rfl, by funext k; simp [Hp.or]⟩, fun _ _ h => h⟩
theorem Imp.ex {α : Type} {A : α → SP} (a : α) : Imp (A a) (exS A) := fun q hq => ⟨q, ⟨a, hq⟩, fun _ _ h => h⟩
theorem star_ex {α : Type} (A : α → SP) (F : SP) : exS A * F = exS fun a => A a * F := by
  apply SP.ext; intro h
  constructor
  · rintro ⟨a, b, ⟨v, ha⟩, hb, hab, rfl⟩; exact ⟨v, a, b, ha, hb, hab, rfl⟩
  · rintro ⟨v, a, b, ha, hb, hab, rfl⟩; exact ⟨a, b, ⟨v, ha⟩, hb, hab, rfl⟩

/-! ### What is at a block -/
class Has (R : SP) (b : Nat) (o : outParam Obj) : Prop where
  out : ∀ h, R h → h b = some o
instance Has.here {b : Nat} {o : Obj} : Has (pt b o) b o := ⟨fun h hh => by rw [show h = _ from hh]; simp⟩
instance Has.left {A B : SP} {b : Nat} {o : Obj} [k : Has A b o] : Has (A * B) b o := ⟨fun h hh => by
  obtain ⟨a, c, ha, hc, hac, rfl⟩ := hh
  simp [Hp.or, k.out a ha]⟩
instance Has.right {A B : SP} {b : Nat} {o : Obj} [k : Has B b o] : Has (A * B) b o := ⟨fun h hh => by
  obtain ⟨a, c, ha, hc, hac, rfl⟩ := hh
  rcases hac b with h | h
  · simp [Hp.or, h, k.out c hc]
  · rw [k.out c hc] at h; cases h⟩
theorem Holds.block {x : World} {R : SP} {w : World} (h : Holds x R w) {b : Nat} {o : Obj} (k : Has R b o) : w.heap[b]? = some o := by
  obtain ⟨_, _, _, p, hp, hw⟩ := h
  exact hw b o (k.out p hp)
/-- the block's content replaced -/
class Upd (R : SP) (b : Nat) (o : outParam Obj) (o' : Obj) (R' : outParam SP) : Prop where
  out : ∀ h, R h → h b = some o ∧ R' (fun k => if k = b then some o' else h k)
instance Upd.here {b : Nat} {o o' : Obj} : Upd (pt b o) b o o' (pt b o') := ⟨fun h hh => by
  rw [show h = _ from hh]
  refine ⟨by simp, ?_⟩
  show (fun k => _) = _
  funext k; by_cases h : k = b <;> simp [h]⟩
instance Upd.left {A B A' : SP} {b : Nat} {o o' : Obj} [k : Upd A b o o' A'] : Upd (A * B) b o o' (A' * B) := ⟨fun h hh => by
  obtain ⟨a, c, ha, hc, hac, rfl⟩ := hh
  obtain ⟨h1, h2⟩ := k.out a ha
  have hcb : c b = none := by rcases hac b with h | h; · rw [h1] at h; cases h
                              · exact h
  refine ⟨by simp [Hp.or, h1], _, c, h2, hc, fun i => ?_, ?_⟩
  · by_cases hi : i = b
    · subst hi; exact .inr hcb
    · simp only [if_neg hi]; exact hac i
  · funext i; by_cases hi : i = b <;> simp [Hp.or, hi]⟩
instance Upd.right {A B B' : SP} {b : Nat} {o o' : Obj} [k : Upd B b o o' B'] : Upd (A * B) b o o' (A * B') := ⟨fun h hh => by
  rw [star_comm] at hh ⊢
  exact (Upd.left (A := B) (B := A) (k := k)).out h hh⟩

/-! ### Sequents -/
theorem Ent.ifP {x : World} {R : SP} {b : Bool} {A B : PT} (h1 : b = true → Ent x R A) (h2 : b = false → Ent x R B) : Ent x R (ifP b A B) := by
  cases b
  · exact h2 rfl
  · exact h1 rfl
theorem Ent.ifT {x : World} {R : SP} {b : Bool} {A B : PT} (hb : b = true) (h : Ent x R A) : Ent x R (Sx.ifP b A B) := by subst hb; exact h
theorem Ent.ifF {x : World} {R : SP} {b : Bool} {A B : PT} (hb : b = false) (h : Ent x R B) : Ent x R (Sx.ifP b A B) := by subst hb; exact h
theorem Ent.draw {x : World} {R : SP} {m : PT} (h : Ent x R m) : Ent x R (drawP m) := fun _ hw => h _ ⟨hw.os, hw.tape, hw.output, hw.heap⟩
theorem Ent.new {x : World} {R : SP} {cs : Array Value} {t : TypeId} {K : Nat → PT} (h : ∀ b, Ent x (pt b (.cells cs t) * R) (K b)) : Ent x R (newP cs t K) := by
  intro w hw
  obtain ⟨h1, h2, h3, p, hp, hw'⟩ := hw
  refine h w.heap.size _ ⟨h1, h2, h3, _, ⟨fun k => if k = w.heap.size then some (.cells cs t) else none, p, rfl, hp, fun k => ?_, rfl⟩, fun b o hb => ?_⟩
  · by_cases hk : k = w.heap.size
    · subst hk
      refine .inr ?_
      cases hx : p w.heap.size with
      | none => rfl
      | some o => have := hw' _ _ hx; simp at this
    · exact .inl (by simp [hk])
  · show (w.heap.push _)[b]? = some o
    simp only [Hp.or] at hb
    by_cases hk : b = w.heap.size
    · subst hk; simp only [if_true, Option.some_or, Option.some.injEq] at hb; subst hb; simp
    · simp only [if_neg hk, Option.none_or] at hb
      have := hw' b o hb
      rw [Array.getElem?_push, if_neg hk]; exact this
theorem Ent.idx {x : World} {R : SP} {s : Sl} {i : Int} {size : Nat} {K : Addr → PT} {a : Addr} (ha : s.a = some a) (h0 : 0 ≤ i) (h1 : i < s.len) (h : Ent x R (K (a.add (i.toNat * size)))) :
    Ent x R (idxP s i size K) := fun w hw => ⟨a, ha, h0, h1, h w hw⟩
theorem Ent.idxa {x : World} {R : SP} {a : Addr} {n : Nat} {i : Int} {size : Nat} {K : Addr → PT} (h0 : 0 ≤ i) (h1 : i < n) (h : Ent x R (K (a.add (i.toNat * size)))) :
    Ent x R (idxA a n i size K) := fun w hw => ⟨h0, h1, h w hw⟩
/-- a type whose variables are one cell -/
class Ty1 (P : Program) (T : TypeId) : Prop where
  run : ∀ w, (isAgg T).run P w = .ok false w
theorem loadAt_run {P : Program} {T : TypeId} [k : Ty1 P T] {a : Addr} {w : World} {v : Value} (h : w.cell? a = some v) : (Instr.loadAt T (.pointer (some a))).run P w = .ok v w := by
  simp only [Instr.loadAt, Instr.sureAddr, loadVar, Sem.run_bind, Sem.run_pure, Result.andThen_ok, k.run, Bool.false_eq_true, if_false, run_load, h]
theorem cell_of {w : World} {b off : Nat} {cs : Array Value} {t : TypeId} {fr : Nat × Nat} {v : Value} (h : w.heap[b]? = some (.cells cs t fr)) (hv : cs[off]? = some v) : w.cell? ⟨b, off, none⟩ = some v := by
  simp [World.cell?, h, hv]
theorem Ent.rd {x : World} {R : SP} {P : Program} {τ : Ty} {s : Sem Value} {K : Res τ → PT} (r : Res τ) (h1 : ∀ w, Holds x R w → s.run P w = .ok (eT τ r) w) (h : Ent x R (K r)) : Ent x R (rdP P τ s K) :=
  fun w hw => ⟨r, h1 w hw, h w hw⟩
theorem Ent.opRd {x : World} {R : SP} {P : Program} {τ : Ty} {s : Sem Value} {K : Res τ → PT} (r : Res τ) (h1 : ∀ w, Holds x R w → s.run P w = .ok (eT τ r) w) (h : Ent x R (K r)) : Ent x R (opT P τ s K) :=
  fun w hw => ⟨r, w, h1 w hw, h w hw⟩
theorem Ent.chk {x : World} {R : SP} {P : Program} {s : Sem Value} {v : Value} {m : PT} (h1 : ∀ w, Holds x R w → s.run P w = .ok v w) (h : Ent x R m) : Ent x R (chkP P s v m) :=
  fun w hw => ⟨h1 w hw, h w hw⟩
/-- what a load gives -/
theorem ldRun {x : World} {R : SP} {P : Program} {T : TypeId} [Ty1 P T] {b off : Nat} {cs : Array Value} {t : TypeId} {fr : Nat × Nat} {v : Value} [k : Has R b (.cells cs t fr)] (hv : cs[off]? = some v) :
    ∀ w, Holds x R w → (Instr.loadAt T (.pointer (some ⟨b, off, none⟩))).run P w = .ok v w := fun _ hw => loadAt_run (cell_of (hw.block k) hv)
theorem Ent.ld {x : World} {R : SP} {P : Program} {T : TypeId} {sc : Sc} {K : RSc sc → PT} {b off : Nat} {cs : Array Value} {t : TypeId} {fr : Nat × Nat} (r : RSc sc) [Ty1 P T] [Has R b (.cells cs t fr)]
    (h : Ent x R (K r)) (hv : cs[off]? = some (eSc sc r) := by rfl) : Ent x R (opT P (.one (.sc sc)) (Instr.loadAt T (.pointer (some ⟨b, off, none⟩))) K) := Ent.opRd r (ldRun hv) h
theorem Ent.ldr {x : World} {R : SP} {P : Program} {T : TypeId} {sc : Sc} {K : RSc sc → PT} {b off : Nat} {cs : Array Value} {t : TypeId} {fr : Nat × Nat} (r : RSc sc) [Ty1 P T] [Has R b (.cells cs t fr)]
    (h : Ent x R (K r)) (hv : cs[off]? = some (eSc sc r) := by rfl) : Ent x R (rdP P (.one (.sc sc)) (Instr.loadAt T (.pointer (some ⟨b, off, none⟩))) K) := Ent.rd r (ldRun hv) h

/-- how many cells a variable of a type has -/
class TySz (P : Program) (T : TypeId) (n : outParam Nat) : Prop where
  run : ∀ w, (sizeOf T).run P w = .ok n w
class TyAgg (P : Program) (T : TypeId) : Prop where
  run : ∀ w, (isAgg T).run P w = .ok true w
def splice (cs : Array Value) (off : Nat) (vs : List Value) : Array Value := ⟨cs.toList.take off ++ vs ++ cs.toList.drop (off + vs.length)⟩
theorem Holds.upd {x : World} {R R' : SP} {w : World} {b : Nat} {cs cs' : Array Value} {t : TypeId} (hw : Holds x R w) (k : Upd R b (.cells cs t (0, 0)) (.cells cs' t (0, 0)) R') : Holds x R' (w.setRow b cs') := by
  obtain ⟨h1, h2, h3, p, hp, hq⟩ := hw
  obtain ⟨hb, hr⟩ := k.out p hp
  refine ⟨h1, h2, h3, _, hr, fun i o hi => ?_⟩
  have hwb := hq b _ hb
  by_cases hib : i = b
  · subst hib
    simp only [if_true, Option.some.injEq] at hi
    subst hi
    simp only [World.setRow, Array.getElem?_modify, if_true, hwb]; rfl
  · simp only [if_neg hib] at hi
    simp only [World.setRow, Array.getElem?_modify]
    rw [if_neg (fun e => hib e.symm)]; exact hq i o hi
theorem storeAt_run {P : Program} {T : TypeId} {v : Value} {b off : Nat} {cs : Array Value} {t : TypeId} {w : World} {n : Nat} [k : TySz P T n] (hn : v.cells.size = n) (h1 : ∀ c ∈ v.cells.toList, c.oneCell' = true)
    (hlen : off + n ≤ cs.size) (hw : w.heap[b]? = some (.cells cs t (0, 0))) :
    (Instr.storeAt T (.pointer (some ⟨b, off, none⟩)) v).run P w = .ok () (w.setRow b (splice cs off v.cells.toList)) := by
  simp only [Instr.storeAt, Instr.sureAddr, storeVar, Sem.run_bind, Sem.run_pure, Result.andThen_ok, k.run, hn, ne_eq, not_true_eq_false, if_false]
  have := run_storeCells_at (P := P) b off t v.cells.toList 0 cs w hw (by simpa [hn] using hlen) h1
  simpa [splice] using this
theorem Ent.st {x : World} {R R' : SP} {P : Program} {T : TypeId} {v : Value} {b off : Nat} {cs : Array Value} {t : TypeId} {n : Nat} {m : PT} [TySz P T n] (cs' : Array Value)
    [k : Upd R b (.cells cs t (0, 0)) (.cells cs' t (0, 0)) R'] (h : Ent x R' m) (hn : v.cells.size = n := by rfl)
    (h1 : v.cells.toList.all (·.oneCell') = true := by rfl) (hlen : Nat.ble (off + n) cs.size = true := by rfl) (hcs : splice cs off v.cells.toList = cs' := by rfl) :
    Ent x R (opU P (Instr.storeAt T (.pointer (some ⟨b, off, none⟩)) v) m) := by
  intro w hw
  have hb : w.heap[b]? = some (.cells cs t (0, 0)) := by
    obtain ⟨_, _, _, p, hp, hq⟩ := hw
    exact hq b _ (k.out p hp).1
  subst hcs
  exact ⟨_, storeAt_run hn (fun c hc => List.all_eq_true.1 h1 c hc) (Nat.le_of_ble_eq_true hlen) hb, h _ (hw.upd k)⟩
theorem loadAgg_run {P : Program} {T : TypeId} {n : Nat} [k : TyAgg P T] [k2 : TySz P T n] {b off : Nat} {w : World} {l : List Value} {cs : Array Value} {t : TypeId} {fr : Nat × Nat} (hw : w.heap[b]? = some (.cells cs t fr))
    (hn : l.length = n) (hl : ∀ j, j < n → cs[off + j]? = l[j]?) : (Instr.loadAt T (.pointer (some ⟨b, off, none⟩))).run P w = .ok (.agg ⟨l⟩) w := by
  simp only [Instr.loadAt, Instr.sureAddr, loadVar, Sem.run_bind, Sem.run_pure, Result.andThen_ok, k.run, if_true, k2.run]
  rw [← hn, run_loadCells_list (P := P) w ⟨b, off, none⟩ l (fun j v hv => by
    have hj : j < n := by rw [← hn]; exact (List.getElem?_eq_some_iff.1 hv).1
    have hadd : (⟨b, off, none⟩ : Addr).add j = ⟨b, off + j, none⟩ := by unfold Addr.add; split <;> simp_all
    rw [hadd]
    exact cell_of hw ((hl j hj).trans hv))]
  rfl
def slotsAt (cs : Array Value) (off n : Nat) : List Value := (cs.toList.drop off).take n
theorem Ent.ldA {x : World} {R : SP} {P : Program} {T : TypeId} {l : List Sc} {K : RL l → PT} {b off n : Nat} {cs : Array Value} {t : TypeId} {fr : Nat × Nat} (r : RL l) [TyAgg P T] [TySz P T n] [k : Has R b (.cells cs t fr)]
    (h : Ent x R (K r)) (hn : (eL l r).length = n := by rfl) (hv : slotsAt cs off n = eL l r := by rfl) : Ent x R (opT P (.one (.agg l)) (Instr.loadAt T (.pointer (some ⟨b, off, none⟩))) K) := by
  refine Ent.opRd r (fun w hw => ?_) h
  refine loadAgg_run (hw.block k) hn (fun j hj => ?_)
  rw [← hv, slotsAt, List.getElem?_take, if_pos hj, List.getElem?_drop]; simp
/-- a contract: what stands beside it stays -/
def Tri (P : Program) (f : Nat) (args : List Value) (τ : Ty) (R : SP) (R' : Res τ → SP) : Prop :=
  ∀ (x : World) (F : SP) (K : Res τ → PT), (∀ r, Ent x (R' r * F) (K r)) → Ent x (R * F) (callT P f args τ K)
theorem Tri.use {P : Program} {f : Nat} {args : List Value} {τ : Ty} {R : SP} {R' : Res τ → SP} (h : Tri P f args τ R R') {x : World} {F : SP} {K : Res τ → PT} {R0 : SP} (he : R0 = R * F)
    (k : ∀ r, Ent x (R' r * F) (K r)) : Ent x R0 (callT P f args τ K) := he ▸ h x F K k
/-- a contract of a function that only reckons: its result, whatever stands in memory -/
def TriP (P : Program) (f : Nat) (args : List Value) (τ : Ty) (r : Res τ) : Prop := ∀ (x : World) (F : SP) (K : Res τ → PT), Ent x F (K r) → Ent x F (callT P f args τ K)
theorem Ent.rdA {x : World} {R : SP} {P : Program} {T : TypeId} {l : List Sc} {K : RL l → PT} {b off n : Nat} {cs : Array Value} {t : TypeId} {fr : Nat × Nat} (r : RL l) [TyAgg P T] [TySz P T n] [k : Has R b (.cells cs t fr)]
    (h : Ent x R (K r)) (hn : (eL l r).length = n := by rfl) (hv : slotsAt cs off n = eL l r := by rfl) : Ent x R (rdP P (.one (.agg l)) (loadVar T ⟨b, off, none⟩) K) := by
  refine Ent.rd r (fun w hw => ?_) h
  have h1 : (Instr.loadAt T (.pointer (some ⟨b, off, none⟩))).run P w = .ok (.agg ⟨eL l r⟩) w := loadAgg_run (hw.block k) hn (fun j hj => by
    rw [← hv, slotsAt, List.getElem?_take, if_pos hj, List.getElem?_drop]; simp)
  simp only [Instr.loadAt, Instr.sureAddr, Sem.run_bind, Sem.run_pure, Result.andThen_ok] at h1
  exact h1
end Go.Proofs.Ytmnpfkdiknfkoaa.Sx
