/-
  Rules for strings and numbers. Generic in the program. No condition.
-/
import Derived.Test.YtmnpfkdiknfkoaaS4
import Derived.IntWalk
import Derived.Laws.BytesString
namespace Go.Proofs.Ytmnpfkdiknfkoaa.Sx
open Go

theorem w64 {x : Int} (h1 : -9223372036854775808 ≤ x) (h2 : x ≤ 9223372036854775807) : IntKind.i64.wrap x = x := IntWalk.i64_in x ⟨h1, h2⟩
theorem w64n {x : Int} {n : Nat} (h : x = n) (h2 : n ≤ 9223372036854775807) : IntKind.i64.wrap x = n := by subst h; exact w64 (by omega) (by omega)
theorem wu64 {x : Int} (h1 : 0 ≤ x) (h2 : x ≤ 18446744073709551615) : IntKind.u64.wrap x = x := IntWalk.u64_in x ⟨h1, h2⟩
theorem wu8 {x : Int} (h1 : 0 ≤ x) (h2 : x ≤ 255) : IntKind.u8.wrap x = x := by
  have : (2 ^ IntKind.u8.bits : Int) = 256 := by decide
  simp only [IntKind.wrap, this, IntKind.signed, Bool.false_and, Bool.false_eq_true, if_false]
  omega
theorem Addr.add_mk {b o n : Nat} : (⟨b, o, none⟩ : Addr).add n = ⟨b, o + n, none⟩ := by unfold Addr.add; split <;> simp_all
/-- a text's byte at a place (0 beyond the end) -/
def bt (s : ByteArray) (n : Nat) : Int := match s.data[n]? with | some b => (b.toNat : Int) | none => 0
theorem bt_bd (s : ByteArray) (n : Nat) : 0 ≤ bt s n ∧ bt s n ≤ 255 := by
  unfold bt
  cases s.data[n]? with
  | none => simp
  | some b => have := b.toNat_lt; simp only; omega
class TyStr (P : Program) (T : TypeId) : Prop where
  und : P.underlying T = some .string
theorem index_run {P : Program} {T : TypeId} [k : TyStr P T] {s : ByteArray} {ik : IntKind} {i : Int} {n : Nat} (hi : i = n) (h1 : n < s.size) (w : World) :
    (Instr.index T (.string s) (.int ik i)).run P w = .ok (.int .u8 (bt s n)) w := by
  subst hi
  have hg : s[n]? = some s[n] := by simp [h1]
  have hb : bt s n = (s[n].toNat : Int) := by
    unfold bt
    have : s.data[n]? = some s.data[n] := Array.getElem?_eq_getElem h1
    rw [this]; rfl
  simp only [Instr.index, asIntOf, underlying, Sem.run_bind, run_program, Sem.run_pure, Result.andThen_ok, k.und, Int.natCast_nonneg, if_true, Int.toNat_natCast, hg, hb]
theorem Ent.six {x : World} {R : SP} {P : Program} {T : TypeId} [TyStr P T] {s : ByteArray} {ik : IntKind} {i : Int} {K : Int → PT} (n : Nat) (hi : i = n) (h1 : n < s.size) (h : Ent x R (K (bt s n))) :
    Ent x R (opT P (.one (.sc (.int .u8))) (Instr.index T (.string s) (.int ik i)) K) := Ent.opRd (τ := .one (.sc (.int .u8))) (bt s n) (fun w _ => index_run hi h1 w) h
theorem Ent.sixr {x : World} {R : SP} {P : Program} {T : TypeId} [TyStr P T] {s : ByteArray} {ik : IntKind} {i : Int} {K : Int → PT} (n : Nat) (hi : i = n) (h1 : n < s.size) (h : Ent x R (K (bt s n))) :
    Ent x R (rdP P (.one (.sc (.int .u8))) (Instr.index T (.string s) (.int ik i)) K) := Ent.rd (τ := .one (.sc (.int .u8))) (bt s n) (fun w _ => index_run hi h1 w) h
theorem Ent.sixc {x : World} {R : SP} {P : Program} {T : TypeId} [TyStr P T] {s : ByteArray} {ik : IntKind} {i : Int} {m : PT} (n : Nat) (hi : i = n) (h1 : n < s.size) (h : Ent x R m) :
    Ent x R (chkP P (Instr.index T (.string s) (.int ik i)) (.int .u8 (bt s n)) m) := Ent.chk (fun w _ => index_run hi h1 w) h
theorem Ent.of {x : World} {R : SP} {m m' : PT} (h : ∀ w, m w → m' w) (k : Ent x R m) : Ent x R m' := fun w hw => h w (k w hw)
/-! ### slices of slices, arrays and texts -/
class TySl (P : Program) (T : TypeId) (E : outParam TypeId) : Prop where
  und : P.underlying T = some (.slice E)
class TyInt (P : Program) (T : TypeId) (k : outParam IntKind) : Prop where
  und : P.underlying T = some (.int k)
class TyArr (P : Program) (T : TypeId) (n : outParam Nat) (E : outParam TypeId) : Prop where
  und : P.underlying T = some (.array n E)
inductive LoIs : Option Value → Nat → Prop
  | none : LoIs none 0
  | some (k : IntKind) (l : Nat) : LoIs (some (.int k l)) l
inductive HiIs (len : Nat) : Option Value → Nat → Prop
  | none : HiIs len none len
  | some (k : IntKind) (h : Nat) : HiIs len (some (.int k h)) h
theorem LoIs.of {k : IntKind} {i : Int} {l : Nat} (h : i = l) : LoIs (.some (.int k i)) l := by subst h; exact .some k l
theorem HiIs.of {len : Nat} {k : IntKind} {i : Int} {l : Nat} (h : i = l) : HiIs len (.some (.int k i)) l := by subst h; exact .some k l
theorem sliceBound_run {P : Program} {w : World} {k : IntKind} {i y : Nat} {c : BoundsCode} (h : i ≤ y) : (Instr.sliceBound (.int k i) y c).run P w = .ok i w := by
  simp [Instr.sliceBound, asIntOf, h]
theorem sliceBounds_run {P : Program} {w : World} {isS : Bool} {len cap l h : Nat} {lo hi : Option Value} (hlo : LoIs lo l) (hhi : HiIs len hi h) (h1 : l ≤ h) (h2 : h ≤ cap) :
    (Instr.sliceBounds isS len cap lo hi none).run P w = .ok (l, h, cap) w := by
  unfold Instr.sliceBounds
  cases hhi with
  | none =>
    cases hlo with
    | none => simp
    | some k l => simp [sliceBound_run h1]
  | some k h =>
    cases hlo with
    | none => simp [sliceBound_run h2]
    | some k' l => simp [sliceBound_run h1, sliceBound_run h2]
theorem underlying_run {P : Program} {T : TypeId} {d : TypeDesc} (h : P.underlying T = some d) (w : World) : (underlying T).run P w = .ok d w := by
  simp [underlying, h]
/-- a slice cut -/
def Sl.cut (s : Sl) (size l h : Nat) : Sl := ⟨if s.cap = l then s.a else s.a.map (·.add (l * size)), h - l, s.cap - l⟩
theorem cut_run {P : Program} {T E : TypeId} {n : Nat} [k : TySl P T E] [k2 : TySz P E n] {s : Sl} {l h : Nat} {lo hi : Option Value} (hlo : LoIs lo l) (hhi : HiIs s.len hi h) (h1 : l ≤ h) (h2 : h ≤ s.cap) (w : World) :
    (Instr.sliceAt T (.slice s.a s.len s.cap) lo hi none).run P w = .ok (eSc .slice (s.cut n l h)) w := by
  have hu := underlying_run k.und w
  simp only [Instr.sliceAt, Instr.slice, Sem.run_bind, hu, Result.andThen_ok, sliceBounds_run hlo hhi h1 h2, k2.run, Sem.run_pure, eSc, Sl.cut]
theorem Ent.cut {x : World} {R : SP} {P : Program} {T E : TypeId} {n : Nat} [k : TySl P T E] [k2 : TySz P E n] {s : Sl} {lo hi : Option Value} {K : Sl → PT} (l h : Nat) (hlo : LoIs lo l) (hhi : HiIs s.len hi h) (h1 : l ≤ h) (h2 : h ≤ s.cap)
    (hk : Ent x R (K (s.cut n l h))) : Ent x R (opT P (.one (.sc .slice)) (Instr.sliceAt T (.slice s.a s.len s.cap) lo hi none) K) :=
  Ent.opRd (τ := .one (.sc .slice)) _ (fun w _ => cut_run hlo hhi h1 h2 w) hk
theorem Ent.cutr {x : World} {R : SP} {P : Program} {T E : TypeId} {n : Nat} [k : TySl P T E] [k2 : TySz P E n] {s : Sl} {lo hi : Option Value} {K : Sl → PT} (l h : Nat) (hlo : LoIs lo l) (hhi : HiIs s.len hi h) (h1 : l ≤ h) (h2 : h ≤ s.cap)
    (hk : Ent x R (K (s.cut n l h))) : Ent x R (rdP P (.one (.sc .slice)) (Instr.sliceAt T (.slice s.a s.len s.cap) lo hi none) K) :=
  Ent.rd (τ := .one (.sc .slice)) _ (fun w _ => cut_run hlo hhi h1 h2 w) hk
/-- an array cut -/
theorem Ent.cutA {x : World} {R : SP} {P : Program} {T E : TypeId} {m n : Nat} [k : TyArr P T m E] [k2 : TySz P E n] {a : Addr} {lo hi : Option Value} {K : Sl → PT} (l h : Nat) (hlo : LoIs lo l) (hhi : HiIs m hi h) (h1 : l ≤ h) (h2 : h ≤ m)
    (hk : Ent x R (K ⟨some (if m = l then a else a.add (l * n)), h - l, m - l⟩)) : Ent x R (opT P (.one (.sc .slice)) (Instr.sliceAt T (.pointer (some a)) lo hi none) K) := by
  refine Ent.opRd (τ := .one (.sc .slice)) _ (fun w _ => ?_) hk
  have hu := underlying_run k.und w
  simp only [Instr.sliceAt, Instr.sureAddr, Sem.run_bind, hu, Sem.run_pure, Result.andThen_ok, sliceBounds_run hlo hhi h1 h2, k2.run]
  rfl
/-- a text cut -/
theorem scut_run {P : Program} {T : TypeId} [k : TyStr P T] {s : ByteArray} {l h : Nat} {lo hi : Option Value} (hlo : LoIs lo l) (hhi : HiIs s.size hi h) (h1 : l ≤ h) (h2 : h ≤ s.size) (w : World) :
    (Instr.sliceAt T (.string s) lo hi none).run P w = .ok (.string (s.extract l h)) w := by
  have hu := underlying_run k.und w
  simp only [Instr.sliceAt, Instr.slice, Sem.run_bind, hu, Result.andThen_ok, sliceBounds_run hlo hhi h1 h2, Sem.run_pure, Option.isSome_none, Bool.false_eq_true, if_false]
theorem Ent.scut {x : World} {R : SP} {P : Program} {T : TypeId} [k : TyStr P T] {s : ByteArray} {lo hi : Option Value} {K : ByteArray → PT} (l h : Nat) (hlo : LoIs lo l) (hhi : HiIs s.size hi h) (h1 : l ≤ h) (h2 : h ≤ s.size)
    (hk : Ent x R (K (s.extract l h))) : Ent x R (opT P (.one (.sc .str)) (Instr.sliceAt T (.string s) lo hi none) K) :=
  Ent.opRd (τ := .one (.sc .str)) _ (fun w _ => scut_run hlo hhi h1 h2 w) hk
theorem Ent.scutr {x : World} {R : SP} {P : Program} {T : TypeId} [k : TyStr P T] {s : ByteArray} {lo hi : Option Value} {K : ByteArray → PT} (l h : Nat) (hlo : LoIs lo l) (hhi : HiIs s.size hi h) (h1 : l ≤ h) (h2 : h ≤ s.size)
    (hk : Ent x R (K (s.extract l h))) : Ent x R (rdP P (.one (.sc .str)) (Instr.sliceAt T (.string s) lo hi none) K) :=
  Ent.rd (τ := .one (.sc .str)) _ (fun w _ => scut_run hlo hhi h1 h2 w) hk
/-! ### bytes as a text -/
def mkStr (l : List Int) : ByteArray := ⟨⟨l.map fun n => UInt8.ofNat n.toNat⟩⟩
theorem foldl_push (l : List Int) : ∀ s : ByteArray, l.foldl (fun r n => r.push (UInt8.ofNat n.toNat)) s = ⟨s.data ++ ⟨l.map fun n => UInt8.ofNat n.toNat⟩⟩ := by
  induction l with
  | nil => intro s; simp
  | cons n l ih =>
    intro s
    rw [List.foldl_cons, ih]
    congr 1
    apply Array.ext'
    simp [ByteArray.push]
theorem Ent.b2s {x : World} {R : SP} {P : Program} {S D E : TypeId} [k1 : TySl P S E] [k2 : TyInt P E .u8] [k3 : TyStr P D] {b off len cap : Nat} {cs : Array Value} {t : TypeId} {fr : Nat × Nat} [k : Has R b (.cells cs t fr)] {K : ByteArray → PT}
    (l : List Int) (hl : l.length = len) (hs : slotsAt cs off len = l.map (Value.int .u8)) (h : Ent x R (K (mkStr l))) :
    Ent x R (opT P (.one (.sc .str)) (Go.convert S D (.slice (some ⟨b, off, none⟩) len cap)) K) := by
  refine Ent.opRd (τ := .one (.sc .str)) (mkStr l) (fun w hw => ?_) h
  rw [run_convert_bytes_string w S D E _ _ _ k1.und k2.und k3.und]
  have hlen : len = (l.map (Value.int .u8)).length := by simp [hl]
  rw [run_bytesToString w ⟨b, off, none⟩ len cap l]
  · rw [foldl_push]
    simp only [eT, e1, eSc, mkStr]
    congr 3
    apply Array.ext'
    simp
  · have := run_loadCells_list (P := P) w ⟨b, off, none⟩ (l.map (Value.int .u8)) (fun j v hv => by
      rw [Addr.add_mk]
      refine cell_of (hw.block k) ?_
      rw [← hs, slotsAt, List.getElem?_take] at hv
      split at hv
      · rw [List.getElem?_drop] at hv; simpa using hv
      · cases hv)
    rw [← hlen] at this
    simpa using this
end Go.Proofs.Ytmnpfkdiknfkoaa.Sx
