/-
  What stood in memory when a call began; slices that are read; the end of a law's walk. Generic in the program. No condition.
-/
import Derived.Test.YtmnpfkdiknfkoaaS5
namespace Go.Proofs.Ytmnpfkdiknfkoaa.Sx
open Go Go.RowKit
/-- all blocks of a world, as they are -/
def pre (w0 : World) : SP := fun h => h = fun b => w0.heap[b]?
theorem holds_pre (w : World) : Holds w (pre w) w := ⟨rfl, rfl, rfl, _, rfl, fun _ _ h => h⟩
theorem below_of {w0 w : World} (h : Holds w0 (pre w0) w) : Below w0.heap.size w0 w := by
  obtain ⟨h1, h2, h3, p, hp, hw⟩ := h
  have hp : p = fun b => w0.heap[b]? := hp
  subst hp
  have key : ∀ k, k < w0.heap.size → w.heap[k]? = w0.heap[k]? := fun k hk => by
    have : w0.heap[k]? = some w0.heap[k] := by simp [hk]
    rw [this]; exact hw k _ this
  refine ⟨h1, h2, h3, ?_, key⟩
  rcases Nat.eq_zero_or_pos w0.heap.size with h0 | h0
  · omega
  · have := key (w0.heap.size - 1) (by omega)
    have h2 : w0.heap[w0.heap.size - 1]? = some w0.heap[w0.heap.size - 1] := by
      rw [Array.getElem?_eq_getElem (by omega)]
    rw [h2] at this
    have := (Array.getElem?_eq_some_iff.1 this).1
    omega
/-- The assertion tells the first n cells of a slice. -/
def Reads (R : SP) (s : Sl) (n : Nat) (f : Nat → Value) : Prop :=
  n = 0 ∨ ∃ b off, s.a = some ⟨b, off, none⟩ ∧ ∀ h, R h → ∃ cs t fr, h b = some (.cells cs t fr) ∧ ∀ j, j < n → cs[off + j]? = some (f j)
theorem Reads.left {A B : SP} {s : Sl} {n : Nat} {f : Nat → Value} (h : Reads A s n f) : Reads (A * B) s n f := by
  rcases h with h | ⟨b, off, ha, h⟩
  · exact .inl h
  · refine .inr ⟨b, off, ha, ?_⟩
    rintro _ ⟨p, q, hp, hq, hpq, rfl⟩
    obtain ⟨cs, t, fr, h1, h2⟩ := h p hp
    exact ⟨cs, t, fr, by simp [Hp.or, h1], h2⟩
theorem Reads.right {A B : SP} {s : Sl} {n : Nat} {f : Nat → Value} (h : Reads B s n f) : Reads (A * B) s n f := by
  rw [star_comm]; exact h.left
theorem Reads.mono {R : SP} {s : Sl} {n m : Nat} {f : Nat → Value} (h : Reads R s n f) (hm : m ≤ n) : Reads R s m f := by
  rcases h with h | ⟨b, off, ha, h⟩
  · exact .inl (by omega)
  · exact .inr ⟨b, off, ha, fun p hp => by
      obtain ⟨cs, t, fr, h1, h2⟩ := h p hp
      exact ⟨cs, t, fr, h1, fun j hj => h2 j (by omega)⟩⟩
theorem Reads.hdr {R : SP} {s s' : Sl} {n : Nat} {f : Nat → Value} (h : Reads R s n f) (ha : s'.a = s.a) : Reads R s' n f := by
  rcases h with h | ⟨b, off, h1, h⟩
  · exact .inl h
  · exact .inr ⟨b, off, ha.trans h1, h⟩
theorem cut0 {s : Sl} {n h : Nat} : s.cut n 0 h = ⟨s.a, h, s.cap⟩ := by
  unfold Sl.cut
  have : (s.a.map fun a => a.add (0 * n)) = s.a := by cases s.a <;> simp [Addr.add]
  simp only [this, ite_self, Nat.sub_zero]
theorem Reads.at' {R : SP} {s : Sl} {n : Nat} {f : Nat → Value} (h : Reads R s n f) {k j : Nat} (hj : j * k + k ≤ n) (hk : 0 < k) {x : World} {w : World} (hw : Holds x R w) :
    ∃ b off cs t fr, s.a = some ⟨b, off, none⟩ ∧ w.heap[b]? = some (.cells cs t fr) ∧ ∀ i, i < k → cs[off + j * k + i]? = some (f (j * k + i)) := by
  rcases h with h | ⟨b, off, ha, h⟩
  · have : j * k + k ≤ 0 := by omega
    omega
  · obtain ⟨_, _, _, p, hp, hq⟩ := hw
    obtain ⟨cs, t, fr, h1, h2⟩ := h p hp
    exact ⟨b, off, cs, t, fr, ha, hq b _ h1, fun i hi => by rw [Nat.add_assoc]; exact h2 _ (by omega)⟩
/-- an element of a slice that is read: a struct -/
theorem Ent.elA {x : World} {R : SP} {P : Program} {T : TypeId} {l : List Sc} {K : RL l → PT} {s : Sl} {i : Int} {n k : Nat} {f : Nat → Value} [TyAgg P T] [TySz P T k] (hr : Reads R s n f) (j : Nat) (hi : i = j) (hj : j * k + k ≤ n) (hk : 0 < k)
    (hlen : j < s.len) (r : RL l) (he : eL l r = (List.range k).map fun m => f (j * k + m)) (h : Ent x R (K r)) :
    Ent x R (idxP s i k fun a => opT P (.one (.agg l)) (Instr.loadAt T (.pointer (some a))) K) := by
  intro w hw
  obtain ⟨b, off, cs, t, fr, ha, hb, hc⟩ := hr.at' hj hk hw
  subst hi
  refine ⟨⟨b, off, none⟩, ha, by omega, by omega, ?_⟩
  rw [Addr.add_mk, Int.toNat_natCast]
  refine ⟨r, w, ?_, h w hw⟩
  refine loadAgg_run hb (by rw [he]; simp) (fun m hm => ?_)
  rw [he, hc m hm]; simp [hm]
/-- an element of a slice that is read: one cell -/
theorem Ent.elS {x : World} {R : SP} {P : Program} {T : TypeId} {sc : Sc} {K : RSc sc → PT} {s : Sl} {i : Int} {n : Nat} {f : Nat → Value} [Ty1 P T] (hr : Reads R s n f) (j : Nat) (hi : i = j) (hj : j < n)
    (hlen : j < s.len) (r : RSc sc) (he : f j = eSc sc r) (h : Ent x R (K r)) :
    Ent x R (idxP s i 1 fun a => opT P (.one (.sc sc)) (Instr.loadAt T (.pointer (some a))) K) := by
  intro w hw
  obtain ⟨b, off, cs, t, fr, ha, hb, hc⟩ := hr.at' (k := 1) (j := j) (by omega) (by omega) hw
  subst hi
  refine ⟨⟨b, off, none⟩, ha, by omega, by omega, ?_⟩
  rw [Addr.add_mk, Int.toNat_natCast]
  refine ⟨r, w, ?_, h w hw⟩
  refine loadAt_run (cell_of hb ?_)
  have := hc 0 (by omega)
  rw [Nat.add_zero] at this
  rw [this, Nat.mul_one, Nat.add_zero, he]; rfl
end Go.Proofs.Ytmnpfkdiknfkoaa.Sx
