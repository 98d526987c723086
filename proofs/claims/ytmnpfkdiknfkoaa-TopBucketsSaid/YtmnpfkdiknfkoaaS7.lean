/-
  Arguments that can be read as data: what their cells hold. Generic in the program. No condition.
-/
import Derived.Test.YtmnpfkdiknfkoaaS6
import Derived.Deep.Slices
import Derived.ProofKit
import Derived.OpenShut
import Derived.ChangeOld
namespace Go.Proofs.Ytmnpfkdiknfkoaa.Sx
open Go Go.RowKit Go.Deep Go.ChangeShapes Go.WideShapes Go.ChangeAt
theorem Reads.congr {R : SP} {s : Sl} {n : Nat} {f g : Nat → Value} (h : Reads R s n f) (e : ∀ j, j < n → f j = g j) : Reads R s n g := by
  rcases h with h | ⟨b, off, ha, h⟩
  · exact .inl h
  · exact .inr ⟨b, off, ha, fun p hp => by
      obtain ⟨cs, t, fr, h1, h2⟩ := h p hp
      exact ⟨cs, t, fr, h1, fun j hj => by rw [h2 j hj, e j hj]⟩⟩
theorem reads_of_cells {W : World} {a : Addr} {len cap n : Nat} {f : Nat → Value} (h : ∀ j, j < n → W.cell? (a.add j) = some (f j)) : Reads (pre W) ⟨some a, len, cap⟩ n f := by
  rcases Nat.eq_zero_or_pos n with hn | hn
  · exact .inl hn
  · obtain ⟨b, off, spot⟩ := a
    have h0 := h 0 hn
    have hspot : spot = none := by
      cases spot with
      | none => rfl
      | some q =>
        simp only [Addr.add, if_true, World.cell?] at h0
        cases hb : W.heap[b]? with
        | none => simp [hb] at h0
        | some o => cases o <;> simp [hb] at h0
    subst hspot
    refine .inr ⟨b, off, rfl, fun p hp => ?_⟩
    have hp : p = fun b => W.heap[b]? := hp
    subst hp
    have hcells : ∀ j v, W.cell? ⟨b, off + j, none⟩ = some v → ∃ cs t fr, W.heap[b]? = some (.cells cs t fr) ∧ cs[off + j]? = some v := by
      intro j v hv
      simp only [World.cell?] at hv
      cases hb : W.heap[b]? with
      | none => simp [hb] at hv
      | some o => cases o <;> simp [hb] at hv <;> exact ⟨_, _, _, rfl, hv⟩
    have h0' := h 0 hn
    rw [Addr.add_mk] at h0'
    obtain ⟨cs, t, fr, hb, _⟩ := hcells 0 _ h0'
    refine ⟨cs, t, fr, hb, fun j hj => ?_⟩
    have hj' := h j hj
    rw [Addr.add_mk] at hj'
    obtain ⟨cs', t', fr', hb', hv⟩ := hcells j _ hj'
    rw [hb] at hb'
    cases hb'
    exact hv
section
variable {H : Type} {enc : TypeId × Value → H} {P : Program} {w : World} {base : Nat} {spare : Nat → Bool} {held : Bool}
theorem mapM_some {α β : Type} {f : α → Option β} : ∀ {l : List α} {r : List β}, l.mapM f = some r → ∀ x ∈ l, ∃ y, f x = some y
  | [], _, _, x, hx => by cases hx
  | a :: l, r, h, x, hx => by
    simp only [List.mapM_cons, Option.bind_eq_bind, Option.bind_eq_some_iff] at h
    obtain ⟨y, hy, ys, hys, _⟩ := h
    rcases List.mem_cons.1 hx with rfl | hx
    · exact ⟨y, hy⟩
    · exact mapM_some hys x hx
/-- a struct's fields, each readable -/
theorem trod_fields {t : TypeId} {fs : Array Field} {fuel : Nat} {cs : List Value} {x : DataW H × List MemPlace} (ht : P.underlying t = some (.struct fs)) (h : DataW.trod enc P w base spare held fuel t cs = some x) :
    ∃ n, cs.length = P.cellsOf t ∧ ∀ f ∈ fs.toList, ∃ y, DataW.trod enc P w base spare held n f.type ((cs.drop f.offset).take (P.cellsOf f.type)) = some y := by
  cases fuel with
  | zero => simp [DataW.trod] at h
  | succ n =>
    simp only [DataW.trod, ht] at h
    split at h
    · rename_i hl
      cases hm : (fs.toList.mapM fun f => DataW.trod enc P w base spare held n f.type ((cs.drop f.offset).take (P.cellsOf f.type))) with
      | none => simp [hm] at h
      | some r => exact ⟨n, hl, mapM_some hm⟩
    · cases h
/-- a slice of structs of bytes alone: every cell holds a byte -/
theorem trod_byteStructs {t e : TypeId} {k fuel : Nat} {fs : Array Field} {a : Option Addr} {len cap : Nat} {x : DataW H × List MemPlace} (ht : P.underlying t = some (.slice e)) (he : P.underlying e = some (.struct fs))
    (hk : P.cellsOf e = k) (hf : ∀ j, j < k → ∃ f ∈ fs.toList, f.offset = j ∧ P.underlying f.type = some (.int .u8) ∧ P.cellsOf f.type = 1)
    (h : DataW.trod enc P w base spare held fuel t [.slice a len cap] = some x) :
    (a = none ∧ len = 0 ∧ cap = 0) ∨ ∃ ad, a = some ad ∧ len ≤ cap ∧ cap ≤ maxLen ∧ ∀ j, j < k * len → ∃ n, w.cell? (ad.add j) = some (.int .u8 n) ∧ (Lit.int .u8 n).wf = true := by
  rcases open_slice ht h with ⟨hcs, _⟩ | ⟨ad, len', cap', m, n, D, Pl, hcs, hb, hl, hm, hmm, _, hx⟩
  · simp only [List.cons.injEq, Value.slice.injEq, and_true] at hcs
    exact .inl hcs
  · simp only [List.cons.injEq, Value.slice.injEq, and_true] at hcs
    obtain ⟨rfl, rfl, rfl⟩ := hcs
    refine .inr ⟨ad, rfl, hl, hm, fun j hj => ?_⟩
    have hk0 : 0 < k := by rcases Nat.eq_zero_or_pos k with h | h; · subst h; simp at hj
                           · exact h
    have hi : j / k < len := Nat.div_lt_of_lt_mul hj
    have hlm : len ≤ m := by rw [hmm]; split <;> omega
    obtain ⟨cs', h1, h2⟩ := hx (j / k) (by omega)
    obtain ⟨nn, hlen, hfs⟩ := trod_fields he h2
    obtain ⟨f, hmem, ho, hu, hc⟩ := hf (j % k) (Nat.mod_lt _ hk0)
    obtain ⟨y, hy⟩ := hfs f hmem
    obtain ⟨v, hv, _, hwf⟩ := DataW.trod_int hu hy
    rw [ho, hc] at hv
    rw [hk] at h1
    refine ⟨v, ?_, hwf⟩
    simp only [World.cells?] at h1
    split at h1
    · have hcell : ∀ (l : List Nat) (r : List Value), (l.mapM fun i => w.cell? ((ad.add (j / k * k)).add i)) = some r → ∀ (q u : Nat), l[q]? = some u → w.cell? ((ad.add (j / k * k)).add u) = r[q]? := by
        intro l
        induction l with
        | nil => intro r _ q u hq; simp at hq
        | cons a l ih =>
          intro r hr q u hq
          simp only [List.mapM_cons, Option.bind_eq_bind, Option.bind_eq_some_iff] at hr
          obtain ⟨y, hy, ys, hys, he⟩ := hr
          simp only [Option.pure_def, Option.some.injEq] at he
          subst he
          cases q with
          | zero => simp only [List.getElem?_cons_zero, Option.some.injEq] at hq ⊢; subst hq; exact hy
          | succ q => simpa using ih ys hys q u (by simpa using hq)
      have h3 := hcell _ _ h1 (j % k) (j % k) (by simp [Nat.mod_lt _ hk0])
      have h4 : cs'[j % k]? = some (.int .u8 v) := by
        have := congrArg List.head? hv
        rw [List.head?_take, if_neg (by omega), List.head?_drop] at this
        simpa using this
      rw [h4] at h3
      have hadd : (ad.add (j / k * k)).add (j % k) = ad.add j := by
        have hj2 : j / k * k + j % k = j := by rw [Nat.mul_comm]; exact Nat.div_add_mod j k
        obtain ⟨b, off, spot⟩ := ad
        unfold Addr.add
        by_cases h0 : j / k * k = 0
        · rw [if_pos h0]
          have : j % k = j := by omega
          rw [this]
        · rw [if_neg h0]
          by_cases h1 : j % k = 0
          · rw [if_pos h1, if_neg (by omega)]; simp only [Addr.mk.injEq, true_and, and_true]; omega
          · rw [if_neg h1, if_neg (by omega)]; simp only [Addr.mk.injEq, true_and, and_true]; omega
      rw [hadd] at h3
      exact h3
    · cases h1
end
end Go.Proofs.Ytmnpfkdiknfkoaa.Sx
