/-
  The contract of num.Text: a number's decimal, whatever stands in memory. No condition.
-/
import Derived.Test.YtmnpfkdiknfkoaaT
import Derived.Test.YtmnpfkdiknfkoaaFG1
namespace Go.Proofs.Ytmnpfkdiknfkoaa
open Go Go.Proofs.Ytmnpfkdiknfkoaa.Sx

/-- the digits of a number ahead of others -/
def dgs : Nat → Nat → List Int → List Int
  | 0, _, acc => acc
  | n + 1, u, acc => if u / 10 = 0 then ((48 + u % 10 : Nat) : Int) :: acc else dgs n (u / 10) (((48 + u % 10 : Nat) : Int) :: acc)
def textL (n : Int) : List Int := if n < 0 then 45 :: dgs 19 n.natAbs [] else dgs 19 n.natAbs []
theorem zc295 : zc Try.prog 295 = ⟨List.replicate 20 (.int .u8 0)⟩ := by kernel_rfl
theorem splice_front {front ds : List Value} {v u : Value} {at' : Nat} (h : (front ++ [u]).length = at' + 1) :
    splice ⟨front ++ [u] ++ ds⟩ at' [v] = ⟨front ++ ([v] ++ ds)⟩ := by
  have hf : front.length = at' := by simpa using h
  subst hf
  unfold splice
  congr 1
  simp
theorem round (n : Int) (b : Nat) {x : World} {F : SP} {K : Res (.one (.sc .str)) → PT} {j} (at' u : Nat) (front : List Value) (ds : List Int) (h1 : front.length = at') (h2 : 1 ≤ at') (h4 : u ≤ 18446744073709551615) (h5 : at' ≤ 20)
    (h6 : front.length + ds.length = 20)
    (hx : u / 10 = 0 → ∀ front', front'.length + 1 = at' → Ent x (pt b (.cells ⟨front' ++ (((48 + u % 10 : Nat) : Int) :: ds).map (Value.int .u8)⟩ 295) * F) (j (n, b, (front'.length : Int), ())))
    (hk : u / 10 ≠ 0 → ∀ front', front'.length + 1 = at' → Ent x (pt b (.cells ⟨front' ++ (((48 + u % 10 : Nat) : Int) :: ds).map (Value.int .u8)⟩ 295) * F) (f136.l6 K n b front'.length (u / 10 : Nat) j)) :
    Ent x (pt b (.cells ⟨front ++ ds.map (Value.int .u8)⟩ 295) * F) (f136.l6 K n b at' u j) := by
  obtain ⟨f0, u0, rfl⟩ : ∃ f0 u0, front = f0 ++ [u0] := by
    have hne : front ≠ [] := by intro h; subst h; simp at h1; omega
    exact ⟨front.dropLast, front.getLast hne, (List.dropLast_concat_getLast hne).symm⟩
  have hf0 : at' = f0.length + 1 := by simpa using h1.symm
  subst hf0
  refine Ent.of (f136.l6_unfold K n b _ u j) ?_
  unfold f136.b6
  have e1 : IntKind.i64.wrap (((f0.length + 1 : Nat) : Int) - 1) = (f0.length : Int) := w64n (by omega) (by omega)
  have e2 : Int.tmod (u : Int) 10 = ((u % 10 : Nat) : Int) := by rw [Int.tmod_eq_emod_of_nonneg (by omega)]; rfl
  have e3 : Int.tdiv (u : Int) 10 = ((u / 10 : Nat) : Int) := by rw [Int.tdiv_eq_ediv_of_nonneg (by omega)]; rfl
  rw [e1, e2, e3, wu64 (by omega) (by omega), wu64 (x := ((u / 10 : Nat) : Int)) (by omega) (by omega), wu8 (x := 48 + ((u % 10 : Nat) : Int)) (by omega) (by omega)]
  refine Ent.idxa (by omega) (by omega) ?_
  rw [Addr.add_mk]
  simp only [Int.toNat_natCast, Nat.mul_one, Nat.zero_add]
  refine Ent.st (⟨f0 ++ (((48 + u % 10 : Nat) : Int) :: ds).map (Value.int .u8)⟩) ?_ (hlen := by rw [Nat.ble_eq]; simp at h6 ⊢ <;> omega) (hcs := ?_)
  · by_cases h : u / 10 = 0
    · refine Ent.ifT (by simp [h]) (hx h f0 rfl)
    · refine Ent.ifF (by simp; omega) (hk h f0 rfl)
  · have := splice_front (front := f0) (u := u0) (v := .int .u8 (48 + (u % 10 : Nat))) (ds := ds.map (Value.int .u8)) (at' := f0.length) (by simp)
    simpa [Value.cells] using this
theorem l136 (n : Int) (b : Nat) {x : World} {F : SP} {K : Res (.one (.sc .str)) → PT} {j} : ∀ (m at' u : Nat) (front : List Value) (ds : List Int), front.length = at' → m + 1 < at' → u < 10 ^ (m + 1) → u ≤ 18446744073709551615 → at' ≤ 20 →
    front.length + ds.length = 20 →
    (∀ (front' : List Value) (l : List Int), l = dgs (m + 1) u ds → front'.length + l.length = 20 → 1 ≤ front'.length →
      Ent x (pt b (.cells ⟨front' ++ l.map (Value.int .u8)⟩ 295) * F) (j (n, b, (front'.length : Int), ()))) →
    Ent x (pt b (.cells ⟨front ++ ds.map (Value.int .u8)⟩ 295) * F) (f136.l6 K n b at' u j) := by
  intro m
  induction m with
  | zero =>
    intro at' u front ds h1 h2 h3 h4 h5 h6 h
    refine round n b at' u front ds h1 (by omega) h4 h5 h6 (fun h0 front' hl => ?_) (fun hne => absurd (show u / 10 = 0 by omega) hne)
    exact h front' _ (by simp only [dgs]; rw [if_pos h0]) (by simp only [List.length_cons]; omega) (by omega)
  | succ m ih =>
    intro at' u front ds h1 h2 h3 h4 h5 h6 h
    refine round n b at' u front ds h1 (by omega) h4 h5 h6 (fun h0 front' hl => ?_) (fun hne front' hl => ?_)
    · exact h front' _ (by rw [dgs]; rw [if_pos h0]) (by simp only [List.length_cons]; omega) (by omega)
    · refine ih front'.length (u / 10) front' _ rfl (by omega) (by rw [Nat.pow_succ] at h3; omega) (by omega) (by omega) (by simp only [List.length_cons]; omega) ?_
      intro front'' l hl2 hlen hf
      have e : dgs (m + 1 + 1) u ds = if u / 10 = 0 then ((48 + u % 10 : Nat) : Int) :: ds else dgs (m + 1) (u / 10) (((48 + u % 10 : Nat) : Int) :: ds) := rfl
      exact h front'' l (by rw [hl2, e, if_neg hne]) hlen hf
def textS (n : Int) : ByteArray := mkStr (textL n)
theorem t136 (n : Int) (h1 : -9223372036854775808 ≤ n) (h2 : n ≤ 9223372036854775807) : TriP Try.prog 136 [.int .i64 n] (.one (.sc .str)) (textS n) := by
  intro x F K hK
  suffices Ent x F (f136.m n K) from fun w hw => f136.ok n K (this w hw)
  unfold f136.m
  rw [zc295]
  refine Ent.new fun b => ?_
  have k13 : ∀ (front : List Value) (l : List Int), l = textL n → front.length + l.length = 20 → 0 < l.length →
      Ent x (pt b (.cells ⟨front ++ l.map (Value.int .u8)⟩ 295) * F) (f136.k13 K b front.length) := by
    intro front l hl hlen hpos
    unfold f136.k13
    refine Ent.cutA front.length 20 (.some _ _) .none (by omega) (by omega) ?_
    rw [if_neg (by omega), Addr.add_mk]
    simp only [Nat.mul_one, Nat.zero_add]
    refine Ent.b2s l (by omega) (by
      simp only [slotsAt, List.drop_left]
      exact List.take_of_length_le (by simp; omega)) ?_
    subst hl
    exact Ent.imp (Imp.drop_left _ _) hK
  have k10 : ∀ (front : List Value) (l : List Int), l = dgs 19 n.natAbs [] → front.length + l.length = 20 → 1 ≤ front.length → 0 < l.length →
      Ent x (pt b (.cells ⟨front ++ l.map (Value.int .u8)⟩ 295) * F) (f136.k10 K n b front.length) := by
    intro front l hl hlen hf hpos
    unfold f136.k10
    show Ent x _ (Sx.ifP _ _ _)
    by_cases hn : n < 0
    · obtain ⟨f0, u0, rfl⟩ : ∃ f0 u0, front = f0 ++ [u0] := by
        have hne : front ≠ [] := by intro h; subst h; simp at hf
        exact ⟨front.dropLast, front.getLast hne, (List.dropLast_concat_getLast hne).symm⟩
      refine Ent.ifT (decide_eq_true hn) ?_
      have e1 : IntKind.i64.wrap (((f0 ++ [u0]).length : Int) - 1) = (f0.length : Int) := w64n (by simp) (by simp at hlen; omega)
      rw [e1]
      refine Ent.idxa (by omega) (by simp at hlen; omega) ?_
      rw [Addr.add_mk]
      simp only [Int.toNat_natCast, Nat.mul_one, Nat.zero_add]
      refine Ent.st (⟨f0 ++ (45 :: l).map (Value.int .u8)⟩) ?_ (hlen := by rw [Nat.ble_eq]; simp at hlen ⊢ <;> omega) (hcs := ?_)
      · exact k13 f0 (45 :: l) (by rw [textL, if_pos hn, hl]) (by simp at hlen ⊢; omega) (by simp)
      · have := splice_front (front := f0) (u := u0) (v := .int .u8 45) (ds := l.map (Value.int .u8)) (at' := f0.length) (by simp)
        simpa [Value.cells] using this
    · refine Ent.ifF (decide_eq_false hn) ?_
      exact k13 front l (by rw [textL, if_neg hn, hl]) hlen hpos
  have k6 : Ent x (pt b (.cells ⟨List.replicate 20 (.int .u8 0)⟩ 295) * F) (f136.k6 K n b 20 (n.natAbs : Int)) := by
    unfold f136.k6
    show Ent x _ (f136.l6 K n b (20 : Nat) (n.natAbs : Nat) _)
    have := l136 n b (x := x) (F := F) (K := K) (j := fun s => f136.k10 K s.1 s.2.1 s.2.2.1) 18 20 n.natAbs (List.replicate 20 (.int .u8 0)) [] (by simp) (by omega) (by omega) (by omega) (by omega) (by simp) (fun front' l hl hlen hf => by
      refine k10 front' l hl hlen hf ?_
      have : ∀ (m u : Nat) (acc : List Int), (dgs (m + 1) u acc).length ≥ acc.length + 1 := by
        intro m
        induction m with
        | zero => intro u acc; simp only [dgs]; split <;> simp
        | succ m ih => intro u acc; rw [dgs]; split
                       · simp
                       · have := ih (u / 10) (((48 + u % 10 : Nat) : Int) :: acc); simp only [List.length_cons] at this; omega
      have := this 18 n.natAbs []
      rw [hl]; simp only [List.length_nil] at this; omega)
    simpa using this
  show Ent x _ (Sx.ifP _ _ _)
  by_cases hn : n < 0
  · refine Ent.ifT (decide_eq_true hn) ?_
    have e : IntKind.u64.wrap (0 - IntKind.u64.wrap n) = (n.natAbs : Int) := by
      have hw : IntKind.u64.wrap n = n + 18446744073709551616 := by
        have : (2 ^ IntKind.u64.bits : Int) = 18446744073709551616 := by decide
        simp only [IntKind.wrap, this, IntKind.signed, Bool.false_and, Bool.false_eq_true, if_false]; omega
      rw [hw]
      have : (2 ^ IntKind.u64.bits : Int) = 18446744073709551616 := by decide
      simp only [IntKind.wrap, this, IntKind.signed, Bool.false_and, Bool.false_eq_true, if_false]; omega
    rw [e]; exact k6
  · refine Ent.ifF (decide_eq_false hn) ?_
    rw [wu64 (by omega) (by omega), show n = (n.natAbs : Int) from by omega]
    have : ((n.natAbs : Int).natAbs) = n.natAbs := by simp
    rw [show (n.natAbs : Int) = n from by omega] at *
    exact k6
end Go.Proofs.Ytmnpfkdiknfkoaa
