/-
  The contracts of glob.class, glob.one and glob.Match, against plain functions. No condition but the texts' sizes.
-/
import Derived.Test.YtmnpfkdiknfkoaaT
import Derived.Test.YtmnpfkdiknfkoaaS5
import Derived.Test.YtmnpfkdiknfkoaaFG1
namespace Go.Proofs.Ytmnpfkdiknfkoaa
open Go Go.Proofs.Ytmnpfkdiknfkoaa.Sx
instance : TyStr Try.prog 9 := ⟨by kernel_rfl⟩

/-- a class's bytes, from a place on: whether a byte is one of them, and where they end -/
def clGo (p : ByteArray) (c : Int) : Nat → Nat → Bool → Bool × Nat
  | 0, at', has => (has, at')
  | n + 1, at', has =>
    if p.size ≤ at' ∨ bt p at' = 93 then (has, at')
    else if bt p at' = 92 ∧ at' + 1 < p.size then clGo p c n (at' + 2) (has || bt p (at' + 1) == c)
    else if at' + 2 < p.size ∧ bt p (at' + 1) = 45 ∧ bt p (at' + 2) ≠ 93 then
      clGo p c n (at' + 3) (has || (decide (minI (bt p at') (bt p (at' + 2)) ≤ c) && decide (c ≤ maxI (bt p at') (bt p (at' + 2)))))
    else clGo p c n (at' + 1) (has || bt p at' == c)
theorem l216 (p : ByteArray) (c : Int) (t : Bool) (hp : p.size ≤ 4611686018427387904) {x : World} {F : SP} {K : Res (.tup [.sc .bool, .sc (.int .i64)]) → PT} {j} :
    ∀ (n at' : Nat) (has : Bool), p.size ≤ n + at' → at' ≤ p.size + 3 → Ent x F (j (p, ((clGo p c n at' has).2 : Int), t, (clGo p c n at' has).1, ())) → Ent x F (f216.l5 K p at' c t has j) := by
  intro n
  induction n with
  | zero =>
    intro at' has h1 h2 h
    refine Ent.of (f216.l5_unfold K p at' c t has j) ?_
    unfold f216.b5
    refine Ent.ifF (by simp; omega) ?_
    exact h
  | succ n ih =>
    intro at' has h1 h2 h
    refine Ent.of (f216.l5_unfold K p at' c t has j) ?_
    unfold f216.b5
    simp only [clGo] at h
    by_cases hlt : at' < p.size
    · refine Ent.ifT (by simp; omega) ?_
      refine Ent.six at' rfl hlt ?_
      by_cases h93 : bt p at' = 93
      · rw [if_pos (.inr h93)] at h
        refine Ent.ifF (by simp [h93]) ?_
        exact h
      · rw [if_neg (by omega)] at h
        refine Ent.ifT (by simp [h93]) ?_
        show Ent x F (f216.k8 K p at' c t has _)
        unfold f216.k8
        refine Ent.six at' rfl hlt ?_
        have e1 : IntKind.i64.wrap ((at' : Int) + 1) = ((at' + 1 : Nat) : Int) := w64n (by omega) (by omega)
        have e2 : IntKind.i64.wrap ((at' : Int) + 2) = ((at' + 2 : Nat) : Int) := w64n (by omega) (by omega)
        have e3 : IntKind.i64.wrap ((at' : Int) + 3) = ((at' + 3 : Nat) : Int) := w64n (by omega) (by omega)
        have done1 : ¬ (bt p at' = 92 ∧ at' + 1 < p.size) → Ent x F (f216.k9 K p at' c t has false fun s => f216.l5 K s.1 s.2.1 s.2.2.1 s.2.2.2.1 s.2.2.2.2.1 j) := by
          intro hn
          rw [if_neg hn] at h
          unfold f216.k9
          refine Ent.ifF rfl ?_
          have tail : ¬ (at' + 2 < p.size ∧ bt p (at' + 1) = 45 ∧ bt p (at' + 2) ≠ 93) → Ent x F (f216.k12 K p at' c t has false fun s => f216.l5 K s.1 s.2.1 s.2.2.1 s.2.2.2.1 s.2.2.2.2.1 j) := by
            intro hn2
            rw [if_neg hn2] at h
            unfold f216.k12
            refine Ent.ifF rfl ?_
            show Ent x F (Sx.ifP has _ _)
            cases has with
            | true => exact Ent.ifT rfl (by show Ent x F (f216.l5 K p _ c t true j); rw [e1]; exact ih _ _ (by omega) (by omega) h)
            | false =>
              refine Ent.ifF rfl (Ent.six at' rfl hlt ?_)
              show Ent x F (f216.l5 K p _ c t _ j)
              rw [e1]; exact ih _ _ (by omega) (by omega) (by simpa using h)
          rw [e2, e1]
          by_cases h2' : at' + 2 < p.size
          · refine Ent.ifT (by simp; omega) (Ent.six _ rfl (by omega) ?_)
            by_cases h45 : bt p (at' + 1) = 45
            · refine Ent.ifT (by simp [h45]) (Ent.six _ rfl h2' ?_)
              by_cases h93' : bt p (at' + 2) = 93
              · have : (bt p (at' + 2) != 93) = false := by simp [h93']
                rw [this]
                exact tail (fun h => h.2.2 h93')
              · have : (bt p (at' + 2) != 93) = true := by simp [h93']
                rw [this]
                rw [if_pos ⟨h2', h45, h93'⟩] at h
                show Ent x F (f216.k12 K p at' c t has true _)
                unfold f216.k12
                refine Ent.ifT rfl (Ent.draw ?_)
                rw [e2]
                refine Ent.sixr at' rfl hlt (Ent.sixr _ rfl h2' (Ent.sixr at' rfl hlt (Ent.sixr _ rfl h2' ?_)))
                refine Ent.sixc _ rfl h2' (Ent.sixc _ rfl hlt ?_)
                show Ent x F (Sx.ifP has _ _)
                cases has with
                | true => exact Ent.ifT rfl (by show Ent x F (f216.l5 K p _ c t true j); rw [e3]; exact ih _ _ (by omega) (by omega) h)
                | false =>
                  refine Ent.ifF rfl (Ent.ifP (fun hd => ?_) (fun hd => ?_))
                  · show Ent x F (f216.l5 K p _ c t _ j)
                    rw [e3]; refine ih _ _ (by omega) (by omega) ?_
                    rw [hd] at h; simpa using h
                  · show Ent x F (f216.l5 K p _ c t _ j)
                    rw [e3]; refine ih _ _ (by omega) (by omega) ?_
                    rw [hd] at h; simpa using h
            · exact Ent.ifF (by simp [h45]) (tail (fun h => h45 h.2.1))
          · exact Ent.ifF (by simp; omega) (tail (fun h => h2' h.1))
        by_cases h92 : bt p at' = 92
        · refine Ent.ifT (by simp [h92]) ?_
          rw [e1]
          by_cases h1' : at' + 1 < p.size
          · rw [if_pos ⟨h92, h1'⟩] at h
            show Ent x F (f216.k9 K p at' c t has (decide _) _)
            unfold f216.k9
            refine Ent.ifT (by simp; omega) ?_
            show Ent x F (Sx.ifP has _ _)
            cases has with
            | true => exact Ent.ifT rfl (by show Ent x F (f216.l5 K p _ c t true j); rw [e2]; exact ih _ _ (by omega) (by omega) h)
            | false =>
              rw [e1]
              refine Ent.ifF rfl (Ent.six _ rfl h1' ?_)
              show Ent x F (f216.l5 K p _ c t _ j)
              rw [e2]; exact ih _ _ (by omega) (by omega) (by simpa using h)
          · have : decide (((at' + 1 : Nat) : Int) < (p.size : Int)) = false := by simp; omega
            rw [this]
            exact done1 (fun h => h1' h.2)
        · exact Ent.ifF (by simp [h92]) (done1 (fun h => h92 h.1))
    · rw [if_pos (.inl (by omega))] at h
      refine Ent.ifF (by simp; omega) ?_
      exact h

theorem clGo_le (p : ByteArray) (c : Int) : ∀ (n at' : Nat) (has : Bool), at' ≤ p.size → (clGo p c n at' has).2 ≤ p.size
  | 0, _, _, h => h
  | n + 1, at', has, h => by
    simp only [clGo]
    split
    · exact h
    · split
      · exact clGo_le p c n _ _ (by omega)
      · split
        · exact clGo_le p c n _ _ (by omega)
        · exact clGo_le p c n _ _ (by omega)
def clT (p : ByteArray) (a : Nat) : Bool := decide (a < p.size ∧ bt p a = 94)
def clA (p : ByteArray) (a : Nat) : Nat := if a < p.size ∧ bt p a = 94 then a + 1 else a
def classS (p : ByteArray) (a : Nat) (c : Int) : Bool × Nat :=
  (!((clGo p c p.size (clA p a) false).1 == clT p a), min ((clGo p c p.size (clA p a) false).2 + 1) p.size)
theorem minI_nat (a b : Nat) : minI (a : Int) (b : Int) = ((min a b : Nat) : Int) := by unfold minI; split <;> omega
theorem t216 (p : ByteArray) (a : Nat) (c : Int) (hp : p.size ≤ 4611686018427387904) (ha : a ≤ p.size) : TriP Try.prog 216 [.string p, .int .i64 a, .int .u8 c] (.tup [.sc .bool, .sc (.int .i64)])
    ((classS p a c).1, ((classS p a c).2 : Int), ()) := by
  intro x F K h
  suffices Ent x F (f216.m p a c K) from fun w hw => f216.ok p a c K (this w hw)
  have hA : clA p a ≤ p.size := by unfold clA; split <;> omega
  have hl := clGo_le p c p.size (clA p a) false hA
  have key : ∀ (i : Nat), i = clA p a → Ent x F (f216.k4 K p i c (clT p a)) := by
    rintro i rfl
    unfold f216.k4
    refine l216 p c (clT p a) hp p.size _ false (by omega) (by omega) ?_
    show Ent x F (f216.k15 K p _ (clT p a) _)
    unfold f216.k15
    dsimp only
    rw [w64n (n := (clGo p c p.size (clA p a) false).2 + 1) (by omega) (by omega), minI_nat]
    exact h
  have e1 : IntKind.i64.wrap ((a : Int) + 1) = ((a + 1 : Nat) : Int) := w64n (by omega) (by omega)
  unfold f216.m
  show Ent x F (Sx.ifP _ _ _)
  by_cases hlt : a < p.size
  · refine Ent.ifT (by simp; omega) (Ent.six a rfl hlt ?_)
    show Ent x F (f216.k2 K p a c _)
    unfold f216.k2
    by_cases h94 : bt p a = 94
    · have e : (bt p a == 94) = true := by simp [h94]
      rw [e]
      show Ent x F (f216.k4 K p _ c true)
      have := key (a + 1) (by simp [clA, hlt, h94])
      rw [e1]
      simpa [clT, hlt, h94] using this
    · have e : (bt p a == 94) = false := by simp [h94]
      rw [e]
      show Ent x F (f216.k4 K p _ c false)
      have := key a (by simp [clA, h94])
      simpa [clT, h94] using this
  · refine Ent.ifF (by simp; omega) ?_
    show Ent x F (f216.k2 K p a c false)
    unfold f216.k2
    show Ent x F (f216.k4 K p _ c false)
    have := key a (by simp [clA, hlt])
    simpa [clT, hlt] using this
/-- the part at a place, which is no run -/
def oneS (p : ByteArray) (a : Nat) (c : Int) : Bool × Nat :=
  if bt p a = 63 then (true, a + 1)
  else if bt p a = 91 then classS p (a + 1) c
  else if bt p a = 92 ∧ a + 1 < p.size then (bt p (a + 1) == c, a + 2)
  else (bt p a == c, a + 1)
theorem oneS_le (p : ByteArray) (a : Nat) (c : Int) (ha : a < p.size) : (oneS p a c).2 ≤ p.size := by
  unfold oneS
  split
  · simp only; omega
  · split
    · exact Nat.min_le_right _ _
    · split <;> (simp only; omega)
theorem t139 (p : ByteArray) (a : Nat) (c : Int) (hp : p.size ≤ 4611686018427387904) (ha : a < p.size) : TriP Try.prog 139 [.string p, .int .i64 a, .int .u8 c] (.tup [.sc .bool, .sc (.int .i64)])
    ((oneS p a c).1, ((oneS p a c).2 : Int), ()) := by
  intro x F K h
  suffices Ent x F (f139.m p a c K) from fun w hw => f139.ok p a c K (this w hw)
  have e1 : IntKind.i64.wrap ((a : Int) + 1) = ((a + 1 : Nat) : Int) := w64n (by omega) (by omega)
  have e2 : IntKind.i64.wrap ((a : Int) + 2) = ((a + 2 : Nat) : Int) := w64n (by omega) (by omega)
  unfold f139.m
  show Ent x F (opT _ _ _ _)
  refine Ent.six a rfl ha ?_
  rw [e1, e2]
  unfold oneS at h
  by_cases h63 : bt p a = 63
  · rw [if_pos h63] at h
    exact Ent.ifT (by simp [h63]) h
  · rw [if_neg h63] at h
    refine Ent.ifF (by simp [h63]) ?_
    by_cases h91 : bt p a = 91
    · rw [if_pos h91] at h
      exact Ent.ifT (by simp [h91]) (t216 p (a + 1) c hp (by omega) x F _ h)
    · rw [if_neg h91] at h
      refine Ent.ifF (by simp [h91]) ?_
      have last : ¬ (bt p a = 92 ∧ a + 1 < p.size) → Ent x F (f139.k9 K p a c) := by
        intro hn
        rw [if_neg hn] at h
        unfold f139.k9
        refine Ent.six a rfl ha ?_
        rw [e1]; exact h
      by_cases h92 : bt p a = 92
      · refine Ent.ifT (by simp [h92]) ?_
        by_cases h1 : a + 1 < p.size
        · rw [if_pos ⟨h92, h1⟩] at h
          refine Ent.ifT (by simp; omega) (Ent.six _ rfl h1 ?_)
          exact h
        · refine Ent.ifF (by simp; omega) ?_
          exact last (fun h => h1 h.2)
      · refine Ent.ifF (by simp [h92]) ?_
        exact last (fun h => h92 h.1)
/-- from a place on there are runs alone -/
def runsS (p : ByteArray) : Nat → Nat → Bool
  | 0, a => a == p.size
  | n + 1, a => if a < p.size ∧ bt p a = 42 then runsS p n (a + 1) else a == p.size
/-- what Match does, in at most so many rounds -/
def maS (p s : ByteArray) : Nat → Nat → Nat → Option Nat → Nat → Option Bool
  | 0, _, _, _, _ => none
  | n + 1, a, i, run, from' =>
    if i < s.size then
      if a < p.size ∧ bt p a = 42 then maS p s n (a + 1) i (some (a + 1)) i
      else if a < p.size ∧ (oneS p a (bt s i)).1 = true then maS p s n (oneS p a (bt s i)).2 (i + 1) run from'
      else match run with
        | none => some false
        | some r => maS p s n r (from' + 1) run (from' + 1)
    else some (runsS p p.size a)
theorem l20b (p : ByteArray) (hp : p.size ≤ 4611686018427387904) {x : World} {F : SP} {K : Res (.one (.sc .bool)) → PT} : ∀ (n a : Nat), p.size ≤ n + a → a ≤ p.size → Ent x F (K (runsS p n a)) → Ent x F (f20.k15 K p a) := by
  have key : ∀ (n a : Nat), p.size ≤ n + a → a ≤ p.size → Ent x F (K (runsS p n a)) → Ent x F (f20.l15 K p a fun s => f20.k17 K s.1 s.2.1) := by
    intro n
    induction n with
    | zero =>
      intro a h1 h2 h
      refine Ent.of (f20.l15_unfold K p a _) ?_
      unfold f20.b15
      refine Ent.ifF (by simp; omega) ?_
      show Ent x F (K _)
      have : ((a : Int) == (p.size : Int)) = (a == p.size) := by rw [Bool.eq_iff_iff]; simp; omega
      rw [this]; exact h
    | succ n ih =>
      intro a h1 h2 h
      refine Ent.of (f20.l15_unfold K p a _) ?_
      unfold f20.b15
      simp only [runsS] at h
      have fin : ¬ (a < p.size ∧ bt p a = 42) → Ent x F (f20.k17 K p a) := by
        intro hn
        rw [if_neg hn] at h
        show Ent x F (K _)
        have : ((a : Int) == (p.size : Int)) = (a == p.size) := by rw [Bool.eq_iff_iff]; simp; omega
        rw [this]; exact h
      by_cases hlt : a < p.size
      · refine Ent.ifT (by simp; omega) (Ent.six a rfl hlt ?_)
        by_cases h42 : bt p a = 42
        · rw [if_pos ⟨hlt, h42⟩] at h
          refine Ent.ifT (by simp [h42]) ?_
          show Ent x F (f20.l15 K p (IntKind.i64.wrap ((a : Int) + 1)) _)
          rw [w64n (n := a + 1) (by omega) (by omega)]
          exact ih (a + 1) (by omega) (by omega) h
        · exact Ent.ifF (by simp [h42]) (fin (fun h => h42 h.2))
      · exact Ent.ifF (by simp; omega) (fin (fun h => hlt h.1))
  exact key
def runI : Option Nat → Int | some q => q | none => -1
theorem l20 (p s : ByteArray) (hp : p.size ≤ 4611686018427387904) (hs : s.size ≤ 4611686018427387904) {x : World} {F : SP} {K : Res (.one (.sc .bool)) → PT} {r : Bool} (hK : Ent x F (K r)) :
    ∀ (n a i : Nat) (run : Option Nat) (from' : Nat), a ≤ p.size → i ≤ s.size → (∀ q, run = some q → q ≤ p.size ∧ from' ≤ i) → maS p s n a i run from' = some r →
      Ent x F (f20.l3 K p s a i (runI run) from' fun s => f20.k15 K s.1 s.2.1) := by
  intro n
  induction n with
  | zero => intro a i run from' _ _ _ h; simp [maS] at h
  | succ n ih =>
    intro a i run from' ha hi hrun h
    refine Ent.of (f20.l3_unfold K p s a i _ from' _) ?_
    unfold f20.b3
    simp only [maS] at h
    by_cases hlt : i < s.size
    · rw [if_pos hlt] at h
      refine Ent.ifT (by simp; omega) ?_
      have back : ¬ (a < p.size ∧ bt p a = 42) → ¬ (a < p.size ∧ (oneS p a (bt s i)).1 = true) →
          Ent x F (f20.k11 K p s (runI run) from' fun t => f20.l3 K t.1 t.2.1 t.2.2.1 t.2.2.2.1 t.2.2.2.2.1 t.2.2.2.2.2.1 fun s => f20.k15 K s.1 s.2.1) := by
        intro h1 h2
        rw [if_neg h1, if_neg h2] at h
        unfold f20.k11
        cases run with
        | none =>
          simp only [Option.some.injEq] at h
          subst h
          exact Ent.ifT (by simp [runI]) hK
        | some q =>
          simp only at h
          obtain ⟨hq1, hq2⟩ := hrun q rfl
          refine Ent.ifF (decide_eq_false (by simp only [runI]; omega)) ?_
          rw [w64n (n := from' + 1) (by omega) (by omega)]
          exact ih q (from' + 1) (some q) (from' + 1) hq1 (by omega) (fun q' hq' => by cases hq'; exact ⟨hq1, Nat.le_refl _⟩) h
      show Ent x F (Sx.ifP _ _ _)
      by_cases hap : a < p.size
      · refine Ent.ifT (by simp; omega) (Ent.six a rfl hap ?_)
        by_cases h42 : bt p a = 42
        · rw [if_pos ⟨hap, h42⟩] at h
          refine Ent.ifT (by simp [h42]) ?_
          rw [w64n (n := a + 1) (by omega) (by omega)]
          exact ih (a + 1) i (some (a + 1)) i (by omega) hi (fun q hq => by cases hq; exact ⟨by omega, Nat.le_refl _⟩) h
        · refine Ent.ifF (by simp [h42]) (Ent.six i rfl hlt ?_)
          refine t139 p a (bt s i) hp hap x F _ ?_
          by_cases ho : (oneS p a (bt s i)).1 = true
          · rw [if_neg (fun h => h42 h.2), if_pos ⟨hap, ho⟩] at h
            refine Ent.ifT ho ?_
            rw [w64n (n := i + 1) (by omega) (by omega)]
            exact ih _ (i + 1) run from' (oneS_le p a _ hap) (by omega) (fun q hq => ⟨(hrun q hq).1, by have := (hrun q hq).2; omega⟩) h
          · refine Ent.ifF (by simpa using ho) ?_
            exact back (fun h => h42 h.2) (fun h => ho h.2)
      · exact Ent.ifF (by simp; omega) (back (fun h => hap h.1) (fun h => hap h.1))
    · rw [if_neg hlt] at h
      simp only [Option.some.injEq] at h
      refine Ent.ifF (by simp; omega) ?_
      exact l20b p hp p.size a (by omega) ha (h ▸ hK)
theorem t20 (p s : ByteArray) (hp : p.size ≤ 4611686018427387904) (hs : s.size ≤ 4611686018427387904) (n : Nat) (r : Bool) (h : maS p s n 0 0 none 0 = some r) :
    TriP Try.prog 20 [.string p, .string s] (.one (.sc .bool)) r := by
  intro x F K hK
  suffices Ent x F (f20.m p s K) from fun w hw => f20.ok p s K (this w hw)
  exact l20 p s hp hs hK n 0 0 none 0 (by omega) (by omega) (fun q hq => by cases hq) h
end Go.Proofs.Ytmnpfkdiknfkoaa
