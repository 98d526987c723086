/-
  What the law TopBuckets walks through: for whatever it is called with it comes to true. Conditions: the kinds' bounds, and that the slice's cells can be read.
-/
import Derived.Test.YtmnpfkdiknfkoaaB3
import Derived.Test.YtmnpfkdiknfkoaaL1
import Derived.Test.YtmnpfkdiknfkoaaS6
namespace Go.Proofs.Ytmnpfkdiknfkoaa
open Go Go.Proofs.Ytmnpfkdiknfkoaa.Sx
theorem zc27 : zc Try.prog 27 = #[.int .u8 0, .int .u8 0, .int .u8 0, .int .u8 0, .int .u8 0] := by kernel_rfl
theorem most_bd (b : Int) : 1 ≤ most b ∧ most b ≤ 1073741824 := by unfold most minI maxI; split <;> split <;> omega
theorem each_bd (b : Int) : 0 ≤ each b ∧ each b ≤ 1048576 := by unfold each minI maxI; split <;> split <;> omega
/-- the plain reckoning -/
def plainS (left last b r now : Int) : Int × Int :=
  if now > last then
    (if each r > 0 then minI (IntKind.i64.wrap (left + IntKind.i64.wrap (each r * IntKind.i64.wrap (minI (IntKind.u64.wrap (IntKind.u64.wrap now - IntKind.u64.wrap last)) 1073741824)))) (most b) else left, now)
  else (left, last)
theorem u64_mod (n : Int) : IntKind.u64.wrap n = n % 18446744073709551616 := by
  have : (2 ^ IntKind.u64.bits : Int) = 18446744073709551616 := by decide
  simp only [IntKind.wrap, this, IntKind.signed, Bool.false_and, Bool.false_eq_true, if_false]
theorem fill_plain (left last b r now : Int) (h0 : 0 ≤ left) (h1 : left ≤ most b) (hn1 : -9223372036854775808 ≤ now) (hn2 : now ≤ 9223372036854775807) (hl1 : -9223372036854775808 ≤ last) (hl2 : last ≤ 9223372036854775807) :
    fillS left last b r now = plainS left last b r now := by
  have hm := most_bd b
  have he := each_bd r
  have hb : minI (maxI left 0) (most b) = left := by unfold minI maxI; split <;> split <;> omega
  unfold fillS plainS
  rw [hb]
  generalize most b = m at *
  generalize each r = e at *
  by_cases h : now ≤ last
  · rw [if_pos h, if_neg (by omega)]
  · have h' : now > last := by omega
    rw [if_neg h, if_pos h']
    have hg : IntKind.u64.wrap (IntKind.u64.wrap now - IntKind.u64.wrap last) = now - last := by rw [u64_mod, u64_mod, u64_mod]; omega
    rw [hg, wu64 (x := m) (by omega) (by omega)]
    by_cases h3 : e > 0
    · rw [if_pos h3]
      by_cases h4 : now - last ≥ m
      · rw [if_pos ⟨h3, h4⟩]
        have hmin : m ≤ minI (now - last) 1073741824 ∧ minI (now - last) 1073741824 ≤ 1073741824 := by unfold minI; split <;> omega
        generalize minI (now - last) 1073741824 = g at *
        have hp1 : e * g ≤ 1048576 * 1073741824 := Int.mul_le_mul he.2 hmin.2 (by omega) (by omega)
        have hp2 : m ≤ e * g := by
          have := Int.mul_le_mul (show (1 : Int) ≤ e by omega) hmin.1 (by omega) (by omega)
          omega
        rw [w64 (x := g) (by omega) (by omega), w64 (x := e * g) (by omega) (by omega), w64 (by omega) (by omega)]
        congr 1
        unfold minI; split <;> omega
      · rw [if_neg (fun h => h4 h.2), if_pos h3]
        have : minI (now - last) 1073741824 = now - last := by unfold minI; rw [if_neg (by omega)]
        rw [this]
    · rw [if_neg (fun h => h3 h.1), if_neg h3, if_neg h3]
theorem plain_bd (left last b r now : Int) (h0 : 0 ≤ left) (h1 : left ≤ most b) (hn1 : -9223372036854775808 ≤ now) (hn2 : now ≤ 9223372036854775807) (hl1 : -9223372036854775808 ≤ last) (hl2 : last ≤ 9223372036854775807) :
    0 ≤ (plainS left last b r now).1 ∧ (plainS left last b r now).1 ≤ most b ∧ -9223372036854775808 ≤ (plainS left last b r now).2 ∧ (plainS left last b r now).2 ≤ 9223372036854775807 := by
  have hm := most_bd b
  have he := each_bd r
  unfold plainS
  split
  · rename_i h
    refine ⟨?_, ?_, hn1, hn2⟩
    · simp only
      split
      · have hg : IntKind.u64.wrap (IntKind.u64.wrap now - IntKind.u64.wrap last) = now - last := by rw [u64_mod, u64_mod, u64_mod]; omega
        rw [hg]
        have hmin : 0 ≤ minI (now - last) 1073741824 ∧ minI (now - last) 1073741824 ≤ 1073741824 := by unfold minI; split <;> omega
        generalize minI (now - last) 1073741824 = g at *
        have hp1 : each r * g ≤ 1048576 * 1073741824 := Int.mul_le_mul he.2 hmin.2 (by omega) (by omega)
        have hp2 : 0 ≤ each r * g := Int.mul_nonneg he.1 hmin.1
        rw [w64 (x := g) (by omega) (by omega), w64 (x := each r * g) (by omega) (by omega), w64 (by omega) (by omega)]
        unfold minI; split <;> omega
      · exact h0
    · simp only
      split
      · unfold minI; split <;> omega
      · exact h1
  · exact ⟨h0, h1, hl1, hl2⟩
abbrev BK (b : Nat) (left last : Int) : SP := pt b (.cells #[.int .i64 left, .int .i64 last] 24)
section
variable {x : World} {F : SP} {K : Res (.one (.sc .bool)) → PT} {burst rate from' : Int} {v11 N : Nat} {s : Sl} {j39 : ST [(0, (.sc (.int .i32))), (1, (.sc (.int .i32))), (9, (.sc (.int .i64)))] → PT}
/-- behind a deed -/
theorem k31 (hbu : -2147483648 ≤ burst ∧ burst ≤ 2147483647) (hra : -2147483648 ≤ rate ∧ rate ≤ 2147483647) (left last : Int) (h0 : 0 ≤ left) (h1 : left ≤ most burst) (i : Nat) (hi : i < N) (hN : N ≤ 100)
    (next : Ent x (BK v11 left last * F) (f3.l7 K burst rate from' (most burst) (each rate) v11 left last s N (i + 1 : Nat) j39)) :
    Ent x (BK v11 left last * F) (f3.k31 K burst rate from' (most burst) (each rate) v11 left last s N i fun t => f3.l7 K t.1 t.2.1 t.2.2.1 t.2.2.2.1 t.2.2.2.2.1 t.2.2.2.2.2.1 t.2.2.2.2.2.2.1 t.2.2.2.2.2.2.2.1 t.2.2.2.2.2.2.2.2.1 t.2.2.2.2.2.2.2.2.2.1 t.2.2.2.2.2.2.2.2.2.2.1 j39) := by
  have hm := most_bd burst
  have he := each_bd rate
  have k36 : Ent x (BK v11 left last * F) (f3.k36 K burst rate from' (most burst) (each rate) v11 left last (whenS left last burst rate) s N i fun t => f3.l7 K t.1 t.2.1 t.2.2.1 t.2.2.2.1 t.2.2.2.2.1 t.2.2.2.2.2.1 t.2.2.2.2.2.2.1 t.2.2.2.2.2.2.2.1 t.2.2.2.2.2.2.2.2.1 t.2.2.2.2.2.2.2.2.2.1 t.2.2.2.2.2.2.2.2.2.2.1 j39) := by
    unfold f3.k36
    show Ent x _ (opT _ _ _ _)
    refine Ent.ldA (left, last, ()) ?_
    refine Ent.opRd (τ := .one (.sc .bool)) false (fun w _ => (nes24 _ _ left last left last w).trans (by simp [eT, e1, eSc])) ?_
    refine Ent.ifF rfl ?_
    refine Ent.ldA (left, last, ()) ?_
    rw [w64 (x := burst) (by omega) (by omega), w64 (x := rate) (by omega) (by omega)]
    refine t14 left last burst rate x _ _ ?_
    show Ent x _ (f3.k37 K _ _ _ _ _ _ _ _ _ _ _ _ _)
    unfold f3.k37
    refine Ent.ifF (by simp) ?_
    show Ent x _ (f3.l7 K burst rate from' (most burst) (each rate) v11 left last s N (IntKind.i64.wrap ((i : Int) + 1)) j39)
    rw [w64n (n := i + 1) (by omega) (by omega)]
    exact next
  have hb : minI (maxI left 0) (most burst) = left := by unfold minI maxI; split <;> split <;> omega
  have hw : whenS left last burst rate = if left = 0 then (if each rate = 0 then -1 else minI (each rate) 1) else 0 := by
    unfold whenS fillS
    rw [if_pos (Int.le_refl _), hb]
    by_cases h2 : left = 0
    · rw [if_neg (by simp only; omega), if_pos h2]
      by_cases h3 : each rate = 0
      · rw [if_neg (by omega), if_pos h3]
      · rw [if_pos (by omega), if_neg h3]; unfold minI; split <;> omega
    · rw [if_pos (by simp only; omega), if_neg h2]
  unfold f3.k31
  show Ent x _ (Sx.ifP _ _ _)
  rw [hw] at k36
  by_cases h2 : left = 0
  · rw [if_pos h2] at k36
    refine Ent.ifT (by simp [h2]) ?_
    by_cases h3 : each rate = 0
    · rw [if_pos h3] at k36
      exact Ent.ifT (by simp [h3]) k36
    · rw [if_neg h3] at k36
      exact Ent.ifF (by simp [h3]) k36
  · rw [if_neg h2] at k36
    exact Ent.ifF (by simp [h2]) k36

abbrev after31 (K : Res (.one (.sc .bool)) → PT) (j39 : ST [(0, (.sc (.int .i32))), (1, (.sc (.int .i32))), (9, (.sc (.int .i64)))] → PT) : ST [(0, (.sc (.int .i32))), (1, (.sc (.int .i32))), (2, (.sc (.int .i64))), (9, (.sc (.int .i64))), (10, (.sc (.int .i64))), (11, (.sc .box)), (12, (.sc (.int .i64))), (13, (.sc (.int .i64))), (46, (.sc .slice)), (47, (.sc (.int .i64))), (48, (.sc (.int .i64)))] → PT :=
  fun t => f3.l7 K t.1 t.2.1 t.2.2.1 t.2.2.2.1 t.2.2.2.2.1 t.2.2.2.2.2.1 t.2.2.2.2.2.2.1 t.2.2.2.2.2.2.2.1 t.2.2.2.2.2.2.2.2.1 t.2.2.2.2.2.2.2.2.2.1 t.2.2.2.2.2.2.2.2.2.2.1 j39
/-- the deed itself -/
theorem k22 (hbu : -2147483648 ≤ burst ∧ burst ≤ 2147483647) (hra : -2147483648 ≤ rate ∧ rate ≤ 2147483647) (left last now : Int) (h0 : 0 ≤ left) (h1 : left ≤ most burst) (i : Nat) (hi : i < N) (hN : N ≤ 100)
    (hl1 : -9223372036854775808 ≤ last) (hl2 : last ≤ 9223372036854775807) (hn1 : -9223372036854775808 ≤ now) (hn2 : now ≤ 9223372036854775807) (r15 : Nat) (d0 d1 d2 d3 d4 : Int)
    (next : ∀ left' last', 0 ≤ left' → left' ≤ most burst → -9223372036854775808 ≤ last' → last' ≤ 9223372036854775807 → Ent x (BK v11 left' last' * F) (f3.l7 K burst rate from' (most burst) (each rate) v11 left' last' s N (i + 1 : Nat) j39)) :
    Ent x (pt r15 (.cells #[.int .u8 d0, .int .u8 d1, .int .u8 d2, .int .u8 d3, .int .u8 d4] 27) * (BK v11 left last * F))
      (f3.k22 K burst rate from' (most burst) (each rate) v11 (plainS left last burst rate now).1 (plainS left last burst rate now).2 r15 now s N i (after31 K j39)) := by
  have hp := plain_bd left last burst rate now h0 h1 hn1 hn2 hl1 hl2
  have hf := fill_plain left last burst rate now h0 h1 hn1 hn2 hl1 hl2
  have hm := most_bd burst
  generalize plainS left last burst rate now = q at *
  obtain ⟨a, c⟩ := q
  simp only at hp
  unfold f3.k22
  show Ent x _ (opT _ _ _ _)
  refine Ent.ld d0 ?_
  rw [w64 (x := burst) (by omega) (by omega), w64 (x := rate) (by omega) (by omega)]
  refine Ent.ifP (fun hk => ?_) (fun hk => ?_)
  · refine Ent.ldA (left, last, ()) ?_
    refine t12 left last burst rate now x _ _ ?_
    rw [hf]
    refine Ent.st #[.int .i64 a, .int .i64 c] ?_
    refine Ent.imp (Imp.drop_left _ _) ?_
    exact k31 hbu hra a c hp.1 hp.2.1 i hi hN (next a c hp.1 hp.2.1 hp.2.2.1 hp.2.2.2)
  · have k27 : Ent x (pt r15 (.cells #[.int .u8 d0, .int .u8 d1, .int .u8 d2, .int .u8 d3, .int .u8 d4] 27) * (BK v11 left last * F))
        (f3.k27 K burst rate from' (most burst) (each rate) v11 (if a > 0 then a - 1 else a) c now (decide (a > 0)) s N i fun t => f3.k31 K t.1 t.2.1 t.2.2.1 t.2.2.2.1 t.2.2.2.2.1 t.2.2.2.2.2.1 t.2.2.2.2.2.2.1 t.2.2.2.2.2.2.2.1 t.2.2.2.2.2.2.2.2.1 t.2.2.2.2.2.2.2.2.2.1 t.2.2.2.2.2.2.2.2.2.2.1 (after31 K j39)) := by
      unfold f3.k27
      refine Ent.ldA (left, last, ()) ?_
      rw [w64 (x := burst) (by omega) (by omega), w64 (x := rate) (by omega) (by omega)]
      refine t13 left last burst rate now x _ _ ?_
      have ht : takeS left last burst rate now = ((if a > 0 then a - 1 else a, c), decide (a > 0)) := by
        unfold takeS
        rw [hf]
        by_cases h : a = 0
        · subst h; simp
        · rw [if_neg h, w64 (by simp only; omega) (by simp only; omega)]; simp; omega
      rw [ht]
      generalize hb : (if a > 0 then a - 1 else a) = b
      have hb0 : 0 ≤ b := by rw [← hb]; split <;> omega
      have hb1 : b ≤ most burst := by rw [← hb]; split <;> omega
      rw [zc24]
      refine Ent.new fun r20 => ?_
      refine Ent.st #[.int .i64 b, .int .i64 c] (Ent.ldA (b, c, ()) (Ent.st #[.int .i64 b, .int .i64 c] ?_))
      refine Ent.ifF (by simp) ?_
      refine Ent.imp (Imp.drop_left _ _) (Ent.imp (Imp.drop_left _ _) ?_)
      exact k31 hbu hra b c hb0 hb1 i hi hN (next b c hb0 hb1 hp.2.2.1 hp.2.2.2)
    show Ent x _ (Sx.ifP _ _ _)
    by_cases ha : a > 0
    · rw [if_pos ha] at k27
      refine Ent.ifT (decide_eq_true ha) ?_
      rw [w64 (x := a - 1) (by omega) (by omega)]
      exact k27
    · rw [if_neg ha] at k27
      exact Ent.ifF (decide_eq_false ha) k27
theorem k17 (hbu : -2147483648 ≤ burst ∧ burst ≤ 2147483647) (hra : -2147483648 ≤ rate ∧ rate ≤ 2147483647) (left last now : Int) (h0 : 0 ≤ left) (h1 : left ≤ most burst) (i : Nat) (hi : i < N) (hN : N ≤ 100)
    (hl1 : -9223372036854775808 ≤ last) (hl2 : last ≤ 9223372036854775807) (hn1 : -9223372036854775808 ≤ now) (hn2 : now ≤ 9223372036854775807) (r15 : Nat) (d0 d1 d2 d3 d4 : Int)
    (next : ∀ left' last', 0 ≤ left' → left' ≤ most burst → -9223372036854775808 ≤ last' → last' ≤ 9223372036854775807 → Ent x (BK v11 left' last' * F) (f3.l7 K burst rate from' (most burst) (each rate) v11 left' last' s N (i + 1 : Nat) j39)) :
    Ent x (pt r15 (.cells #[.int .u8 d0, .int .u8 d1, .int .u8 d2, .int .u8 d3, .int .u8 d4] 27) * (BK v11 left last * F))
      (f3.k17 K burst rate from' (most burst) (each rate) v11 left last r15 now s N i (after31 K j39)) := by
  have h := k22 hbu hra left last now h0 h1 i hi hN hl1 hl2 hn1 hn2 r15 d0 d1 d2 d3 d4 next
  unfold f3.k17
  show Ent x _ (Sx.ifP _ _ _)
  unfold plainS at h
  by_cases hn : now > last
  · rw [if_pos hn] at h
    refine Ent.ifT (decide_eq_true hn) ?_
    show Ent x _ (Sx.ifP _ _ _)
    by_cases he : each rate > 0
    · rw [if_pos he] at h
      exact Ent.ifT (decide_eq_true he) h
    · rw [if_neg he] at h
      exact Ent.ifF (decide_eq_false he) h
  · rw [if_neg hn] at h
    exact Ent.ifF (decide_eq_false hn) h
theorem wrap64_bd (n : Int) : -9223372036854775808 ≤ IntKind.i64.wrap n ∧ IntKind.i64.wrap n ≤ 9223372036854775807 := by rw [IntKind.wrap_i64]; omega
/-- the loop -/
theorem l7 (hbu : -2147483648 ≤ burst ∧ burst ≤ 2147483647) (hra : -2147483648 ≤ rate ∧ rate ≤ 2147483647) (hfr : -9223372036854775808 ≤ from' ∧ from' ≤ 9223372036854775807) (g : Nat → Int)
    (hs : Reads F s (5 * N) fun j => .int .u8 (g j)) (hN : N ≤ 100) (hlen : s.len = N)
    (fin : ∀ left last, Ent x (BK v11 left last * F) (j39 (burst, rate, most burst, ()))) :
    ∀ (d i : Nat) (left last : Int), i + d = N → 0 ≤ left → left ≤ most burst → -9223372036854775808 ≤ last → last ≤ 9223372036854775807 →
      Ent x (BK v11 left last * F) (f3.l7 K burst rate from' (most burst) (each rate) v11 left last s N i j39) := by
  intro d
  induction d with
  | zero =>
    intro i left last hd h0 h1 hl1 hl2
    refine Ent.of (f3.l7_unfold K burst rate from' (most burst) (each rate) v11 left last s N i j39) ?_
    unfold f3.b7
    exact Ent.ifF (by simp; omega) (fin left last)
  | succ d ih =>
    intro i left last hd h0 h1 hl1 hl2
    refine Ent.of (f3.l7_unfold K burst rate from' (most burst) (each rate) v11 left last s N i j39) ?_
    unfold f3.b7
    refine Ent.ifT (by simp; omega) ?_
    refine Ent.elA (hs.right) i rfl (by omega) (by omega) (by omega) (g (i * 5), g (i * 5 + 1), g (i * 5 + 2), g (i * 5 + 3), g (i * 5 + 4), ()) (by simp [eL, eSc, List.range_succ]) ?_
    rw [zc27]
    refine Ent.new fun r15 => ?_
    refine Ent.st #[.int .u8 (g (i * 5)), .int .u8 (g (i * 5 + 1)), .int .u8 (g (i * 5 + 2)), .int .u8 (g (i * 5 + 3)), .int .u8 (g (i * 5 + 4))] ?_
    have h17 : ∀ now, -9223372036854775808 ≤ now → now ≤ 9223372036854775807 → Ent x _ (f3.k17 K burst rate from' (most burst) (each rate) v11 left last r15 now s N i (after31 K j39)) := fun now hn1 hn2 =>
      k17 hbu hra left last now h0 h1 i (by omega) hN hl1 hl2 hn1 hn2 r15 (g (i * 5)) (g (i * 5 + 1)) (g (i * 5 + 2)) (g (i * 5 + 3)) (g (i * 5 + 4))
        (fun left' last' a b c e => ih (i + 1) left' last' (by omega) a b c e)
    show Ent x _ (opT _ _ _ _)
    refine Ent.ld (g (i * 5 + 4)) (Ent.ld (g (i * 5 + 1)) ?_)
    refine Ent.ifP (fun _ => ?_) (fun _ => ?_)
    · refine Ent.ld (g (i * 5 + 1)) ?_
      exact h17 _ (wrap64_bd _).1 (wrap64_bd _).2
    · refine Ent.ld (g (i * 5 + 1)) ?_
      refine Ent.ifP (fun _ => h17 (-9223372036854775808) (by omega) (by omega)) (fun _ => ?_)
      have k16 : ∀ b, Ent x (pt r15 (.cells #[.int .u8 (g (i * 5)), .int .u8 (g (i * 5 + 1)), .int .u8 (g (i * 5 + 2)), .int .u8 (g (i * 5 + 3)), .int .u8 (g (i * 5 + 4))] 27) * (BK v11 left last * F)) (f3.k16 K burst rate from' (most burst) (each rate) v11 left last r15 from' (IntKind.i64.wrap (IntKind.i64.wrap (Int.tmod (g (i * 5 + 4)) 50) - 10)) s N i b fun t => f3.k17 K t.1 t.2.1 t.2.2.1 t.2.2.2.1 t.2.2.2.2.1 t.2.2.2.2.2.1 t.2.2.2.2.2.2.1 t.2.2.2.2.2.2.2.1 t.2.2.2.2.2.2.2.2.1 t.2.2.2.2.2.2.2.2.2.1 t.2.2.2.2.2.2.2.2.2.2.1 t.2.2.2.2.2.2.2.2.2.2.2.1 t.2.2.2.2.2.2.2.2.2.2.2.2.1 (after31 K j39)) := by
        intro b
        unfold f3.k16
        cases b
        · exact Ent.ifF rfl (h17 from' hfr.1 hfr.2)
        · exact Ent.ifT rfl (h17 _ (wrap64_bd _).1 (wrap64_bd _).2)
      refine Ent.ifP (fun _ => k16 _) (fun _ => k16 _)
end
theorem law3 {x : World} {F : SP} {K : Res (.one (.sc .bool)) → PT} (burst rate from' : Int) (s : Sl) (hbu : -2147483648 ≤ burst ∧ burst ≤ 2147483647) (hra : -2147483648 ≤ rate ∧ rate ≤ 2147483647)
    (hfr : -9223372036854775808 ≤ from' ∧ from' ≤ 9223372036854775807) (g : Nat → Int) (hs : Reads F s (5 * s.len) fun j => .int .u8 (g j)) (hcap : s.len ≤ s.cap) (hlen : s.len ≤ 9223372036854775807)
    (hK : Ent x F (K true)) : Ent x F (f3.m burst rate from' s K) := by
  have hm := most_bd burst
  have he := each_bd rate
  unfold f3.m
  rw [w64 (x := burst) (by omega) (by omega)]
  refine t11 burst from' x _ _ ?_
  rw [zc24]
  refine Ent.new fun r11 => ?_
  refine Ent.st #[.int .i64 (most burst), .int .i64 from'] (Ent.ldA (most burst, from', ()) ?_)
  have ew1 : IntKind.i64.wrap (minI (maxI burst 1) 1073741824) = most burst := w64 (x := most burst) (by omega) (by omega)
  have ew2 : IntKind.i64.wrap (minI (maxI rate 0) 1048576) = each rate := w64 (x := each rate) (by omega) (by omega)
  rw [ew1, ew2]
  refine Ent.opRd (τ := .one (.sc .bool)) false (fun w _ => (nes24 _ _ (most burst) from' (most burst) from' w).trans (by simp [eT, e1, eSc])) ?_
  refine Ent.ifF rfl ?_
  show Ent x _ (opT _ _ _ _)
  have hmin : minI (s.len : Int) 100 = ((min s.len 100 : Nat) : Int) := by unfold minI; split <;> omega
  refine Ent.cut 0 (min s.len 100) .none (.of hmin) (by omega) (by omega) ?_
  rw [cut0]
  refine l7 (N := min s.len 100) (s := ⟨s.a, min s.len 100, s.cap⟩) hbu hra hfr g ((hs.mono (by omega)).hdr rfl) (by omega) rfl (fun left last => ?_) (min s.len 100) 0 (most burst) from' (by omega) (by omega) (by omega) hfr.1 hfr.2
  show Ent x _ (f3.k39 K burst rate (most burst))
  unfold f3.k39
  rw [w64 (x := burst) (by omega) (by omega), w64 (x := rate) (by omega) (by omega)]
  refine t12 1099511627776 5 burst rate 5 x _ _ ?_
  have f1 : fillS 1099511627776 5 burst rate 5 = (most burst, 5) := by
    unfold fillS; rw [if_pos (by omega)]
    have : minI (maxI 1099511627776 0) (most burst) = most burst := by generalize most burst = m at hm; unfold minI maxI; split <;> split <;> omega
    rw [this]
  rw [f1]
  refine Ent.ifT (by simp) ?_
  refine t12 (-7) 5 burst rate 4 x _ _ ?_
  have f2 : fillS (-7) 5 burst rate 4 = (0, 5) := by
    unfold fillS; rw [if_pos (by omega)]
    have : minI (maxI (-7) 0) (most burst) = 0 := by generalize most burst = m at hm; unfold minI maxI; split <;> split <;> omega
    rw [this]
  rw [f2]
  refine Ent.opRd (τ := .one (.sc .bool)) true (fun w _ => (eqs24 _ _ 0 5 0 5 w).trans (by simp [eT, e1, eSc])) ?_
  refine Ent.ifT rfl ?_
  refine t15 x _ _ ?_
  exact Ent.imp (Imp.drop_left _ _) hK
end Go.Proofs.Ytmnpfkdiknfkoaa
