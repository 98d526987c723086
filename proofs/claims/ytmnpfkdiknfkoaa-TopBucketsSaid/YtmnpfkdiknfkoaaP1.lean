/-
  The law TopBuckets: for every input it returns true, and its arguments read behind the call as ahead of it. No condition.
-/
import Derived.Test.YtmnpfkdiknfkoaaRows
import Derived.Test.YtmnpfkdiknfkoaaB4
import Derived.Test.YtmnpfkdiknfkoaaS7
import Derived.WalkKit
import Derived.ProofKit
import Derived.OpenShut
import Derived.ShutString
import Derived.ChangeOld
import Derived.Below
namespace Go.Proofs.Ytmnpfkdiknfkoaa
open Go Go.ChangeShapes Go.WideShapes Go.ChangeAt Go.RowKit Sx
namespace topBucketsDone
theorem own : ownKnob Try.prog.godebug = none := by kernel_rfl
theorem laidOut : laidOutB Try.prog = true := by kernel_rfl
theorem bytes5 : ∀ j, j < 5 → ∃ f ∈ (#[{ name := "Kind", type := 5, offset := 0, embedded := false, tag := "", pkgPath := "", byteOffset := 0 },
        { name := "Key", type := 5, offset := 1, embedded := false, tag := "", pkgPath := "", byteOffset := 1 },
        { name := "Other", type := 5, offset := 2, embedded := false, tag := "", pkgPath := "", byteOffset := 2 },
        { name := "Value", type := 5, offset := 3, embedded := false, tag := "", pkgPath := "", byteOffset := 3 },
        { name := "N", type := 5, offset := 4, embedded := false, tag := "", pkgPath := "", byteOffset := 4 }] : Array Field).toList, f.offset = j ∧ Try.prog.underlying f.type = some (.int .u8) ∧ Try.prog.cellsOf f.type = 1 := by
  intro j hj
  match j, hj with
  | 0, _ => exact ⟨_, .head _, rfl, Try.underlying5, by kernel_rfl⟩
  | 1, _ => exact ⟨_, .tail _ (.head _), rfl, Try.underlying5, by kernel_rfl⟩
  | 2, _ => exact ⟨_, .tail _ (.tail _ (.head _)), rfl, Try.underlying5, by kernel_rfl⟩
  | 3, _ => exact ⟨_, .tail _ (.tail _ (.tail _ (.head _))), rfl, Try.underlying5, by kernel_rfl⟩
  | 4, _ => exact ⟨_, .tail _ (.tail _ (.tail _ (.tail _ (.head _)))), rfl, Try.underlying5, by kernel_rfl⟩
set_option maxRecDepth 100000 in
theorem lifted (os : Os) (started : os.Started) (H : Type) (enc : TypeId × Value → H) :
    ReturnsInHanded {} Try.checked os 3 .any (Rows.topBucketsSpec.pre6 enc Try.prog Try.f3 Rows.topBucketsRow.domain false) (Rows.topBucketsSpec.post enc Try.prog Try.f3 false true false false) := by
  refine returnsInHanded_of_change (C := Try.checked) own started (by kernel_rfl) Try.func3
    (ChangeSpec.witness6 (enc := enc) (C := Try.checked) false ⟨#[], #[.int .i32 0, .int .i32 0, .int .i64 0, .slice none 0 0], []⟩ 8 (by kernel_rfl) (by kernel_rfl) (by kernel_rfl) (by kernel_rfl)) ?_
  intro W base args ds gs before hval0 hW hcnd _
  have hval : ∀ (j : Nat) t v, Try.f3.params[j]? = some t → args[j]? = some v → Value.okWide Try.prog W .any base t v := hval0
  have hW' := hW
  obtain ⟨p, q, hA0, hV, rfl, hfz, hnd⟩ := hW
  have hA : DataW.TrodAll enc Try.prog W 0 (fun _ => true) true Try.f3.params.toList args.toList ds p := hA0
  rw [Try.params3] at hA hval
  obtain ⟨v0, vs0, d0, ds0, p0, q0, hargs, rfl, rfl, h0, r0⟩ := trodAll_cons hA
  obtain ⟨v1, vs1, d1, ds1, p1, q1, rfl, rfl, rfl, h1, r1⟩ := trodAll_cons r0
  obtain ⟨v2, vs2, d2, ds2, p2, q2, rfl, rfl, rfl, h2, r2⟩ := trodAll_cons r1
  obtain ⟨v3, vs3, d3, ds3, p3, q3, rfl, rfl, rfl, h3, r3⟩ := trodAll_cons r2
  obtain ⟨rfl, rfl, rfl⟩ := trodAll_nil r3
  obtain rfl : args = #[v0, v1, v2, v3] := by cases args; simp_all
  obtain ⟨rfl, rfl⟩ := trodVars_none hV
  obtain ⟨a0, rfl, rfl, rfl, w0⟩ := open_int Try.underlying21 (hval 0 21 v0 rfl rfl) h0
  obtain ⟨a1, rfl, rfl, rfl, w1⟩ := open_int Try.underlying21 (hval 1 21 v1 rfl rfl) h1
  obtain ⟨a2, rfl, rfl, rfl, w2⟩ := open_int Try.underlying2 (hval 2 2 v2 rfl rfl) h2
  obtain ⟨a3, len3, cap3, rfl⟩ := okWide_slice Try.underlying22 (hval 3 22 v3 rfl rfl)
  have k3 := h3
  have lt3 : ∀ x ∈ p3, x.block < W.heap.size := by obtain ⟨m, hm⟩ := k3; exact DataW.trod_lt m _ _ _ hm
  have hs : (∃ g : Nat → Int, Reads (pre W) ⟨a3, len3, cap3⟩ (5 * len3) (fun j => .int .u8 (g j))) ∧ len3 ≤ cap3 ∧ len3 ≤ 9223372036854775807 := by
    obtain ⟨fuel, hf⟩ := h3
    rcases trod_byteStructs (k := 5) Try.underlying22 Try.underlying27 (by kernel_rfl) bytes5 hf with ⟨rfl, rfl, rfl⟩ | ⟨ad, rfl, hl, hm, hc⟩
    · exact ⟨⟨fun _ => 0, .inl (by omega)⟩, by omega, by omega⟩
    · refine ⟨⟨fun j => if hj : j < 5 * len3 then (hc j hj).choose else 0, reads_of_cells fun j hj => ?_⟩, hl, ?_⟩
      · simp only [dif_pos hj]; exact (hc j hj).choose_spec.1
      · unfold maxLen at hm; omega
  obtain ⟨⟨g, hg⟩, hlc, hlm⟩ := hs
  have b0 : -2147483648 ≤ a0 ∧ a0 ≤ 2147483647 := by simpa [Lit.wf, IntKind.min, IntKind.max, IntKind.bits, IntKind.signed] using w0
  have b1 : -2147483648 ≤ a1 ∧ a1 ≤ 2147483647 := by simpa [Lit.wf, IntKind.min, IntKind.max, IntKind.bits, IntKind.signed] using w1
  have b2 : -9223372036854775808 ≤ a2 ∧ a2 ≤ 9223372036854775807 := by simpa [Lit.wf, IntKind.min, IntKind.max, IntKind.bits, IntKind.signed] using w2
  clear hA0 hval0
  have walk : Calls Try.prog 3 #[.int .i32 a0, .int .i32 a1, .int .i64 a2, .slice a3 len3 cap3] W fun e w' => e = .returned (.bool true) ∧ Below W.heap.size W w' := by
    have h := f3.ok a0 a1 a2 ⟨a3, len3, cap3⟩ (fun r w' => r = true ∧ Below W.heap.size W w')
      (law3 (x := W) (F := pre W) a0 a1 a2 ⟨a3, len3, cap3⟩ b0 b1 b2 g hg hlc hlm (fun w hw => ⟨rfl, below_of hw⟩) W (holds_pre W))
    refine Calls.mono h fun e w' => ?_
    rintro ⟨r, rfl, rfl, hb⟩
    exact ⟨rfl, hb⟩
  refine walk.mono fun e W' ⟨he, bel⟩ => ?_
  subst he
  exact ⟨_, rfl, _, _, _, [], _, [], hW', trodAll_mk1 (shut_bool Try.underlying4 _),
    (trodAll_cons_mk (shut_int Try.underlying21 w0) (trodAll_cons_mk (shut_int Try.underlying21 w1) (trodAll_cons_mk (shut_int Try.underlying2 w2) (trodAll_cons_mk (Below.trod laidOut (by kernel_rfl) (of_decide_eq_true (by kernel_rfl)) k3 bel lt3) trodAll_mk0)))), rfl, bel.frame _, fun h => by cases h⟩
theorem over : Rows.topBucketsRow.holds Try.pinned (OpenSpec.ofChange Rows.topBucketsSpec) :=
  OpenClaim.holds_of_wide 3 Try.f3 rfl rfl rfl rfl rfl rfl rfl ⟨rfl, rfl, rfl, rfl, rfl⟩ rfl rfl rfl rfl rfl (by kernel_rfl) Try.func3 (by kernel_rfl)
    (of_decide_eq_true (by kernel_rfl)) (by unfold Func.isWrapper; first | (rw [if_pos (by decide +kernel)]; kernel_rfl) | (rw [if_neg (by decide +kernel)]; exact ⟨rfl, rfl⟩))
    (fun os started H enc _ => lifted os started H enc)
theorem proved : Rows.TopBucketsSaid := over
end topBucketsDone
end Go.Proofs.Ytmnpfkdiknfkoaa
#print axioms Go.Proofs.Ytmnpfkdiknfkoaa.topBucketsDone.proved
