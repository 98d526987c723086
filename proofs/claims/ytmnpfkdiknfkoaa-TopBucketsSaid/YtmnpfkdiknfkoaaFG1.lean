/-
  The denotations of some functions of the program, printed by wip/tools/gen.py; the kernel checks each against the loaded code. No condition.
-/
import Derived.Test.YtmnpfkdiknfkoaaS3
namespace Go.Proofs.Ytmnpfkdiknfkoaa
open Go Go.Proofs.Ytmnpfkdiknfkoaa.Sx
set_option linter.unusedVariables false

/-! #### 136: mews/num.Text -/
def f136.A : Ann := ⟨[(6, [(0, (.sc (.int .i64))), (3, (.sc .box)), (4, (.sc (.int .i64))), (5, (.sc (.int .u64)))]), (10, [(0, (.sc (.int .i64))), (3, (.sc .box)), (4, (.sc (.int .i64)))]), (13, [(3, (.sc .box)), (4, (.sc (.int .i64)))])], [(6, [(0, (.sc (.int .i64))), (3, (.sc .box)), (4, (.sc (.int .i64))), (5, (.sc (.int .u64)))])]⟩
def f136.k13 (K : Res (.one (.sc .str)) → PT) (v3 : Nat) (v4 : Int) : PT :=
  opT Try.prog (.one (.sc .slice)) (Instr.sliceAt 295 (.pointer (some ⟨v3, 0, none⟩)) (some (.int .i64 v4)) none none) fun r31 =>
  opT Try.prog (.one (.sc .str)) (Go.convert 35 9 (.slice r31.a r31.len r31.cap)) fun r32 =>
  K r32
def f136.k10 (K : Res (.one (.sc .str)) → PT) (v0 : Int) (v3 : Nat) (v4 : Int) : PT :=
  joinP (fun s => f136.k13 K s.1 s.2.1) fun j_13 =>
  ifP (decide (v0 < 0))
  (idxA ⟨v3, 0, none⟩ 20 (IntKind.i64.wrap (v4 - 1)) 1 fun r29 =>
    opU Try.prog (Instr.storeAt 5 (.pointer (some r29)) (.int .u8 45)) <|
    j_13 (v3, (IntKind.i64.wrap (v4 - 1)), ()))
  (j_13 (v3, v4, ()))
def f136.b6 (K : Res (.one (.sc .str)) → PT) (v0 : Int) (v3 : Nat) (v4 : Int) (v5 : Int) (j_10 : ST [(0, (.sc (.int .i64))), (3, (.sc .box)), (4, (.sc (.int .i64)))] → PT) (k_6 : ST [(0, (.sc (.int .i64))), (3, (.sc .box)), (4, (.sc (.int .i64))), (5, (.sc (.int .u64)))] → PT) : PT :=
  idxA ⟨v3, 0, none⟩ 20 (IntKind.i64.wrap (v4 - 1)) 1 fun r19 =>
  opU Try.prog (Instr.storeAt 5 (.pointer (some r19)) (.int .u8 (IntKind.u8.wrap (IntKind.u64.wrap (48 + (Int.tmod v5 10)))))) <|
  ifP ((IntKind.u64.wrap (Int.tdiv v5 10)) == 0)
  (j_10 (v0, v3, (IntKind.i64.wrap (v4 - 1)), ()))
  (k_6 (v0, v3, (IntKind.i64.wrap (v4 - 1)), (IntKind.u64.wrap (Int.tdiv v5 10)), ()))
def f136.l6 (K : Res (.one (.sc .str)) → PT) (v0 : Int) (v3 : Nat) (v4 : Int) (v5 : Int) (j_10 : ST [(0, (.sc (.int .i64))), (3, (.sc .box)), (4, (.sc (.int .i64)))] → PT) : PT := loopP (fun (s : ST [(0, (.sc (.int .i64))), (3, (.sc .box)), (4, (.sc (.int .i64))), (5, (.sc (.int .u64)))]) k_ => f136.b6 K s.1 s.2.1 s.2.2.1 s.2.2.2.1 j_10 k_) (v0, v3, v4, v5, ())
theorem f136.l6_unfold (K : Res (.one (.sc .str)) → PT) (v0 : Int) (v3 : Nat) (v4 : Int) (v5 : Int) (j_10 : ST [(0, (.sc (.int .i64))), (3, (.sc .box)), (4, (.sc (.int .i64)))] → PT) (w : World) (h : f136.b6 K v0 v3 v4 v5 j_10 (fun s => f136.l6 K s.1 s.2.1 s.2.2.1 s.2.2.2.1 j_10) w) : f136.l6 K v0 v3 v4 v5 j_10 w := loopP_unfold h
def f136.k6 (K : Res (.one (.sc .str)) → PT) (v0 : Int) (v3 : Nat) (v4 : Int) (v5 : Int) : PT :=
  joinP (fun s => f136.k10 K s.1 s.2.1 s.2.2.1) fun j_10 =>
  f136.l6 K v0 v3 v4 v5 j_10
def f136.m (p0 : Int) (K : Res (.one (.sc .str)) → PT) : PT :=
  newP (zc Try.prog 295) 295 fun r3 =>
  joinP (fun s => f136.k6 K s.1 s.2.1 s.2.2.1 s.2.2.2.1) fun j_6 =>
  ifP (decide (p0 < 0))
  (j_6 (p0, r3, 20, (IntKind.u64.wrap (0 - (IntKind.u64.wrap p0))), ()))
  (j_6 (p0, r3, 20, (IntKind.u64.wrap p0), ()))
theorem f136.eq (p0 : Int) (K : Res (.one (.sc .str)) → PT) : f136.m p0 K = denF Try.prog Try.f136 f136.A (codeOf Try.f136) [(.int .i64 p0)] (.one (.sc .str)) K := by kernel_rfl
theorem f136.ok (p0 : Int) (K : Res (.one (.sc .str)) → PT) {w : World} (h : f136.m p0 K w) : callT Try.prog 136 [(.int .i64 p0)] (.one (.sc .str)) K w :=
  callT_mk mixed Try.func136 (by kernel_rfl) (by kernel_rfl) (f136.eq p0 K) h

/-! #### 20: mews/glob.Match -/
def f20.A : Ann := ⟨[(11, [(0, (.sc .str)), (1, (.sc .str)), (7, (.sc (.int .i64))), (8, (.sc (.int .i64)))]), (15, [(0, (.sc .str)), (5, (.sc (.int .i64)))]), (16, [(0, (.sc .str)), (5, (.sc (.int .i64)))]), (17, [(0, (.sc .str)), (5, (.sc (.int .i64)))])], [(3, [(0, (.sc .str)), (1, (.sc .str)), (5, (.sc (.int .i64))), (6, (.sc (.int .i64))), (7, (.sc (.int .i64))), (8, (.sc (.int .i64)))]), (15, [(0, (.sc .str)), (5, (.sc (.int .i64)))])]⟩
def f20.k17 (K : Res (.one (.sc .bool)) → PT) (v0 : ByteArray) (v5 : Int) : PT :=
  K (v5 == (v0.size : Int))
def f20.k16 (K : Res (.one (.sc .bool)) → PT) (v0 : ByteArray) (v5 : Int) (k_15 : ST [(0, (.sc .str)), (5, (.sc (.int .i64)))] → PT) : PT :=
  k_15 (v0, (IntKind.i64.wrap (v5 + 1)), ())
def f20.b15 (K : Res (.one (.sc .bool)) → PT) (v0 : ByteArray) (v5 : Int) (j_17 : ST [(0, (.sc .str)), (5, (.sc (.int .i64)))] → PT) (k_15 : ST [(0, (.sc .str)), (5, (.sc (.int .i64)))] → PT) : PT :=
  joinP (fun s => f20.k16 K s.1 s.2.1 k_15) fun j_16 =>
  ifP (decide (v5 < (v0.size : Int)))
  (opT Try.prog (.one (.sc (.int .u8))) (Instr.index 9 (.string v0) (.int .i64 v5)) fun r53 =>
  ifP (r53 == 42)
  (j_16 (v0, v5, ()))
  (j_17 (v0, v5, ())))
  (j_17 (v0, v5, ()))
def f20.l15 (K : Res (.one (.sc .bool)) → PT) (v0 : ByteArray) (v5 : Int) (j_17 : ST [(0, (.sc .str)), (5, (.sc (.int .i64)))] → PT) : PT := loopP (fun (s : ST [(0, (.sc .str)), (5, (.sc (.int .i64)))]) k_ => f20.b15 K s.1 s.2.1 j_17 k_) (v0, v5, ())
theorem f20.l15_unfold (K : Res (.one (.sc .bool)) → PT) (v0 : ByteArray) (v5 : Int) (j_17 : ST [(0, (.sc .str)), (5, (.sc (.int .i64)))] → PT) (w : World) (h : f20.b15 K v0 v5 j_17 (fun s => f20.l15 K s.1 s.2.1 j_17) w) : f20.l15 K v0 v5 j_17 w := loopP_unfold h
def f20.k15 (K : Res (.one (.sc .bool)) → PT) (v0 : ByteArray) (v5 : Int) : PT :=
  joinP (fun s => f20.k17 K s.1 s.2.1) fun j_17 =>
  f20.l15 K v0 v5 j_17
def f20.k11 (K : Res (.one (.sc .bool)) → PT) (v0 : ByteArray) (v1 : ByteArray) (v7 : Int) (v8 : Int) (k_3 : ST [(0, (.sc .str)), (1, (.sc .str)), (5, (.sc (.int .i64))), (6, (.sc (.int .i64))), (7, (.sc (.int .i64))), (8, (.sc (.int .i64)))] → PT) : PT :=
  ifP (decide (v7 < 0))
  (K false)
  (k_3 (v0, v1, v7, (IntKind.i64.wrap (v8 + 1)), v7, (IntKind.i64.wrap (v8 + 1)), ()))
def f20.b3 (K : Res (.one (.sc .bool)) → PT) (v0 : ByteArray) (v1 : ByteArray) (v5 : Int) (v6 : Int) (v7 : Int) (v8 : Int) (j_15 : ST [(0, (.sc .str)), (5, (.sc (.int .i64)))] → PT) (k_3 : ST [(0, (.sc .str)), (1, (.sc .str)), (5, (.sc (.int .i64))), (6, (.sc (.int .i64))), (7, (.sc (.int .i64))), (8, (.sc (.int .i64)))] → PT) : PT :=
  ifP (decide (v6 < (v1.size : Int)))
  (joinP (fun s => f20.k11 K s.1 s.2.1 s.2.2.1 s.2.2.2.1 k_3) fun j_11 =>
  ifP (decide (v5 < (v0.size : Int)))
  (opT Try.prog (.one (.sc (.int .u8))) (Instr.index 9 (.string v0) (.int .i64 v5)) fun r21 =>
    ifP (r21 == 42)
    (k_3 (v0, v1, (IntKind.i64.wrap (v5 + 1)), v6, (IntKind.i64.wrap (v5 + 1)), v6, ()))
    (opT Try.prog (.one (.sc (.int .u8))) (Instr.index 9 (.string v1) (.int .i64 v6)) fun r32 =>
    callT Try.prog 139 [(.string v0), (.int .i64 v5), (.int .u8 r32)] (.tup [(.sc .bool), (.sc (.int .i64))]) fun r33 =>
    ifP r33.1
    (k_3 (v0, v1, r33.2.1, (IntKind.i64.wrap (v6 + 1)), v7, v8, ()))
    (j_11 (v0, v1, v7, v8, ()))))
  (j_11 (v0, v1, v7, v8, ())))
  (j_15 (v0, v5, ()))
def f20.l3 (K : Res (.one (.sc .bool)) → PT) (v0 : ByteArray) (v1 : ByteArray) (v5 : Int) (v6 : Int) (v7 : Int) (v8 : Int) (j_15 : ST [(0, (.sc .str)), (5, (.sc (.int .i64)))] → PT) : PT := loopP (fun (s : ST [(0, (.sc .str)), (1, (.sc .str)), (5, (.sc (.int .i64))), (6, (.sc (.int .i64))), (7, (.sc (.int .i64))), (8, (.sc (.int .i64)))]) k_ => f20.b3 K s.1 s.2.1 s.2.2.1 s.2.2.2.1 s.2.2.2.2.1 s.2.2.2.2.2.1 j_15 k_) (v0, v1, v5, v6, v7, v8, ())
theorem f20.l3_unfold (K : Res (.one (.sc .bool)) → PT) (v0 : ByteArray) (v1 : ByteArray) (v5 : Int) (v6 : Int) (v7 : Int) (v8 : Int) (j_15 : ST [(0, (.sc .str)), (5, (.sc (.int .i64)))] → PT) (w : World) (h : f20.b3 K v0 v1 v5 v6 v7 v8 j_15 (fun s => f20.l3 K s.1 s.2.1 s.2.2.1 s.2.2.2.1 s.2.2.2.2.1 s.2.2.2.2.2.1 j_15) w) : f20.l3 K v0 v1 v5 v6 v7 v8 j_15 w := loopP_unfold h
def f20.m (p0 : ByteArray) (p1 : ByteArray) (K : Res (.one (.sc .bool)) → PT) : PT :=
  joinP (fun s => f20.k15 K s.1 s.2.1) fun j_15 =>
  f20.l3 K p0 p1 0 0 (-1) 0 j_15
theorem f20.eq (p0 : ByteArray) (p1 : ByteArray) (K : Res (.one (.sc .bool)) → PT) : f20.m p0 p1 K = denF Try.prog Try.f20 f20.A (codeOf Try.f20) [(.string p0), (.string p1)] (.one (.sc .bool)) K := by kernel_rfl
theorem f20.ok (p0 : ByteArray) (p1 : ByteArray) (K : Res (.one (.sc .bool)) → PT) {w : World} (h : f20.m p0 p1 K w) : callT Try.prog 20 [(.string p0), (.string p1)] (.one (.sc .bool)) K w :=
  callT_mk mixed Try.func20 (by kernel_rfl) (by kernel_rfl) (f20.eq p0 p1 K) h

/-! #### 139: mews/glob.one -/
def f139.A : Ann := ⟨[(9, [(0, (.sc .str)), (1, (.sc (.int .i64))), (2, (.sc (.int .u8)))])], []⟩
def f139.k9 (K : Res (.tup [(.sc .bool), (.sc (.int .i64))]) → PT) (v0 : ByteArray) (v1 : Int) (v2 : Int) : PT :=
  opT Try.prog (.one (.sc (.int .u8))) (Instr.index 9 (.string v0) (.int .i64 v1)) fun r41 =>
  K ((r41 == v2), (IntKind.i64.wrap (v1 + 1)), ())
def f139.m (p0 : ByteArray) (p1 : Int) (p2 : Int) (K : Res (.tup [(.sc .bool), (.sc (.int .i64))]) → PT) : PT :=
  joinP (fun s => f139.k9 K s.1 s.2.1 s.2.2.1) fun j_9 =>
  opT Try.prog (.one (.sc (.int .u8))) (Instr.index 9 (.string p0) (.int .i64 p1)) fun r10 =>
  ifP (r10 == 63)
  (K (true, (IntKind.i64.wrap (p1 + 1)), ()))
  (ifP (r10 == 91)
    (callT Try.prog 216 [(.string p0), (.int .i64 (IntKind.i64.wrap (p1 + 1))), (.int .u8 p2)] (.tup [(.sc .bool), (.sc (.int .i64))]) fun r21 =>
      K (r21.1, r21.2.1, ()))
    (ifP (r10 == 92)
      (ifP (decide ((IntKind.i64.wrap (p1 + 1)) < (p0.size : Int)))
        (opT Try.prog (.one (.sc (.int .u8))) (Instr.index 9 (.string p0) (.int .i64 (IntKind.i64.wrap (p1 + 1)))) fun r34 =>
          K ((r34 == p2), (IntKind.i64.wrap (p1 + 2)), ()))
        (j_9 (p0, p1, p2, ())))
      (j_9 (p0, p1, p2, ()))))
theorem f139.eq (p0 : ByteArray) (p1 : Int) (p2 : Int) (K : Res (.tup [(.sc .bool), (.sc (.int .i64))]) → PT) : f139.m p0 p1 p2 K = denF Try.prog Try.f139 f139.A (codeOf Try.f139) [(.string p0), (.int .i64 p1), (.int .u8 p2)] (.tup [(.sc .bool), (.sc (.int .i64))]) K := by kernel_rfl
theorem f139.ok (p0 : ByteArray) (p1 : Int) (p2 : Int) (K : Res (.tup [(.sc .bool), (.sc (.int .i64))]) → PT) {w : World} (h : f139.m p0 p1 p2 K w) : callT Try.prog 139 [(.string p0), (.int .i64 p1), (.int .u8 p2)] (.tup [(.sc .bool), (.sc (.int .i64))]) K w :=
  callT_mk mixed Try.func139 (by kernel_rfl) (by kernel_rfl) (f139.eq p0 p1 p2 K) h

/-! #### 216: mews/glob.class -/
def f216.A : Ann := ⟨[(2, [(0, (.sc .str)), (1, (.sc (.int .i64))), (2, (.sc (.int .u8))), (8, (.sc .bool))]), (4, [(0, (.sc .str)), (1, (.sc (.int .i64))), (2, (.sc (.int .u8))), (8, (.sc .bool))]), (7, [(0, (.sc .str)), (1, (.sc (.int .i64))), (2, (.sc (.int .u8))), (8, (.sc .bool)), (9, (.sc .bool))]), (8, [(0, (.sc .str)), (1, (.sc (.int .i64))), (2, (.sc (.int .u8))), (8, (.sc .bool)), (9, (.sc .bool))]), (9, [(0, (.sc .str)), (1, (.sc (.int .i64))), (2, (.sc (.int .u8))), (8, (.sc .bool)), (9, (.sc .bool)), (45, (.sc .bool))]), (10, [(0, (.sc .str)), (1, (.sc (.int .i64))), (2, (.sc (.int .u8))), (8, (.sc .bool)), (9, (.sc .bool))]), (12, [(0, (.sc .str)), (1, (.sc (.int .i64))), (2, (.sc (.int .u8))), (8, (.sc .bool)), (9, (.sc .bool)), (68, (.sc .bool))]), (14, [(0, (.sc .str)), (1, (.sc (.int .i64))), (2, (.sc (.int .u8))), (8, (.sc .bool)), (9, (.sc .bool))]), (15, [(0, (.sc .str)), (1, (.sc (.int .i64))), (8, (.sc .bool)), (9, (.sc .bool))])], [(5, [(0, (.sc .str)), (1, (.sc (.int .i64))), (2, (.sc (.int .u8))), (8, (.sc .bool)), (9, (.sc .bool))])]⟩
def f216.k15 (K : Res (.tup [(.sc .bool), (.sc (.int .i64))]) → PT) (v0 : ByteArray) (v1 : Int) (v8 : Bool) (v9 : Bool) : PT :=
  K ((!(v9 == v8)), (minI (IntKind.i64.wrap (v1 + 1)) (v0.size : Int)), ())
def f216.k10 (K : Res (.tup [(.sc .bool), (.sc (.int .i64))]) → PT) (v0 : ByteArray) (v1 : Int) (v2 : Int) (v8 : Bool) (v9 : Bool) (k_5 : ST [(0, (.sc .str)), (1, (.sc (.int .i64))), (2, (.sc (.int .u8))), (8, (.sc .bool)), (9, (.sc .bool))] → PT) : PT :=
  k_5 (v0, (IntKind.i64.wrap (v1 + 2)), v2, v8, v9, ())
def f216.k14 (K : Res (.tup [(.sc .bool), (.sc (.int .i64))]) → PT) (v0 : ByteArray) (v1 : Int) (v2 : Int) (v8 : Bool) (v9 : Bool) (k_5 : ST [(0, (.sc .str)), (1, (.sc (.int .i64))), (2, (.sc (.int .u8))), (8, (.sc .bool)), (9, (.sc .bool))] → PT) : PT :=
  k_5 (v0, (IntKind.i64.wrap (v1 + 3)), v2, v8, v9, ())
def f216.k7 (K : Res (.tup [(.sc .bool), (.sc (.int .i64))]) → PT) (v0 : ByteArray) (v1 : Int) (v2 : Int) (v8 : Bool) (v9 : Bool) (k_5 : ST [(0, (.sc .str)), (1, (.sc (.int .i64))), (2, (.sc (.int .u8))), (8, (.sc .bool)), (9, (.sc .bool))] → PT) : PT :=
  k_5 (v0, (IntKind.i64.wrap (v1 + 1)), v2, v8, v9, ())
def f216.k12 (K : Res (.tup [(.sc .bool), (.sc (.int .i64))]) → PT) (v0 : ByteArray) (v1 : Int) (v2 : Int) (v8 : Bool) (v9 : Bool) (v68 : Bool) (k_5 : ST [(0, (.sc .str)), (1, (.sc (.int .i64))), (2, (.sc (.int .u8))), (8, (.sc .bool)), (9, (.sc .bool))] → PT) : PT :=
  ifP v68
  (drawP <|
    rdP Try.prog (.one (.sc (.int .u8))) (Instr.index 9 (.string v0) (.int .i64 v1)) fun r90 =>
    rdP Try.prog (.one (.sc (.int .u8))) (Instr.index 9 (.string v0) (.int .i64 (IntKind.i64.wrap (v1 + 2)))) fun r94 =>
    rdP Try.prog (.one (.sc (.int .u8))) (Instr.index 9 (.string v0) (.int .i64 v1)) fun r98 =>
    rdP Try.prog (.one (.sc (.int .u8))) (Instr.index 9 (.string v0) (.int .i64 (IntKind.i64.wrap (v1 + 2)))) fun r102 =>
    chkP Try.prog (Instr.index 9 (.string v0) (.int .i64 (IntKind.i64.wrap (v1 + 2)))) (.int .u8 r102) <|
    chkP Try.prog (Instr.index 9 (.string v0) (.int .i64 v1)) (.int .u8 r98) <|
    joinP (fun s => f216.k14 K s.1 s.2.1 s.2.2.1 s.2.2.2.1 s.2.2.2.2.1 k_5) fun j_14 =>
    ifP v9
    (j_14 (v0, v1, v2, v8, true, ()))
    (ifP (decide ((minI r90 r94) ≤ v2))
    (j_14 (v0, v1, v2, v8, (decide (v2 ≤ (maxI r98 r102))), ()))
    (j_14 (v0, v1, v2, v8, false, ()))))
  (joinP (fun s => f216.k7 K s.1 s.2.1 s.2.2.1 s.2.2.2.1 s.2.2.2.2.1 k_5) fun j_7 =>
    ifP v9
    (j_7 (v0, v1, v2, v8, true, ()))
    (opT Try.prog (.one (.sc (.int .u8))) (Instr.index 9 (.string v0) (.int .i64 v1)) fun r39 =>
    j_7 (v0, v1, v2, v8, (r39 == v2), ())))
def f216.k9 (K : Res (.tup [(.sc .bool), (.sc (.int .i64))]) → PT) (v0 : ByteArray) (v1 : Int) (v2 : Int) (v8 : Bool) (v9 : Bool) (v45 : Bool) (k_5 : ST [(0, (.sc .str)), (1, (.sc (.int .i64))), (2, (.sc (.int .u8))), (8, (.sc .bool)), (9, (.sc .bool))] → PT) : PT :=
  ifP v45
  (joinP (fun s => f216.k10 K s.1 s.2.1 s.2.2.1 s.2.2.2.1 s.2.2.2.2.1 k_5) fun j_10 =>
    ifP v9
    (j_10 (v0, v1, v2, v8, true, ()))
    (opT Try.prog (.one (.sc (.int .u8))) (Instr.index 9 (.string v0) (.int .i64 (IntKind.i64.wrap (v1 + 1)))) fun r62 =>
    j_10 (v0, v1, v2, v8, (r62 == v2), ())))
  (joinP (fun s => f216.k12 K s.1 s.2.1 s.2.2.1 s.2.2.2.1 s.2.2.2.2.1 s.2.2.2.2.2.1 k_5) fun j_12 =>
    ifP (decide ((IntKind.i64.wrap (v1 + 2)) < (v0.size : Int)))
    (opT Try.prog (.one (.sc (.int .u8))) (Instr.index 9 (.string v0) (.int .i64 (IntKind.i64.wrap (v1 + 1)))) fun r78 =>
    ifP (r78 == 45)
    (opT Try.prog (.one (.sc (.int .u8))) (Instr.index 9 (.string v0) (.int .i64 (IntKind.i64.wrap (v1 + 2)))) fun r85 =>
    j_12 (v0, v1, v2, v8, v9, (r85 != 93), ()))
    (j_12 (v0, v1, v2, v8, v9, false, ())))
    (j_12 (v0, v1, v2, v8, v9, false, ())))
def f216.k8 (K : Res (.tup [(.sc .bool), (.sc (.int .i64))]) → PT) (v0 : ByteArray) (v1 : Int) (v2 : Int) (v8 : Bool) (v9 : Bool) (k_5 : ST [(0, (.sc .str)), (1, (.sc (.int .i64))), (2, (.sc (.int .u8))), (8, (.sc .bool)), (9, (.sc .bool))] → PT) : PT :=
  joinP (fun s => f216.k9 K s.1 s.2.1 s.2.2.1 s.2.2.2.1 s.2.2.2.2.1 s.2.2.2.2.2.1 k_5) fun j_9 =>
  opT Try.prog (.one (.sc (.int .u8))) (Instr.index 9 (.string v0) (.int .i64 v1)) fun r48 =>
  ifP (r48 == 92)
  (j_9 (v0, v1, v2, v8, v9, (decide ((IntKind.i64.wrap (v1 + 1)) < (v0.size : Int))), ()))
  (j_9 (v0, v1, v2, v8, v9, false, ()))
def f216.b5 (K : Res (.tup [(.sc .bool), (.sc (.int .i64))]) → PT) (v0 : ByteArray) (v1 : Int) (v2 : Int) (v8 : Bool) (v9 : Bool) (j_15 : ST [(0, (.sc .str)), (1, (.sc (.int .i64))), (8, (.sc .bool)), (9, (.sc .bool))] → PT) (k_5 : ST [(0, (.sc .str)), (1, (.sc (.int .i64))), (2, (.sc (.int .u8))), (8, (.sc .bool)), (9, (.sc .bool))] → PT) : PT :=
  joinP (fun s => f216.k8 K s.1 s.2.1 s.2.2.1 s.2.2.2.1 s.2.2.2.2.1 k_5) fun j_8 =>
  ifP (decide (v1 < (v0.size : Int)))
  (opT Try.prog (.one (.sc (.int .u8))) (Instr.index 9 (.string v0) (.int .i64 v1)) fun r32 =>
  ifP (r32 != 93)
  (j_8 (v0, v1, v2, v8, v9, ()))
  (j_15 (v0, v1, v8, v9, ())))
  (j_15 (v0, v1, v8, v9, ()))
def f216.l5 (K : Res (.tup [(.sc .bool), (.sc (.int .i64))]) → PT) (v0 : ByteArray) (v1 : Int) (v2 : Int) (v8 : Bool) (v9 : Bool) (j_15 : ST [(0, (.sc .str)), (1, (.sc (.int .i64))), (8, (.sc .bool)), (9, (.sc .bool))] → PT) : PT := loopP (fun (s : ST [(0, (.sc .str)), (1, (.sc (.int .i64))), (2, (.sc (.int .u8))), (8, (.sc .bool)), (9, (.sc .bool))]) k_ => f216.b5 K s.1 s.2.1 s.2.2.1 s.2.2.2.1 s.2.2.2.2.1 j_15 k_) (v0, v1, v2, v8, v9, ())
theorem f216.l5_unfold (K : Res (.tup [(.sc .bool), (.sc (.int .i64))]) → PT) (v0 : ByteArray) (v1 : Int) (v2 : Int) (v8 : Bool) (v9 : Bool) (j_15 : ST [(0, (.sc .str)), (1, (.sc (.int .i64))), (8, (.sc .bool)), (9, (.sc .bool))] → PT) (w : World) (h : f216.b5 K v0 v1 v2 v8 v9 j_15 (fun s => f216.l5 K s.1 s.2.1 s.2.2.1 s.2.2.2.1 s.2.2.2.2.1 j_15) w) : f216.l5 K v0 v1 v2 v8 v9 j_15 w := loopP_unfold h
def f216.k4 (K : Res (.tup [(.sc .bool), (.sc (.int .i64))]) → PT) (v0 : ByteArray) (v1 : Int) (v2 : Int) (v8 : Bool) : PT :=
  joinP (fun s => f216.k15 K s.1 s.2.1 s.2.2.1 s.2.2.2.1) fun j_15 =>
  f216.l5 K v0 v1 v2 v8 false j_15
def f216.k2 (K : Res (.tup [(.sc .bool), (.sc (.int .i64))]) → PT) (v0 : ByteArray) (v1 : Int) (v2 : Int) (v8 : Bool) : PT :=
  joinP (fun s => f216.k4 K s.1 s.2.1 s.2.2.1 s.2.2.2.1) fun j_4 =>
  ifP v8
  (j_4 (v0, (IntKind.i64.wrap (v1 + 1)), v2, v8, ()))
  (j_4 (v0, v1, v2, v8, ()))
def f216.m (p0 : ByteArray) (p1 : Int) (p2 : Int) (K : Res (.tup [(.sc .bool), (.sc (.int .i64))]) → PT) : PT :=
  joinP (fun s => f216.k2 K s.1 s.2.1 s.2.2.1 s.2.2.2.1) fun j_2 =>
  ifP (decide (p1 < (p0.size : Int)))
  (opT Try.prog (.one (.sc (.int .u8))) (Instr.index 9 (.string p0) (.int .i64 p1)) fun r19 =>
  j_2 (p0, p1, p2, (r19 == 94), ()))
  (j_2 (p0, p1, p2, false, ()))
theorem f216.eq (p0 : ByteArray) (p1 : Int) (p2 : Int) (K : Res (.tup [(.sc .bool), (.sc (.int .i64))]) → PT) : f216.m p0 p1 p2 K = denF Try.prog Try.f216 f216.A (codeOf Try.f216) [(.string p0), (.int .i64 p1), (.int .u8 p2)] (.tup [(.sc .bool), (.sc (.int .i64))]) K := by kernel_rfl
theorem f216.ok (p0 : ByteArray) (p1 : Int) (p2 : Int) (K : Res (.tup [(.sc .bool), (.sc (.int .i64))]) → PT) {w : World} (h : f216.m p0 p1 p2 K w) : callT Try.prog 216 [(.string p0), (.int .i64 p1), (.int .u8 p2)] (.tup [(.sc .bool), (.sc (.int .i64))]) K w :=
  callT_mk mixed Try.func216 (by kernel_rfl) (by kernel_rfl) (f216.eq p0 p1 p2 K) h

end Go.Proofs.Ytmnpfkdiknfkoaa
