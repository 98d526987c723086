/-
  The denotations of some functions of the program, printed by wip/tools/gen.py; the kernel checks each against the loaded code. No condition.
-/
import Derived.Test.YtmnpfkdiknfkoaaS3
namespace Go.Proofs.Ytmnpfkdiknfkoaa
open Go Go.Proofs.Ytmnpfkdiknfkoaa.Sx
set_option linter.unusedVariables false

/-! #### 3: mews/mewstop.TopBuckets -/
def f3.A : Ann := ⟨[(16, [(0, (.sc (.int .i32))), (1, (.sc (.int .i32))), (2, (.sc (.int .i64))), (9, (.sc (.int .i64))), (10, (.sc (.int .i64))), (11, (.sc .box)), (12, (.sc (.int .i64))), (13, (.sc (.int .i64))), (15, (.sc .box)), (16, (.sc (.int .i64))), (17, (.sc (.int .i64))), (46, (.sc .slice)), (47, (.sc (.int .i64))), (48, (.sc (.int .i64))), (74, (.sc .bool))]), (17, [(0, (.sc (.int .i32))), (1, (.sc (.int .i32))), (2, (.sc (.int .i64))), (9, (.sc (.int .i64))), (10, (.sc (.int .i64))), (11, (.sc .box)), (12, (.sc (.int .i64))), (13, (.sc (.int .i64))), (15, (.sc .box)), (16, (.sc (.int .i64))), (46, (.sc .slice)), (47, (.sc (.int .i64))), (48, (.sc (.int .i64)))]), (21, [(0, (.sc (.int .i32))), (1, (.sc (.int .i32))), (2, (.sc (.int .i64))), (9, (.sc (.int .i64))), (10, (.sc (.int .i64))), (11, (.sc .box)), (12, (.sc (.int .i64))), (15, (.sc .box)), (16, (.sc (.int .i64))), (46, (.sc .slice)), (47, (.sc (.int .i64))), (48, (.sc (.int .i64)))]), (22, [(0, (.sc (.int .i32))), (1, (.sc (.int .i32))), (2, (.sc (.int .i64))), (9, (.sc (.int .i64))), (10, (.sc (.int .i64))), (11, (.sc .box)), (12, (.sc (.int .i64))), (13, (.sc (.int .i64))), (15, (.sc .box)), (16, (.sc (.int .i64))), (46, (.sc .slice)), (47, (.sc (.int .i64))), (48, (.sc (.int .i64)))]), (27, [(0, (.sc (.int .i32))), (1, (.sc (.int .i32))), (2, (.sc (.int .i64))), (9, (.sc (.int .i64))), (10, (.sc (.int .i64))), (11, (.sc .box)), (12, (.sc (.int .i64))), (13, (.sc (.int .i64))), (16, (.sc (.int .i64))), (19, (.sc .bool)), (46, (.sc .slice)), (47, (.sc (.int .i64))), (48, (.sc (.int .i64)))]), (31, [(0, (.sc (.int .i32))), (1, (.sc (.int .i32))), (2, (.sc (.int .i64))), (9, (.sc (.int .i64))), (10, (.sc (.int .i64))), (11, (.sc .box)), (12, (.sc (.int .i64))), (13, (.sc (.int .i64))), (46, (.sc .slice)), (47, (.sc (.int .i64))), (48, (.sc (.int .i64)))]), (36, [(0, (.sc (.int .i32))), (1, (.sc (.int .i32))), (2, (.sc (.int .i64))), (9, (.sc (.int .i64))), (10, (.sc (.int .i64))), (11, (.sc .box)), (12, (.sc (.int .i64))), (13, (.sc (.int .i64))), (22, (.sc (.int .i64))), (46, (.sc .slice)), (47, (.sc (.int .i64))), (48, (.sc (.int .i64)))]), (37, [(0, (.sc (.int .i32))), (1, (.sc (.int .i32))), (2, (.sc (.int .i64))), (9, (.sc (.int .i64))), (10, (.sc (.int .i64))), (11, (.sc .box)), (12, (.sc (.int .i64))), (13, (.sc (.int .i64))), (46, (.sc .slice)), (47, (.sc (.int .i64))), (48, (.sc (.int .i64))), (148, (.sc .bool))]), (39, [(0, (.sc (.int .i32))), (1, (.sc (.int .i32))), (9, (.sc (.int .i64)))])], [(7, [(0, (.sc (.int .i32))), (1, (.sc (.int .i32))), (2, (.sc (.int .i64))), (9, (.sc (.int .i64))), (10, (.sc (.int .i64))), (11, (.sc .box)), (12, (.sc (.int .i64))), (13, (.sc (.int .i64))), (46, (.sc .slice)), (47, (.sc (.int .i64))), (48, (.sc (.int .i64)))])]⟩
def f3.k39 (K : Res (.one (.sc .bool)) → PT) (v0 : Int) (v1 : Int) (v9 : Int) : PT :=
  callT Try.prog 12 [(.agg #[(.int .i64 1099511627776), (.int .i64 5)]), (.int .i64 (IntKind.i64.wrap v0)), (.int .i64 (IntKind.i64.wrap v1)), (.int .i64 5)] (.one (.agg [(.int .i64), (.int .i64)])) fun r155 =>
  ifP (r155.1 == v9)
  (callT Try.prog 12 [(.agg #[(.int .i64 (-7)), (.int .i64 5)]), (.int .i64 (IntKind.i64.wrap v0)), (.int .i64 (IntKind.i64.wrap v1)), (.int .i64 4)] (.one (.agg [(.int .i64), (.int .i64)])) fun r165 =>
  opT Try.prog (.one (.sc .bool)) (eqS .eql 24 (.tmp 165) (.tmp 166) (.agg #[(.int .i64 r165.1), (.int .i64 r165.2.1)]) (.agg #[(.int .i64 0), (.int .i64 5)])) fun r167 =>
  ifP r167
  (callT Try.prog 15 [] (.one (.sc .bool)) fun r170 =>
  K r170)
  (K false))
  (K false)
def f3.k37 (K : Res (.one (.sc .bool)) → PT) (v0 : Int) (v1 : Int) (v2 : Int) (v9 : Int) (v10 : Int) (v11 : Nat) (v12 : Int) (v13 : Int) (v46 : Sl) (v47 : Int) (v48 : Int) (v148 : Bool) (k_7 : ST [(0, (.sc (.int .i32))), (1, (.sc (.int .i32))), (2, (.sc (.int .i64))), (9, (.sc (.int .i64))), (10, (.sc (.int .i64))), (11, (.sc .box)), (12, (.sc (.int .i64))), (13, (.sc (.int .i64))), (46, (.sc .slice)), (47, (.sc (.int .i64))), (48, (.sc (.int .i64)))] → PT) : PT :=
  ifP v148
  (K false)
  (k_7 (v0, v1, v2, v9, v10, v11, v12, v13, v46, v47, (IntKind.i64.wrap (v48 + 1)), ()))
def f3.k36 (K : Res (.one (.sc .bool)) → PT) (v0 : Int) (v1 : Int) (v2 : Int) (v9 : Int) (v10 : Int) (v11 : Nat) (v12 : Int) (v13 : Int) (v22 : Int) (v46 : Sl) (v47 : Int) (v48 : Int) (k_7 : ST [(0, (.sc (.int .i32))), (1, (.sc (.int .i32))), (2, (.sc (.int .i64))), (9, (.sc (.int .i64))), (10, (.sc (.int .i64))), (11, (.sc .box)), (12, (.sc (.int .i64))), (13, (.sc (.int .i64))), (46, (.sc .slice)), (47, (.sc (.int .i64))), (48, (.sc (.int .i64)))] → PT) : PT :=
  joinP (fun s => f3.k37 K s.1 s.2.1 s.2.2.1 s.2.2.2.1 s.2.2.2.2.1 s.2.2.2.2.2.1 s.2.2.2.2.2.2.1 s.2.2.2.2.2.2.2.1 s.2.2.2.2.2.2.2.2.1 s.2.2.2.2.2.2.2.2.2.1 s.2.2.2.2.2.2.2.2.2.2.1 s.2.2.2.2.2.2.2.2.2.2.2.1 k_7) fun j_37 =>
  opT Try.prog (.one (.agg [(.int .i64), (.int .i64)])) (Instr.loadAt 24 (.pointer (some ⟨v11, 0, none⟩))) fun r134 =>
  opT Try.prog (.one (.sc .bool)) (eqS .neq 24 (.tmp 134) (.tmp 137) (.agg #[(.int .i64 r134.1), (.int .i64 r134.2.1)]) (.agg #[(.int .i64 v12), (.int .i64 v13)])) fun r138 =>
  ifP r138
  (j_37 (v0, v1, v2, v9, v10, v11, v12, v13, v46, v47, v48, true, ()))
  (opT Try.prog (.one (.agg [(.int .i64), (.int .i64)])) (Instr.loadAt 24 (.pointer (some ⟨v11, 0, none⟩))) fun r140 =>
  callT Try.prog 14 [(.agg #[(.int .i64 r140.1), (.int .i64 r140.2.1)]), (.int .i64 (IntKind.i64.wrap v0)), (.int .i64 (IntKind.i64.wrap v1))] (.one (.sc (.int .i64))) fun r145 =>
  j_37 (v0, v1, v2, v9, v10, v11, v12, v13, v46, v47, v48, (r145 != v22), ()))
def f3.k31 (K : Res (.one (.sc .bool)) → PT) (v0 : Int) (v1 : Int) (v2 : Int) (v9 : Int) (v10 : Int) (v11 : Nat) (v12 : Int) (v13 : Int) (v46 : Sl) (v47 : Int) (v48 : Int) (k_7 : ST [(0, (.sc (.int .i32))), (1, (.sc (.int .i32))), (2, (.sc (.int .i64))), (9, (.sc (.int .i64))), (10, (.sc (.int .i64))), (11, (.sc .box)), (12, (.sc (.int .i64))), (13, (.sc (.int .i64))), (46, (.sc .slice)), (47, (.sc (.int .i64))), (48, (.sc (.int .i64)))] → PT) : PT :=
  joinP (fun s => f3.k36 K s.1 s.2.1 s.2.2.1 s.2.2.2.1 s.2.2.2.2.1 s.2.2.2.2.2.1 s.2.2.2.2.2.2.1 s.2.2.2.2.2.2.2.1 s.2.2.2.2.2.2.2.2.1 s.2.2.2.2.2.2.2.2.2.1 s.2.2.2.2.2.2.2.2.2.2.1 s.2.2.2.2.2.2.2.2.2.2.2.1 k_7) fun j_36 =>
  ifP (v12 == 0)
  (ifP (v10 == 0)
    (j_36 (v0, v1, v2, v9, v10, v11, v12, v13, (-1), v46, v47, v48, ()))
    (j_36 (v0, v1, v2, v9, v10, v11, v12, v13, (minI v10 1), v46, v47, v48, ())))
  (j_36 (v0, v1, v2, v9, v10, v11, v12, v13, 0, v46, v47, v48, ()))
def f3.k27 (K : Res (.one (.sc .bool)) → PT) (v0 : Int) (v1 : Int) (v2 : Int) (v9 : Int) (v10 : Int) (v11 : Nat) (v12 : Int) (v13 : Int) (v16 : Int) (v19 : Bool) (v46 : Sl) (v47 : Int) (v48 : Int) (j_31 : ST [(0, (.sc (.int .i32))), (1, (.sc (.int .i32))), (2, (.sc (.int .i64))), (9, (.sc (.int .i64))), (10, (.sc (.int .i64))), (11, (.sc .box)), (12, (.sc (.int .i64))), (13, (.sc (.int .i64))), (46, (.sc .slice)), (47, (.sc (.int .i64))), (48, (.sc (.int .i64)))] → PT) : PT :=
  opT Try.prog (.one (.agg [(.int .i64), (.int .i64)])) (Instr.loadAt 24 (.pointer (some ⟨v11, 0, none⟩))) fun r115 =>
  callT Try.prog 13 [(.agg #[(.int .i64 r115.1), (.int .i64 r115.2.1)]), (.int .i64 (IntKind.i64.wrap v0)), (.int .i64 (IntKind.i64.wrap v1)), (.int .i64 v16)] (.tup [(.agg [(.int .i64), (.int .i64)]), (.sc .bool)]) fun r121 =>
  newP (zc Try.prog 24) 24 fun r20 =>
  opU Try.prog (Instr.storeAt 24 (.pointer (some ⟨r20, 0, none⟩)) (.agg #[(.int .i64 r121.1.1), (.int .i64 r121.1.2.1)])) <|
  opT Try.prog (.one (.agg [(.int .i64), (.int .i64)])) (Instr.loadAt 24 (.pointer (some ⟨r20, 0, none⟩))) fun r124 =>
  opU Try.prog (Instr.storeAt 24 (.pointer (some ⟨v11, 0, none⟩)) (.agg #[(.int .i64 r124.1), (.int .i64 r124.2.1)])) <|
  ifP (!(r121.2.1 == v19))
  (K false)
  (j_31 (v0, v1, v2, v9, v10, v11, v12, v13, v46, v47, v48, ()))
def f3.k22 (K : Res (.one (.sc .bool)) → PT) (v0 : Int) (v1 : Int) (v2 : Int) (v9 : Int) (v10 : Int) (v11 : Nat) (v12 : Int) (v13 : Int) (v15 : Nat) (v16 : Int) (v46 : Sl) (v47 : Int) (v48 : Int) (k_7 : ST [(0, (.sc (.int .i32))), (1, (.sc (.int .i32))), (2, (.sc (.int .i64))), (9, (.sc (.int .i64))), (10, (.sc (.int .i64))), (11, (.sc .box)), (12, (.sc (.int .i64))), (13, (.sc (.int .i64))), (46, (.sc .slice)), (47, (.sc (.int .i64))), (48, (.sc (.int .i64)))] → PT) : PT :=
  joinP (fun s => f3.k31 K s.1 s.2.1 s.2.2.1 s.2.2.2.1 s.2.2.2.2.1 s.2.2.2.2.2.1 s.2.2.2.2.2.2.1 s.2.2.2.2.2.2.2.1 s.2.2.2.2.2.2.2.2.1 s.2.2.2.2.2.2.2.2.2.1 s.2.2.2.2.2.2.2.2.2.2.1 k_7) fun j_31 =>
  opT Try.prog (.one (.sc (.int .u8))) (Instr.loadAt 5 (.pointer (some (⟨v15, 0, none⟩)))) fun r99 =>
  ifP ((Int.tmod r99 3) == 0)
  (opT Try.prog (.one (.agg [(.int .i64), (.int .i64)])) (Instr.loadAt 24 (.pointer (some ⟨v11, 0, none⟩))) fun r102 =>
    callT Try.prog 12 [(.agg #[(.int .i64 r102.1), (.int .i64 r102.2.1)]), (.int .i64 (IntKind.i64.wrap v0)), (.int .i64 (IntKind.i64.wrap v1)), (.int .i64 v16)] (.one (.agg [(.int .i64), (.int .i64)])) fun r108 =>
    opU Try.prog (Instr.storeAt 24 (.pointer (some ⟨v11, 0, none⟩)) (.agg #[(.int .i64 r108.1), (.int .i64 r108.2.1)])) <|
    j_31 (v0, v1, v2, v9, v10, v11, v12, v13, v46, v47, v48, ()))
  (joinP (fun s => f3.k27 K s.1 s.2.1 s.2.2.1 s.2.2.2.1 s.2.2.2.2.1 s.2.2.2.2.2.1 s.2.2.2.2.2.2.1 s.2.2.2.2.2.2.2.1 s.2.2.2.2.2.2.2.2.1 s.2.2.2.2.2.2.2.2.2.1 s.2.2.2.2.2.2.2.2.2.2.1 s.2.2.2.2.2.2.2.2.2.2.2.1 s.2.2.2.2.2.2.2.2.2.2.2.2.1 j_31) fun j_27 =>
    ifP (decide (v12 > 0))
    (j_27 (v0, v1, v2, v9, v10, v11, (IntKind.i64.wrap (v12 - 1)), v13, v16, (decide (v12 > 0)), v46, v47, v48, ()))
    (j_27 (v0, v1, v2, v9, v10, v11, v12, v13, v16, (decide (v12 > 0)), v46, v47, v48, ())))
def f3.k21 (K : Res (.one (.sc .bool)) → PT) (v0 : Int) (v1 : Int) (v2 : Int) (v9 : Int) (v10 : Int) (v11 : Nat) (v12 : Int) (v15 : Nat) (v16 : Int) (v46 : Sl) (v47 : Int) (v48 : Int) (j_22 : ST [(0, (.sc (.int .i32))), (1, (.sc (.int .i32))), (2, (.sc (.int .i64))), (9, (.sc (.int .i64))), (10, (.sc (.int .i64))), (11, (.sc .box)), (12, (.sc (.int .i64))), (13, (.sc (.int .i64))), (15, (.sc .box)), (16, (.sc (.int .i64))), (46, (.sc .slice)), (47, (.sc (.int .i64))), (48, (.sc (.int .i64)))] → PT) : PT :=
  j_22 (v0, v1, v2, v9, v10, v11, v12, v16, v15, v16, v46, v47, v48, ())
def f3.k17 (K : Res (.one (.sc .bool)) → PT) (v0 : Int) (v1 : Int) (v2 : Int) (v9 : Int) (v10 : Int) (v11 : Nat) (v12 : Int) (v13 : Int) (v15 : Nat) (v16 : Int) (v46 : Sl) (v47 : Int) (v48 : Int) (k_7 : ST [(0, (.sc (.int .i32))), (1, (.sc (.int .i32))), (2, (.sc (.int .i64))), (9, (.sc (.int .i64))), (10, (.sc (.int .i64))), (11, (.sc .box)), (12, (.sc (.int .i64))), (13, (.sc (.int .i64))), (46, (.sc .slice)), (47, (.sc (.int .i64))), (48, (.sc (.int .i64)))] → PT) : PT :=
  joinP (fun s => f3.k22 K s.1 s.2.1 s.2.2.1 s.2.2.2.1 s.2.2.2.2.1 s.2.2.2.2.2.1 s.2.2.2.2.2.2.1 s.2.2.2.2.2.2.2.1 s.2.2.2.2.2.2.2.2.1 s.2.2.2.2.2.2.2.2.2.1 s.2.2.2.2.2.2.2.2.2.2.1 s.2.2.2.2.2.2.2.2.2.2.2.1 s.2.2.2.2.2.2.2.2.2.2.2.2.1 k_7) fun j_22 =>
  ifP (decide (v16 > v13))
  (joinP (fun s => f3.k21 K s.1 s.2.1 s.2.2.1 s.2.2.2.1 s.2.2.2.2.1 s.2.2.2.2.2.1 s.2.2.2.2.2.2.1 s.2.2.2.2.2.2.2.1 s.2.2.2.2.2.2.2.2.1 s.2.2.2.2.2.2.2.2.2.1 s.2.2.2.2.2.2.2.2.2.2.1 s.2.2.2.2.2.2.2.2.2.2.2.1 j_22) fun j_21 =>
    ifP (decide (v10 > 0))
    (j_21 (v0, v1, v2, v9, v10, v11, (minI (IntKind.i64.wrap (v12 + (IntKind.i64.wrap (v10 * (IntKind.i64.wrap (minI (IntKind.u64.wrap ((IntKind.u64.wrap v16) - (IntKind.u64.wrap v13))) 1073741824)))))) v9), v15, v16, v46, v47, v48, ()))
    (j_21 (v0, v1, v2, v9, v10, v11, v12, v15, v16, v46, v47, v48, ())))
  (j_22 (v0, v1, v2, v9, v10, v11, v12, v13, v15, v16, v46, v47, v48, ()))
def f3.k16 (K : Res (.one (.sc .bool)) → PT) (v0 : Int) (v1 : Int) (v2 : Int) (v9 : Int) (v10 : Int) (v11 : Nat) (v12 : Int) (v13 : Int) (v15 : Nat) (v16 : Int) (v17 : Int) (v46 : Sl) (v47 : Int) (v48 : Int) (v74 : Bool) (j_17 : ST [(0, (.sc (.int .i32))), (1, (.sc (.int .i32))), (2, (.sc (.int .i64))), (9, (.sc (.int .i64))), (10, (.sc (.int .i64))), (11, (.sc .box)), (12, (.sc (.int .i64))), (13, (.sc (.int .i64))), (15, (.sc .box)), (16, (.sc (.int .i64))), (46, (.sc .slice)), (47, (.sc (.int .i64))), (48, (.sc (.int .i64)))] → PT) : PT :=
  ifP v74
  (j_17 (v0, v1, v2, v9, v10, v11, v12, v13, v15, (IntKind.i64.wrap (v13 + v17)), v46, v47, v48, ()))
  (j_17 (v0, v1, v2, v9, v10, v11, v12, v13, v15, v16, v46, v47, v48, ()))
def f3.b7 (K : Res (.one (.sc .bool)) → PT) (v0 : Int) (v1 : Int) (v2 : Int) (v9 : Int) (v10 : Int) (v11 : Nat) (v12 : Int) (v13 : Int) (v46 : Sl) (v47 : Int) (v48 : Int) (j_39 : ST [(0, (.sc (.int .i32))), (1, (.sc (.int .i32))), (9, (.sc (.int .i64)))] → PT) (k_7 : ST [(0, (.sc (.int .i32))), (1, (.sc (.int .i32))), (2, (.sc (.int .i64))), (9, (.sc (.int .i64))), (10, (.sc (.int .i64))), (11, (.sc .box)), (12, (.sc (.int .i64))), (13, (.sc (.int .i64))), (46, (.sc .slice)), (47, (.sc (.int .i64))), (48, (.sc (.int .i64)))] → PT) : PT :=
  ifP (decide (v48 < v47))
  (idxP v46 v48 5 fun r50 =>
  opT Try.prog (.one (.agg [(.int .u8), (.int .u8), (.int .u8), (.int .u8), (.int .u8)])) (Instr.loadAt 27 (.pointer (some r50))) fun r51 =>
  newP (zc Try.prog 27) 27 fun r15 =>
  opU Try.prog (Instr.storeAt 27 (.pointer (some ⟨r15, 0, none⟩)) (.agg #[(.int .u8 r51.1), (.int .u8 r51.2.1), (.int .u8 r51.2.2.1), (.int .u8 r51.2.2.2.1), (.int .u8 r51.2.2.2.2.1)])) <|
  joinP (fun s => f3.k17 K s.1 s.2.1 s.2.2.1 s.2.2.2.1 s.2.2.2.2.1 s.2.2.2.2.2.1 s.2.2.2.2.2.2.1 s.2.2.2.2.2.2.2.1 s.2.2.2.2.2.2.2.2.1 s.2.2.2.2.2.2.2.2.2.1 s.2.2.2.2.2.2.2.2.2.2.1 s.2.2.2.2.2.2.2.2.2.2.2.1 s.2.2.2.2.2.2.2.2.2.2.2.2.1 k_7) fun j_17 =>
  opT Try.prog (.one (.sc (.int .u8))) (Instr.loadAt 5 (.pointer (some (⟨r15, 4, none⟩)))) fun r54 =>
  opT Try.prog (.one (.sc (.int .u8))) (Instr.loadAt 5 (.pointer (some (⟨r15, 1, none⟩)))) fun r59 =>
  ifP (decide (r59 > 250))
  (opT Try.prog (.one (.sc (.int .u8))) (Instr.loadAt 5 (.pointer (some (⟨r15, 1, none⟩)))) fun r62 =>
    j_17 (v0, v1, v2, v9, v10, v11, v12, v13, r15, (IntKind.i64.wrap (9223372036854775807 - (IntKind.i64.wrap (Int.tmod r62 3)))), v46, v47, v48, ()))
  (opT Try.prog (.one (.sc (.int .u8))) (Instr.loadAt 5 (.pointer (some (⟨r15, 1, none⟩)))) fun r67 =>
    ifP (decide (r67 > 246))
    (j_17 (v0, v1, v2, v9, v10, v11, v12, v13, r15, (-9223372036854775808), v46, v47, v48, ()))
    (joinP (fun s => f3.k16 K s.1 s.2.1 s.2.2.1 s.2.2.2.1 s.2.2.2.2.1 s.2.2.2.2.2.1 s.2.2.2.2.2.2.1 s.2.2.2.2.2.2.2.1 s.2.2.2.2.2.2.2.2.1 s.2.2.2.2.2.2.2.2.2.1 s.2.2.2.2.2.2.2.2.2.2.1 s.2.2.2.2.2.2.2.2.2.2.2.1 s.2.2.2.2.2.2.2.2.2.2.2.2.1 s.2.2.2.2.2.2.2.2.2.2.2.2.2.1 s.2.2.2.2.2.2.2.2.2.2.2.2.2.2.1 j_17) fun j_16 =>
      ifP (decide (v13 < 9223372036854775707))
      (j_16 (v0, v1, v2, v9, v10, v11, v12, v13, r15, v2, (IntKind.i64.wrap ((IntKind.i64.wrap (Int.tmod r54 50)) - 10)), v46, v47, v48, (decide (v13 > (-9223372036854775708))), ()))
      (j_16 (v0, v1, v2, v9, v10, v11, v12, v13, r15, v2, (IntKind.i64.wrap ((IntKind.i64.wrap (Int.tmod r54 50)) - 10)), v46, v47, v48, false, ())))))
  (j_39 (v0, v1, v9, ()))
def f3.l7 (K : Res (.one (.sc .bool)) → PT) (v0 : Int) (v1 : Int) (v2 : Int) (v9 : Int) (v10 : Int) (v11 : Nat) (v12 : Int) (v13 : Int) (v46 : Sl) (v47 : Int) (v48 : Int) (j_39 : ST [(0, (.sc (.int .i32))), (1, (.sc (.int .i32))), (9, (.sc (.int .i64)))] → PT) : PT := loopP (fun (s : ST [(0, (.sc (.int .i32))), (1, (.sc (.int .i32))), (2, (.sc (.int .i64))), (9, (.sc (.int .i64))), (10, (.sc (.int .i64))), (11, (.sc .box)), (12, (.sc (.int .i64))), (13, (.sc (.int .i64))), (46, (.sc .slice)), (47, (.sc (.int .i64))), (48, (.sc (.int .i64)))]) k_ => f3.b7 K s.1 s.2.1 s.2.2.1 s.2.2.2.1 s.2.2.2.2.1 s.2.2.2.2.2.1 s.2.2.2.2.2.2.1 s.2.2.2.2.2.2.2.1 s.2.2.2.2.2.2.2.2.1 s.2.2.2.2.2.2.2.2.2.1 s.2.2.2.2.2.2.2.2.2.2.1 j_39 k_) (v0, v1, v2, v9, v10, v11, v12, v13, v46, v47, v48, ())
theorem f3.l7_unfold (K : Res (.one (.sc .bool)) → PT) (v0 : Int) (v1 : Int) (v2 : Int) (v9 : Int) (v10 : Int) (v11 : Nat) (v12 : Int) (v13 : Int) (v46 : Sl) (v47 : Int) (v48 : Int) (j_39 : ST [(0, (.sc (.int .i32))), (1, (.sc (.int .i32))), (9, (.sc (.int .i64)))] → PT) (w : World) (h : f3.b7 K v0 v1 v2 v9 v10 v11 v12 v13 v46 v47 v48 j_39 (fun s => f3.l7 K s.1 s.2.1 s.2.2.1 s.2.2.2.1 s.2.2.2.2.1 s.2.2.2.2.2.1 s.2.2.2.2.2.2.1 s.2.2.2.2.2.2.2.1 s.2.2.2.2.2.2.2.2.1 s.2.2.2.2.2.2.2.2.2.1 s.2.2.2.2.2.2.2.2.2.2.1 j_39) w) : f3.l7 K v0 v1 v2 v9 v10 v11 v12 v13 v46 v47 v48 j_39 w := loopP_unfold h
def f3.m (p0 : Int) (p1 : Int) (p2 : Int) (p3 : Sl) (K : Res (.one (.sc .bool)) → PT) : PT :=
  callT Try.prog 11 [(.int .i64 (IntKind.i64.wrap p0)), (.int .i64 p2)] (.one (.agg [(.int .i64), (.int .i64)])) fun r34 =>
  newP (zc Try.prog 24) 24 fun r11 =>
  opU Try.prog (Instr.storeAt 24 (.pointer (some ⟨r11, 0, none⟩)) (.agg #[(.int .i64 r34.1), (.int .i64 r34.2.1)])) <|
  opT Try.prog (.one (.agg [(.int .i64), (.int .i64)])) (Instr.loadAt 24 (.pointer (some ⟨r11, 0, none⟩))) fun r37 =>
  opT Try.prog (.one (.sc .bool)) (eqS .neq 24 (.tmp 37) (.tmp 40) (.agg #[(.int .i64 r37.1), (.int .i64 r37.2.1)]) (.agg #[(.int .i64 (IntKind.i64.wrap (minI (maxI p0 1) 1073741824))), (.int .i64 p2)])) fun r41 =>
  ifP r41
  (K false)
  (joinP (fun s => f3.k39 K s.1 s.2.1 s.2.2.1) fun j_39 =>
  opT Try.prog (.one (.sc .slice)) (Instr.sliceAt 22 (.slice p3.a p3.len p3.cap) none (some (.int .i64 (minI (p3.len : Int) 100))) none) fun r46 =>
  f3.l7 K p0 p1 p2 (IntKind.i64.wrap (minI (maxI p0 1) 1073741824)) (IntKind.i64.wrap (minI (maxI p1 0) 1048576)) r11 (IntKind.i64.wrap (minI (maxI p0 1) 1073741824)) p2 r46 (r46.len : Int) 0 j_39)
theorem f3.eq (p0 : Int) (p1 : Int) (p2 : Int) (p3 : Sl) (K : Res (.one (.sc .bool)) → PT) : f3.m p0 p1 p2 p3 K = denF Try.prog Try.f3 f3.A (codeOf Try.f3) [(.int .i32 p0), (.int .i32 p1), (.int .i64 p2), (.slice p3.a p3.len p3.cap)] (.one (.sc .bool)) K := by kernel_rfl
theorem f3.ok (p0 : Int) (p1 : Int) (p2 : Int) (p3 : Sl) (K : Res (.one (.sc .bool)) → PT) {w : World} (h : f3.m p0 p1 p2 p3 K w) : callT Try.prog 3 [(.int .i32 p0), (.int .i32 p1), (.int .i64 p2), (.slice p3.a p3.len p3.cap)] (.one (.sc .bool)) K w :=
  callT_mk mixed Try.func3 (by kernel_rfl) (by kernel_rfl) (f3.eq p0 p1 p2 p3 K) h

/-! #### 11: mews/bucket.New -/
def f11.A : Ann := ⟨[], []⟩
def f11.m (p0 : Int) (p1 : Int) (K : Res (.one (.agg [(.int .i64), (.int .i64)])) → PT) : PT :=
  newP (zc Try.prog 24) 24 fun r4 =>
  callT Try.prog 134 [(.int .i64 p0), (.int .i64 0)] (.tup [(.sc (.int .i64)), (.sc (.int .i64))]) fun r9 =>
  opU Try.prog (Instr.storeAt 24 (.pointer (some ⟨r4, 0, none⟩)) (.agg #[(.int .i64 r9.1), (.int .i64 p1)])) <|
  rdP Try.prog (.one (.agg [(.int .i64), (.int .i64)])) (loadVar 24 ⟨r4, 0, none⟩) fun q4 =>
  K q4
theorem f11.eq (p0 : Int) (p1 : Int) (K : Res (.one (.agg [(.int .i64), (.int .i64)])) → PT) : f11.m p0 p1 K = denF Try.prog Try.f11 f11.A (codeOf Try.f11) [(.int .i64 p0), (.int .i64 p1)] (.one (.agg [(.int .i64), (.int .i64)])) K := by kernel_rfl
theorem f11.ok (p0 : Int) (p1 : Int) (K : Res (.one (.agg [(.int .i64), (.int .i64)])) → PT) {w : World} (h : f11.m p0 p1 K w) : callT Try.prog 11 [(.int .i64 p0), (.int .i64 p1)] (.one (.agg [(.int .i64), (.int .i64)])) K w :=
  callT_mk mixed Try.func11 (by kernel_rfl) (by kernel_rfl) (f11.eq p0 p1 K) h

/-! #### 12: mews/bucket.Fill -/
def f12.A : Ann := ⟨[(7, [(3, (.sc (.int .i64))), (4, (.sc .box)), (8, (.sc .box)), (9, (.sc (.int .i64))), (10, (.sc (.int .i64))), (11, (.sc (.int .u64))), (41, (.sc .bool))]), (10, [(3, (.sc (.int .i64))), (4, (.sc .box)), (8, (.sc .box))])], []⟩
def f12.k10 (K : Res (.one (.agg [(.int .i64), (.int .i64)])) → PT) (v3 : Int) (v4 : Nat) (v8 : Nat) : PT :=
  opU Try.prog (Instr.storeAt 2 (.pointer (some (⟨v4, 1, none⟩))) (.int .i64 v3)) <|
  opT Try.prog (.one (.agg [(.int .i64), (.int .i64)])) (Instr.loadAt 24 (.pointer (some ⟨v4, 0, none⟩))) fun r58 =>
  opU Try.prog (Instr.storeAt 24 (.pointer (some ⟨v8, 0, none⟩)) (.agg #[(.int .i64 r58.1), (.int .i64 r58.2.1)])) <|
  rdP Try.prog (.one (.agg [(.int .i64), (.int .i64)])) (loadVar 24 ⟨v8, 0, none⟩) fun q8 =>
  K q8
def f12.k7 (K : Res (.one (.agg [(.int .i64), (.int .i64)])) → PT) (v3 : Int) (v4 : Nat) (v8 : Nat) (v9 : Int) (v10 : Int) (v11 : Int) (v41 : Bool) (j_10 : ST [(3, (.sc (.int .i64))), (4, (.sc .box)), (8, (.sc .box))] → PT) : PT :=
  ifP v41
  (opU Try.prog (Instr.storeAt 2 (.pointer (some (⟨v4, 0, none⟩))) (.int .i64 v9)) <|
    j_10 (v3, v4, v8, ()))
  (ifP (decide (v10 > 0))
    (opT Try.prog (.one (.sc (.int .i64))) (Instr.loadAt 2 (.pointer (some (⟨v4, 0, none⟩)))) fun r47 =>
      opU Try.prog (Instr.storeAt 2 (.pointer (some (⟨v4, 0, none⟩))) (.int .i64 (minI (IntKind.i64.wrap (r47 + (IntKind.i64.wrap (v10 * (IntKind.i64.wrap v11))))) v9))) <|
      j_10 (v3, v4, v8, ()))
    (j_10 (v3, v4, v8, ())))
def f12.m (p0 : (RL [(.int .i64), (.int .i64)])) (p1 : Int) (p2 : Int) (p3 : Int) (K : Res (.one (.agg [(.int .i64), (.int .i64)])) → PT) : PT :=
  newP #[(.int .i64 p0.1), (.int .i64 p0.2.1)] 24 fun r4 =>
  newP (zc Try.prog 24) 24 fun r8 =>
  callT Try.prog 134 [(.int .i64 p1), (.int .i64 p2)] (.tup [(.sc (.int .i64)), (.sc (.int .i64))]) fun r15 =>
  opT Try.prog (.one (.sc (.int .i64))) (Instr.loadAt 2 (.pointer (some (⟨r4, 0, none⟩)))) fun r19 =>
  callT Try.prog 135 [(.int .i64 r19), (.int .i64 0), (.int .i64 r15.1)] (.one (.sc (.int .i64))) fun r21 =>
  opU Try.prog (Instr.storeAt 2 (.pointer (some (⟨r4, 0, none⟩))) (.int .i64 r21)) <|
  opT Try.prog (.one (.sc (.int .i64))) (Instr.loadAt 2 (.pointer (some (⟨r4, 1, none⟩)))) fun r25 =>
  ifP (decide (p3 ≤ r25))
  (opT Try.prog (.one (.agg [(.int .i64), (.int .i64)])) (Instr.loadAt 24 (.pointer (some ⟨r4, 0, none⟩))) fun r27 =>
    opU Try.prog (Instr.storeAt 24 (.pointer (some ⟨r8, 0, none⟩)) (.agg #[(.int .i64 r27.1), (.int .i64 r27.2.1)])) <|
    rdP Try.prog (.one (.agg [(.int .i64), (.int .i64)])) (loadVar 24 ⟨r8, 0, none⟩) fun q8 =>
  K q8)
  (opT Try.prog (.one (.sc (.int .i64))) (Instr.loadAt 2 (.pointer (some (⟨r4, 1, none⟩)))) fun r31 =>
  joinP (fun s => f12.k10 K s.1 s.2.1 s.2.2.1) fun j_10 =>
  joinP (fun s => f12.k7 K s.1 s.2.1 s.2.2.1 s.2.2.2.1 s.2.2.2.2.1 s.2.2.2.2.2.1 s.2.2.2.2.2.2.1 j_10) fun j_7 =>
  ifP (decide (r15.2.1 > 0))
  (j_7 (p3, r4, r8, r15.1, r15.2.1, (IntKind.u64.wrap ((IntKind.u64.wrap p3) - (IntKind.u64.wrap r31))), (decide ((IntKind.u64.wrap ((IntKind.u64.wrap p3) - (IntKind.u64.wrap r31))) ≥ (IntKind.u64.wrap r15.1))), ()))
  (j_7 (p3, r4, r8, r15.1, r15.2.1, (IntKind.u64.wrap ((IntKind.u64.wrap p3) - (IntKind.u64.wrap r31))), false, ())))
theorem f12.eq (p0 : (RL [(.int .i64), (.int .i64)])) (p1 : Int) (p2 : Int) (p3 : Int) (K : Res (.one (.agg [(.int .i64), (.int .i64)])) → PT) : f12.m p0 p1 p2 p3 K = denF Try.prog Try.f12 f12.A (codeOf Try.f12) [(.agg #[(.int .i64 p0.1), (.int .i64 p0.2.1)]), (.int .i64 p1), (.int .i64 p2), (.int .i64 p3)] (.one (.agg [(.int .i64), (.int .i64)])) K := by kernel_rfl
theorem f12.ok (p0 : (RL [(.int .i64), (.int .i64)])) (p1 : Int) (p2 : Int) (p3 : Int) (K : Res (.one (.agg [(.int .i64), (.int .i64)])) → PT) {w : World} (h : f12.m p0 p1 p2 p3 K w) : callT Try.prog 12 [(.agg #[(.int .i64 p0.1), (.int .i64 p0.2.1)]), (.int .i64 p1), (.int .i64 p2), (.int .i64 p3)] (.one (.agg [(.int .i64), (.int .i64)])) K w :=
  callT_mk mixed Try.func12 (by kernel_rfl) (by kernel_rfl) (f12.eq p0 p1 p2 p3 K) h

/-! #### 13: mews/bucket.Take -/
def f13.A : Ann := ⟨[], []⟩
def f13.m (p0 : (RL [(.int .i64), (.int .i64)])) (p1 : Int) (p2 : Int) (p3 : Int) (K : Res (.tup [(.agg [(.int .i64), (.int .i64)]), (.sc .bool)]) → PT) : PT :=
  newP #[(.int .i64 p0.1), (.int .i64 p0.2.1)] 24 fun r4 =>
  newP (zc Try.prog 24) 24 fun r8 =>
  opT Try.prog (.one (.agg [(.int .i64), (.int .i64)])) (Instr.loadAt 24 (.pointer (some ⟨r4, 0, none⟩))) fun r10 =>
  callT Try.prog 12 [(.agg #[(.int .i64 r10.1), (.int .i64 r10.2.1)]), (.int .i64 p1), (.int .i64 p2), (.int .i64 p3)] (.one (.agg [(.int .i64), (.int .i64)])) fun r14 =>
  opU Try.prog (Instr.storeAt 24 (.pointer (some ⟨r4, 0, none⟩)) (.agg #[(.int .i64 r14.1), (.int .i64 r14.2.1)])) <|
  opT Try.prog (.one (.sc (.int .i64))) (Instr.loadAt 2 (.pointer (some (⟨r4, 0, none⟩)))) fun r16 =>
  ifP (r16 == 0)
  (opT Try.prog (.one (.agg [(.int .i64), (.int .i64)])) (Instr.loadAt 24 (.pointer (some ⟨r4, 0, none⟩))) fun r18 =>
    opU Try.prog (Instr.storeAt 24 (.pointer (some ⟨r8, 0, none⟩)) (.agg #[(.int .i64 r18.1), (.int .i64 r18.2.1)])) <|
    rdP Try.prog (.one (.agg [(.int .i64), (.int .i64)])) (loadVar 24 ⟨r8, 0, none⟩) fun q8 =>
  K (q8, false, ()))
  (opT Try.prog (.one (.sc (.int .i64))) (Instr.loadAt 2 (.pointer (some (⟨r4, 0, none⟩)))) fun r20 =>
  opU Try.prog (Instr.storeAt 2 (.pointer (some (⟨r4, 0, none⟩))) (.int .i64 (IntKind.i64.wrap (r20 - 1)))) <|
  opT Try.prog (.one (.agg [(.int .i64), (.int .i64)])) (Instr.loadAt 24 (.pointer (some ⟨r4, 0, none⟩))) fun r23 =>
  opU Try.prog (Instr.storeAt 24 (.pointer (some ⟨r8, 0, none⟩)) (.agg #[(.int .i64 r23.1), (.int .i64 r23.2.1)])) <|
  rdP Try.prog (.one (.agg [(.int .i64), (.int .i64)])) (loadVar 24 ⟨r8, 0, none⟩) fun q8 =>
  K (q8, true, ()))
theorem f13.eq (p0 : (RL [(.int .i64), (.int .i64)])) (p1 : Int) (p2 : Int) (p3 : Int) (K : Res (.tup [(.agg [(.int .i64), (.int .i64)]), (.sc .bool)]) → PT) : f13.m p0 p1 p2 p3 K = denF Try.prog Try.f13 f13.A (codeOf Try.f13) [(.agg #[(.int .i64 p0.1), (.int .i64 p0.2.1)]), (.int .i64 p1), (.int .i64 p2), (.int .i64 p3)] (.tup [(.agg [(.int .i64), (.int .i64)]), (.sc .bool)]) K := by kernel_rfl
theorem f13.ok (p0 : (RL [(.int .i64), (.int .i64)])) (p1 : Int) (p2 : Int) (p3 : Int) (K : Res (.tup [(.agg [(.int .i64), (.int .i64)]), (.sc .bool)]) → PT) {w : World} (h : f13.m p0 p1 p2 p3 K w) : callT Try.prog 13 [(.agg #[(.int .i64 p0.1), (.int .i64 p0.2.1)]), (.int .i64 p1), (.int .i64 p2), (.int .i64 p3)] (.tup [(.agg [(.int .i64), (.int .i64)]), (.sc .bool)]) K w :=
  callT_mk mixed Try.func13 (by kernel_rfl) (by kernel_rfl) (f13.eq p0 p1 p2 p3 K) h

/-! #### 14: mews/bucket.When -/
def f14.A : Ann := ⟨[], []⟩
def f14.m (p0 : (RL [(.int .i64), (.int .i64)])) (p1 : Int) (p2 : Int) (K : Res (.one (.sc (.int .i64))) → PT) : PT :=
  newP #[(.int .i64 p0.1), (.int .i64 p0.2.1)] 24 fun r3 =>
  callT Try.prog 134 [(.int .i64 p1), (.int .i64 p2)] (.tup [(.sc (.int .i64)), (.sc (.int .i64))]) fun r12 =>
  opT Try.prog (.one (.agg [(.int .i64), (.int .i64)])) (Instr.loadAt 24 (.pointer (some ⟨r3, 0, none⟩))) fun r16 =>
  opT Try.prog (.one (.sc (.int .i64))) (Instr.loadAt 2 (.pointer (some (⟨r3, 1, none⟩)))) fun r20 =>
  callT Try.prog 12 [(.agg #[(.int .i64 r16.1), (.int .i64 r16.2.1)]), (.int .i64 p1), (.int .i64 p2), (.int .i64 r20)] (.one (.agg [(.int .i64), (.int .i64)])) fun r21 =>
  ifP (decide (r21.1 > 0))
  (K 0)
  (ifP (decide (r12.2.1 > 0))
    (K 1)
    (K (-1)))
theorem f14.eq (p0 : (RL [(.int .i64), (.int .i64)])) (p1 : Int) (p2 : Int) (K : Res (.one (.sc (.int .i64))) → PT) : f14.m p0 p1 p2 K = denF Try.prog Try.f14 f14.A (codeOf Try.f14) [(.agg #[(.int .i64 p0.1), (.int .i64 p0.2.1)]), (.int .i64 p1), (.int .i64 p2)] (.one (.sc (.int .i64))) K := by kernel_rfl
theorem f14.ok (p0 : (RL [(.int .i64), (.int .i64)])) (p1 : Int) (p2 : Int) (K : Res (.one (.sc (.int .i64))) → PT) {w : World} (h : f14.m p0 p1 p2 K w) : callT Try.prog 14 [(.agg #[(.int .i64 p0.1), (.int .i64 p0.2.1)]), (.int .i64 p1), (.int .i64 p2)] (.one (.sc (.int .i64))) K w :=
  callT_mk mixed Try.func14 (by kernel_rfl) (by kernel_rfl) (f14.eq p0 p1 p2 K) h

/-! #### 15: mews/mewstop.lives -/
def f15.A : Ann := ⟨[], []⟩
def f15.m  (K : Res (.one (.sc .bool)) → PT) : PT :=
  callT Try.prog 136 [(.int .i64 (-7))] (.one (.sc .str)) fun r1 =>
  ifP (r1.toList == ((⟨#[45, 55]⟩) : ByteArray).toList)
  (callT Try.prog 20 [(.string (⟨#[104, 91, 97, 45, 99, 93, 108, 108, 111, 42]⟩)), (.string (⟨#[104, 98, 108, 108, 111, 33]⟩))] (.one (.sc .bool)) fun r4 =>
  ifP r4
  (callT Try.prog 20 [(.string (⟨#[104, 91, 97, 45, 99, 93, 108, 108, 111, 42]⟩)), (.string (⟨#[104, 100, 108, 108, 111]⟩))] (.one (.sc .bool)) fun r7 =>
  K (!r7))
  (K false))
  (K false)
theorem f15.eq  (K : Res (.one (.sc .bool)) → PT) : f15.m  K = denF Try.prog Try.f15 f15.A (codeOf Try.f15) [] (.one (.sc .bool)) K := by kernel_rfl
theorem f15.ok  (K : Res (.one (.sc .bool)) → PT) {w : World} (h : f15.m  K w) : callT Try.prog 15 [] (.one (.sc .bool)) K w :=
  callT_mk mixed Try.func15 (by kernel_rfl) (by kernel_rfl) (f15.eq  K) h

/-! #### 134: mews/bucket.limits -/
def f134.A : Ann := ⟨[], []⟩
def f134.m (p0 : Int) (p1 : Int) (K : Res (.tup [(.sc (.int .i64)), (.sc (.int .i64))]) → PT) : PT :=
  callT Try.prog 213 [(.int .i64 p0), (.int .i64 1), (.int .i64 1073741824)] (.one (.sc (.int .i64))) fun r7 =>
  callT Try.prog 213 [(.int .i64 p1), (.int .i64 0), (.int .i64 1048576)] (.one (.sc (.int .i64))) fun r9 =>
  K (r7, r9, ())
theorem f134.eq (p0 : Int) (p1 : Int) (K : Res (.tup [(.sc (.int .i64)), (.sc (.int .i64))]) → PT) : f134.m p0 p1 K = denF Try.prog Try.f134 f134.A (codeOf Try.f134) [(.int .i64 p0), (.int .i64 p1)] (.tup [(.sc (.int .i64)), (.sc (.int .i64))]) K := by kernel_rfl
theorem f134.ok (p0 : Int) (p1 : Int) (K : Res (.tup [(.sc (.int .i64)), (.sc (.int .i64))]) → PT) {w : World} (h : f134.m p0 p1 K w) : callT Try.prog 134 [(.int .i64 p0), (.int .i64 p1)] (.tup [(.sc (.int .i64)), (.sc (.int .i64))]) K w :=
  callT_mk mixed Try.func134 (by kernel_rfl) (by kernel_rfl) (f134.eq p0 p1 K) h

/-! #### 135: mews/bucket.between[int64] -/
def f135.A : Ann := ⟨[], []⟩
def f135.m (p0 : Int) (p1 : Int) (p2 : Int) (K : Res (.one (.sc (.int .i64))) → PT) : PT :=
  K (minI (maxI p0 p1) p2)
theorem f135.eq (p0 : Int) (p1 : Int) (p2 : Int) (K : Res (.one (.sc (.int .i64))) → PT) : f135.m p0 p1 p2 K = denF Try.prog Try.f135 f135.A (codeOf Try.f135) [(.int .i64 p0), (.int .i64 p1), (.int .i64 p2)] (.one (.sc (.int .i64))) K := by kernel_rfl
theorem f135.ok (p0 : Int) (p1 : Int) (p2 : Int) (K : Res (.one (.sc (.int .i64))) → PT) {w : World} (h : f135.m p0 p1 p2 K w) : callT Try.prog 135 [(.int .i64 p0), (.int .i64 p1), (.int .i64 p2)] (.one (.sc (.int .i64))) K w :=
  callT_mk mixed Try.func135 (by kernel_rfl) (by kernel_rfl) (f135.eq p0 p1 p2 K) h

/-! #### 213: mews/bucket.between[int] -/
def f213.A : Ann := ⟨[], []⟩
def f213.m (p0 : Int) (p1 : Int) (p2 : Int) (K : Res (.one (.sc (.int .i64))) → PT) : PT :=
  K (minI (maxI p0 p1) p2)
theorem f213.eq (p0 : Int) (p1 : Int) (p2 : Int) (K : Res (.one (.sc (.int .i64))) → PT) : f213.m p0 p1 p2 K = denF Try.prog Try.f213 f213.A (codeOf Try.f213) [(.int .i64 p0), (.int .i64 p1), (.int .i64 p2)] (.one (.sc (.int .i64))) K := by kernel_rfl
theorem f213.ok (p0 : Int) (p1 : Int) (p2 : Int) (K : Res (.one (.sc (.int .i64))) → PT) {w : World} (h : f213.m p0 p1 p2 K w) : callT Try.prog 213 [(.int .i64 p0), (.int .i64 p1), (.int .i64 p2)] (.one (.sc (.int .i64))) K w :=
  callT_mk mixed Try.func213 (by kernel_rfl) (by kernel_rfl) (f213.eq p0 p1 p2 K) h

end Go.Proofs.Ytmnpfkdiknfkoaa
