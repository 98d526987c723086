/-
  Of each type that a load or a store of the program names: how many cells its variables have. No condition.
-/
import Derived.Test.YtmnpfkdiknfkoaaS5
namespace Go.Proofs.Ytmnpfkdiknfkoaa
open Go Go.Proofs.Ytmnpfkdiknfkoaa.Sx
instance : TyInt Try.prog 2 .i64 := ⟨by kernel_rfl⟩
instance : TyInt Try.prog 3 .i64 := ⟨by kernel_rfl⟩
instance : TyInt Try.prog 5 .u8 := ⟨by kernel_rfl⟩
instance : TyInt Try.prog 6 .u8 := ⟨by kernel_rfl⟩
instance : TyStr Try.prog 9 := ⟨by kernel_rfl⟩
instance : TyStr Try.prog 10 := ⟨by kernel_rfl⟩
instance : TyStr Try.prog 11 := ⟨by kernel_rfl⟩
instance : TyInt Try.prog 12 .u64 := ⟨by kernel_rfl⟩
instance : TyInt Try.prog 21 .i32 := ⟨by kernel_rfl⟩
instance : TySl Try.prog 22 27 := ⟨by kernel_rfl⟩
instance : TyInt Try.prog 28 .u64 := ⟨by kernel_rfl⟩
instance : TySl Try.prog 35 5 := ⟨by kernel_rfl⟩
instance : TySl Try.prog 36 35 := ⟨by kernel_rfl⟩
instance : TySl Try.prog 38 195 := ⟨by kernel_rfl⟩
instance : TySl Try.prog 41 9 := ⟨by kernel_rfl⟩
instance : TySl Try.prog 52 55 := ⟨by kernel_rfl⟩
instance : TyArr Try.prog 53 5 52 := ⟨by kernel_rfl⟩
instance : TySl Try.prog 59 3 := ⟨by kernel_rfl⟩
instance : TySl Try.prog 72 78 := ⟨by kernel_rfl⟩
instance : TySl Try.prog 73 75 := ⟨by kernel_rfl⟩
instance : TyArr Try.prog 85 5 84 := ⟨by kernel_rfl⟩
instance : TyArr Try.prog 90 5 3 := ⟨by kernel_rfl⟩
instance : TySl Try.prog 91 93 := ⟨by kernel_rfl⟩
instance : TyArr Try.prog 100 4 9 := ⟨by kernel_rfl⟩
instance : TySl Try.prog 101 107 := ⟨by kernel_rfl⟩
instance : TySl Try.prog 102 112 := ⟨by kernel_rfl⟩
instance : TyInt Try.prog 118 .i64 := ⟨by kernel_rfl⟩
instance : TySl Try.prog 151 153 := ⟨by kernel_rfl⟩
instance : TyInt Try.prog 153 .i16 := ⟨by kernel_rfl⟩
instance : TySl Try.prog 175 178 := ⟨by kernel_rfl⟩
instance : TyArr Try.prog 192 20 9 := ⟨by kernel_rfl⟩
instance : TyArr Try.prog 193 256 4 := ⟨by kernel_rfl⟩
instance : TySl Try.prog 196 4 := ⟨by kernel_rfl⟩
instance : TyArr Try.prog 206 8 9 := ⟨by kernel_rfl⟩
instance : TyInt Try.prog 214 .u64 := ⟨by kernel_rfl⟩
instance : TyArr Try.prog 230 6 9 := ⟨by kernel_rfl⟩
instance : TySl Try.prog 249 129 := ⟨by kernel_rfl⟩
instance : TySl Try.prog 255 267 := ⟨by kernel_rfl⟩
instance : TyArr Try.prog 260 16 254 := ⟨by kernel_rfl⟩
instance : TyArr Try.prog 261 16 3 := ⟨by kernel_rfl⟩
instance : TyArr Try.prog 295 20 5 := ⟨by kernel_rfl⟩
instance : TyInt Try.prog 300 .i64 := ⟨by kernel_rfl⟩
instance : TyInt Try.prog 307 .u32 := ⟨by kernel_rfl⟩
instance : TyInt Try.prog 327 .u64 := ⟨by kernel_rfl⟩
instance : TyArr Try.prog 343 3 28 := ⟨by kernel_rfl⟩
instance : TyArr Try.prog 369 0 16 := ⟨by kernel_rfl⟩
instance : TyInt Try.prog 372 .u8 := ⟨by kernel_rfl⟩
instance : TyInt Try.prog 373 .u8 := ⟨by kernel_rfl⟩
instance : TyInt Try.prog 375 .i32 := ⟨by kernel_rfl⟩
instance : TyInt Try.prog 376 .i32 := ⟨by kernel_rfl⟩
instance : Ty1 Try.prog 2 := ⟨fun _ => by kernel_rfl⟩
instance : TySz Try.prog 2 1 := ⟨fun _ => by kernel_rfl⟩
instance : Ty1 Try.prog 3 := ⟨fun _ => by kernel_rfl⟩
instance : TySz Try.prog 3 1 := ⟨fun _ => by kernel_rfl⟩
instance : Ty1 Try.prog 4 := ⟨fun _ => by kernel_rfl⟩
instance : TySz Try.prog 4 1 := ⟨fun _ => by kernel_rfl⟩
instance : Ty1 Try.prog 5 := ⟨fun _ => by kernel_rfl⟩
instance : TySz Try.prog 5 1 := ⟨fun _ => by kernel_rfl⟩
instance : Ty1 Try.prog 9 := ⟨fun _ => by kernel_rfl⟩
instance : TySz Try.prog 9 1 := ⟨fun _ => by kernel_rfl⟩
instance : Ty1 Try.prog 16 := ⟨fun _ => by kernel_rfl⟩
instance : TySz Try.prog 16 1 := ⟨fun _ => by kernel_rfl⟩
instance : TyAgg Try.prog 24 := ⟨fun _ => by kernel_rfl⟩
instance : TySz Try.prog 24 2 := ⟨fun _ => by kernel_rfl⟩
instance : TyAgg Try.prog 27 := ⟨fun _ => by kernel_rfl⟩
instance : TySz Try.prog 27 5 := ⟨fun _ => by kernel_rfl⟩
instance : Ty1 Try.prog 28 := ⟨fun _ => by kernel_rfl⟩
instance : TySz Try.prog 28 1 := ⟨fun _ => by kernel_rfl⟩
instance : Ty1 Try.prog 35 := ⟨fun _ => by kernel_rfl⟩
instance : TySz Try.prog 35 1 := ⟨fun _ => by kernel_rfl⟩
instance : Ty1 Try.prog 41 := ⟨fun _ => by kernel_rfl⟩
instance : TySz Try.prog 41 1 := ⟨fun _ => by kernel_rfl⟩
instance : Ty1 Try.prog 52 := ⟨fun _ => by kernel_rfl⟩
instance : TySz Try.prog 52 1 := ⟨fun _ => by kernel_rfl⟩
instance : TyAgg Try.prog 55 := ⟨fun _ => by kernel_rfl⟩
instance : TySz Try.prog 55 4 := ⟨fun _ => by kernel_rfl⟩
instance : Ty1 Try.prog 72 := ⟨fun _ => by kernel_rfl⟩
instance : TySz Try.prog 72 1 := ⟨fun _ => by kernel_rfl⟩
instance : Ty1 Try.prog 73 := ⟨fun _ => by kernel_rfl⟩
instance : TySz Try.prog 73 1 := ⟨fun _ => by kernel_rfl⟩
instance : TyAgg Try.prog 75 := ⟨fun _ => by kernel_rfl⟩
instance : TySz Try.prog 75 2 := ⟨fun _ => by kernel_rfl⟩
instance : TyAgg Try.prog 78 := ⟨fun _ => by kernel_rfl⟩
instance : TySz Try.prog 78 2 := ⟨fun _ => by kernel_rfl⟩
instance : TyAgg Try.prog 84 := ⟨fun _ => by kernel_rfl⟩
instance : TySz Try.prog 84 5 := ⟨fun _ => by kernel_rfl⟩
instance : TyAgg Try.prog 85 := ⟨fun _ => by kernel_rfl⟩
instance : TySz Try.prog 85 25 := ⟨fun _ => by kernel_rfl⟩
instance : TyAgg Try.prog 90 := ⟨fun _ => by kernel_rfl⟩
instance : TySz Try.prog 90 5 := ⟨fun _ => by kernel_rfl⟩
instance : TyAgg Try.prog 93 := ⟨fun _ => by kernel_rfl⟩
instance : TySz Try.prog 93 7 := ⟨fun _ => by kernel_rfl⟩
instance : Ty1 Try.prog 101 := ⟨fun _ => by kernel_rfl⟩
instance : TySz Try.prog 101 1 := ⟨fun _ => by kernel_rfl⟩
instance : Ty1 Try.prog 102 := ⟨fun _ => by kernel_rfl⟩
instance : TySz Try.prog 102 1 := ⟨fun _ => by kernel_rfl⟩
instance : TyAgg Try.prog 104 := ⟨fun _ => by kernel_rfl⟩
instance : TySz Try.prog 104 2 := ⟨fun _ => by kernel_rfl⟩
instance : TyAgg Try.prog 107 := ⟨fun _ => by kernel_rfl⟩
instance : TySz Try.prog 107 3 := ⟨fun _ => by kernel_rfl⟩
instance : TyAgg Try.prog 112 := ⟨fun _ => by kernel_rfl⟩
instance : TySz Try.prog 112 3 := ⟨fun _ => by kernel_rfl⟩
instance : TyAgg Try.prog 129 := ⟨fun _ => by kernel_rfl⟩
instance : TySz Try.prog 129 2 := ⟨fun _ => by kernel_rfl⟩
instance : Ty1 Try.prog 151 := ⟨fun _ => by kernel_rfl⟩
instance : TySz Try.prog 151 1 := ⟨fun _ => by kernel_rfl⟩
instance : Ty1 Try.prog 153 := ⟨fun _ => by kernel_rfl⟩
instance : TySz Try.prog 153 1 := ⟨fun _ => by kernel_rfl⟩
instance : Ty1 Try.prog 173 := ⟨fun _ => by kernel_rfl⟩
instance : TySz Try.prog 173 1 := ⟨fun _ => by kernel_rfl⟩
instance : TyAgg Try.prog 178 := ⟨fun _ => by kernel_rfl⟩
instance : TySz Try.prog 178 2 := ⟨fun _ => by kernel_rfl⟩
instance : TyAgg Try.prog 195 := ⟨fun _ => by kernel_rfl⟩
instance : TySz Try.prog 195 257 := ⟨fun _ => by kernel_rfl⟩
instance : Ty1 Try.prog 201 := ⟨fun _ => by kernel_rfl⟩
instance : TySz Try.prog 201 1 := ⟨fun _ => by kernel_rfl⟩
instance : Ty1 Try.prog 203 := ⟨fun _ => by kernel_rfl⟩
instance : TySz Try.prog 203 1 := ⟨fun _ => by kernel_rfl⟩
instance : TyAgg Try.prog 205 := ⟨fun _ => by kernel_rfl⟩
instance : TySz Try.prog 205 2 := ⟨fun _ => by kernel_rfl⟩
instance : TyAgg Try.prog 230 := ⟨fun _ => by kernel_rfl⟩
instance : TySz Try.prog 230 6 := ⟨fun _ => by kernel_rfl⟩
instance : Ty1 Try.prog 233 := ⟨fun _ => by kernel_rfl⟩
instance : TySz Try.prog 233 1 := ⟨fun _ => by kernel_rfl⟩
instance : Ty1 Try.prog 254 := ⟨fun _ => by kernel_rfl⟩
instance : TySz Try.prog 254 1 := ⟨fun _ => by kernel_rfl⟩
instance : Ty1 Try.prog 255 := ⟨fun _ => by kernel_rfl⟩
instance : TySz Try.prog 255 1 := ⟨fun _ => by kernel_rfl⟩
instance : TyAgg Try.prog 259 := ⟨fun _ => by kernel_rfl⟩
instance : TySz Try.prog 259 3 := ⟨fun _ => by kernel_rfl⟩
instance : TyAgg Try.prog 263 := ⟨fun _ => by kernel_rfl⟩
instance : TySz Try.prog 263 32 := ⟨fun _ => by kernel_rfl⟩
instance : TyAgg Try.prog 267 := ⟨fun _ => by kernel_rfl⟩
instance : TySz Try.prog 267 2 := ⟨fun _ => by kernel_rfl⟩
instance : Ty1 Try.prog 277 := ⟨fun _ => by kernel_rfl⟩
instance : TySz Try.prog 277 1 := ⟨fun _ => by kernel_rfl⟩
instance : Ty1 Try.prog 280 := ⟨fun _ => by kernel_rfl⟩
instance : TySz Try.prog 280 1 := ⟨fun _ => by kernel_rfl⟩
instance : TyAgg Try.prog 282 := ⟨fun _ => by kernel_rfl⟩
instance : TySz Try.prog 282 2 := ⟨fun _ => by kernel_rfl⟩
instance : Ty1 Try.prog 283 := ⟨fun _ => by kernel_rfl⟩
instance : TySz Try.prog 283 1 := ⟨fun _ => by kernel_rfl⟩
instance : Ty1 Try.prog 284 := ⟨fun _ => by kernel_rfl⟩
instance : TySz Try.prog 284 1 := ⟨fun _ => by kernel_rfl⟩
instance : TyAgg Try.prog 286 := ⟨fun _ => by kernel_rfl⟩
instance : TySz Try.prog 286 3 := ⟨fun _ => by kernel_rfl⟩
instance : TyAgg Try.prog 289 := ⟨fun _ => by kernel_rfl⟩
instance : TySz Try.prog 289 2 := ⟨fun _ => by kernel_rfl⟩
instance : Ty1 Try.prog 327 := ⟨fun _ => by kernel_rfl⟩
instance : TySz Try.prog 327 1 := ⟨fun _ => by kernel_rfl⟩
end Go.Proofs.Ytmnpfkdiknfkoaa
