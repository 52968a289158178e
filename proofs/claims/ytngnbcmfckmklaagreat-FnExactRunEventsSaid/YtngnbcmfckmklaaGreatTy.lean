/- The facts of the plain types of the program, by evaluation. No condition. -/
import Derived.Test.YtngnbcmfckmklaaGreatVe
import Derived.Test.YtngnbcmfckmklaaGreatProg
namespace Go.Proofs.YtngnbcmfckmklaaGreat
open Tryz
open Go.Vm
abbrev tyB (t c b : Nat) (a : Bool) (k : Option IntKind) : Prop := qf prog t = true /\ prog.cellsOf t = c /\ TW prog t = a /\ prog.bytesOf t = b /\ (prog.underlying t).isSome = true /\ uF prog t = k
abbrev tyZ (t : Nat) (z : List At) : Prop := kQ prog 12 t = some z /\ QK prog t = true
abbrev tyF (t i o f : Nat) : Prop := kM prog t i = true /\ Qp prog t i = o /\ xy prog t i = f /\ bOk prog t i = true /\ Re prog t i = o /\ bTy prog t i = f
abbrev tyS (t e : Nat) (b : Bool) : Prop := XK prog t = true /\ ZQ prog t = e /\ Pe prog t = b /\ U0 prog t = false
@[simp] theorem ty2 : tyB 2 1 8 false (some .i64) /\ tyZ 2 [.d (.int .i64 0)] := by (repeat' apply And.intro) <;> kernel_rfl
@[simp] theorem ty3 : tyB 3 1 8 false (some .i64) /\ tyZ 3 [.d (.int .i64 0)] := by (repeat' apply And.intro) <;> kernel_rfl
@[simp] theorem ty4 : tyB 4 1 1 false none /\ tyZ 4 [.d (.bool false)] /\ L9 prog 4 = true := by (repeat' apply And.intro) <;> kernel_rfl
@[simp] theorem ty5 : tyB 5 1 1 false (some .u8) /\ tyZ 5 [.d (.int .u8 0)] := by (repeat' apply And.intro) <;> kernel_rfl
@[simp] theorem ty6 : tyB 6 1 1 false (some .u8) /\ tyZ 6 [.d (.int .u8 0)] := by (repeat' apply And.intro) <;> kernel_rfl
@[simp] theorem ty8 : tyB 8 4 24 true none /\ tyZ 8 [.d (.int .i64 0), .d (.int .i64 0), .d (.bool false), .d (.int .u8 0)] /\ tyF 8 0 0 2 /\ tyF 8 1 1 3 /\ tyF 8 2 2 4 /\ tyF 8 3 3 6 := by (repeat' apply And.intro) <;> kernel_rfl
@[simp] theorem ty9 : tyB 9 1 16 false none /\ tyZ 9 [.d (.str ⟨#[]⟩)] /\ U0 prog 9 = true := by (repeat' apply And.intro) <;> kernel_rfl
@[simp] theorem iM : tyB 10 1 16 false none /\ tyZ 10 [.d (.str ⟨#[]⟩)] /\ U0 prog 10 = true := by (repeat' apply And.intro) <;> kernel_rfl
@[simp] theorem iA : tyB 11 1 16 false none /\ tyZ 11 [.d (.str ⟨#[]⟩)] /\ U0 prog 11 = true := by (repeat' apply And.intro) <;> kernel_rfl
@[simp] theorem iJ : tyB 12 1 8 false (some .u64) /\ tyZ 12 [.d (.int .u64 0)] := by (repeat' apply And.intro) <;> kernel_rfl
@[simp] theorem iH : tyB 14 2 24 true none /\ tyZ 14 [.d (.str ⟨#[]⟩), .d (.int .u64 0)] /\ tyF 14 0 0 9 /\ tyF 14 1 1 12 := by (repeat' apply And.intro) <;> kernel_rfl
@[simp] theorem lS : tyB 22 1 24 false none /\ tyZ 22 [.nil 5] /\ tyS 22 175 false := by (repeat' apply And.intro) <;> kernel_rfl
@[simp] theorem lO : tyB 23 1 24 false none /\ tyZ 23 [.nil 3] /\ tyS 23 179 false := by (repeat' apply And.intro) <;> kernel_rfl
@[simp] theorem lT : tyB 24 1 24 false none /\ tyZ 24 [.nil 4] /\ tyS 24 183 false := by (repeat' apply And.intro) <;> kernel_rfl
@[simp] theorem mi : tyB 26 5 88 true none /\ tyZ 26 [.nil 5, .nil 3, .nil 4, .d (.int .i64 0), .d (.int .i64 0)] /\ tyF 26 0 0 22 /\ tyF 26 1 1 23 /\ tyF 26 2 2 24 /\ tyF 26 3 3 3 /\ tyF 26 4 4 3 := by (repeat' apply And.intro) <;> kernel_rfl
@[simp] theorem lC : tyB 27 1 24 false none /\ tyZ 27 [.nil 7] /\ tyS 27 108 false := by (repeat' apply And.intro) <;> kernel_rfl
@[simp] theorem pY : tyB 28 1 24 false none /\ tyZ 28 [.nil 1] /\ tyS 28 3 false := by (repeat' apply And.intro) <;> kernel_rfl
@[simp] theorem lE : tyB 29 1 24 false none /\ tyZ 29 [.nil 2] /\ tyS 29 89 false := by (repeat' apply And.intro) <;> kernel_rfl
@[simp] theorem lB : tyB 31 12 240 true none /\ tyZ 31 [.nil 5, .nil 3, .nil 4, .d (.int .i64 0), .d (.int .i64 0), .nil 7, .nil 1, .nil 2, .nil 1, .nil 1, .d (.int .i64 0), .nil 1] /\ tyF 31 0 0 26 /\ tyF 31 1 5 27 /\ tyF 31 2 6 28 /\ tyF 31 3 7 29 /\ tyF 31 4 8 28 /\ tyF 31 5 9 28 /\ tyF 31 6 10 3 /\ tyF 31 7 11 28 := by (repeat' apply And.intro) <;> kernel_rfl
@[simp] theorem iF : tyB 32 1 24 false none /\ tyZ 32 [.nil 9] /\ tyS 32 62 false := by (repeat' apply And.intro) <;> kernel_rfl
@[simp] theorem iL : tyB 35 1 24 false none /\ tyZ 35 [.nil 5] /\ tyS 35 135 false := by (repeat' apply And.intro) <;> kernel_rfl
@[simp] theorem l9 : tyB 36 1 24 false none /\ tyZ 36 [.nil 3] /\ tyS 36 177 false := by (repeat' apply And.intro) <;> kernel_rfl
@[simp] theorem iG : tyB 37 1 24 false none /\ tyZ 37 [.nil 4] /\ tyS 37 181 false := by (repeat' apply And.intro) <;> kernel_rfl
@[simp] theorem iE : tyB 39 5 88 true none /\ tyZ 39 [.nil 5, .nil 3, .nil 4, .d (.int .i64 0), .d (.int .i64 0)] /\ tyF 39 0 0 35 /\ tyF 39 1 1 36 /\ tyF 39 2 2 37 /\ tyF 39 3 3 3 /\ tyF 39 4 4 3 := by (repeat' apply And.intro) <;> kernel_rfl
@[simp] theorem iI : tyB 40 1 24 false none /\ tyZ 40 [.nil 7] /\ tyS 40 106 false := by (repeat' apply And.intro) <;> kernel_rfl
@[simp] theorem iN : tyB 41 1 24 false none /\ tyZ 41 [.nil 2] /\ tyS 41 94 false := by (repeat' apply And.intro) <;> kernel_rfl
@[simp] theorem iK : tyB 43 12 240 true none /\ tyZ 43 [.nil 5, .nil 3, .nil 4, .d (.int .i64 0), .d (.int .i64 0), .nil 7, .nil 1, .nil 2, .nil 1, .nil 1, .d (.int .i64 0), .nil 1] /\ tyF 43 0 0 39 /\ tyF 43 1 5 40 /\ tyF 43 2 6 28 /\ tyF 43 3 7 41 /\ tyF 43 4 8 28 /\ tyF 43 5 9 28 /\ tyF 43 6 10 3 /\ tyF 43 7 11 28 := by (repeat' apply And.intro) <;> kernel_rfl
@[simp] theorem iO : tyB 46 1 24 false none /\ tyZ 46 [.nil 9] /\ tyS 46 68 false := by (repeat' apply And.intro) <;> kernel_rfl
@[simp] theorem lK : tyB 58 1 24 false none /\ tyZ 58 [.nil 1] /\ tyS 58 9 false := by (repeat' apply And.intro) <;> kernel_rfl
@[simp] theorem nI : tyB 60 3 56 true none /\ tyZ 60 [.d (.int .i64 0), .nil 1, .nil 1] /\ tyF 60 0 0 3 /\ tyF 60 1 1 58 /\ tyF 60 2 2 28 := by (repeat' apply And.intro) <;> kernel_rfl
@[simp] theorem lJ : tyB 62 9 120 true none /\ tyZ 62 [.d (.int .i64 0), .d (.int .i64 0), .d (.int .i64 0), .d (.int .i64 0), .d (.int .i64 0), .d (.int .i64 0), .nil 1, .nil 1, .nil 1] /\ tyF 62 0 0 3 /\ tyF 62 1 1 3 /\ tyF 62 2 2 3 /\ tyF 62 3 3 3 /\ tyF 62 4 4 3 /\ tyF 62 5 5 60 /\ tyF 62 6 8 28 := by (repeat' apply And.intro) <;> kernel_rfl
@[simp] theorem iB : tyB 66 3 56 true none /\ tyZ 66 [.d (.int .i64 0), .nil 1, .nil 1] /\ tyF 66 0 0 3 /\ tyF 66 1 1 58 /\ tyF 66 2 2 28 := by (repeat' apply And.intro) <;> kernel_rfl
@[simp] theorem iD : tyB 68 9 120 true none /\ tyZ 68 [.d (.int .i64 0), .d (.int .i64 0), .d (.int .i64 0), .d (.int .i64 0), .d (.int .i64 0), .d (.int .i64 0), .nil 1, .nil 1, .nil 1] /\ tyF 68 0 0 3 /\ tyF 68 1 1 3 /\ tyF 68 2 2 3 /\ tyF 68 3 3 3 /\ tyF 68 4 4 3 /\ tyF 68 5 5 66 /\ tyF 68 6 8 28 := by (repeat' apply And.intro) <;> kernel_rfl
@[simp] theorem lW : tyB 87 1 24 false none /\ tyZ 87 [.nil 16] /\ tyS 87 206 false := by (repeat' apply And.intro) <;> kernel_rfl
@[simp] theorem lD : tyB 89 2 32 true none /\ tyZ 89 [.d (.int .i64 0), .nil 16] /\ tyF 89 0 0 3 /\ tyF 89 1 1 87 := by (repeat' apply And.intro) <;> kernel_rfl
@[simp] theorem l8 : tyB 92 1 24 false none /\ tyZ 92 [.nil 16] /\ tyS 92 130 false := by (repeat' apply And.intro) <;> kernel_rfl
@[simp] theorem iC : tyB 94 2 32 true none /\ tyZ 94 [.d (.int .i64 0), .nil 16] /\ tyF 94 0 0 3 /\ tyF 94 1 1 92 := by (repeat' apply And.intro) <;> kernel_rfl
@[simp] theorem lZ : tyB 106 7 56 true none /\ tyZ 106 [.d (.int .i64 0), .d (.int .i64 0), .d (.int .i64 0), .d (.int .i64 0), .d (.int .i64 0), .d (.int .i64 0), .d (.int .i64 0)] /\ tyF 106 0 0 3 /\ tyF 106 1 1 3 /\ tyF 106 2 2 3 /\ tyF 106 3 3 3 /\ tyF 106 4 4 3 /\ tyF 106 5 5 3 /\ tyF 106 6 6 3 /\ TQ prog 106 = true /\ zb prog 106 = [3, 3, 3, 3, 3, 3, 3] := by (repeat' apply And.intro) <;> kernel_rfl
@[simp] theorem ny : tyB 108 7 56 true none /\ tyZ 108 [.d (.int .i64 0), .d (.int .i64 0), .d (.int .i64 0), .d (.int .i64 0), .d (.int .i64 0), .d (.int .i64 0), .d (.int .i64 0)] /\ tyF 108 0 0 3 /\ tyF 108 1 1 3 /\ tyF 108 2 2 3 /\ tyF 108 3 3 3 /\ tyF 108 4 4 3 /\ tyF 108 5 5 3 /\ tyF 108 6 6 3 /\ TQ prog 108 = true /\ zb prog 108 = [3, 3, 3, 3, 3, 3, 3] := by (repeat' apply And.intro) <;> kernel_rfl
@[simp] theorem lj : tyB 124 9 72 true none /\ tyZ 124 [.d (.int .i64 0), .d (.int .i64 0), .d (.int .i64 0), .d (.int .i64 0), .d (.int .i64 0), .d (.int .i64 0), .d (.int .i64 0), .d (.int .i64 0), .d (.int .i64 0)] /\ tyF 124 0 0 3 /\ tyF 124 1 1 3 /\ tyF 124 2 2 3 /\ tyF 124 3 3 3 /\ tyF 124 4 4 3 /\ tyF 124 5 5 3 /\ tyF 124 6 6 3 /\ tyF 124 7 7 3 /\ tyF 124 8 8 3 /\ TQ prog 124 = true /\ zb prog 124 = [3, 3, 3, 3, 3, 3, 3, 3, 3] := by (repeat' apply And.intro) <;> kernel_rfl
@[simp] theorem l3 : tyB 125 1 24 false none /\ tyZ 125 [.nil 3] /\ tyS 125 145 false := by (repeat' apply And.intro) <;> kernel_rfl
@[simp] theorem ld : tyB 126 1 24 false none /\ tyZ 126 [.nil 5] /\ tyS 126 171 false := by (repeat' apply And.intro) <;> kernel_rfl
@[simp] theorem lg : tyB 128 2 48 true none /\ tyZ 128 [.nil 3, .nil 5] /\ tyF 128 0 0 125 /\ tyF 128 1 1 126 := by (repeat' apply And.intro) <;> kernel_rfl
@[simp] theorem ln : tyB 130 16 192 true none /\ tyZ 130 [.d (.int .i64 0), .d (.int .i64 0), .d (.int .i64 0), .nil 1, .nil 1, .d (.int .i64 0), .d (.int .i64 0), .d (.int .i64 0), .d (.int .i64 0), .d (.int .i64 0), .d (.int .i64 0), .d (.int .i64 0), .d (.int .i64 0), .d (.int .i64 0), .nil 3, .nil 5] /\ tyF 130 0 0 3 /\ tyF 130 1 1 3 /\ tyF 130 2 2 66 /\ tyF 130 3 5 124 /\ tyF 130 4 14 128 := by (repeat' apply And.intro) <;> kernel_rfl
@[simp] theorem lu : tyB 135 5 40 true none /\ tyZ 135 [.d (.int .i64 0), .d (.int .i64 0), .d (.int .i64 0), .d (.int .i64 0), .d (.int .i64 0)] /\ tyF 135 0 0 3 /\ tyF 135 1 1 3 /\ tyF 135 2 2 3 /\ tyF 135 3 3 3 /\ tyF 135 4 4 3 /\ TQ prog 135 = true /\ zb prog 135 = [3, 3, 3, 3, 3] := by (repeat' apply And.intro) <;> kernel_rfl
@[simp] theorem l4 : tyB 145 3 40 true none /\ tyZ 145 [.d (.int .i64 0), .nil 1, .d (.int .i64 0)] /\ tyF 145 0 0 3 /\ tyF 145 1 1 28 /\ tyF 145 2 2 3 := by (repeat' apply And.intro) <;> kernel_rfl
@[simp] theorem la : tyB 147 5 40 true none /\ tyZ 147 [.d (.int .i64 0), .d (.int .i64 0), .d (.int .i64 0), .d (.int .i64 0), .d (.int .i64 0)] /\ tyF 147 0 0 3 /\ tyF 147 1 1 3 /\ tyF 147 2 2 3 /\ tyF 147 3 3 3 /\ tyF 147 4 4 3 /\ TQ prog 147 = true /\ zb prog 147 = [3, 3, 3, 3, 3] := by (repeat' apply And.intro) <;> kernel_rfl
@[simp] theorem lf : tyB 154 1 24 false none /\ tyZ 154 [.nil 5] /\ tyS 154 158 false := by (repeat' apply And.intro) <;> kernel_rfl
@[simp] theorem lh : tyB 158 5 40 true none /\ tyZ 158 [.d (.int .i64 0), .d (.int .i64 0), .d (.int .i64 0), .d (.int .i64 0), .d (.int .i64 0)] /\ tyF 158 0 0 3 /\ tyF 158 1 1 3 /\ tyF 158 2 2 3 /\ tyF 158 3 3 3 /\ tyF 158 4 4 3 /\ TQ prog 158 = true /\ zb prog 158 = [3, 3, 3, 3, 3] := by (repeat' apply And.intro) <;> kernel_rfl
@[simp] theorem lp : tyB 169 1 24 false none /\ tyZ 169 [.nil 2] /\ tyS 169 253 false := by (repeat' apply And.intro) <;> kernel_rfl
@[simp] theorem lz : tyB 171 5 72 true none /\ tyZ 171 [.d (.int .i64 0), .d (.int .i64 0), .d (.int .i64 0), .nil 2, .nil 5] /\ tyF 171 0 0 3 /\ tyF 171 1 1 3 /\ tyF 171 2 2 3 /\ tyF 171 3 3 169 /\ tyF 171 4 4 154 := by (repeat' apply And.intro) <;> kernel_rfl
@[simp] theorem mK : tyB 175 5 40 true none /\ tyZ 175 [.d (.int .i64 0), .d (.int .i64 0), .d (.int .i64 0), .d (.int .i64 0), .d (.int .i64 0)] /\ tyF 175 0 0 3 /\ tyF 175 1 1 3 /\ tyF 175 2 2 3 /\ tyF 175 3 3 3 /\ tyF 175 4 4 3 /\ TQ prog 175 = true /\ zb prog 175 = [3, 3, 3, 3, 3] := by (repeat' apply And.intro) <;> kernel_rfl
@[simp] theorem lr : tyB 177 3 24 true none /\ tyZ 177 [.d (.int .i64 0), .d (.int .i64 0), .d (.int .i64 0)] /\ tyF 177 0 0 3 /\ tyF 177 1 1 3 /\ tyF 177 2 2 3 /\ TQ prog 177 = true /\ zb prog 177 = [3, 3, 3] := by (repeat' apply And.intro) <;> kernel_rfl
@[simp] theorem mB : tyB 179 3 24 true none /\ tyZ 179 [.d (.int .i64 0), .d (.int .i64 0), .d (.int .i64 0)] /\ tyF 179 0 0 3 /\ tyF 179 1 1 3 /\ tyF 179 2 2 3 /\ TQ prog 179 = true /\ zb prog 179 = [3, 3, 3] := by (repeat' apply And.intro) <;> kernel_rfl
@[simp] theorem l6 : tyB 181 4 32 true none /\ tyZ 181 [.d (.int .i64 0), .d (.int .i64 0), .d (.int .i64 0), .d (.int .i64 0)] /\ tyF 181 0 0 3 /\ tyF 181 1 1 3 /\ tyF 181 2 2 3 /\ tyF 181 3 3 3 /\ TQ prog 181 = true /\ zb prog 181 = [3, 3, 3, 3] := by (repeat' apply And.intro) <;> kernel_rfl
@[simp] theorem mZ : tyB 183 4 32 true none /\ tyZ 183 [.d (.int .i64 0), .d (.int .i64 0), .d (.int .i64 0), .d (.int .i64 0)] /\ tyF 183 0 0 3 /\ tyF 183 1 1 3 /\ tyF 183 2 2 3 /\ tyF 183 3 3 3 /\ TQ prog 183 = true /\ zb prog 183 = [3, 3, 3, 3] := by (repeat' apply And.intro) <;> kernel_rfl
@[simp] theorem lv : tyB 198 1 24 false none /\ tyZ 198 [.nil 1] /\ tyS 198 5 true := by (repeat' apply And.intro) <;> kernel_rfl
@[simp] theorem oN : tyB 200 9 72 true none /\ tyZ 200 [.d (.int .i64 0), .d (.int .i64 0), .d (.int .i64 0), .d (.int .i64 0), .d (.int .i64 0), .d (.int .i64 0), .d (.int .i64 0), .d (.int .i64 0), .d (.int .i64 0)] /\ tyF 200 0 0 3 /\ tyF 200 1 1 3 /\ tyF 200 2 2 3 /\ tyF 200 3 3 3 /\ tyF 200 4 4 3 /\ tyF 200 5 5 3 /\ tyF 200 6 6 3 /\ tyF 200 7 7 3 /\ tyF 200 8 8 3 /\ TQ prog 200 = true /\ zb prog 200 = [3, 3, 3, 3, 3, 3, 3, 3, 3] := by (repeat' apply And.intro) <;> kernel_rfl
@[simp] theorem nq : tyB 201 1 24 false none /\ tyZ 201 [.nil 3] /\ tyS 201 277 false := by (repeat' apply And.intro) <;> kernel_rfl
@[simp] theorem mF : tyB 202 1 24 false none /\ tyZ 202 [.nil 5] /\ tyS 202 282 false := by (repeat' apply And.intro) <;> kernel_rfl
@[simp] theorem oO : tyB 204 2 48 true none /\ tyZ 204 [.nil 3, .nil 5] /\ tyF 204 0 0 201 /\ tyF 204 1 1 202 := by (repeat' apply And.intro) <;> kernel_rfl
@[simp] theorem mf : tyB 206 16 192 true none /\ tyZ 206 [.d (.int .i64 0), .d (.int .i64 0), .d (.int .i64 0), .nil 1, .nil 1, .d (.int .i64 0), .d (.int .i64 0), .d (.int .i64 0), .d (.int .i64 0), .d (.int .i64 0), .d (.int .i64 0), .d (.int .i64 0), .d (.int .i64 0), .d (.int .i64 0), .nil 3, .nil 5] /\ tyF 206 0 0 3 /\ tyF 206 1 1 3 /\ tyF 206 2 2 60 /\ tyF 206 3 5 200 /\ tyF 206 4 14 204 := by (repeat' apply And.intro) <;> kernel_rfl
@[simp] theorem l5 : tyB 225 4 48 true none /\ tyZ 225 [.d (.int .i64 0), .d (.int .i64 0), .nil 16, .d (.int .i64 0)] /\ tyF 225 0 0 3 /\ tyF 225 1 1 3 /\ tyF 225 2 2 92 /\ tyF 225 3 3 3 := by (repeat' apply And.intro) <;> kernel_rfl
@[simp] theorem l7 : tyB 253 2 16 true none /\ tyZ 253 [.d (.int .i64 0), .d (.bool false)] /\ tyF 253 0 0 3 /\ tyF 253 1 1 4 /\ TQ prog 253 = true /\ zb prog 253 = [3, 4] := by (repeat' apply And.intro) <;> kernel_rfl
@[simp] theorem lk : tyB 273 5 40 true none /\ tyZ 273 [.d (.int .i64 0), .d (.int .i64 0), .d (.int .i64 0), .d (.int .i64 0), .d (.int .i64 0)] /\ AD prog 273 = some 5 /\ ZQ prog 273 = 3 /\ bOk prog 273 0 = true /\ Re prog 273 0 = 0 /\ bTy prog 273 0 = 3 /\ bOk prog 273 1 = true /\ Re prog 273 1 = 1 /\ bTy prog 273 1 = 3 /\ bOk prog 273 2 = true /\ Re prog 273 2 = 2 /\ bTy prog 273 2 = 3 /\ bOk prog 273 3 = true /\ Re prog 273 3 = 3 /\ bTy prog 273 3 = 3 /\ bOk prog 273 4 = true /\ Re prog 273 4 = 4 /\ bTy prog 273 4 = 3 := by (repeat' apply And.intro) <;> kernel_rfl
@[simp] theorem mC : tyB 277 3 40 true none /\ tyZ 277 [.d (.int .i64 0), .nil 1, .d (.int .i64 0)] /\ tyF 277 0 0 3 /\ tyF 277 1 1 28 /\ tyF 277 2 2 3 := by (repeat' apply And.intro) <;> kernel_rfl
@[simp] theorem mY : tyB 279 1 24 false none /\ tyZ 279 [.nil 2] /\ tyS 279 293 false := by (repeat' apply And.intro) <;> kernel_rfl
@[simp] theorem nw : tyB 280 1 24 false none /\ tyZ 280 [.nil 5] /\ tyS 280 295 false := by (repeat' apply And.intro) <;> kernel_rfl
@[simp] theorem mO : tyB 282 5 72 true none /\ tyZ 282 [.d (.int .i64 0), .d (.int .i64 0), .d (.int .i64 0), .nil 2, .nil 5] /\ tyF 282 0 0 3 /\ tyF 282 1 1 3 /\ tyF 282 2 2 3 /\ tyF 282 3 3 279 /\ tyF 282 4 4 280 := by (repeat' apply And.intro) <;> kernel_rfl
@[simp] theorem n7 : tyB 293 2 16 true none /\ tyZ 293 [.d (.int .i64 0), .d (.bool false)] /\ tyF 293 0 0 3 /\ tyF 293 1 1 4 /\ TQ prog 293 = true /\ zb prog 293 = [3, 4] := by (repeat' apply And.intro) <;> kernel_rfl
@[simp] theorem mb : tyB 295 5 40 true none /\ tyZ 295 [.d (.int .i64 0), .d (.int .i64 0), .d (.int .i64 0), .d (.int .i64 0), .d (.int .i64 0)] /\ tyF 295 0 0 3 /\ tyF 295 1 1 3 /\ tyF 295 2 2 3 /\ tyF 295 3 3 3 /\ tyF 295 4 4 3 /\ TQ prog 295 = true /\ zb prog 295 = [3, 3, 3, 3, 3] := by (repeat' apply And.intro) <;> kernel_rfl
@[simp] theorem lq : tyB 307 1 1 false (some .u8) /\ tyZ 307 [.d (.int .u8 0)] := by (repeat' apply And.intro) <;> kernel_rfl
@[simp] theorem l0 : tyB 317 2 16 true none /\ tyZ 317 [.d (.int .i64 0), .d (.int .i64 0)] /\ tyF 317 0 0 3 /\ tyF 317 1 1 3 /\ TQ prog 317 = true /\ zb prog 317 = [3, 3] := by (repeat' apply And.intro) <;> kernel_rfl
theorem mixed : prog.follows .mixedOrders = true := by kernel_rfl
abbrev Sa (f : Nat) := JC prog f false
abbrev So (f : Nat) := JC prog f true
abbrev Sd (f : Nat) := Yv prog f
end Go.Proofs.YtngnbcmfckmklaaGreat
