/- The facts of the plain types of the program, by evaluation. No condition. -/
import Derived.Test.YtdkobknehoecjaaGreatVe
import Derived.Test.YtdkobknehoecjaaGreatProg
namespace Go.Proofs.YtdkobknehoecjaaGreat
open Tryz
open Go.Vm
abbrev tyB (t c b : Nat) (a : Bool) (k : Option IntKind) : Prop := qU prog t = true /\ prog.cellsOf t = c /\ TQ prog t = a /\ prog.bytesOf t = b /\ (prog.underlying t).isSome = true /\ wq prog t = k
abbrev tyZ (t : Nat) (z : List At) : Prop := j5 prog 12 t = some z /\ QF prog t = true
abbrev tyF (t i o f : Nat) : Prop := jV prog t i = true /\ Qh prog t i = o /\ xv prog t i = f /\ bOk prog t i = true /\ Sl prog t i = o /\ bTy prog t i = f
abbrev tyS (t e : Nat) (b : Bool) : Prop := XK prog t = true /\ ZU prog t = e /\ Ss prog t = b /\ Uc prog t = false
@[simp] theorem ty2 : tyB 2 1 8 false (some .i64) /\ tyZ 2 [.d (.int .i64 0)] := by (repeat' apply And.intro) <;> kernel_rfl
@[simp] theorem ty3 : tyB 3 1 8 false (some .i64) /\ tyZ 3 [.d (.int .i64 0)] := by (repeat' apply And.intro) <;> kernel_rfl
@[simp] theorem ty4 : tyB 4 1 1 false none /\ tyZ 4 [.d (.bool false)] /\ M3 prog 4 = true := by (repeat' apply And.intro) <;> kernel_rfl
@[simp] theorem ty5 : tyB 5 1 1 false (some .u8) /\ tyZ 5 [.d (.int .u8 0)] := by (repeat' apply And.intro) <;> kernel_rfl
@[simp] theorem ty6 : tyB 6 1 1 false (some .u8) /\ tyZ 6 [.d (.int .u8 0)] := by (repeat' apply And.intro) <;> kernel_rfl
@[simp] theorem ty8 : tyB 8 4 24 true none /\ tyZ 8 [.d (.int .i64 0), .d (.int .i64 0), .d (.bool false), .d (.int .u8 0)] /\ tyF 8 0 0 2 /\ tyF 8 1 1 3 /\ tyF 8 2 2 4 /\ tyF 8 3 3 6 := by (repeat' apply And.intro) <;> kernel_rfl
@[simp] theorem ty9 : tyB 9 1 16 false none /\ tyZ 9 [.d (.str ⟨#[]⟩)] /\ Uc prog 9 = true := by (repeat' apply And.intro) <;> kernel_rfl
@[simp] theorem mn : tyB 10 1 16 false none /\ tyZ 10 [.d (.str ⟨#[]⟩)] /\ Uc prog 10 = true := by (repeat' apply And.intro) <;> kernel_rfl
@[simp] theorem mo : tyB 11 1 16 false none /\ tyZ 11 [.d (.str ⟨#[]⟩)] /\ Uc prog 11 = true := by (repeat' apply And.intro) <;> kernel_rfl
@[simp] theorem mi : tyB 12 1 8 false (some .u64) /\ tyZ 12 [.d (.int .u64 0)] := by (repeat' apply And.intro) <;> kernel_rfl
@[simp] theorem mg : tyB 14 2 24 true none /\ tyZ 14 [.d (.str ⟨#[]⟩), .d (.int .u64 0)] /\ tyF 14 0 0 9 /\ tyF 14 1 1 12 := by (repeat' apply And.intro) <;> kernel_rfl
@[simp] theorem mD : tyB 22 1 24 false none /\ tyZ 22 [.nil 5] /\ tyS 22 216 false := by (repeat' apply And.intro) <;> kernel_rfl
@[simp] theorem nu : tyB 23 1 24 false none /\ tyZ 23 [.nil 3] /\ tyS 23 218 false := by (repeat' apply And.intro) <;> kernel_rfl
@[simp] theorem nt : tyB 24 1 24 false none /\ tyZ 24 [.nil 4] /\ tyS 24 220 false := by (repeat' apply And.intro) <;> kernel_rfl
@[simp] theorem oc : tyB 26 5 88 true none /\ tyZ 26 [.nil 5, .nil 3, .nil 4, .d (.int .i64 0), .d (.int .i64 0)] /\ tyF 26 0 0 22 /\ tyF 26 1 1 23 /\ tyF 26 2 2 24 /\ tyF 26 3 3 3 /\ tyF 26 4 4 3 := by (repeat' apply And.intro) <;> kernel_rfl
@[simp] theorem mF : tyB 27 1 24 false none /\ tyZ 27 [.nil 7] /\ tyS 27 166 false := by (repeat' apply And.intro) <;> kernel_rfl
@[simp] theorem rf : tyB 28 1 24 false none /\ tyZ 28 [.nil 1] /\ tyS 28 3 false := by (repeat' apply And.intro) <;> kernel_rfl
@[simp] theorem np : tyB 29 1 24 false none /\ tyZ 29 [.nil 2] /\ tyS 29 101 false := by (repeat' apply And.intro) <;> kernel_rfl
@[simp] theorem nx : tyB 31 12 240 true none /\ tyZ 31 [.nil 5, .nil 3, .nil 4, .d (.int .i64 0), .d (.int .i64 0), .nil 7, .nil 1, .nil 2, .nil 1, .nil 1, .d (.int .i64 0), .nil 1] /\ tyF 31 0 0 26 /\ tyF 31 1 5 27 /\ tyF 31 2 6 28 /\ tyF 31 3 7 29 /\ tyF 31 4 8 28 /\ tyF 31 5 9 28 /\ tyF 31 6 10 3 /\ tyF 31 7 11 28 := by (repeat' apply And.intro) <;> kernel_rfl
@[simp] theorem nw : tyB 32 1 24 false none /\ tyZ 32 [.nil 1] /\ tyS 32 9 false := by (repeat' apply And.intro) <;> kernel_rfl
@[simp] theorem oD : tyB 34 3 56 true none /\ tyZ 34 [.d (.int .i64 0), .nil 1, .nil 1] /\ tyF 34 0 0 3 /\ tyF 34 1 1 32 /\ tyF 34 2 2 28 := by (repeat' apply And.intro) <;> kernel_rfl
@[simp] theorem mA : tyB 36 9 120 true none /\ tyZ 36 [.d (.int .i64 0), .d (.int .i64 0), .d (.int .i64 0), .d (.int .i64 0), .d (.int .i64 0), .d (.int .i64 0), .nil 1, .nil 1, .nil 1] /\ tyF 36 0 0 3 /\ tyF 36 1 1 3 /\ tyF 36 2 2 3 /\ tyF 36 3 3 3 /\ tyF 36 4 4 3 /\ tyF 36 5 5 34 /\ tyF 36 6 8 28 := by (repeat' apply And.intro) <;> kernel_rfl
@[simp] theorem mq : tyB 39 1 24 false none /\ tyZ 39 [.nil 5] /\ tyS 39 106 false := by (repeat' apply And.intro) <;> kernel_rfl
@[simp] theorem mr : tyB 40 1 24 false none /\ tyZ 40 [.nil 3] /\ tyS 40 174 false := by (repeat' apply And.intro) <;> kernel_rfl
@[simp] theorem mz : tyB 41 1 24 false none /\ tyZ 41 [.nil 4] /\ tyS 41 199 false := by (repeat' apply And.intro) <;> kernel_rfl
@[simp] theorem mh : tyB 43 5 88 true none /\ tyZ 43 [.nil 5, .nil 3, .nil 4, .d (.int .i64 0), .d (.int .i64 0)] /\ tyF 43 0 0 39 /\ tyF 43 1 1 40 /\ tyF 43 2 2 41 /\ tyF 43 3 3 3 /\ tyF 43 4 4 3 := by (repeat' apply And.intro) <;> kernel_rfl
@[simp] theorem mu : tyB 44 1 24 false none /\ tyZ 44 [.nil 7] /\ tyS 44 125 false := by (repeat' apply And.intro) <;> kernel_rfl
@[simp] theorem mj : tyB 45 1 24 false none /\ tyZ 45 [.nil 2] /\ tyS 45 119 false := by (repeat' apply And.intro) <;> kernel_rfl
@[simp] theorem mv : tyB 47 12 240 true none /\ tyZ 47 [.nil 5, .nil 3, .nil 4, .d (.int .i64 0), .d (.int .i64 0), .nil 7, .nil 1, .nil 2, .nil 1, .nil 1, .d (.int .i64 0), .nil 1] /\ tyF 47 0 0 43 /\ tyF 47 1 5 44 /\ tyF 47 2 6 28 /\ tyF 47 3 7 45 /\ tyF 47 4 8 28 /\ tyF 47 5 9 28 /\ tyF 47 6 10 3 /\ tyF 47 7 11 28 := by (repeat' apply And.intro) <;> kernel_rfl
@[simp] theorem m7 : tyB 51 3 56 true none /\ tyZ 51 [.d (.int .i64 0), .nil 1, .nil 1] /\ tyF 51 0 0 3 /\ tyF 51 1 1 32 /\ tyF 51 2 2 28 := by (repeat' apply And.intro) <;> kernel_rfl
@[simp] theorem mm : tyB 53 9 120 true none /\ tyZ 53 [.d (.int .i64 0), .d (.int .i64 0), .d (.int .i64 0), .d (.int .i64 0), .d (.int .i64 0), .d (.int .i64 0), .nil 1, .nil 1, .nil 1] /\ tyF 53 0 0 3 /\ tyF 53 1 1 3 /\ tyF 53 2 2 3 /\ tyF 53 3 3 3 /\ tyF 53 4 4 3 /\ tyF 53 5 5 51 /\ tyF 53 6 8 28 := by (repeat' apply And.intro) <;> kernel_rfl
@[simp] theorem mw : tyB 60 1 24 false none /\ tyZ 60 [.nil 9] /\ tyS 60 36 false := by (repeat' apply And.intro) <;> kernel_rfl
@[simp] theorem m9 : tyB 63 1 24 false none /\ tyZ 63 [.nil 9] /\ tyS 63 53 false := by (repeat' apply And.intro) <;> kernel_rfl
@[simp] theorem nn : tyB 99 1 24 false none /\ tyZ 99 [.nil 16] /\ tyS 99 240 false := by (repeat' apply And.intro) <;> kernel_rfl
@[simp] theorem oX : tyB 101 2 32 true none /\ tyZ 101 [.d (.int .i64 0), .nil 16] /\ tyF 101 0 0 3 /\ tyF 101 1 1 99 := by (repeat' apply And.intro) <;> kernel_rfl
@[simp] theorem mb : tyB 106 5 40 true none /\ tyZ 106 [.d (.int .i64 0), .d (.int .i64 0), .d (.int .i64 0), .d (.int .i64 0), .d (.int .i64 0)] /\ tyF 106 0 0 3 /\ tyF 106 1 1 3 /\ tyF 106 2 2 3 /\ tyF 106 3 3 3 /\ tyF 106 4 4 3 /\ Uj prog 106 = true /\ K7 prog 106 = [3, 3, 3, 3, 3] := by (repeat' apply And.intro) <;> kernel_rfl
@[simp] theorem mL : tyB 108 9 72 true none /\ tyZ 108 [.d (.int .i64 0), .d (.int .i64 0), .d (.int .i64 0), .d (.int .i64 0), .d (.int .i64 0), .d (.int .i64 0), .d (.int .i64 0), .d (.int .i64 0), .d (.int .i64 0)] /\ tyF 108 0 0 3 /\ tyF 108 1 1 3 /\ tyF 108 2 2 3 /\ tyF 108 3 3 3 /\ tyF 108 4 4 3 /\ tyF 108 5 5 3 /\ tyF 108 6 6 3 /\ tyF 108 7 7 3 /\ tyF 108 8 8 3 /\ Uj prog 108 = true /\ K7 prog 108 = [3, 3, 3, 3, 3, 3, 3, 3, 3] := by (repeat' apply And.intro) <;> kernel_rfl
@[simp] theorem mc : tyB 109 1 24 false none /\ tyZ 109 [.nil 3] /\ tyS 109 129 false := by (repeat' apply And.intro) <;> kernel_rfl
@[simp] theorem mO : tyB 110 1 24 false none /\ tyZ 110 [.nil 5] /\ tyS 110 157 false := by (repeat' apply And.intro) <;> kernel_rfl
@[simp] theorem mJ : tyB 112 2 48 true none /\ tyZ 112 [.nil 3, .nil 5] /\ tyF 112 0 0 109 /\ tyF 112 1 1 110 := by (repeat' apply And.intro) <;> kernel_rfl
@[simp] theorem mM : tyB 114 16 192 true none /\ tyZ 114 [.d (.int .i64 0), .d (.int .i64 0), .d (.int .i64 0), .nil 1, .nil 1, .d (.int .i64 0), .d (.int .i64 0), .d (.int .i64 0), .d (.int .i64 0), .d (.int .i64 0), .d (.int .i64 0), .d (.int .i64 0), .d (.int .i64 0), .d (.int .i64 0), .nil 3, .nil 5] /\ tyF 114 0 0 3 /\ tyF 114 1 1 3 /\ tyF 114 2 2 51 /\ tyF 114 3 5 108 /\ tyF 114 4 14 112 := by (repeat' apply And.intro) <;> kernel_rfl
@[simp] theorem mR : tyB 117 1 24 false none /\ tyZ 117 [.nil 16] /\ tyS 117 114 false := by (repeat' apply And.intro) <;> kernel_rfl
@[simp] theorem mI : tyB 119 2 32 true none /\ tyZ 119 [.d (.int .i64 0), .nil 16] /\ tyF 119 0 0 3 /\ tyF 119 1 1 117 := by (repeat' apply And.intro) <;> kernel_rfl
@[simp] theorem mK : tyB 125 7 56 true none /\ tyZ 125 [.d (.int .i64 0), .d (.int .i64 0), .d (.int .i64 0), .d (.int .i64 0), .d (.int .i64 0), .d (.int .i64 0), .d (.int .i64 0)] /\ tyF 125 0 0 3 /\ tyF 125 1 1 3 /\ tyF 125 2 2 3 /\ tyF 125 3 3 3 /\ tyF 125 4 4 3 /\ tyF 125 5 5 3 /\ tyF 125 6 6 3 /\ Uj prog 125 = true /\ K7 prog 125 = [3, 3, 3, 3, 3, 3, 3] := by (repeat' apply And.intro) <;> kernel_rfl
@[simp] theorem mS : tyB 129 3 40 true none /\ tyZ 129 [.d (.int .i64 0), .nil 1, .d (.int .i64 0)] /\ tyF 129 0 0 3 /\ tyF 129 1 1 28 /\ tyF 129 2 2 3 := by (repeat' apply And.intro) <;> kernel_rfl
@[simp] theorem mN : tyB 131 5 40 true none /\ tyZ 131 [.d (.int .i64 0), .d (.int .i64 0), .d (.int .i64 0), .d (.int .i64 0), .d (.int .i64 0)] /\ tyF 131 0 0 3 /\ tyF 131 1 1 3 /\ tyF 131 2 2 3 /\ tyF 131 3 3 3 /\ tyF 131 4 4 3 /\ Uj prog 131 = true /\ K7 prog 131 = [3, 3, 3, 3, 3] := by (repeat' apply And.intro) <;> kernel_rfl
@[simp] theorem mH : tyB 139 1 24 false none /\ tyZ 139 [.nil 5] /\ tyS 139 144 false := by (repeat' apply And.intro) <;> kernel_rfl
@[simp] theorem mV : tyB 144 5 40 true none /\ tyZ 144 [.d (.int .i64 0), .d (.int .i64 0), .d (.int .i64 0), .d (.int .i64 0), .d (.int .i64 0)] /\ tyF 144 0 0 3 /\ tyF 144 1 1 3 /\ tyF 144 2 2 3 /\ tyF 144 3 3 3 /\ tyF 144 4 4 3 /\ Uj prog 144 = true /\ K7 prog 144 = [3, 3, 3, 3, 3] := by (repeat' apply And.intro) <;> kernel_rfl
@[simp] theorem mX : tyB 155 1 24 false none /\ tyZ 155 [.nil 2] /\ tyS 155 250 false := by (repeat' apply And.intro) <;> kernel_rfl
@[simp] theorem ma : tyB 157 5 72 true none /\ tyZ 157 [.d (.int .i64 0), .d (.int .i64 0), .d (.int .i64 0), .nil 2, .nil 5] /\ tyF 157 0 0 3 /\ tyF 157 1 1 3 /\ tyF 157 2 2 3 /\ tyF 157 3 3 155 /\ tyF 157 4 4 139 := by (repeat' apply And.intro) <;> kernel_rfl
@[simp] theorem nA : tyB 166 7 56 true none /\ tyZ 166 [.d (.int .i64 0), .d (.int .i64 0), .d (.int .i64 0), .d (.int .i64 0), .d (.int .i64 0), .d (.int .i64 0), .d (.int .i64 0)] /\ tyF 166 0 0 3 /\ tyF 166 1 1 3 /\ tyF 166 2 2 3 /\ tyF 166 3 3 3 /\ tyF 166 4 4 3 /\ tyF 166 5 5 3 /\ tyF 166 6 6 3 /\ Uj prog 166 = true /\ K7 prog 166 = [3, 3, 3, 3, 3, 3, 3] := by (repeat' apply And.intro) <;> kernel_rfl
@[simp] theorem mY : tyB 174 3 24 true none /\ tyZ 174 [.d (.int .i64 0), .d (.int .i64 0), .d (.int .i64 0)] /\ tyF 174 0 0 3 /\ tyF 174 1 1 3 /\ tyF 174 2 2 3 /\ Uj prog 174 = true /\ K7 prog 174 = [3, 3, 3] := by (repeat' apply And.intro) <;> kernel_rfl
@[simp] theorem mT : tyB 199 4 32 true none /\ tyZ 199 [.d (.int .i64 0), .d (.int .i64 0), .d (.int .i64 0), .d (.int .i64 0)] /\ tyF 199 0 0 3 /\ tyF 199 1 1 3 /\ tyF 199 2 2 3 /\ tyF 199 3 3 3 /\ Uj prog 199 = true /\ K7 prog 199 = [3, 3, 3, 3] := by (repeat' apply And.intro) <;> kernel_rfl
@[simp] theorem mW : tyB 205 4 48 true none /\ tyZ 205 [.d (.int .i64 0), .d (.int .i64 0), .nil 16, .d (.int .i64 0)] /\ tyF 205 0 0 3 /\ tyF 205 1 1 3 /\ tyF 205 2 2 117 /\ tyF 205 3 3 3 := by (repeat' apply And.intro) <;> kernel_rfl
@[simp] theorem nP : tyB 216 5 40 true none /\ tyZ 216 [.d (.int .i64 0), .d (.int .i64 0), .d (.int .i64 0), .d (.int .i64 0), .d (.int .i64 0)] /\ tyF 216 0 0 3 /\ tyF 216 1 1 3 /\ tyF 216 2 2 3 /\ tyF 216 3 3 3 /\ tyF 216 4 4 3 /\ Uj prog 216 = true /\ K7 prog 216 = [3, 3, 3, 3, 3] := by (repeat' apply And.intro) <;> kernel_rfl
@[simp] theorem nZ : tyB 218 3 24 true none /\ tyZ 218 [.d (.int .i64 0), .d (.int .i64 0), .d (.int .i64 0)] /\ tyF 218 0 0 3 /\ tyF 218 1 1 3 /\ tyF 218 2 2 3 /\ Uj prog 218 = true /\ K7 prog 218 = [3, 3, 3] := by (repeat' apply And.intro) <;> kernel_rfl
@[simp] theorem oo : tyB 220 4 32 true none /\ tyZ 220 [.d (.int .i64 0), .d (.int .i64 0), .d (.int .i64 0), .d (.int .i64 0)] /\ tyF 220 0 0 3 /\ tyF 220 1 1 3 /\ tyF 220 2 2 3 /\ tyF 220 3 3 3 /\ Uj prog 220 = true /\ K7 prog 220 = [3, 3, 3, 3] := by (repeat' apply And.intro) <;> kernel_rfl
@[simp] theorem mf : tyB 232 1 24 false none /\ tyZ 232 [.nil 1] /\ tyS 232 5 true := by (repeat' apply And.intro) <;> kernel_rfl
@[simp] theorem pS : tyB 234 9 72 true none /\ tyZ 234 [.d (.int .i64 0), .d (.int .i64 0), .d (.int .i64 0), .d (.int .i64 0), .d (.int .i64 0), .d (.int .i64 0), .d (.int .i64 0), .d (.int .i64 0), .d (.int .i64 0)] /\ tyF 234 0 0 3 /\ tyF 234 1 1 3 /\ tyF 234 2 2 3 /\ tyF 234 3 3 3 /\ tyF 234 4 4 3 /\ tyF 234 5 5 3 /\ tyF 234 6 6 3 /\ tyF 234 7 7 3 /\ tyF 234 8 8 3 /\ Uj prog 234 = true /\ K7 prog 234 = [3, 3, 3, 3, 3, 3, 3, 3, 3] := by (repeat' apply And.intro) <;> kernel_rfl
@[simp] theorem nX : tyB 235 1 24 false none /\ tyZ 235 [.nil 3] /\ tyS 235 280 false := by (repeat' apply And.intro) <;> kernel_rfl
@[simp] theorem nB : tyB 236 1 24 false none /\ tyZ 236 [.nil 5] /\ tyS 236 285 false := by (repeat' apply And.intro) <;> kernel_rfl
@[simp] theorem pG : tyB 238 2 48 true none /\ tyZ 238 [.nil 3, .nil 5] /\ tyF 238 0 0 235 /\ tyF 238 1 1 236 := by (repeat' apply And.intro) <;> kernel_rfl
@[simp] theorem ov : tyB 240 16 192 true none /\ tyZ 240 [.d (.int .i64 0), .d (.int .i64 0), .d (.int .i64 0), .nil 1, .nil 1, .d (.int .i64 0), .d (.int .i64 0), .d (.int .i64 0), .d (.int .i64 0), .d (.int .i64 0), .d (.int .i64 0), .d (.int .i64 0), .d (.int .i64 0), .d (.int .i64 0), .nil 3, .nil 5] /\ tyF 240 0 0 3 /\ tyF 240 1 1 3 /\ tyF 240 2 2 34 /\ tyF 240 3 5 234 /\ tyF 240 4 14 238 := by (repeat' apply And.intro) <;> kernel_rfl
@[simp] theorem mP : tyB 250 2 16 true none /\ tyZ 250 [.d (.int .i64 0), .d (.bool false)] /\ tyF 250 0 0 3 /\ tyF 250 1 1 4 /\ Uj prog 250 = true /\ K7 prog 250 = [3, 4] := by (repeat' apply And.intro) <;> kernel_rfl
@[simp] theorem mG : tyB 270 5 40 true none /\ tyZ 270 [.d (.int .i64 0), .d (.int .i64 0), .d (.int .i64 0), .d (.int .i64 0), .d (.int .i64 0)] /\ CD prog 270 = some 5 /\ ZU prog 270 = 3 /\ bOk prog 270 0 = true /\ Sl prog 270 0 = 0 /\ bTy prog 270 0 = 3 /\ bOk prog 270 1 = true /\ Sl prog 270 1 = 1 /\ bTy prog 270 1 = 3 /\ bOk prog 270 2 = true /\ Sl prog 270 2 = 2 /\ bTy prog 270 2 = 3 /\ bOk prog 270 3 = true /\ Sl prog 270 3 = 3 /\ bTy prog 270 3 = 3 /\ bOk prog 270 4 = true /\ Sl prog 270 4 = 4 /\ bTy prog 270 4 = 3 := by (repeat' apply And.intro) <;> kernel_rfl
@[simp] theorem nN : tyB 280 3 40 true none /\ tyZ 280 [.d (.int .i64 0), .nil 1, .d (.int .i64 0)] /\ tyF 280 0 0 3 /\ tyF 280 1 1 28 /\ tyF 280 2 2 3 := by (repeat' apply And.intro) <;> kernel_rfl
@[simp] theorem nI : tyB 282 1 24 false none /\ tyZ 282 [.nil 2] /\ tyS 282 296 false := by (repeat' apply And.intro) <;> kernel_rfl
@[simp] theorem ox : tyB 283 1 24 false none /\ tyZ 283 [.nil 5] /\ tyS 283 298 false := by (repeat' apply And.intro) <;> kernel_rfl
@[simp] theorem oY : tyB 285 5 72 true none /\ tyZ 285 [.d (.int .i64 0), .d (.int .i64 0), .d (.int .i64 0), .nil 2, .nil 5] /\ tyF 285 0 0 3 /\ tyF 285 1 1 3 /\ tyF 285 2 2 3 /\ tyF 285 3 3 282 /\ tyF 285 4 4 283 := by (repeat' apply And.intro) <;> kernel_rfl
@[simp] theorem nK : tyB 296 2 16 true none /\ tyZ 296 [.d (.int .i64 0), .d (.bool false)] /\ tyF 296 0 0 3 /\ tyF 296 1 1 4 /\ Uj prog 296 = true /\ K7 prog 296 = [3, 4] := by (repeat' apply And.intro) <;> kernel_rfl
@[simp] theorem nC : tyB 298 5 40 true none /\ tyZ 298 [.d (.int .i64 0), .d (.int .i64 0), .d (.int .i64 0), .d (.int .i64 0), .d (.int .i64 0)] /\ tyF 298 0 0 3 /\ tyF 298 1 1 3 /\ tyF 298 2 2 3 /\ tyF 298 3 3 3 /\ tyF 298 4 4 3 /\ Uj prog 298 = true /\ K7 prog 298 = [3, 3, 3, 3, 3] := by (repeat' apply And.intro) <;> kernel_rfl
@[simp] theorem mU : tyB 310 1 1 false (some .u8) /\ tyZ 310 [.d (.int .u8 0)] := by (repeat' apply And.intro) <;> kernel_rfl
@[simp] theorem mZ : tyB 320 2 16 true none /\ tyZ 320 [.d (.int .i64 0), .d (.int .i64 0)] /\ tyF 320 0 0 3 /\ tyF 320 1 1 3 /\ Uj prog 320 = true /\ K7 prog 320 = [3, 3] := by (repeat' apply And.intro) <;> kernel_rfl
theorem mixed : prog.follows .mixedOrders = true := by kernel_rfl
abbrev Sa (f : Nat) := Qz prog f false
abbrev So (f : Nat) := Qz prog f true
abbrev Sd (f : Nat) := Yv prog f
end Go.Proofs.YtdkobknehoecjaaGreat
