/- The facts of the plain types of the program, by evaluation. No condition. -/
import Derived.Test.YtlilcnnajeeigaaGreatVe
import Derived.Test.YtlilcnnajeeigaaGreatProg
namespace Go.Proofs.YtlilcnnajeeigaaGreat
open Tryz
open Go.Vm
abbrev tyB (t c b : Nat) (a : Bool) (k : Option IntKind) : Prop := ym prog t = true /\ prog.cellsOf t = c /\ kO prog t = a /\ prog.bytesOf t = b /\ (prog.underlying t).isSome = true /\ I8 prog t = k
abbrev tyZ (t : Nat) (z : List At) : Prop := xG prog 12 t = some z /\ XH prog t = true
abbrev tyF (t i o f : Nat) : Prop := yK prog t i = true /\ XK prog t i = o /\ Kb prog t i = f /\ bOk prog t i = true /\ K6 prog t i = o /\ bTy prog t i = f
abbrev tyS (t e : Nat) (b : Bool) : Prop := Ya prog t = true /\ ZD prog t = e /\ VY prog t = b /\ j7 prog t = false
@[simp] theorem ty2 : tyB 2 1 8 false (some .i64) /\ tyZ 2 [.d (.int .i64 0)] := by (repeat' apply And.intro) <;> kernel_rfl
@[simp] theorem ty3 : tyB 3 1 8 false (some .i64) /\ tyZ 3 [.d (.int .i64 0)] := by (repeat' apply And.intro) <;> kernel_rfl
@[simp] theorem ty4 : tyB 4 1 1 false none /\ tyZ 4 [.d (.bool false)] /\ S3 prog 4 = true := by (repeat' apply And.intro) <;> kernel_rfl
@[simp] theorem ty5 : tyB 5 1 1 false (some .u8) /\ tyZ 5 [.d (.int .u8 0)] := by (repeat' apply And.intro) <;> kernel_rfl
@[simp] theorem ty6 : tyB 6 1 1 false (some .u8) /\ tyZ 6 [.d (.int .u8 0)] := by (repeat' apply And.intro) <;> kernel_rfl
@[simp] theorem ty8 : tyB 8 4 24 true none /\ tyZ 8 [.d (.int .i64 0), .d (.int .i64 0), .d (.bool false), .d (.int .u8 0)] /\ tyF 8 0 0 2 /\ tyF 8 1 1 3 /\ tyF 8 2 2 4 /\ tyF 8 3 3 6 := by (repeat' apply And.intro) <;> kernel_rfl
@[simp] theorem ty9 : tyB 9 1 16 false none /\ tyZ 9 [.d (.str ⟨#[]⟩)] /\ j7 prog 9 = true := by (repeat' apply And.intro) <;> kernel_rfl
@[simp] theorem CO : tyB 10 1 16 false none /\ tyZ 10 [.d (.str ⟨#[]⟩)] /\ j7 prog 10 = true := by (repeat' apply And.intro) <;> kernel_rfl
@[simp] theorem CN : tyB 11 1 16 false none /\ tyZ 11 [.d (.str ⟨#[]⟩)] /\ j7 prog 11 = true := by (repeat' apply And.intro) <;> kernel_rfl
@[simp] theorem CG : tyB 12 1 8 false (some .u64) /\ tyZ 12 [.d (.int .u64 0)] := by (repeat' apply And.intro) <;> kernel_rfl
@[simp] theorem CL : tyB 14 2 24 true none /\ tyZ 14 [.d (.str ⟨#[]⟩), .d (.int .u64 0)] /\ tyF 14 0 0 9 /\ tyF 14 1 1 12 := by (repeat' apply And.intro) <;> kernel_rfl
@[simp] theorem Ch : tyB 22 1 24 false none /\ tyZ 22 [.nil 1] /\ tyS 22 5 true := by (repeat' apply And.intro) <;> kernel_rfl
@[simp] theorem CQ : tyB 24 1 24 false none /\ tyZ 24 [.nil 5] /\ tyS 24 86 false := by (repeat' apply And.intro) <;> kernel_rfl
@[simp] theorem Cm : tyB 25 1 24 false none /\ tyZ 25 [.nil 3] /\ tyS 25 88 false := by (repeat' apply And.intro) <;> kernel_rfl
@[simp] theorem CT : tyB 26 1 24 false none /\ tyZ 26 [.nil 4] /\ tyS 26 90 false := by (repeat' apply And.intro) <;> kernel_rfl
@[simp] theorem CZ : tyB 28 5 88 true none /\ tyZ 28 [.nil 5, .nil 3, .nil 4, .d (.int .i64 0), .d (.int .i64 0)] /\ tyF 28 0 0 24 /\ tyF 28 1 1 25 /\ tyF 28 2 2 26 /\ tyF 28 3 3 3 /\ tyF 28 4 4 3 := by (repeat' apply And.intro) <;> kernel_rfl
@[simp] theorem Ci : tyB 29 1 24 false none /\ tyZ 29 [.nil 16] /\ tyS 29 47 false := by (repeat' apply And.intro) <;> kernel_rfl
@[simp] theorem CF : tyB 31 2 32 true none /\ tyZ 31 [.d (.int .i64 0), .nil 16] /\ tyF 31 0 0 3 /\ tyF 31 1 1 29 := by (repeat' apply And.intro) <;> kernel_rfl
@[simp] theorem Cg : tyB 36 1 24 false none /\ tyZ 36 [.nil 1] /\ tyS 36 9 false := by (repeat' apply And.intro) <;> kernel_rfl
@[simp] theorem Ck : tyB 37 1 24 false none /\ tyZ 37 [.nil 1] /\ tyS 37 3 false := by (repeat' apply And.intro) <;> kernel_rfl
@[simp] theorem Cl : tyB 39 3 56 true none /\ tyZ 39 [.d (.int .i64 0), .nil 1, .nil 1] /\ tyF 39 0 0 3 /\ tyF 39 1 1 36 /\ tyF 39 2 2 37 := by (repeat' apply And.intro) <;> kernel_rfl
@[simp] theorem CX : tyB 41 9 72 true none /\ tyZ 41 [.d (.int .i64 0), .d (.int .i64 0), .d (.int .i64 0), .d (.int .i64 0), .d (.int .i64 0), .d (.int .i64 0), .d (.int .i64 0), .d (.int .i64 0), .d (.int .i64 0)] /\ tyF 41 0 0 3 /\ tyF 41 1 1 3 /\ tyF 41 2 2 3 /\ tyF 41 3 3 3 /\ tyF 41 4 4 3 /\ tyF 41 5 5 3 /\ tyF 41 6 6 3 /\ tyF 41 7 7 3 /\ tyF 41 8 8 3 /\ Uo prog 41 = true /\ yR prog 41 = [3, 3, 3, 3, 3, 3, 3, 3, 3] := by (repeat' apply And.intro) <;> kernel_rfl
@[simp] theorem Ce : tyB 42 1 24 false none /\ tyZ 42 [.nil 3] /\ tyS 42 116 false := by (repeat' apply And.intro) <;> kernel_rfl
@[simp] theorem CH : tyB 43 1 24 false none /\ tyZ 43 [.nil 5] /\ tyS 43 140 false := by (repeat' apply And.intro) <;> kernel_rfl
@[simp] theorem CW : tyB 45 2 48 true none /\ tyZ 45 [.nil 3, .nil 5] /\ tyF 45 0 0 42 /\ tyF 45 1 1 43 := by (repeat' apply And.intro) <;> kernel_rfl
@[simp] theorem Cc : tyB 47 16 192 true none /\ tyZ 47 [.d (.int .i64 0), .d (.int .i64 0), .d (.int .i64 0), .nil 1, .nil 1, .d (.int .i64 0), .d (.int .i64 0), .d (.int .i64 0), .d (.int .i64 0), .d (.int .i64 0), .d (.int .i64 0), .d (.int .i64 0), .d (.int .i64 0), .d (.int .i64 0), .nil 3, .nil 5] /\ tyF 47 0 0 3 /\ tyF 47 1 1 3 /\ tyF 47 2 2 39 /\ tyF 47 3 5 41 /\ tyF 47 4 14 45 := by (repeat' apply And.intro) <;> kernel_rfl
@[simp] theorem CP : tyB 48 1 24 false none /\ tyZ 48 [.nil 1] /\ tyS 48 4 false := by (repeat' apply And.intro) <;> kernel_rfl
@[simp] theorem CY : tyB 49 1 24 false none /\ tyZ 49 [.nil 1] /\ tyS 49 37 false := by (repeat' apply And.intro) <;> kernel_rfl
@[simp] theorem CR : tyB 51 6 128 true none /\ tyZ 51 [.d (.int .i64 0), .nil 1, .nil 1, .nil 1, .nil 1, .nil 1] /\ tyF 51 0 0 3 /\ tyF 51 1 1 37 /\ tyF 51 2 2 48 /\ tyF 51 3 3 36 /\ tyF 51 4 4 37 /\ tyF 51 5 5 49 := by (repeat' apply And.intro) <;> kernel_rfl
@[simp] theorem CE : tyB 63 2 16 true none /\ tyZ 63 [.d (.int .i64 0), .d (.int .i64 0)] /\ tyF 63 0 0 3 /\ tyF 63 1 1 3 /\ Uo prog 63 = true /\ yR prog 63 = [3, 3] := by (repeat' apply And.intro) <;> kernel_rfl
@[simp] theorem CK : tyB 65 4 32 true none /\ tyZ 65 [.d (.int .i64 0), .d (.int .i64 0), .d (.int .i64 0), .d (.int .i64 0)] /\ tyF 65 0 0 3 /\ tyF 65 1 1 3 /\ tyF 65 2 2 63 := by (repeat' apply And.intro) <;> kernel_rfl
@[simp] theorem Ca : tyB 68 3 40 true none /\ tyZ 68 [.nil 1, .d (.int .i64 0), .d (.int .i64 0)] /\ tyF 68 0 0 22 /\ tyF 68 1 1 3 /\ tyF 68 2 2 3 := by (repeat' apply And.intro) <;> kernel_rfl
@[simp] theorem CM : tyB 78 1 24 false none /\ tyZ 78 [.nil 2] /\ tyS 78 45 false := by (repeat' apply And.intro) <;> kernel_rfl
@[simp] theorem CJ : tyB 79 1 24 false none /\ tyZ 79 [.nil 1] /\ tyS 79 138 false := by (repeat' apply And.intro) <;> kernel_rfl
@[simp] theorem Cf : tyB 81 2 48 true none /\ tyZ 81 [.nil 2, .nil 1] /\ tyF 81 0 0 78 /\ tyF 81 1 1 79 := by (repeat' apply And.intro) <;> kernel_rfl
@[simp] theorem Cj : tyB 86 5 40 true none /\ tyZ 86 [.d (.int .i64 0), .d (.int .i64 0), .d (.int .i64 0), .d (.int .i64 0), .d (.int .i64 0)] /\ tyF 86 0 0 3 /\ tyF 86 1 1 3 /\ tyF 86 2 2 3 /\ tyF 86 3 3 3 /\ tyF 86 4 4 3 /\ Uo prog 86 = true /\ yR prog 86 = [3, 3, 3, 3, 3] := by (repeat' apply And.intro) <;> kernel_rfl
@[simp] theorem CU : tyB 88 3 24 true none /\ tyZ 88 [.d (.int .i64 0), .d (.int .i64 0), .d (.int .i64 0)] /\ tyF 88 0 0 3 /\ tyF 88 1 1 3 /\ tyF 88 2 2 3 /\ Uo prog 88 = true /\ yR prog 88 = [3, 3, 3] := by (repeat' apply And.intro) <;> kernel_rfl
@[simp] theorem Cd : tyB 90 4 32 true none /\ tyZ 90 [.d (.int .i64 0), .d (.int .i64 0), .d (.int .i64 0), .d (.int .i64 0)] /\ tyF 90 0 0 3 /\ tyF 90 1 1 3 /\ tyF 90 2 2 3 /\ tyF 90 3 3 3 /\ Uo prog 90 = true /\ yR prog 90 = [3, 3, 3, 3] := by (repeat' apply And.intro) <;> kernel_rfl
@[simp] theorem CV : tyB 99 4 64 true none /\ tyZ 99 [.d (.str ⟨#[]⟩), .d (.str ⟨#[]⟩), .d (.str ⟨#[]⟩), .d (.str ⟨#[]⟩)] /\ P9 prog 99 = some 4 /\ ZD prog 99 = 9 /\ bOk prog 99 0 = true /\ K6 prog 99 0 = 0 /\ bTy prog 99 0 = 9 /\ bOk prog 99 1 = true /\ K6 prog 99 1 = 1 /\ bTy prog 99 1 = 9 /\ bOk prog 99 2 = true /\ K6 prog 99 2 = 2 /\ bTy prog 99 2 = 9 /\ bOk prog 99 3 = true /\ K6 prog 99 3 = 3 /\ bTy prog 99 3 = 9 := by (repeat' apply And.intro) <;> kernel_rfl
@[simp] theorem CD : tyB 100 10 160 true none /\ tyZ 100 [.d (.str ⟨#[]⟩), .d (.str ⟨#[]⟩), .d (.str ⟨#[]⟩), .d (.str ⟨#[]⟩), .d (.str ⟨#[]⟩), .d (.str ⟨#[]⟩), .d (.str ⟨#[]⟩), .d (.str ⟨#[]⟩), .d (.str ⟨#[]⟩), .d (.str ⟨#[]⟩)] /\ P9 prog 100 = some 10 /\ ZD prog 100 = 9 /\ bOk prog 100 0 = true /\ K6 prog 100 0 = 0 /\ bTy prog 100 0 = 9 /\ bOk prog 100 1 = true /\ K6 prog 100 1 = 1 /\ bTy prog 100 1 = 9 /\ bOk prog 100 2 = true /\ K6 prog 100 2 = 2 /\ bTy prog 100 2 = 9 /\ bOk prog 100 3 = true /\ K6 prog 100 3 = 3 /\ bTy prog 100 3 = 9 /\ bOk prog 100 4 = true /\ K6 prog 100 4 = 4 /\ bTy prog 100 4 = 9 /\ bOk prog 100 5 = true /\ K6 prog 100 5 = 5 /\ bTy prog 100 5 = 9 /\ bOk prog 100 6 = true /\ K6 prog 100 6 = 6 /\ bTy prog 100 6 = 9 /\ bOk prog 100 7 = true /\ K6 prog 100 7 = 7 /\ bTy prog 100 7 = 9 /\ bOk prog 100 8 = true /\ K6 prog 100 8 = 8 /\ bTy prog 100 8 = 9 /\ bOk prog 100 9 = true /\ K6 prog 100 9 = 9 /\ bTy prog 100 9 = 9 := by (repeat' apply And.intro) <;> kernel_rfl
@[simp] theorem D2 : tyB 116 3 40 true none /\ tyZ 116 [.d (.int .i64 0), .nil 1, .d (.int .i64 0)] /\ tyF 116 0 0 3 /\ tyF 116 1 1 37 /\ tyF 116 2 2 3 := by (repeat' apply And.intro) <;> kernel_rfl
@[simp] theorem Dx : tyB 122 7 56 true none /\ tyZ 122 [.d (.int .i64 0), .d (.int .i64 0), .d (.int .i64 0), .d (.int .i64 0), .d (.int .i64 0), .d (.int .i64 0), .d (.int .i64 0)] /\ tyF 122 0 0 3 /\ tyF 122 1 1 3 /\ tyF 122 2 2 3 /\ tyF 122 3 3 3 /\ tyF 122 4 4 3 /\ tyF 122 5 5 3 /\ tyF 122 6 6 3 /\ Uo prog 122 = true /\ yR prog 122 = [3, 3, 3, 3, 3, 3, 3] := by (repeat' apply And.intro) <;> kernel_rfl
@[simp] theorem D5 : tyB 126 1 24 false none /\ tyZ 126 [.nil 5] /\ tyS 126 155 false := by (repeat' apply And.intro) <;> kernel_rfl
@[simp] theorem CB : tyB 130 1 24 false none /\ tyZ 130 [.nil 6] /\ tyS 130 192 false := by (repeat' apply And.intro) <;> kernel_rfl
@[simp] theorem D6 : tyB 137 1 24 false none /\ tyZ 137 [.nil 2] /\ tyS 137 248 false := by (repeat' apply And.intro) <;> kernel_rfl
@[simp] theorem D1 : tyB 138 1 24 false none /\ tyZ 138 [.nil 5] /\ tyS 138 180 false := by (repeat' apply And.intro) <;> kernel_rfl
@[simp] theorem D7 : tyB 140 5 72 true none /\ tyZ 140 [.d (.int .i64 0), .d (.int .i64 0), .d (.int .i64 0), .nil 2, .nil 5] /\ tyF 140 0 0 3 /\ tyF 140 1 1 3 /\ tyF 140 2 2 3 /\ tyF 140 3 3 137 /\ tyF 140 4 4 138 := by (repeat' apply And.intro) <;> kernel_rfl
@[simp] theorem CC : tyB 152 1 24 false none /\ tyZ 152 [.nil 7] /\ tyS 152 122 false := by (repeat' apply And.intro) <;> kernel_rfl
@[simp] theorem Dy : tyB 155 5 40 true none /\ tyZ 155 [.d (.int .i64 0), .d (.int .i64 0), .d (.int .i64 0), .d (.int .i64 0), .d (.int .i64 0)] /\ tyF 155 0 0 3 /\ tyF 155 1 1 3 /\ tyF 155 2 2 3 /\ tyF 155 3 3 3 /\ tyF 155 4 4 3 /\ Uo prog 155 = true /\ yR prog 155 = [3, 3, 3, 3, 3] := by (repeat' apply And.intro) <;> kernel_rfl
@[simp] theorem D8 : tyB 180 5 40 true none /\ tyZ 180 [.d (.int .i64 0), .d (.int .i64 0), .d (.int .i64 0), .d (.int .i64 0), .d (.int .i64 0)] /\ tyF 180 0 0 3 /\ tyF 180 1 1 3 /\ tyF 180 2 2 3 /\ tyF 180 3 3 3 /\ tyF 180 4 4 3 /\ Uo prog 180 = true /\ yR prog 180 = [3, 3, 3, 3, 3] := by (repeat' apply And.intro) <;> kernel_rfl
@[simp] theorem CA : tyB 187 1 24 false none /\ tyZ 187 [.nil 2] /\ tyS 187 63 false := by (repeat' apply And.intro) <;> kernel_rfl
@[simp] theorem Dz : tyB 192 6 48 true none /\ tyZ 192 [.d (.int .i64 0), .d (.int .i64 0), .d (.int .i64 0), .d (.int .i64 0), .d (.int .i64 0), .d (.int .i64 0)] /\ tyF 192 0 0 3 /\ tyF 192 1 1 3 /\ tyF 192 2 2 3 /\ tyF 192 3 3 3 /\ tyF 192 4 4 3 /\ tyF 192 5 5 3 /\ Uo prog 192 = true /\ yR prog 192 = [3, 3, 3, 3, 3, 3] := by (repeat' apply And.intro) <;> kernel_rfl
@[simp] theorem D9 : tyB 248 2 16 true none /\ tyZ 248 [.d (.int .i64 0), .d (.bool false)] /\ tyF 248 0 0 3 /\ tyF 248 1 1 4 /\ Uo prog 248 = true /\ yR prog 248 = [3, 4] := by (repeat' apply And.intro) <;> kernel_rfl
@[simp] theorem D3 : tyB 253 5 40 true none /\ tyZ 253 [.d (.int .i64 0), .d (.int .i64 0), .d (.int .i64 0), .d (.int .i64 0), .d (.int .i64 0)] /\ P9 prog 253 = some 5 /\ ZD prog 253 = 3 /\ bOk prog 253 0 = true /\ K6 prog 253 0 = 0 /\ bTy prog 253 0 = 3 /\ bOk prog 253 1 = true /\ K6 prog 253 1 = 1 /\ bTy prog 253 1 = 3 /\ bOk prog 253 2 = true /\ K6 prog 253 2 = 2 /\ bTy prog 253 2 = 3 /\ bOk prog 253 3 = true /\ K6 prog 253 3 = 3 /\ bTy prog 253 3 = 3 /\ bOk prog 253 4 = true /\ K6 prog 253 4 = 4 /\ bTy prog 253 4 = 3 := by (repeat' apply And.intro) <;> kernel_rfl
@[simp] theorem D4 : tyB 276 1 1 false (some .u8) /\ tyZ 276 [.d (.int .u8 0)] := by (repeat' apply And.intro) <;> kernel_rfl
theorem mixed : prog.follows .mixedOrders = true := by kernel_rfl
abbrev Sa (f : Nat) := Xk prog f false
abbrev So (f : Nat) := Xk prog f true
abbrev Sd (f : Nat) := YD prog f
end Go.Proofs.YtlilcnnajeeigaaGreat
