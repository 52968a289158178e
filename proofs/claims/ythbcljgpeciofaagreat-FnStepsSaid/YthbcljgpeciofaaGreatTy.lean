/- The facts of the plain types of the program, by evaluation. No condition. -/
import Derived.Test.YthbcljgpeciofaaGreatVe
import Derived.Test.YthbcljgpeciofaaGreatProg
namespace Go.Proofs.YthbcljgpeciofaaGreat
open Tryz
open Go.Vm
abbrev tyB (t c b : Nat) (a : Bool) (k : Option IntKind) : Prop := yf prog t = true /\ prog.cellsOf t = c /\ WG prog t = a /\ prog.bytesOf t = b /\ (prog.underlying t).isSome = true /\ F2 prog t = k
abbrev tyZ (t : Nat) (z : List At) : Prop := qp prog 12 t = some z /\ XX prog t = true
abbrev tyF (t i o f : Nat) : Prop := xU prog t i = true /\ X1 prog t i = o /\ yM prog t i = f /\ bOk prog t i = true /\ xN prog t i = o /\ bTy prog t i = f
abbrev tyS (t e : Nat) (b : Bool) : Prop := Yq prog t = true /\ ZP prog t = e /\ Sl prog t = b /\ W8 prog t = false
@[simp] theorem ty2 : tyB 2 1 8 false (some .i64) /\ tyZ 2 [.d (.int .i64 0)] := by (repeat' apply And.intro) <;> kernel_rfl
@[simp] theorem ty3 : tyB 3 1 8 false (some .i64) /\ tyZ 3 [.d (.int .i64 0)] := by (repeat' apply And.intro) <;> kernel_rfl
@[simp] theorem ty4 : tyB 4 1 1 false none /\ tyZ 4 [.d (.bool false)] /\ Pa prog 4 = true := by (repeat' apply And.intro) <;> kernel_rfl
@[simp] theorem ty5 : tyB 5 1 1 false (some .u8) /\ tyZ 5 [.d (.int .u8 0)] := by (repeat' apply And.intro) <;> kernel_rfl
@[simp] theorem ty6 : tyB 6 1 1 false (some .u8) /\ tyZ 6 [.d (.int .u8 0)] := by (repeat' apply And.intro) <;> kernel_rfl
@[simp] theorem ty8 : tyB 8 4 24 true none /\ tyZ 8 [.d (.int .i64 0), .d (.int .i64 0), .d (.bool false), .d (.int .u8 0)] /\ tyF 8 0 0 2 /\ tyF 8 1 1 3 /\ tyF 8 2 2 4 /\ tyF 8 3 3 6 := by (repeat' apply And.intro) <;> kernel_rfl
@[simp] theorem ty9 : tyB 9 1 16 false none /\ tyZ 9 [.d (.str ⟨#[]⟩)] /\ W8 prog 9 = true := by (repeat' apply And.intro) <;> kernel_rfl
@[simp] theorem vo : tyB 10 1 16 false none /\ tyZ 10 [.d (.str ⟨#[]⟩)] /\ W8 prog 10 = true := by (repeat' apply And.intro) <;> kernel_rfl
@[simp] theorem vc : tyB 11 1 16 false none /\ tyZ 11 [.d (.str ⟨#[]⟩)] /\ W8 prog 11 = true := by (repeat' apply And.intro) <;> kernel_rfl
@[simp] theorem vZ : tyB 12 1 8 false (some .u64) /\ tyZ 12 [.d (.int .u64 0)] := by (repeat' apply And.intro) <;> kernel_rfl
@[simp] theorem v8 : tyB 14 2 24 true none /\ tyZ 14 [.d (.str ⟨#[]⟩), .d (.int .u64 0)] /\ tyF 14 0 0 9 /\ tyF 14 1 1 12 := by (repeat' apply And.intro) <;> kernel_rfl
@[simp] theorem vw : tyB 22 1 24 false none /\ tyZ 22 [.nil 1] /\ tyS 22 5 true := by (repeat' apply And.intro) <;> kernel_rfl
@[simp] theorem vh : tyB 24 1 24 false none /\ tyZ 24 [.nil 5] /\ tyS 24 105 false := by (repeat' apply And.intro) <;> kernel_rfl
@[simp] theorem vf : tyB 25 1 24 false none /\ tyZ 25 [.nil 3] /\ tyS 25 123 false := by (repeat' apply And.intro) <;> kernel_rfl
@[simp] theorem vk : tyB 26 1 24 false none /\ tyZ 26 [.nil 4] /\ tyS 26 190 false := by (repeat' apply And.intro) <;> kernel_rfl
@[simp] theorem vj : tyB 28 5 88 true none /\ tyZ 28 [.nil 5, .nil 3, .nil 4, .d (.int .i64 0), .d (.int .i64 0)] /\ tyF 28 0 0 24 /\ tyF 28 1 1 25 /\ tyF 28 2 2 26 /\ tyF 28 3 3 3 /\ tyF 28 4 4 3 := by (repeat' apply And.intro) <;> kernel_rfl
@[simp] theorem ve : tyB 29 1 24 false none /\ tyZ 29 [.nil 7] /\ tyS 29 111 false := by (repeat' apply And.intro) <;> kernel_rfl
@[simp] theorem vv : tyB 30 1 24 false none /\ tyZ 30 [.nil 1] /\ tyS 30 3 false := by (repeat' apply And.intro) <;> kernel_rfl
@[simp] theorem vd : tyB 31 1 24 false none /\ tyZ 31 [.nil 2] /\ tyS 31 85 false := by (repeat' apply And.intro) <;> kernel_rfl
@[simp] theorem vg : tyB 33 12 240 true none /\ tyZ 33 [.nil 5, .nil 3, .nil 4, .d (.int .i64 0), .d (.int .i64 0), .nil 7, .nil 1, .nil 2, .nil 1, .nil 1, .d (.int .i64 0), .nil 1] /\ tyF 33 0 0 28 /\ tyF 33 1 5 29 /\ tyF 33 2 6 30 /\ tyF 33 3 7 31 /\ tyF 33 4 8 30 /\ tyF 33 5 9 30 /\ tyF 33 6 10 3 /\ tyF 33 7 11 30 := by (repeat' apply And.intro) <;> kernel_rfl
@[simp] theorem vx : tyB 34 1 24 false none /\ tyZ 34 [.nil 1] /\ tyS 34 9 false := by (repeat' apply And.intro) <;> kernel_rfl
@[simp] theorem vt : tyB 36 3 56 true none /\ tyZ 36 [.d (.int .i64 0), .nil 1, .nil 1] /\ tyF 36 0 0 3 /\ tyF 36 1 1 34 /\ tyF 36 2 2 30 := by (repeat' apply And.intro) <;> kernel_rfl
@[simp] theorem vi : tyB 52 1 24 false none /\ tyZ 52 [.nil 9] /\ tyS 52 58 false := by (repeat' apply And.intro) <;> kernel_rfl
@[simp] theorem vn : tyB 58 9 120 true none /\ tyZ 58 [.d (.int .i64 0), .d (.int .i64 0), .d (.int .i64 0), .d (.int .i64 0), .d (.int .i64 0), .d (.int .i64 0), .nil 1, .nil 1, .nil 1] /\ tyF 58 0 0 3 /\ tyF 58 1 1 3 /\ tyF 58 2 2 3 /\ tyF 58 3 3 3 /\ tyF 58 4 4 3 /\ tyF 58 5 5 36 /\ tyF 58 6 8 30 := by (repeat' apply And.intro) <;> kernel_rfl
@[simp] theorem v7 : tyB 71 2 16 true none /\ tyZ 71 [.d (.int .i64 0), .d (.int .i64 0)] /\ tyF 71 0 0 3 /\ tyF 71 1 1 3 /\ TA prog 71 = true /\ J3 prog 71 = [3, 3] := by (repeat' apply And.intro) <;> kernel_rfl
@[simp] theorem vq : tyB 73 4 32 true none /\ tyZ 73 [.d (.int .i64 0), .d (.int .i64 0), .d (.int .i64 0), .d (.int .i64 0)] /\ tyF 73 0 0 3 /\ tyF 73 1 1 3 /\ tyF 73 2 2 71 /\ TA prog 73 = true /\ J3 prog 73 = [3, 3, 3, 3] := by (repeat' apply And.intro) <;> kernel_rfl
@[simp] theorem vy : tyB 76 9 72 true none /\ tyZ 76 [.d (.int .i64 0), .d (.int .i64 0), .d (.int .i64 0), .d (.int .i64 0), .d (.int .i64 0), .d (.int .i64 0), .d (.int .i64 0), .d (.int .i64 0), .d (.int .i64 0)] /\ tyF 76 0 0 3 /\ tyF 76 1 1 3 /\ tyF 76 2 2 3 /\ tyF 76 3 3 3 /\ tyF 76 4 4 3 /\ tyF 76 5 5 3 /\ tyF 76 6 6 3 /\ tyF 76 7 7 3 /\ tyF 76 8 8 3 /\ TA prog 76 = true /\ J3 prog 76 = [3, 3, 3, 3, 3, 3, 3, 3, 3] := by (repeat' apply And.intro) <;> kernel_rfl
@[simp] theorem vr : tyB 77 1 24 false none /\ tyZ 77 [.nil 3] /\ tyS 77 176 false := by (repeat' apply And.intro) <;> kernel_rfl
@[simp] theorem vu : tyB 78 1 24 false none /\ tyZ 78 [.nil 5] /\ tyS 78 155 false := by (repeat' apply And.intro) <;> kernel_rfl
@[simp] theorem vz : tyB 80 2 48 true none /\ tyZ 80 [.nil 3, .nil 5] /\ tyF 80 0 0 77 /\ tyF 80 1 1 78 := by (repeat' apply And.intro) <;> kernel_rfl
@[simp] theorem vm : tyB 82 16 192 true none /\ tyZ 82 [.d (.int .i64 0), .d (.int .i64 0), .d (.int .i64 0), .nil 1, .nil 1, .d (.int .i64 0), .d (.int .i64 0), .d (.int .i64 0), .d (.int .i64 0), .d (.int .i64 0), .d (.int .i64 0), .d (.int .i64 0), .d (.int .i64 0), .d (.int .i64 0), .nil 3, .nil 5] /\ tyF 82 0 0 3 /\ tyF 82 1 1 3 /\ tyF 82 2 2 36 /\ tyF 82 3 5 76 /\ tyF 82 4 14 80 := by (repeat' apply And.intro) <;> kernel_rfl
@[simp] theorem vp : tyB 83 1 24 false none /\ tyZ 83 [.nil 16] /\ tyS 83 82 false := by (repeat' apply And.intro) <;> kernel_rfl
@[simp] theorem v3 : tyB 85 2 32 true none /\ tyZ 85 [.d (.int .i64 0), .nil 16] /\ tyF 85 0 0 3 /\ tyF 85 1 1 83 := by (repeat' apply And.intro) <;> kernel_rfl
@[simp] theorem w9 : tyB 105 5 40 true none /\ tyZ 105 [.d (.int .i64 0), .d (.int .i64 0), .d (.int .i64 0), .d (.int .i64 0), .d (.int .i64 0)] /\ tyF 105 0 0 3 /\ tyF 105 1 1 3 /\ tyF 105 2 2 3 /\ tyF 105 3 3 3 /\ tyF 105 4 4 3 /\ TA prog 105 = true /\ J3 prog 105 = [3, 3, 3, 3, 3] := by (repeat' apply And.intro) <;> kernel_rfl
@[simp] theorem vX : tyB 111 7 56 true none /\ tyZ 111 [.d (.int .i64 0), .d (.int .i64 0), .d (.int .i64 0), .d (.int .i64 0), .d (.int .i64 0), .d (.int .i64 0), .d (.int .i64 0)] /\ tyF 111 0 0 3 /\ tyF 111 1 1 3 /\ tyF 111 2 2 3 /\ tyF 111 3 3 3 /\ tyF 111 4 4 3 /\ tyF 111 5 5 3 /\ tyF 111 6 6 3 /\ TA prog 111 = true /\ J3 prog 111 = [3, 3, 3, 3, 3, 3, 3] := by (repeat' apply And.intro) <;> kernel_rfl
@[simp] theorem vM : tyB 121 1 24 false none /\ tyZ 121 [.nil 5] /\ tyS 121 125 false := by (repeat' apply And.intro) <;> kernel_rfl
@[simp] theorem vH : tyB 123 3 24 true none /\ tyZ 123 [.d (.int .i64 0), .d (.int .i64 0), .d (.int .i64 0)] /\ tyF 123 0 0 3 /\ tyF 123 1 1 3 /\ tyF 123 2 2 3 /\ TA prog 123 = true /\ J3 prog 123 = [3, 3, 3] := by (repeat' apply And.intro) <;> kernel_rfl
@[simp] theorem vQ : tyB 125 5 40 true none /\ tyZ 125 [.d (.int .i64 0), .d (.int .i64 0), .d (.int .i64 0), .d (.int .i64 0), .d (.int .i64 0)] /\ tyF 125 0 0 3 /\ tyF 125 1 1 3 /\ tyF 125 2 2 3 /\ tyF 125 3 3 3 /\ tyF 125 4 4 3 /\ TA prog 125 = true /\ J3 prog 125 = [3, 3, 3, 3, 3] := by (repeat' apply And.intro) <;> kernel_rfl
@[simp] theorem vE : tyB 135 5 40 true none /\ tyZ 135 [.d (.int .i64 0), .d (.int .i64 0), .d (.int .i64 0), .d (.int .i64 0), .d (.int .i64 0)] /\ tyF 135 0 0 3 /\ tyF 135 1 1 3 /\ tyF 135 2 2 3 /\ tyF 135 3 3 3 /\ tyF 135 4 4 3 /\ TA prog 135 = true /\ J3 prog 135 = [3, 3, 3, 3, 3] := by (repeat' apply And.intro) <;> kernel_rfl
@[simp] theorem vL : tyB 144 11 176 true none /\ tyZ 144 [.d (.str ⟨#[]⟩), .d (.str ⟨#[]⟩), .d (.str ⟨#[]⟩), .d (.str ⟨#[]⟩), .d (.str ⟨#[]⟩), .d (.str ⟨#[]⟩), .d (.str ⟨#[]⟩), .d (.str ⟨#[]⟩), .d (.str ⟨#[]⟩), .d (.str ⟨#[]⟩), .d (.str ⟨#[]⟩)] /\ Mc prog 144 = some 11 /\ ZP prog 144 = 9 /\ bOk prog 144 0 = true /\ xN prog 144 0 = 0 /\ bTy prog 144 0 = 9 /\ bOk prog 144 1 = true /\ xN prog 144 1 = 1 /\ bTy prog 144 1 = 9 /\ bOk prog 144 2 = true /\ xN prog 144 2 = 2 /\ bTy prog 144 2 = 9 /\ bOk prog 144 3 = true /\ xN prog 144 3 = 3 /\ bTy prog 144 3 = 9 /\ bOk prog 144 4 = true /\ xN prog 144 4 = 4 /\ bTy prog 144 4 = 9 /\ bOk prog 144 5 = true /\ xN prog 144 5 = 5 /\ bTy prog 144 5 = 9 /\ bOk prog 144 6 = true /\ xN prog 144 6 = 6 /\ bTy prog 144 6 = 9 /\ bOk prog 144 7 = true /\ xN prog 144 7 = 7 /\ bTy prog 144 7 = 9 /\ bOk prog 144 8 = true /\ xN prog 144 8 = 8 /\ bTy prog 144 8 = 9 /\ bOk prog 144 9 = true /\ xN prog 144 9 = 9 /\ bTy prog 144 9 = 9 /\ bOk prog 144 10 = true /\ xN prog 144 10 = 10 /\ bTy prog 144 10 = 9 := by (repeat' apply And.intro) <;> kernel_rfl
@[simp] theorem vV : tyB 147 1 24 false none /\ tyZ 147 [.nil 2] /\ tyS 147 80 false := by (repeat' apply And.intro) <;> kernel_rfl
@[simp] theorem vP : tyB 148 1 24 false none /\ tyZ 148 [.nil 1] /\ tyS 148 121 false := by (repeat' apply And.intro) <;> kernel_rfl
@[simp] theorem vI : tyB 150 2 48 true none /\ tyZ 150 [.nil 2, .nil 1] /\ tyF 150 0 0 147 /\ tyF 150 1 1 148 := by (repeat' apply And.intro) <;> kernel_rfl
@[simp] theorem vC : tyB 153 1 24 false none /\ tyZ 153 [.nil 2] /\ tyS 153 251 false := by (repeat' apply And.intro) <;> kernel_rfl
@[simp] theorem vG : tyB 155 5 72 true none /\ tyZ 155 [.d (.int .i64 0), .d (.int .i64 0), .d (.int .i64 0), .nil 2, .nil 5] /\ tyF 155 0 0 3 /\ tyF 155 1 1 3 /\ tyF 155 2 2 3 /\ tyF 155 3 3 153 /\ tyF 155 4 4 121 := by (repeat' apply And.intro) <;> kernel_rfl
@[simp] theorem vK : tyB 169 3 40 true none /\ tyZ 169 [.nil 1, .d (.int .i64 0), .d (.int .i64 0)] /\ tyF 169 0 0 22 /\ tyF 169 1 1 3 /\ tyF 169 2 2 3 := by (repeat' apply And.intro) <;> kernel_rfl
@[simp] theorem vY : tyB 176 3 40 true none /\ tyZ 176 [.d (.int .i64 0), .nil 1, .d (.int .i64 0)] /\ tyF 176 0 0 3 /\ tyF 176 1 1 30 /\ tyF 176 2 2 3 := by (repeat' apply And.intro) <;> kernel_rfl
@[simp] theorem vW : tyB 190 4 32 true none /\ tyZ 190 [.d (.int .i64 0), .d (.int .i64 0), .d (.int .i64 0), .d (.int .i64 0)] /\ tyF 190 0 0 3 /\ tyF 190 1 1 3 /\ tyF 190 2 2 3 /\ tyF 190 3 3 3 /\ TA prog 190 = true /\ J3 prog 190 = [3, 3, 3, 3] := by (repeat' apply And.intro) <;> kernel_rfl
@[simp] theorem vS : tyB 205 4 48 true none /\ tyZ 205 [.d (.int .i64 0), .d (.int .i64 0), .nil 16, .d (.int .i64 0)] /\ tyF 205 0 0 3 /\ tyF 205 1 1 3 /\ tyF 205 2 2 83 /\ tyF 205 3 3 3 := by (repeat' apply And.intro) <;> kernel_rfl
@[simp] theorem vN : tyB 218 1 24 false none /\ tyZ 218 [.nil 1] /\ tyS 218 30 false := by (repeat' apply And.intro) <;> kernel_rfl
@[simp] theorem vF : tyB 251 2 16 true none /\ tyZ 251 [.d (.int .i64 0), .d (.bool false)] /\ tyF 251 0 0 3 /\ tyF 251 1 1 4 /\ TA prog 251 = true /\ J3 prog 251 = [3, 4] := by (repeat' apply And.intro) <;> kernel_rfl
@[simp] theorem vO : tyB 267 1 24 false none /\ tyZ 267 [.nil 5] /\ tyS 267 135 false := by (repeat' apply And.intro) <;> kernel_rfl
@[simp] theorem vT : tyB 271 1 24 false none /\ tyZ 271 [.nil 6] /\ tyS 271 301 false := by (repeat' apply And.intro) <;> kernel_rfl
@[simp] theorem vU : tyB 282 1 24 false none /\ tyZ 282 [.nil 2] /\ tyS 282 71 false := by (repeat' apply And.intro) <;> kernel_rfl
@[simp] theorem vD : tyB 289 5 40 true none /\ tyZ 289 [.d (.int .i64 0), .d (.int .i64 0), .d (.int .i64 0), .d (.int .i64 0), .d (.int .i64 0)] /\ Mc prog 289 = some 5 /\ ZP prog 289 = 3 /\ bOk prog 289 0 = true /\ xN prog 289 0 = 0 /\ bTy prog 289 0 = 3 /\ bOk prog 289 1 = true /\ xN prog 289 1 = 1 /\ bTy prog 289 1 = 3 /\ bOk prog 289 2 = true /\ xN prog 289 2 = 2 /\ bTy prog 289 2 = 3 /\ bOk prog 289 3 = true /\ xN prog 289 3 = 3 /\ bTy prog 289 3 = 3 /\ bOk prog 289 4 = true /\ xN prog 289 4 = 4 /\ bTy prog 289 4 = 3 := by (repeat' apply And.intro) <;> kernel_rfl
@[simp] theorem vR : tyB 301 6 48 true none /\ tyZ 301 [.d (.int .i64 0), .d (.int .i64 0), .d (.int .i64 0), .d (.int .i64 0), .d (.int .i64 0), .d (.int .i64 0)] /\ tyF 301 0 0 3 /\ tyF 301 1 1 3 /\ tyF 301 2 2 3 /\ tyF 301 3 3 3 /\ tyF 301 4 4 3 /\ tyF 301 5 5 3 /\ TA prog 301 = true /\ J3 prog 301 = [3, 3, 3, 3, 3, 3] := by (repeat' apply And.intro) <;> kernel_rfl
@[simp] theorem vJ : tyB 331 1 1 false (some .u8) /\ tyZ 331 [.d (.int .u8 0)] := by (repeat' apply And.intro) <;> kernel_rfl
theorem mixed : prog.follows .mixedOrders = true := by kernel_rfl
abbrev Sa (f : Nat) := QB prog f false
abbrev So (f : Nat) := QB prog f true
abbrev Sd (f : Nat) := YP prog f
end Go.Proofs.YthbcljgpeciofaaGreat
