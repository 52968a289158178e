/- The facts of the plain types of the program, by evaluation. No condition. -/
import Derived.Test.YtnldgbpopofnoaaGreatVe
import Derived.Test.YtnldgbpopofnoaaGreatProg
namespace Go.Proofs.YtnldgbpopofnoaaGreat
open Tryz
open Go.Vm
abbrev tyB (t c b : Nat) (a : Bool) (k : Option IntKind) : Prop := zz prog t = true /\ prog.cellsOf t = c /\ Wm prog t = a /\ prog.bytesOf t = b /\ (prog.underlying t).isSome = true /\ Gd prog t = k
abbrev tyZ (t : Nat) (z : List At) : Prop := qF prog 12 t = some z /\ Xy prog t = true
abbrev tyF (t i o f : Nat) : Prop := xA prog t i = true /\ Xk prog t i = o /\ zq prog t i = f /\ bOk prog t i = true /\ V5 prog t i = o /\ bTy prog t i = f
abbrev tyS (t e : Nat) (b : Bool) : Prop := XC prog t = true /\ ZP prog t = e /\ Sc prog t = b /\ VX prog t = false
@[simp] theorem ty2 : tyB 2 1 8 false (some .i64) /\ tyZ 2 [.d (.int .i64 0)] := by (repeat' apply And.intro) <;> kernel_rfl
@[simp] theorem ty3 : tyB 3 1 8 false (some .i64) /\ tyZ 3 [.d (.int .i64 0)] := by (repeat' apply And.intro) <;> kernel_rfl
@[simp] theorem ty4 : tyB 4 1 1 false none /\ tyZ 4 [.d (.bool false)] /\ PO prog 4 = true := by (repeat' apply And.intro) <;> kernel_rfl
@[simp] theorem ty5 : tyB 5 1 1 false (some .u8) /\ tyZ 5 [.d (.int .u8 0)] := by (repeat' apply And.intro) <;> kernel_rfl
@[simp] theorem ty6 : tyB 6 1 1 false (some .u8) /\ tyZ 6 [.d (.int .u8 0)] := by (repeat' apply And.intro) <;> kernel_rfl
@[simp] theorem ty8 : tyB 8 4 24 true none /\ tyZ 8 [.d (.int .i64 0), .d (.int .i64 0), .d (.bool false), .d (.int .u8 0)] /\ tyF 8 0 0 2 /\ tyF 8 1 1 3 /\ tyF 8 2 2 4 /\ tyF 8 3 3 6 := by (repeat' apply And.intro) <;> kernel_rfl
@[simp] theorem ty9 : tyB 9 1 16 false none /\ tyZ 9 [.d (.str ⟨#[]⟩)] /\ VX prog 9 = true := by (repeat' apply And.intro) <;> kernel_rfl
@[simp] theorem Bz : tyB 10 1 16 false none /\ tyZ 10 [.d (.str ⟨#[]⟩)] /\ VX prog 10 = true := by (repeat' apply And.intro) <;> kernel_rfl
@[simp] theorem B6 : tyB 11 1 16 false none /\ tyZ 11 [.d (.str ⟨#[]⟩)] /\ VX prog 11 = true := by (repeat' apply And.intro) <;> kernel_rfl
@[simp] theorem B8 : tyB 12 1 8 false (some .u64) /\ tyZ 12 [.d (.int .u64 0)] := by (repeat' apply And.intro) <;> kernel_rfl
@[simp] theorem B9 : tyB 14 2 24 true none /\ tyZ 14 [.d (.str ⟨#[]⟩), .d (.int .u64 0)] /\ tyF 14 0 0 9 /\ tyF 14 1 1 12 := by (repeat' apply And.intro) <;> kernel_rfl
@[simp] theorem B3 : tyB 22 1 24 false none /\ tyZ 22 [.nil 1] /\ tyS 22 5 true := by (repeat' apply And.intro) <;> kernel_rfl
@[simp] theorem AQ : tyB 24 1 24 false none /\ tyZ 24 [.nil 5] /\ tyS 24 96 false := by (repeat' apply And.intro) <;> kernel_rfl
@[simp] theorem B7 : tyB 25 1 24 false none /\ tyZ 25 [.nil 3] /\ tyS 25 84 false := by (repeat' apply And.intro) <;> kernel_rfl
@[simp] theorem B1 : tyB 26 1 24 false none /\ tyZ 26 [.nil 4] /\ tyS 26 99 false := by (repeat' apply And.intro) <;> kernel_rfl
@[simp] theorem AL : tyB 28 5 88 true none /\ tyZ 28 [.nil 5, .nil 3, .nil 4, .d (.int .i64 0), .d (.int .i64 0)] /\ tyF 28 0 0 24 /\ tyF 28 1 1 25 /\ tyF 28 2 2 26 /\ tyF 28 3 3 3 /\ tyF 28 4 4 3 := by (repeat' apply And.intro) <;> kernel_rfl
@[simp] theorem B0 : tyB 29 1 24 false none /\ tyZ 29 [.nil 7] /\ tyS 29 46 false := by (repeat' apply And.intro) <;> kernel_rfl
@[simp] theorem AB : tyB 30 1 24 false none /\ tyZ 30 [.nil 1] /\ tyS 30 3 false := by (repeat' apply And.intro) <;> kernel_rfl
@[simp] theorem AK : tyB 31 1 24 false none /\ tyZ 31 [.nil 2] /\ tyS 31 38 false := by (repeat' apply And.intro) <;> kernel_rfl
@[simp] theorem AP : tyB 33 12 240 true none /\ tyZ 33 [.nil 5, .nil 3, .nil 4, .d (.int .i64 0), .d (.int .i64 0), .nil 7, .nil 1, .nil 2, .nil 1, .nil 1, .d (.int .i64 0), .nil 1] /\ tyF 33 0 0 28 /\ tyF 33 1 5 29 /\ tyF 33 2 6 30 /\ tyF 33 3 7 31 /\ tyF 33 4 8 30 /\ tyF 33 5 9 30 /\ tyF 33 6 10 3 /\ tyF 33 7 11 30 := by (repeat' apply And.intro) <;> kernel_rfl
@[simp] theorem AD : tyB 36 1 24 false none /\ tyZ 36 [.nil 16] /\ tyS 36 60 false := by (repeat' apply And.intro) <;> kernel_rfl
@[simp] theorem AN : tyB 38 2 32 true none /\ tyZ 38 [.d (.int .i64 0), .nil 16] /\ tyF 38 0 0 3 /\ tyF 38 1 1 36 := by (repeat' apply And.intro) <;> kernel_rfl
@[simp] theorem Bu : tyB 46 7 56 true none /\ tyZ 46 [.d (.int .i64 0), .d (.int .i64 0), .d (.int .i64 0), .d (.int .i64 0), .d (.int .i64 0), .d (.int .i64 0), .d (.int .i64 0)] /\ tyF 46 0 0 3 /\ tyF 46 1 1 3 /\ tyF 46 2 2 3 /\ tyF 46 3 3 3 /\ tyF 46 4 4 3 /\ tyF 46 5 5 3 /\ tyF 46 6 6 3 /\ Ti prog 46 = true /\ xF prog 46 = [3, 3, 3, 3, 3, 3, 3] := by (repeat' apply And.intro) <;> kernel_rfl
@[simp] theorem B2 : tyB 50 1 24 false none /\ tyZ 50 [.nil 1] /\ tyS 50 9 false := by (repeat' apply And.intro) <;> kernel_rfl
@[simp] theorem AO : tyB 52 3 56 true none /\ tyZ 52 [.d (.int .i64 0), .nil 1, .nil 1] /\ tyF 52 0 0 3 /\ tyF 52 1 1 50 /\ tyF 52 2 2 30 := by (repeat' apply And.intro) <;> kernel_rfl
@[simp] theorem B5 : tyB 54 9 72 true none /\ tyZ 54 [.d (.int .i64 0), .d (.int .i64 0), .d (.int .i64 0), .d (.int .i64 0), .d (.int .i64 0), .d (.int .i64 0), .d (.int .i64 0), .d (.int .i64 0), .d (.int .i64 0)] /\ tyF 54 0 0 3 /\ tyF 54 1 1 3 /\ tyF 54 2 2 3 /\ tyF 54 3 3 3 /\ tyF 54 4 4 3 /\ tyF 54 5 5 3 /\ tyF 54 6 6 3 /\ tyF 54 7 7 3 /\ tyF 54 8 8 3 /\ Ti prog 54 = true /\ xF prog 54 = [3, 3, 3, 3, 3, 3, 3, 3, 3] := by (repeat' apply And.intro) <;> kernel_rfl
@[simp] theorem Bv : tyB 55 1 24 false none /\ tyZ 55 [.nil 3] /\ tyS 55 109 false := by (repeat' apply And.intro) <;> kernel_rfl
@[simp] theorem AI : tyB 56 1 24 false none /\ tyZ 56 [.nil 5] /\ tyS 56 137 false := by (repeat' apply And.intro) <;> kernel_rfl
@[simp] theorem Bw : tyB 58 2 48 true none /\ tyZ 58 [.nil 3, .nil 5] /\ tyF 58 0 0 55 /\ tyF 58 1 1 56 := by (repeat' apply And.intro) <;> kernel_rfl
@[simp] theorem AE : tyB 60 16 192 true none /\ tyZ 60 [.d (.int .i64 0), .d (.int .i64 0), .d (.int .i64 0), .nil 1, .nil 1, .d (.int .i64 0), .d (.int .i64 0), .d (.int .i64 0), .d (.int .i64 0), .d (.int .i64 0), .d (.int .i64 0), .d (.int .i64 0), .d (.int .i64 0), .d (.int .i64 0), .nil 3, .nil 5] /\ tyF 60 0 0 3 /\ tyF 60 1 1 3 /\ tyF 60 2 2 52 /\ tyF 60 3 5 54 /\ tyF 60 4 14 58 := by (repeat' apply And.intro) <;> kernel_rfl
@[simp] theorem AM : tyB 65 2 16 true none /\ tyZ 65 [.d (.int .i64 0), .d (.int .i64 0)] /\ tyF 65 0 0 3 /\ tyF 65 1 1 3 /\ Ti prog 65 = true /\ xF prog 65 = [3, 3] := by (repeat' apply And.intro) <;> kernel_rfl
@[simp] theorem AF : tyB 67 4 32 true none /\ tyZ 67 [.d (.int .i64 0), .d (.int .i64 0), .d (.int .i64 0), .d (.int .i64 0)] /\ tyF 67 0 0 3 /\ tyF 67 1 1 3 /\ tyF 67 2 2 65 := by (repeat' apply And.intro) <;> kernel_rfl
@[simp] theorem B4 : tyB 84 3 24 true none /\ tyZ 84 [.d (.int .i64 0), .d (.int .i64 0), .d (.int .i64 0)] /\ tyF 84 0 0 3 /\ tyF 84 1 1 3 /\ tyF 84 2 2 3 /\ Ti prog 84 = true /\ xF prog 84 = [3, 3, 3] := by (repeat' apply And.intro) <;> kernel_rfl
@[simp] theorem AJ : tyB 89 3 40 true none /\ tyZ 89 [.nil 1, .d (.int .i64 0), .d (.int .i64 0)] /\ tyF 89 0 0 22 /\ tyF 89 1 1 3 /\ tyF 89 2 2 3 := by (repeat' apply And.intro) <;> kernel_rfl
@[simp] theorem AH : tyB 92 1 24 false none /\ tyZ 92 [.nil 9] /\ tyS 92 122 false := by (repeat' apply And.intro) <;> kernel_rfl
@[simp] theorem By : tyB 96 5 40 true none /\ tyZ 96 [.d (.int .i64 0), .d (.int .i64 0), .d (.int .i64 0), .d (.int .i64 0), .d (.int .i64 0)] /\ tyF 96 0 0 3 /\ tyF 96 1 1 3 /\ tyF 96 2 2 3 /\ tyF 96 3 3 3 /\ tyF 96 4 4 3 /\ Ti prog 96 = true /\ xF prog 96 = [3, 3, 3, 3, 3] := by (repeat' apply And.intro) <;> kernel_rfl
@[simp] theorem AG : tyB 99 4 32 true none /\ tyZ 99 [.d (.int .i64 0), .d (.int .i64 0), .d (.int .i64 0), .d (.int .i64 0)] /\ tyF 99 0 0 3 /\ tyF 99 1 1 3 /\ tyF 99 2 2 3 /\ tyF 99 3 3 3 /\ Ti prog 99 = true /\ xF prog 99 = [3, 3, 3, 3] := by (repeat' apply And.intro) <;> kernel_rfl
@[simp] theorem Bg : tyB 108 3 40 true none /\ tyZ 108 [.d (.int .i64 0), .nil 1, .d (.int .i64 0)] /\ tyF 108 0 0 3 /\ tyF 108 1 1 30 /\ tyF 108 2 2 3 := by (repeat' apply And.intro) <;> kernel_rfl
@[simp] theorem Bp : tyB 109 3 40 true none /\ tyZ 109 [.d (.int .i64 0), .nil 1, .d (.int .i64 0)] /\ tyF 109 0 0 3 /\ tyF 109 1 1 30 /\ tyF 109 2 2 3 := by (repeat' apply And.intro) <;> kernel_rfl
@[simp] theorem Bs : tyB 113 1 24 false none /\ tyZ 113 [.nil 2] /\ tyS 113 58 false := by (repeat' apply And.intro) <;> kernel_rfl
@[simp] theorem Bi : tyB 114 1 24 false none /\ tyZ 114 [.nil 1] /\ tyS 114 135 false := by (repeat' apply And.intro) <;> kernel_rfl
@[simp] theorem BZ : tyB 116 2 48 true none /\ tyZ 116 [.nil 2, .nil 1] /\ tyF 116 0 0 113 /\ tyF 116 1 1 114 := by (repeat' apply And.intro) <;> kernel_rfl
@[simp] theorem Bh : tyB 122 9 120 true none /\ tyZ 122 [.d (.int .i64 0), .d (.int .i64 0), .d (.int .i64 0), .d (.int .i64 0), .d (.int .i64 0), .d (.int .i64 0), .nil 1, .nil 1, .nil 1] /\ tyF 122 0 0 3 /\ tyF 122 1 1 3 /\ tyF 122 2 2 3 /\ tyF 122 3 3 3 /\ tyF 122 4 4 3 /\ tyF 122 5 5 52 /\ tyF 122 6 8 30 := by (repeat' apply And.intro) <;> kernel_rfl
@[simp] theorem Bd : tyB 134 1 24 false none /\ tyZ 134 [.nil 2] /\ tyS 134 263 false := by (repeat' apply And.intro) <;> kernel_rfl
@[simp] theorem Bf : tyB 135 1 24 false none /\ tyZ 135 [.nil 5] /\ tyS 135 193 false := by (repeat' apply And.intro) <;> kernel_rfl
@[simp] theorem Bb : tyB 137 5 72 true none /\ tyZ 137 [.d (.int .i64 0), .d (.int .i64 0), .d (.int .i64 0), .nil 2, .nil 5] /\ tyF 137 0 0 3 /\ tyF 137 1 1 3 /\ tyF 137 2 2 3 /\ tyF 137 3 3 134 /\ tyF 137 4 4 135 := by (repeat' apply And.intro) <;> kernel_rfl
@[simp] theorem Bl : tyB 141 1 24 false none /\ tyZ 141 [.nil 1] /\ tyS 141 30 false := by (repeat' apply And.intro) <;> kernel_rfl
@[simp] theorem Br : tyB 168 1 24 false none /\ tyZ 168 [.nil 5] /\ tyS 168 186 false := by (repeat' apply And.intro) <;> kernel_rfl
@[simp] theorem Bm : tyB 172 1 24 false none /\ tyZ 172 [.nil 6] /\ tyS 172 224 false := by (repeat' apply And.intro) <;> kernel_rfl
@[simp] theorem Bj : tyB 186 5 40 true none /\ tyZ 186 [.d (.int .i64 0), .d (.int .i64 0), .d (.int .i64 0), .d (.int .i64 0), .d (.int .i64 0)] /\ tyF 186 0 0 3 /\ tyF 186 1 1 3 /\ tyF 186 2 2 3 /\ tyF 186 3 3 3 /\ tyF 186 4 4 3 /\ Ti prog 186 = true /\ xF prog 186 = [3, 3, 3, 3, 3] := by (repeat' apply And.intro) <;> kernel_rfl
@[simp] theorem Ba : tyB 193 5 40 true none /\ tyZ 193 [.d (.int .i64 0), .d (.int .i64 0), .d (.int .i64 0), .d (.int .i64 0), .d (.int .i64 0)] /\ tyF 193 0 0 3 /\ tyF 193 1 1 3 /\ tyF 193 2 2 3 /\ tyF 193 3 3 3 /\ tyF 193 4 4 3 /\ Ti prog 193 = true /\ xF prog 193 = [3, 3, 3, 3, 3] := by (repeat' apply And.intro) <;> kernel_rfl
@[simp] theorem Bo : tyB 220 1 24 false none /\ tyZ 220 [.nil 2] /\ tyS 220 65 false := by (repeat' apply And.intro) <;> kernel_rfl
@[simp] theorem Be : tyB 224 6 48 true none /\ tyZ 224 [.d (.int .i64 0), .d (.int .i64 0), .d (.int .i64 0), .d (.int .i64 0), .d (.int .i64 0), .d (.int .i64 0)] /\ tyF 224 0 0 3 /\ tyF 224 1 1 3 /\ tyF 224 2 2 3 /\ tyF 224 3 3 3 /\ tyF 224 4 4 3 /\ tyF 224 5 5 3 /\ Ti prog 224 = true /\ xF prog 224 = [3, 3, 3, 3, 3, 3] := by (repeat' apply And.intro) <;> kernel_rfl
@[simp] theorem Bc : tyB 240 4 48 true none /\ tyZ 240 [.d (.int .i64 0), .d (.int .i64 0), .nil 16, .d (.int .i64 0)] /\ tyF 240 0 0 3 /\ tyF 240 1 1 3 /\ tyF 240 2 2 36 /\ tyF 240 3 3 3 := by (repeat' apply And.intro) <;> kernel_rfl
@[simp] theorem Bt : tyB 263 2 16 true none /\ tyZ 263 [.d (.int .i64 0), .d (.bool false)] /\ tyF 263 0 0 3 /\ tyF 263 1 1 4 /\ Ti prog 263 = true /\ xF prog 263 = [3, 4] := by (repeat' apply And.intro) <;> kernel_rfl
@[simp] theorem Bn : tyB 270 5 40 true none /\ tyZ 270 [.d (.int .i64 0), .d (.int .i64 0), .d (.int .i64 0), .d (.int .i64 0), .d (.int .i64 0)] /\ I8 prog 270 = some 5 /\ ZP prog 270 = 3 /\ bOk prog 270 0 = true /\ V5 prog 270 0 = 0 /\ bTy prog 270 0 = 3 /\ bOk prog 270 1 = true /\ V5 prog 270 1 = 1 /\ bTy prog 270 1 = 3 /\ bOk prog 270 2 = true /\ V5 prog 270 2 = 2 /\ bTy prog 270 2 = 3 /\ bOk prog 270 3 = true /\ V5 prog 270 3 = 3 /\ bTy prog 270 3 = 3 /\ bOk prog 270 4 = true /\ V5 prog 270 4 = 4 /\ bTy prog 270 4 = 3 := by (repeat' apply And.intro) <;> kernel_rfl
@[simp] theorem Bk : tyB 296 1 1 false (some .u8) /\ tyZ 296 [.d (.int .u8 0)] := by (repeat' apply And.intro) <;> kernel_rfl
theorem mixed : prog.follows .mixedOrders = true := by kernel_rfl
abbrev Sa (f : Nat) := Xm prog f false
abbrev So (f : Nat) := Xm prog f true
abbrev Sd (f : Nat) := YN prog f
end Go.Proofs.YtnldgbpopofnoaaGreat
