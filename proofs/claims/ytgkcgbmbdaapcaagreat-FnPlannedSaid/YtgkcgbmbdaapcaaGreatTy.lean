/- The facts of the plain types of the program, by evaluation. No condition. -/
import Derived.Test.YtgkcgbmbdaapcaaGreatVe
import Derived.Test.YtgkcgbmbdaapcaaGreatProg
namespace Go.Proofs.YtgkcgbmbdaapcaaGreat
open Tryz
open Go.Vm
abbrev tyB (t c b : Nat) (a : Bool) (k : Option IntKind) : Prop := K0 prog t = true /\ prog.cellsOf t = c /\ jC prog t = a /\ prog.bytesOf t = b /\ (prog.underlying t).isSome = true /\ LM prog t = k
abbrev tyZ (t : Nat) (z : List At) : Prop := yD prog 12 t = some z /\ Yz prog t = true
abbrev tyF (t i o f : Nat) : Prop := zM prog t i = true /\ Y2 prog t i = o /\ KA prog t i = f /\ bOk prog t i = true /\ TL prog t i = o /\ bTy prog t i = f
abbrev tyS (t e : Nat) (b : Bool) : Prop := YJ prog t = true /\ ZE prog t = e /\ RZ prog t = b /\ kl prog t = false
@[simp] theorem ty2 : tyB 2 1 8 false (some .i64) /\ tyZ 2 [.d (.int .i64 0)] := by (repeat' apply And.intro) <;> kernel_rfl
@[simp] theorem ty3 : tyB 3 1 8 false (some .i64) /\ tyZ 3 [.d (.int .i64 0)] := by (repeat' apply And.intro) <;> kernel_rfl
@[simp] theorem ty4 : tyB 4 1 1 false none /\ tyZ 4 [.d (.bool false)] /\ Tr prog 4 = true := by (repeat' apply And.intro) <;> kernel_rfl
@[simp] theorem ty5 : tyB 5 1 1 false (some .u8) /\ tyZ 5 [.d (.int .u8 0)] := by (repeat' apply And.intro) <;> kernel_rfl
@[simp] theorem ty6 : tyB 6 1 1 false (some .u8) /\ tyZ 6 [.d (.int .u8 0)] := by (repeat' apply And.intro) <;> kernel_rfl
@[simp] theorem ty8 : tyB 8 4 24 true none /\ tyZ 8 [.d (.int .i64 0), .d (.int .i64 0), .d (.bool false), .d (.int .u8 0)] /\ tyF 8 0 0 2 /\ tyF 8 1 1 3 /\ tyF 8 2 2 4 /\ tyF 8 3 3 6 := by (repeat' apply And.intro) <;> kernel_rfl
@[simp] theorem ty9 : tyB 9 1 16 false none /\ tyZ 9 [.d (.str ⟨#[]⟩)] /\ kl prog 9 = true := by (repeat' apply And.intro) <;> kernel_rfl
@[simp] theorem Ej : tyB 10 1 16 false none /\ tyZ 10 [.d (.str ⟨#[]⟩)] /\ kl prog 10 = true := by (repeat' apply And.intro) <;> kernel_rfl
@[simp] theorem ER : tyB 11 1 16 false none /\ tyZ 11 [.d (.str ⟨#[]⟩)] /\ kl prog 11 = true := by (repeat' apply And.intro) <;> kernel_rfl
@[simp] theorem Eh : tyB 12 1 8 false (some .u64) /\ tyZ 12 [.d (.int .u64 0)] := by (repeat' apply And.intro) <;> kernel_rfl
@[simp] theorem EX : tyB 14 2 24 true none /\ tyZ 14 [.d (.str ⟨#[]⟩), .d (.int .u64 0)] /\ tyF 14 0 0 9 /\ tyF 14 1 1 12 := by (repeat' apply And.intro) <;> kernel_rfl
@[simp] theorem EJ : tyB 22 1 24 false none /\ tyZ 22 [.nil 1] /\ tyS 22 5 true := by (repeat' apply And.intro) <;> kernel_rfl
@[simp] theorem EH : tyB 24 1 24 false none /\ tyZ 24 [.nil 5] /\ tyS 24 94 false := by (repeat' apply And.intro) <;> kernel_rfl
@[simp] theorem Eb : tyB 25 1 24 false none /\ tyZ 25 [.nil 3] /\ tyS 25 56 false := by (repeat' apply And.intro) <;> kernel_rfl
@[simp] theorem EE : tyB 26 1 24 false none /\ tyZ 26 [.nil 4] /\ tyS 26 112 false := by (repeat' apply And.intro) <;> kernel_rfl
@[simp] theorem ES : tyB 28 5 88 true none /\ tyZ 28 [.nil 5, .nil 3, .nil 4, .d (.int .i64 0), .d (.int .i64 0)] /\ tyF 28 0 0 24 /\ tyF 28 1 1 25 /\ tyF 28 2 2 26 /\ tyF 28 3 3 3 /\ tyF 28 4 4 3 := by (repeat' apply And.intro) <;> kernel_rfl
@[simp] theorem ET : tyB 29 1 24 false none /\ tyZ 29 [.nil 16] /\ tyS 29 48 false := by (repeat' apply And.intro) <;> kernel_rfl
@[simp] theorem EL : tyB 31 2 32 true none /\ tyZ 31 [.d (.int .i64 0), .nil 16] /\ tyF 31 0 0 3 /\ tyF 31 1 1 29 := by (repeat' apply And.intro) <;> kernel_rfl
@[simp] theorem EK : tyB 34 1 24 false none /\ tyZ 34 [.nil 1] /\ tyS 34 3 false := by (repeat' apply And.intro) <;> kernel_rfl
@[simp] theorem EN : tyB 38 1 24 false none /\ tyZ 38 [.nil 1] /\ tyS 38 9 false := by (repeat' apply And.intro) <;> kernel_rfl
@[simp] theorem Ec : tyB 40 3 56 true none /\ tyZ 40 [.d (.int .i64 0), .nil 1, .nil 1] /\ tyF 40 0 0 3 /\ tyF 40 1 1 38 /\ tyF 40 2 2 34 := by (repeat' apply And.intro) <;> kernel_rfl
@[simp] theorem EF : tyB 42 9 72 true none /\ tyZ 42 [.d (.int .i64 0), .d (.int .i64 0), .d (.int .i64 0), .d (.int .i64 0), .d (.int .i64 0), .d (.int .i64 0), .d (.int .i64 0), .d (.int .i64 0), .d (.int .i64 0)] /\ tyF 42 0 0 3 /\ tyF 42 1 1 3 /\ tyF 42 2 2 3 /\ tyF 42 3 3 3 /\ tyF 42 4 4 3 /\ tyF 42 5 5 3 /\ tyF 42 6 6 3 /\ tyF 42 7 7 3 /\ tyF 42 8 8 3 /\ VT prog 42 = true /\ zA prog 42 = [3, 3, 3, 3, 3, 3, 3, 3, 3] := by (repeat' apply And.intro) <;> kernel_rfl
@[simp] theorem EZ : tyB 43 1 24 false none /\ tyZ 43 [.nil 3] /\ tyS 43 158 false := by (repeat' apply And.intro) <;> kernel_rfl
@[simp] theorem Ee : tyB 44 1 24 false none /\ tyZ 44 [.nil 5] /\ tyS 44 83 false := by (repeat' apply And.intro) <;> kernel_rfl
@[simp] theorem Eg : tyB 46 2 48 true none /\ tyZ 46 [.nil 3, .nil 5] /\ tyF 46 0 0 43 /\ tyF 46 1 1 44 := by (repeat' apply And.intro) <;> kernel_rfl
@[simp] theorem EM : tyB 48 16 192 true none /\ tyZ 48 [.d (.int .i64 0), .d (.int .i64 0), .d (.int .i64 0), .nil 1, .nil 1, .d (.int .i64 0), .d (.int .i64 0), .d (.int .i64 0), .d (.int .i64 0), .d (.int .i64 0), .d (.int .i64 0), .d (.int .i64 0), .d (.int .i64 0), .d (.int .i64 0), .nil 3, .nil 5] /\ tyF 48 0 0 3 /\ tyF 48 1 1 3 /\ tyF 48 2 2 40 /\ tyF 48 3 5 42 /\ tyF 48 4 14 46 := by (repeat' apply And.intro) <;> kernel_rfl
@[simp] theorem EO : tyB 56 3 24 true none /\ tyZ 56 [.d (.int .i64 0), .d (.int .i64 0), .d (.int .i64 0)] /\ tyF 56 0 0 3 /\ tyF 56 1 1 3 /\ tyF 56 2 2 3 /\ VT prog 56 = true /\ zA prog 56 = [3, 3, 3] := by (repeat' apply And.intro) <;> kernel_rfl
@[simp] theorem Ed : tyB 58 1 24 false none /\ tyZ 58 [.nil 7] /\ tyS 58 99 false := by (repeat' apply And.intro) <;> kernel_rfl
@[simp] theorem Ef : tyB 59 1 24 false none /\ tyZ 59 [.nil 2] /\ tyS 59 31 false := by (repeat' apply And.intro) <;> kernel_rfl
@[simp] theorem EW : tyB 61 12 240 true none /\ tyZ 61 [.nil 5, .nil 3, .nil 4, .d (.int .i64 0), .d (.int .i64 0), .nil 7, .nil 1, .nil 2, .nil 1, .nil 1, .d (.int .i64 0), .nil 1] /\ tyF 61 0 0 28 /\ tyF 61 1 5 58 /\ tyF 61 2 6 34 /\ tyF 61 3 7 59 /\ tyF 61 4 8 34 /\ tyF 61 5 9 34 /\ tyF 61 6 10 3 /\ tyF 61 7 11 34 := by (repeat' apply And.intro) <;> kernel_rfl
@[simp] theorem Ea : tyB 80 1 24 false none /\ tyZ 80 [.nil 2] /\ tyS 80 197 false := by (repeat' apply And.intro) <;> kernel_rfl
@[simp] theorem Ei : tyB 81 1 24 false none /\ tyZ 81 [.nil 5] /\ tyS 81 123 false := by (repeat' apply And.intro) <;> kernel_rfl
@[simp] theorem EV : tyB 83 5 72 true none /\ tyZ 83 [.d (.int .i64 0), .d (.int .i64 0), .d (.int .i64 0), .nil 2, .nil 5] /\ tyF 83 0 0 3 /\ tyF 83 1 1 3 /\ tyF 83 2 2 3 /\ tyF 83 3 3 80 /\ tyF 83 4 4 81 := by (repeat' apply And.intro) <;> kernel_rfl
@[simp] theorem EY : tyB 90 2 16 true none /\ tyZ 90 [.d (.int .i64 0), .d (.int .i64 0)] /\ tyF 90 0 0 3 /\ tyF 90 1 1 3 /\ VT prog 90 = true /\ zA prog 90 = [3, 3] := by (repeat' apply And.intro) <;> kernel_rfl
@[simp] theorem EU : tyB 94 5 40 true none /\ tyZ 94 [.d (.int .i64 0), .d (.int .i64 0), .d (.int .i64 0), .d (.int .i64 0), .d (.int .i64 0)] /\ tyF 94 0 0 3 /\ tyF 94 1 1 3 /\ tyF 94 2 2 3 /\ tyF 94 3 3 3 /\ tyF 94 4 4 3 /\ VT prog 94 = true /\ zA prog 94 = [3, 3, 3, 3, 3] := by (repeat' apply And.intro) <;> kernel_rfl
@[simp] theorem EG : tyB 99 7 56 true none /\ tyZ 99 [.d (.int .i64 0), .d (.int .i64 0), .d (.int .i64 0), .d (.int .i64 0), .d (.int .i64 0), .d (.int .i64 0), .d (.int .i64 0)] /\ tyF 99 0 0 3 /\ tyF 99 1 1 3 /\ tyF 99 2 2 3 /\ tyF 99 3 3 3 /\ tyF 99 4 4 3 /\ tyF 99 5 5 3 /\ tyF 99 6 6 3 /\ VT prog 99 = true /\ zA prog 99 = [3, 3, 3, 3, 3, 3, 3] := by (repeat' apply And.intro) <;> kernel_rfl
@[simp] theorem F9 : tyB 112 4 32 true none /\ tyZ 112 [.d (.int .i64 0), .d (.int .i64 0), .d (.int .i64 0), .d (.int .i64 0)] /\ tyF 112 0 0 3 /\ tyF 112 1 1 3 /\ tyF 112 2 2 3 /\ tyF 112 3 3 3 /\ VT prog 112 = true /\ zA prog 112 = [3, 3, 3, 3] := by (repeat' apply And.intro) <;> kernel_rfl
@[simp] theorem F6 : tyB 118 3 40 true none /\ tyZ 118 [.nil 1, .d (.int .i64 0), .d (.int .i64 0)] /\ tyF 118 0 0 22 /\ tyF 118 1 1 3 /\ tyF 118 2 2 3 := by (repeat' apply And.intro) <;> kernel_rfl
@[simp] theorem F8 : tyB 123 5 40 true none /\ tyZ 123 [.d (.int .i64 0), .d (.int .i64 0), .d (.int .i64 0), .d (.int .i64 0), .d (.int .i64 0)] /\ tyF 123 0 0 3 /\ tyF 123 1 1 3 /\ tyF 123 2 2 3 /\ tyF 123 3 3 3 /\ tyF 123 4 4 3 /\ VT prog 123 = true /\ zA prog 123 = [3, 3, 3, 3, 3] := by (repeat' apply And.intro) <;> kernel_rfl
@[simp] theorem EC : tyB 158 3 40 true none /\ tyZ 158 [.d (.int .i64 0), .nil 1, .d (.int .i64 0)] /\ tyF 158 0 0 3 /\ tyF 158 1 1 34 /\ tyF 158 2 2 3 := by (repeat' apply And.intro) <;> kernel_rfl
@[simp] theorem F4 : tyB 166 1 24 false none /\ tyZ 166 [.nil 2] /\ tyS 166 90 false := by (repeat' apply And.intro) <;> kernel_rfl
@[simp] theorem F7 : tyB 181 5 40 true none /\ tyZ 181 [.d (.int .i64 0), .d (.int .i64 0), .d (.int .i64 0), .d (.int .i64 0), .d (.int .i64 0)] /\ tyF 181 0 0 3 /\ tyF 181 1 1 3 /\ tyF 181 2 2 3 /\ tyF 181 3 3 3 /\ tyF 181 4 4 3 /\ VT prog 181 = true /\ zA prog 181 = [3, 3, 3, 3, 3] := by (repeat' apply And.intro) <;> kernel_rfl
@[simp] theorem F3 : tyB 197 2 16 true none /\ tyZ 197 [.d (.int .i64 0), .d (.bool false)] /\ tyF 197 0 0 3 /\ tyF 197 1 1 4 /\ VT prog 197 = true /\ zA prog 197 = [3, 4] := by (repeat' apply And.intro) <;> kernel_rfl
@[simp] theorem F5 : tyB 211 6 48 true none /\ tyZ 211 [.d (.int .i64 0), .d (.int .i64 0), .d (.int .i64 0), .d (.int .i64 0), .d (.int .i64 0), .d (.int .i64 0)] /\ tyF 211 0 0 3 /\ tyF 211 1 1 3 /\ tyF 211 2 2 3 /\ tyF 211 3 3 3 /\ tyF 211 4 4 3 /\ tyF 211 5 5 3 /\ VT prog 211 = true /\ zA prog 211 = [3, 3, 3, 3, 3, 3] := by (repeat' apply And.intro) <;> kernel_rfl
@[simp] theorem ED : tyB 244 1 1 false (some .u8) /\ tyZ 244 [.d (.int .u8 0)] := by (repeat' apply And.intro) <;> kernel_rfl
theorem mixed : prog.follows .mixedOrders = true := by kernel_rfl
abbrev Sa (f : Nat) := XP prog f false
abbrev So (f : Nat) := XP prog f true
abbrev Sd (f : Nat) := YC prog f
end Go.Proofs.YtgkcgbmbdaapcaaGreat
