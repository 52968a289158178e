/- The facts of the plain types of the program, by evaluation. No condition. -/
import Derived.Test.YthecodaabaaaoaaGreatVe
import Derived.Test.YthecodaabaaaoaaGreatProg
namespace Go.Proofs.YthecodaabaaaoaaGreat
open Tryz
open Go.Vm
abbrev tyB(t c b:Nat)(a:Bool)(k:Option IntKind):Prop:=qP prog t=true/\prog.cellsOf t=c/\U9 prog t=a/\prog.bytesOf t=b/\(prog.underlying t).isSome=true/\Ah prog t=k
abbrev tyZ(t:Nat)(z:List At):Prop:=WL prog 12 t=some z/\Qb prog t=true
abbrev tyF(t i o f:Nat):Prop:=kA prog t i=true/\Qx prog t i=o/\qQ prog t i=f/\bOk prog t i=true/\RD prog t i=o/\bTy prog t i=f
abbrev tyS(t e:Nat)(b:Bool):Prop:=Xl prog t=true/\ZT prog t=e/\Ns prog t=b/\T9 prog t=false
@[simp] theorem ty2 : tyB 2 1 8 false (some .i64) /\ tyZ 2 [.d (.int .i64 0)] := zAH
@[simp] theorem ty3 : tyB 3 1 8 false (some .i64) /\ tyZ 3 [.d (.int .i64 0)] := zAH
@[simp] theorem ty4 : tyB 4 1 1 false none /\ tyZ 4 [.d (.bool false)] /\ Le prog 4 = true := zAH
@[simp] theorem ty5 : tyB 5 1 1 false (some .u8) /\ tyZ 5 [.d (.int .u8 0)] := zAH
@[simp] theorem ty6 : tyB 6 1 1 false (some .u8) /\ tyZ 6 [.d (.int .u8 0)] := zAH
@[simp] theorem ty8 : tyB 8 4 24 true none /\ tyZ 8 [.d (.int .i64 0), .d (.int .i64 0), .d (.bool false), .d (.int .u8 0)] /\ tyF 8 0 0 2 /\ tyF 8 1 1 3 /\ tyF 8 2 2 4 /\ tyF 8 3 3 6 := zAH
@[simp] theorem ty9 : tyB 9 1 16 false none /\ tyZ 9 [.d (.str ⟨#[]⟩)] /\ T9 prog 9 = true := zAH
@[simp] theorem o6 : tyB 10 1 16 false none /\ tyZ 10 [.d (.str ⟨#[]⟩)] /\ T9 prog 10 = true := zAH
@[simp] theorem nD : tyB 11 1 16 false none /\ tyZ 11 [.d (.str ⟨#[]⟩)] /\ T9 prog 11 = true := zAH
@[simp] theorem o5 : tyB 12 1 8 false (some .u64) /\ tyZ 12 [.d (.int .u64 0)] := zAH
@[simp] theorem nX : tyB 14 2 24 true none /\ tyZ 14 [.d (.str ⟨#[]⟩), .d (.int .u64 0)] /\ tyF 14 0 0 9 /\ tyF 14 1 1 12 := zAH
@[simp] theorem nI : tyB 22 1 24 false none /\ tyZ 22 [.nil 1] /\ tyS 22 5 true := zAH
@[simp] theorem nO : tyB 24 1 24 false none /\ tyZ 24 [.nil 5] /\ tyS 24 120 false := zAH
@[simp] theorem nV : tyB 25 1 24 false none /\ tyZ 25 [.nil 3] /\ tyS 25 132 false := zAH
@[simp] theorem nR : tyB 26 1 24 false none /\ tyZ 26 [.nil 4] /\ tyS 26 166 false := zAH
@[simp] theorem nH : tyB 28 5 88 true none /\ tyZ 28 [.nil 5, .nil 3, .nil 4, .d (.int .i64 0), .d (.int .i64 0)] /\ tyF 28 0 0 24 /\ tyF 28 1 1 25 /\ tyF 28 2 2 26 /\ tyF 28 3 3 3 /\ tyF 28 4 4 3 := zAH
@[simp] theorem nC : tyB 29 1 24 false none /\ tyZ 29 [.nil 7] /\ tyS 29 124 false := zAH
@[simp] theorem nW : tyB 30 1 24 false none /\ tyZ 30 [.nil 1] /\ tyS 30 3 false := zAH
@[simp] theorem nB : tyB 31 1 24 false none /\ tyZ 31 [.nil 2] /\ tyS 31 55 false := zAH
@[simp] theorem nM : tyB 33 12 240 true none /\ tyZ 33 [.nil 5, .nil 3, .nil 4, .d (.int .i64 0), .d (.int .i64 0), .nil 7, .nil 1, .nil 2, .nil 1, .nil 1, .d (.int .i64 0), .nil 1] /\ tyF 33 0 0 28 /\ tyF 33 1 5 29 /\ tyF 33 2 6 30 /\ tyF 33 3 7 31 /\ tyF 33 4 8 30 /\ tyF 33 5 9 30 /\ tyF 33 6 10 3 /\ tyF 33 7 11 30 := zAH
@[simp] theorem o9 : tyB 34 1 24 false none /\ tyZ 34 [.nil 9] /\ tyS 34 67 false := zAH
@[simp] theorem o7 : tyB 42 1 24 false none /\ tyZ 42 [.nil 1] /\ tyS 42 9 false := zAH
@[simp] theorem nP : tyB 44 3 56 true none /\ tyZ 44 [.d (.int .i64 0), .nil 1, .nil 1] /\ tyF 44 0 0 3 /\ tyF 44 1 1 42 /\ tyF 44 2 2 30 := zAH
@[simp] theorem nA : tyB 46 9 72 true none /\ tyZ 46 [.d (.int .i64 0), .d (.int .i64 0), .d (.int .i64 0), .d (.int .i64 0), .d (.int .i64 0), .d (.int .i64 0), .d (.int .i64 0), .d (.int .i64 0), .d (.int .i64 0)] /\ tyF 46 0 0 3 /\ tyF 46 1 1 3 /\ tyF 46 2 2 3 /\ tyF 46 3 3 3 /\ tyF 46 4 4 3 /\ tyF 46 5 5 3 /\ tyF 46 6 6 3 /\ tyF 46 7 7 3 /\ tyF 46 8 8 3 /\ Pg prog 46 = true /\ zg prog 46 = [3, 3, 3, 3, 3, 3, 3, 3, 3] := zAH
@[simp] theorem nQ : tyB 47 1 24 false none /\ tyZ 47 [.nil 3] /\ tyS 47 154 false := zAH
@[simp] theorem o8 : tyB 48 1 24 false none /\ tyZ 48 [.nil 5] /\ tyS 48 80 false := zAH
@[simp] theorem nY : tyB 50 2 48 true none /\ tyZ 50 [.nil 3, .nil 5] /\ tyF 50 0 0 47 /\ tyF 50 1 1 48 := zAH
@[simp] theorem nK : tyB 52 16 192 true none /\ tyZ 52 [.d (.int .i64 0), .d (.int .i64 0), .d (.int .i64 0), .nil 1, .nil 1, .d (.int .i64 0), .d (.int .i64 0), .d (.int .i64 0), .d (.int .i64 0), .d (.int .i64 0), .d (.int .i64 0), .d (.int .i64 0), .d (.int .i64 0), .d (.int .i64 0), .nil 3, .nil 5] /\ tyF 52 0 0 3 /\ tyF 52 1 1 3 /\ tyF 52 2 2 44 /\ tyF 52 3 5 46 /\ tyF 52 4 14 50 := zAH
@[simp] theorem nG : tyB 53 1 24 false none /\ tyZ 53 [.nil 16] /\ tyS 53 52 false := zAH
@[simp] theorem nE : tyB 55 2 32 true none /\ tyZ 55 [.d (.int .i64 0), .nil 16] /\ tyF 55 0 0 3 /\ tyF 55 1 1 53 := zAH
@[simp] theorem nL : tyB 60 2 16 true none /\ tyZ 60 [.d (.int .i64 0), .d (.int .i64 0)] /\ tyF 60 0 0 3 /\ tyF 60 1 1 3 /\ Pg prog 60 = true /\ zg prog 60 = [3, 3] := zAH
@[simp] theorem nN : tyB 62 4 32 true none /\ tyZ 62 [.d (.int .i64 0), .d (.int .i64 0), .d (.int .i64 0), .d (.int .i64 0)] /\ tyF 62 0 0 3 /\ tyF 62 1 1 3 /\ tyF 62 2 2 60 /\ Pg prog 62 = true /\ zg prog 62 = [3, 3, 3, 3] := zAH
@[simp] theorem nS : tyB 67 9 120 true none /\ tyZ 67 [.d (.int .i64 0), .d (.int .i64 0), .d (.int .i64 0), .d (.int .i64 0), .d (.int .i64 0), .d (.int .i64 0), .nil 1, .nil 1, .nil 1] /\ tyF 67 0 0 3 /\ tyF 67 1 1 3 /\ tyF 67 2 2 3 /\ tyF 67 3 3 3 /\ tyF 67 4 4 3 /\ tyF 67 5 5 44 /\ tyF 67 6 8 30 := zAH
@[simp] theorem nU : tyB 77 1 24 false none /\ tyZ 77 [.nil 2] /\ tyS 77 247 false := zAH
@[simp] theorem nT : tyB 78 1 24 false none /\ tyZ 78 [.nil 5] /\ tyS 78 135 false := zAH
@[simp] theorem nZ : tyB 80 5 72 true none /\ tyZ 80 [.d (.int .i64 0), .d (.int .i64 0), .d (.int .i64 0), .nil 2, .nil 5] /\ tyF 80 0 0 3 /\ tyF 80 1 1 3 /\ tyF 80 2 2 3 /\ tyF 80 3 3 77 /\ tyF 80 4 4 78 := zAH
@[simp] theorem nJ : tyB 93 3 40 true none /\ tyZ 93 [.nil 1, .d (.int .i64 0), .d (.int .i64 0)] /\ tyF 93 0 0 22 /\ tyF 93 1 1 3 /\ tyF 93 2 2 3 := zAH
@[simp] theorem og : tyB 112 1 24 false none /\ tyZ 112 [.nil 2] /\ tyS 112 50 false := zAH
@[simp] theorem ox : tyB 113 1 24 false none /\ tyZ 113 [.nil 1] /\ tyS 113 78 false := zAH
@[simp] theorem oa : tyB 114 2 48 true none /\ tyZ 114 [.nil 2, .nil 1] /\ tyF 114 0 0 112 /\ tyF 114 1 1 113 := zAH
@[simp] theorem oc : tyB 115 2 48 true none /\ tyZ 115 [.nil 2, .nil 1] /\ tyF 115 0 0 112 /\ tyF 115 1 1 113 := zAH
@[simp] theorem oV : tyB 119 5 40 true none /\ tyZ 119 [.d (.int .i64 0), .d (.int .i64 0), .d (.int .i64 0), .d (.int .i64 0), .d (.int .i64 0)] /\ tyF 119 0 0 3 /\ tyF 119 1 1 3 /\ tyF 119 2 2 3 /\ tyF 119 3 3 3 /\ tyF 119 4 4 3 := zAH
@[simp] theorem oq : tyB 120 5 40 true none /\ tyZ 120 [.d (.int .i64 0), .d (.int .i64 0), .d (.int .i64 0), .d (.int .i64 0), .d (.int .i64 0)] /\ tyF 120 0 0 3 /\ tyF 120 1 1 3 /\ tyF 120 2 2 3 /\ tyF 120 3 3 3 /\ tyF 120 4 4 3 /\ Pg prog 120 = true /\ zg prog 120 = [3, 3, 3, 3, 3] := zAH
@[simp] theorem ov : tyB 124 7 56 true none /\ tyZ 124 [.d (.int .i64 0), .d (.int .i64 0), .d (.int .i64 0), .d (.int .i64 0), .d (.int .i64 0), .d (.int .i64 0), .d (.int .i64 0)] /\ tyF 124 0 0 3 /\ tyF 124 1 1 3 /\ tyF 124 2 2 3 /\ tyF 124 3 3 3 /\ tyF 124 4 4 3 /\ tyF 124 5 5 3 /\ tyF 124 6 6 3 /\ Pg prog 124 = true /\ zg prog 124 = [3, 3, 3, 3, 3, 3, 3] := zAH
@[simp] theorem oT : tyB 127 5 40 true none /\ tyZ 127 [.d (.int .i64 0), .d (.int .i64 0), .d (.int .i64 0), .d (.int .i64 0), .d (.int .i64 0)] /\ tyF 127 0 0 3 /\ tyF 127 1 1 3 /\ tyF 127 2 2 3 /\ tyF 127 3 3 3 /\ tyF 127 4 4 3 /\ Pg prog 127 = true /\ zg prog 127 = [3, 3, 3, 3, 3] := zAH
@[simp] theorem oW : tyB 132 3 24 true none /\ tyZ 132 [.d (.int .i64 0), .d (.int .i64 0), .d (.int .i64 0)] /\ tyF 132 0 0 3 /\ tyF 132 1 1 3 /\ tyF 132 2 2 3 /\ Pg prog 132 = true /\ zg prog 132 = [3, 3, 3] := zAH
@[simp] theorem oX : tyB 135 5 40 true none /\ tyZ 135 [.d (.int .i64 0), .d (.int .i64 0), .d (.int .i64 0), .d (.int .i64 0), .d (.int .i64 0)] /\ tyF 135 0 0 3 /\ tyF 135 1 1 3 /\ tyF 135 2 2 3 /\ tyF 135 3 3 3 /\ tyF 135 4 4 3 /\ Pg prog 135 = true /\ zg prog 135 = [3, 3, 3, 3, 3] := zAH
@[simp] theorem oo : tyB 154 3 40 true none /\ tyZ 154 [.d (.int .i64 0), .nil 1, .d (.int .i64 0)] /\ tyF 154 0 0 3 /\ tyF 154 1 1 30 /\ tyF 154 2 2 3 := zAH
@[simp] theorem oZ : tyB 166 4 32 true none /\ tyZ 166 [.d (.int .i64 0), .d (.int .i64 0), .d (.int .i64 0), .d (.int .i64 0)] /\ tyF 166 0 0 3 /\ tyF 166 1 1 3 /\ tyF 166 2 2 3 /\ tyF 166 3 3 3 /\ Pg prog 166 = true /\ zg prog 166 = [3, 3, 3, 3] := zAH
@[simp] theorem ow : tyB 177 1 24 false none /\ tyZ 177 [.nil 2] /\ tyS 177 60 false := zAH
@[simp] theorem oe : tyB 183 1 24 false none /\ tyZ 183 [.nil 1] /\ tyS 183 30 false := zAH
@[simp] theorem ou : tyB 197 4 48 true none /\ tyZ 197 [.d (.int .i64 0), .d (.int .i64 0), .nil 16, .d (.int .i64 0)] /\ tyF 197 0 0 3 /\ tyF 197 1 1 3 /\ tyF 197 2 2 53 /\ tyF 197 3 3 3 := zAH
@[simp] theorem o0 : tyB 237 1 24 false none /\ tyZ 237 [.nil 5] /\ tyS 237 127 false := zAH
@[simp] theorem oy : tyB 241 1 24 false none /\ tyZ 241 [.nil 6] /\ tyS 241 273 false := zAH
@[simp] theorem od : tyB 247 2 16 true none /\ tyZ 247 [.d (.int .i64 0), .d (.bool false)] /\ tyF 247 0 0 3 /\ tyF 247 1 1 4 /\ Pg prog 247 = true /\ zg prog 247 = [3, 4] := zAH
@[simp] theorem oY : tyB 273 6 48 true none /\ tyZ 273 [.d (.int .i64 0), .d (.int .i64 0), .d (.int .i64 0), .d (.int .i64 0), .d (.int .i64 0), .d (.int .i64 0)] /\ tyF 273 0 0 3 /\ tyF 273 1 1 3 /\ tyF 273 2 2 3 /\ tyF 273 3 3 3 /\ tyF 273 4 4 3 /\ tyF 273 5 5 3 /\ Pg prog 273 = true /\ zg prog 273 = [3, 3, 3, 3, 3, 3] := zAH
@[simp] theorem oz : tyB 276 5 40 true none /\ tyZ 276 [.d (.int .i64 0), .d (.int .i64 0), .d (.int .i64 0), .d (.int .i64 0), .d (.int .i64 0)] /\ Dx prog 276 = some 5 /\ ZT prog 276 = 3 /\ bOk prog 276 0 = true /\ RD prog 276 0 = 0 /\ bTy prog 276 0 = 3 /\ bOk prog 276 1 = true /\ RD prog 276 1 = 1 /\ bTy prog 276 1 = 3 /\ bOk prog 276 2 = true /\ RD prog 276 2 = 2 /\ bTy prog 276 2 = 3 /\ bOk prog 276 3 = true /\ RD prog 276 3 = 3 /\ bTy prog 276 3 = 3 /\ bOk prog 276 4 = true /\ RD prog 276 4 = 4 /\ bTy prog 276 4 = 3 := zAH
@[simp] theorem oh : tyB 302 1 1 false (some .u8) /\ tyZ 302 [.d (.int .u8 0)] := zAH
theorem mixed:prog.follows .mixedOrders=true:=zAV
abbrev Sa(f:Nat):=Q0 prog f false
abbrev So(f:Nat):=Q0 prog f true
abbrev Sd(f:Nat):=Yb prog f
end Go.Proofs.YthecodaabaaaoaaGreat
