/- The facts of the plain types of the program, by evaluation. No condition. -/
import Derived.Test.YthecodaabaaaoaaGreatVe
import Derived.Test.YthecodaabaaaoaaGreatProg
namespace Go.Proofs.YthecodaabaaaoaaGreat
open Tryz
open Go.Vm
abbrev tyB(t c b:Nat)(a:Bool)(k:Option IntKind):Prop:=qm prog t=true/\prog.cellsOf t=c/\TR prog t=a/\prog.bytesOf t=b/\(prog.underlying t).isSome=true/\wq prog t=k
abbrev tyZ(t:Nat)(z:List At):Prop:=Wl prog 12 t=some z/\Qg prog t=true
abbrev tyF(t i o f:Nat):Prop:=kp prog t i=true/\JF prog t i=o/\qf prog t i=f/\bOk prog t i=true/\RP prog t i=o/\bTy prog t i=f
abbrev tyS(t e:Nat)(b:Bool):Prop:=Xj prog t=true/\ZV prog t=e/\ML prog t=b/\Su prog t=false
@[simp] theorem ty2 : tyB 2 1 8 false (some .i64) /\ tyZ 2 [.d (.int .i64 0)] := zAF
@[simp] theorem ty3 : tyB 3 1 8 false (some .i64) /\ tyZ 3 [.d (.int .i64 0)] := zAF
@[simp] theorem ty4 : tyB 4 1 1 false none /\ tyZ 4 [.d (.bool false)] /\ Lu prog 4 = true := zAF
@[simp] theorem ty5 : tyB 5 1 1 false (some .u8) /\ tyZ 5 [.d (.int .u8 0)] := zAF
@[simp] theorem ty6 : tyB 6 1 1 false (some .u8) /\ tyZ 6 [.d (.int .u8 0)] := zAF
@[simp] theorem ty8 : tyB 8 4 24 true none /\ tyZ 8 [.d (.int .i64 0), .d (.int .i64 0), .d (.bool false), .d (.int .u8 0)] /\ tyF 8 0 0 2 /\ tyF 8 1 1 3 /\ tyF 8 2 2 4 /\ tyF 8 3 3 6 := zAF
@[simp] theorem ty9 : tyB 9 1 16 false none /\ tyZ 9 [.d (.str ⟨#[]⟩)] /\ Su prog 9 = true := zAF
@[simp] theorem lZ : tyB 10 1 16 false none /\ tyZ 10 [.d (.str ⟨#[]⟩)] /\ Su prog 10 = true := zAF
@[simp] theorem iA : tyB 11 1 16 false none /\ tyZ 11 [.d (.str ⟨#[]⟩)] /\ Su prog 11 = true := zAF
@[simp] theorem lj : tyB 12 1 8 false (some .u64) /\ tyZ 12 [.d (.int .u64 0)] := zAF
@[simp] theorem lh : tyB 14 2 24 true none /\ tyZ 14 [.d (.str ⟨#[]⟩), .d (.int .u64 0)] /\ tyF 14 0 0 9 /\ tyF 14 1 1 12 := zAF
@[simp] theorem lX : tyB 22 1 24 false none /\ tyZ 22 [.nil 1] /\ tyS 22 5 true := zAF
@[simp] theorem lq : tyB 24 1 24 false none /\ tyZ 24 [.nil 5] /\ tyS 24 120 false := zAF
@[simp] theorem lS : tyB 25 1 24 false none /\ tyZ 25 [.nil 3] /\ tyS 25 132 false := zAF
@[simp] theorem l6 : tyB 26 1 24 false none /\ tyZ 26 [.nil 4] /\ tyS 26 166 false := zAF
@[simp] theorem lV : tyB 28 5 88 true none /\ tyZ 28 [.nil 5, .nil 3, .nil 4, .d (.int .i64 0), .d (.int .i64 0)] /\ tyF 28 0 0 24 /\ tyF 28 1 1 25 /\ tyF 28 2 2 26 /\ tyF 28 3 3 3 /\ tyF 28 4 4 3 := zAF
@[simp] theorem l7 : tyB 29 1 24 false none /\ tyZ 29 [.nil 7] /\ tyS 29 124 false := zAF
@[simp] theorem ld : tyB 30 1 24 false none /\ tyZ 30 [.nil 1] /\ tyS 30 3 false := zAF
@[simp] theorem iB : tyB 31 1 24 false none /\ tyZ 31 [.nil 2] /\ tyS 31 55 false := zAF
@[simp] theorem lY : tyB 33 12 240 true none /\ tyZ 33 [.nil 5, .nil 3, .nil 4, .d (.int .i64 0), .d (.int .i64 0), .nil 7, .nil 1, .nil 2, .nil 1, .nil 1, .d (.int .i64 0), .nil 1] /\ tyF 33 0 0 28 /\ tyF 33 1 5 29 /\ tyF 33 2 6 30 /\ tyF 33 3 7 31 /\ tyF 33 4 8 30 /\ tyF 33 5 9 30 /\ tyF 33 6 10 3 /\ tyF 33 7 11 30 := zAF
@[simp] theorem la : tyB 34 1 24 false none /\ tyZ 34 [.nil 9] /\ tyS 34 67 false := zAF
@[simp] theorem lp : tyB 42 1 24 false none /\ tyZ 42 [.nil 1] /\ tyS 42 9 false := zAF
@[simp] theorem lu : tyB 44 3 56 true none /\ tyZ 44 [.d (.int .i64 0), .nil 1, .nil 1] /\ tyF 44 0 0 3 /\ tyF 44 1 1 42 /\ tyF 44 2 2 30 := zAF
@[simp] theorem lW : tyB 46 9 72 true none /\ tyZ 46 [.d (.int .i64 0), .d (.int .i64 0), .d (.int .i64 0), .d (.int .i64 0), .d (.int .i64 0), .d (.int .i64 0), .d (.int .i64 0), .d (.int .i64 0), .d (.int .i64 0)] /\ tyF 46 0 0 3 /\ tyF 46 1 1 3 /\ tyF 46 2 2 3 /\ tyF 46 3 3 3 /\ tyF 46 4 4 3 /\ tyF 46 5 5 3 /\ tyF 46 6 6 3 /\ tyF 46 7 7 3 /\ tyF 46 8 8 3 /\ P5 prog 46 = true /\ zx prog 46 = [3, 3, 3, 3, 3, 3, 3, 3, 3] := zAF
@[simp] theorem l3 : tyB 47 1 24 false none /\ tyZ 47 [.nil 3] /\ tyS 47 154 false := zAF
@[simp] theorem l0 : tyB 48 1 24 false none /\ tyZ 48 [.nil 5] /\ tyS 48 80 false := zAF
@[simp] theorem l8 : tyB 50 2 48 true none /\ tyZ 50 [.nil 3, .nil 5] /\ tyF 50 0 0 47 /\ tyF 50 1 1 48 := zAF
@[simp] theorem l9 : tyB 52 16 192 true none /\ tyZ 52 [.d (.int .i64 0), .d (.int .i64 0), .d (.int .i64 0), .nil 1, .nil 1, .d (.int .i64 0), .d (.int .i64 0), .d (.int .i64 0), .d (.int .i64 0), .d (.int .i64 0), .d (.int .i64 0), .d (.int .i64 0), .d (.int .i64 0), .d (.int .i64 0), .nil 3, .nil 5] /\ tyF 52 0 0 3 /\ tyF 52 1 1 3 /\ tyF 52 2 2 44 /\ tyF 52 3 5 46 /\ tyF 52 4 14 50 := zAF
@[simp] theorem lT : tyB 53 1 24 false none /\ tyZ 53 [.nil 16] /\ tyS 53 52 false := zAF
@[simp] theorem iC : tyB 55 2 32 true none /\ tyZ 55 [.d (.int .i64 0), .nil 16] /\ tyF 55 0 0 3 /\ tyF 55 1 1 53 := zAF
@[simp] theorem l4 : tyB 60 2 16 true none /\ tyZ 60 [.d (.int .i64 0), .d (.int .i64 0)] /\ tyF 60 0 0 3 /\ tyF 60 1 1 3 /\ P5 prog 60 = true /\ zx prog 60 = [3, 3] := zAF
@[simp] theorem lU : tyB 62 4 32 true none /\ tyZ 62 [.d (.int .i64 0), .d (.int .i64 0), .d (.int .i64 0), .d (.int .i64 0)] /\ tyF 62 0 0 3 /\ tyF 62 1 1 3 /\ tyF 62 2 2 60 /\ P5 prog 62 = true /\ zx prog 62 = [3, 3, 3, 3] := zAF
@[simp] theorem lb : tyB 67 9 120 true none /\ tyZ 67 [.d (.int .i64 0), .d (.int .i64 0), .d (.int .i64 0), .d (.int .i64 0), .d (.int .i64 0), .d (.int .i64 0), .nil 1, .nil 1, .nil 1] /\ tyF 67 0 0 3 /\ tyF 67 1 1 3 /\ tyF 67 2 2 3 /\ tyF 67 3 3 3 /\ tyF 67 4 4 3 /\ tyF 67 5 5 44 /\ tyF 67 6 8 30 := zAF
@[simp] theorem lz : tyB 77 1 24 false none /\ tyZ 77 [.nil 2] /\ tyS 77 247 false := zAF
@[simp] theorem lv : tyB 78 1 24 false none /\ tyZ 78 [.nil 5] /\ tyS 78 135 false := zAF
@[simp] theorem lk : tyB 80 5 72 true none /\ tyZ 80 [.d (.int .i64 0), .d (.int .i64 0), .d (.int .i64 0), .nil 2, .nil 5] /\ tyF 80 0 0 3 /\ tyF 80 1 1 3 /\ tyF 80 2 2 3 /\ tyF 80 3 3 77 /\ tyF 80 4 4 78 := zAF
@[simp] theorem lg : tyB 93 3 40 true none /\ tyZ 93 [.nil 1, .d (.int .i64 0), .d (.int .i64 0)] /\ tyF 93 0 0 22 /\ tyF 93 1 1 3 /\ tyF 93 2 2 3 := zAF
@[simp] theorem lB : tyB 112 1 24 false none /\ tyZ 112 [.nil 2] /\ tyS 112 50 false := zAF
@[simp] theorem lP : tyB 113 1 24 false none /\ tyZ 113 [.nil 1] /\ tyS 113 78 false := zAF
@[simp] theorem lH : tyB 114 2 48 true none /\ tyZ 114 [.nil 2, .nil 1] /\ tyF 114 0 0 112 /\ tyF 114 1 1 113 := zAF
@[simp] theorem lO : tyB 115 2 48 true none /\ tyZ 115 [.nil 2, .nil 1] /\ tyF 115 0 0 112 /\ tyF 115 1 1 113 := zAF
@[simp] theorem lJ : tyB 119 5 40 true none /\ tyZ 119 [.d (.int .i64 0), .d (.int .i64 0), .d (.int .i64 0), .d (.int .i64 0), .d (.int .i64 0)] /\ tyF 119 0 0 3 /\ tyF 119 1 1 3 /\ tyF 119 2 2 3 /\ tyF 119 3 3 3 /\ tyF 119 4 4 3 := zAF
@[simp] theorem mw : tyB 120 5 40 true none /\ tyZ 120 [.d (.int .i64 0), .d (.int .i64 0), .d (.int .i64 0), .d (.int .i64 0), .d (.int .i64 0)] /\ tyF 120 0 0 3 /\ tyF 120 1 1 3 /\ tyF 120 2 2 3 /\ tyF 120 3 3 3 /\ tyF 120 4 4 3 /\ P5 prog 120 = true /\ zx prog 120 = [3, 3, 3, 3, 3] := zAF
@[simp] theorem mu : tyB 124 7 56 true none /\ tyZ 124 [.d (.int .i64 0), .d (.int .i64 0), .d (.int .i64 0), .d (.int .i64 0), .d (.int .i64 0), .d (.int .i64 0), .d (.int .i64 0)] /\ tyF 124 0 0 3 /\ tyF 124 1 1 3 /\ tyF 124 2 2 3 /\ tyF 124 3 3 3 /\ tyF 124 4 4 3 /\ tyF 124 5 5 3 /\ tyF 124 6 6 3 /\ P5 prog 124 = true /\ zx prog 124 = [3, 3, 3, 3, 3, 3, 3] := zAF
@[simp] theorem lL : tyB 127 5 40 true none /\ tyZ 127 [.d (.int .i64 0), .d (.int .i64 0), .d (.int .i64 0), .d (.int .i64 0), .d (.int .i64 0)] /\ tyF 127 0 0 3 /\ tyF 127 1 1 3 /\ tyF 127 2 2 3 /\ tyF 127 3 3 3 /\ tyF 127 4 4 3 /\ P5 prog 127 = true /\ zx prog 127 = [3, 3, 3, 3, 3] := zAF
@[simp] theorem lK : tyB 132 3 24 true none /\ tyZ 132 [.d (.int .i64 0), .d (.int .i64 0), .d (.int .i64 0)] /\ tyF 132 0 0 3 /\ tyF 132 1 1 3 /\ tyF 132 2 2 3 /\ P5 prog 132 = true /\ zx prog 132 = [3, 3, 3] := zAF
@[simp] theorem lN : tyB 135 5 40 true none /\ tyZ 135 [.d (.int .i64 0), .d (.int .i64 0), .d (.int .i64 0), .d (.int .i64 0), .d (.int .i64 0)] /\ tyF 135 0 0 3 /\ tyF 135 1 1 3 /\ tyF 135 2 2 3 /\ tyF 135 3 3 3 /\ tyF 135 4 4 3 /\ P5 prog 135 = true /\ zx prog 135 = [3, 3, 3, 3, 3] := zAF
@[simp] theorem lI : tyB 154 3 40 true none /\ tyZ 154 [.d (.int .i64 0), .nil 1, .d (.int .i64 0)] /\ tyF 154 0 0 3 /\ tyF 154 1 1 30 /\ tyF 154 2 2 3 := zAF
@[simp] theorem lQ : tyB 166 4 32 true none /\ tyZ 166 [.d (.int .i64 0), .d (.int .i64 0), .d (.int .i64 0), .d (.int .i64 0)] /\ tyF 166 0 0 3 /\ tyF 166 1 1 3 /\ tyF 166 2 2 3 /\ tyF 166 3 3 3 /\ P5 prog 166 = true /\ zx prog 166 = [3, 3, 3, 3] := zAF
@[simp] theorem lE : tyB 177 1 24 false none /\ tyZ 177 [.nil 2] /\ tyS 177 60 false := zAF
@[simp] theorem lC : tyB 183 1 24 false none /\ tyZ 183 [.nil 1] /\ tyS 183 30 false := zAF
@[simp] theorem m0 : tyB 197 4 48 true none /\ tyZ 197 [.d (.int .i64 0), .d (.int .i64 0), .nil 16, .d (.int .i64 0)] /\ tyF 197 0 0 3 /\ tyF 197 1 1 3 /\ tyF 197 2 2 53 /\ tyF 197 3 3 3 := zAF
@[simp] theorem m9 : tyB 237 1 24 false none /\ tyZ 237 [.nil 5] /\ tyS 237 127 false := zAF
@[simp] theorem mv : tyB 241 1 24 false none /\ tyZ 241 [.nil 6] /\ tyS 241 273 false := zAF
@[simp] theorem lD : tyB 247 2 16 true none /\ tyZ 247 [.d (.int .i64 0), .d (.bool false)] /\ tyF 247 0 0 3 /\ tyF 247 1 1 4 /\ P5 prog 247 = true /\ zx prog 247 = [3, 4] := zAF
@[simp] theorem mz : tyB 273 6 48 true none /\ tyZ 273 [.d (.int .i64 0), .d (.int .i64 0), .d (.int .i64 0), .d (.int .i64 0), .d (.int .i64 0), .d (.int .i64 0)] /\ tyF 273 0 0 3 /\ tyF 273 1 1 3 /\ tyF 273 2 2 3 /\ tyF 273 3 3 3 /\ tyF 273 4 4 3 /\ tyF 273 5 5 3 /\ P5 prog 273 = true /\ zx prog 273 = [3, 3, 3, 3, 3, 3] := zAF
@[simp] theorem lA : tyB 276 5 40 true none /\ tyZ 276 [.d (.int .i64 0), .d (.int .i64 0), .d (.int .i64 0), .d (.int .i64 0), .d (.int .i64 0)] /\ D0 prog 276 = some 5 /\ ZV prog 276 = 3 /\ bOk prog 276 0 = true /\ RP prog 276 0 = 0 /\ bTy prog 276 0 = 3 /\ bOk prog 276 1 = true /\ RP prog 276 1 = 1 /\ bTy prog 276 1 = 3 /\ bOk prog 276 2 = true /\ RP prog 276 2 = 2 /\ bTy prog 276 2 = 3 /\ bOk prog 276 3 = true /\ RP prog 276 3 = 3 /\ bTy prog 276 3 = 3 /\ bOk prog 276 4 = true /\ RP prog 276 4 = 4 /\ bTy prog 276 4 = 3 := zAF
@[simp] theorem lF : tyB 302 1 1 false (some .u8) /\ tyZ 302 [.d (.int .u8 0)] := zAF
theorem mixed:prog.follows .mixedOrders=true:=zAV
abbrev Sa(f:Nat):=JK prog f false
abbrev So(f:Nat):=JK prog f true
abbrev Sd(f:Nat):=Yg prog f
end Go.Proofs.YthecodaabaaaoaaGreat
