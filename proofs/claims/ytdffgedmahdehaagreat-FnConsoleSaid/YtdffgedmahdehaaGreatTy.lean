/- The facts of the plain types of the program, by evaluation. No condition. -/
import Derived.Test.YtdffgedmahdehaaGreatVe
import Derived.Test.YtdffgedmahdehaaGreatProg
namespace Go.Proofs.YtdffgedmahdehaaGreat
open Tryz
open Go.Vm
abbrev tyB(t c b:Nat)(a:Bool)(k:Option IntKind):Prop:=jc prog t=true/\prog.cellsOf t=c/\PH prog t=a/\prog.bytesOf t=b/\(prog.underlying t).isSome=true/\uo prog t=k
abbrev tyZ(t:Nat)(z:List At):Prop:=UD prog 12 t=some z/\QE prog t=true
abbrev tyF(t i o f:Nat):Prop:=WR prog t i=true/\Qc prog t i=o/\jZ prog t i=f/\bOk prog t i=true/\jx prog t i=o/\bTy prog t i=f
abbrev tyS(t e:Nat)(b:Bool):Prop:=XS prog t=true/\ZS prog t=e/\NS prog t=b/\R8 prog t=false
@[simp] theorem ty2 : tyB 2 1 8 false (some .i64) /\ tyZ 2 [.d (.int .i64 0)] := zAG
@[simp] theorem ty3 : tyB 3 1 8 false (some .i64) /\ tyZ 3 [.d (.int .i64 0)] := zAG
@[simp] theorem ty4 : tyB 4 1 1 false none /\ tyZ 4 [.d (.bool false)] /\ G8 prog 4 = true := zAG
@[simp] theorem ty5 : tyB 5 1 1 false (some .u8) /\ tyZ 5 [.d (.int .u8 0)] := zAG
@[simp] theorem ty6 : tyB 6 1 1 false (some .u8) /\ tyZ 6 [.d (.int .u8 0)] := zAG
@[simp] theorem ty8 : tyB 8 4 24 true none /\ tyZ 8 [.d (.int .i64 0), .d (.int .i64 0), .d (.bool false), .d (.int .u8 0)] /\ tyF 8 0 0 2 /\ tyF 8 1 1 3 /\ tyF 8 2 2 4 /\ tyF 8 3 3 6 := zAG
@[simp] theorem ty9 : tyB 9 1 16 false none /\ tyZ 9 [.d (.str ⟨#[]⟩)] /\ R8 prog 9 = true := zAG
@[simp] theorem iO : tyB 10 1 16 false none /\ tyZ 10 [.d (.str ⟨#[]⟩)] /\ R8 prog 10 = true := zAG
@[simp] theorem l7 : tyB 11 1 16 false none /\ tyZ 11 [.d (.str ⟨#[]⟩)] /\ R8 prog 11 = true := zAG
@[simp] theorem l9 : tyB 12 1 8 false (some .u64) /\ tyZ 12 [.d (.int .u64 0)] := zAG
@[simp] theorem iH : tyB 14 2 24 true none /\ tyZ 14 [.d (.str ⟨#[]⟩), .d (.int .u64 0)] /\ tyF 14 0 0 9 /\ tyF 14 1 1 12 := zAG
@[simp] theorem iJ : tyB 22 1 24 false none /\ tyZ 22 [.nil 1] /\ tyS 22 5 true := zAG
@[simp] theorem iU : tyB 24 1 24 false none /\ tyZ 24 [.nil 5] /\ tyS 24 119 false := zAG
@[simp] theorem iB : tyB 25 1 24 false none /\ tyZ 25 [.nil 3] /\ tyS 25 121 false := zAG
@[simp] theorem iA : tyB 26 1 24 false none /\ tyZ 26 [.nil 4] /\ tyS 26 123 false := zAG
@[simp] theorem iP : tyB 28 5 88 true none /\ tyZ 28 [.nil 5, .nil 3, .nil 4, .d (.int .i64 0), .d (.int .i64 0)] /\ tyF 28 0 0 24 /\ tyF 28 1 1 25 /\ tyF 28 2 2 26 /\ tyF 28 3 3 3 /\ tyF 28 4 4 3 := zAG
@[simp] theorem l8 : tyB 29 1 24 false none /\ tyZ 29 [.nil 7] /\ tyS 29 72 false := zAG
@[simp] theorem l5 : tyB 30 1 24 false none /\ tyZ 30 [.nil 1] /\ tyS 30 3 false := zAG
@[simp] theorem iT : tyB 31 1 24 false none /\ tyZ 31 [.nil 2] /\ tyS 31 44 false := zAG
@[simp] theorem iF : tyB 32 12 240 true none /\ tyZ 32 [.nil 5, .nil 3, .nil 4, .d (.int .i64 0), .d (.int .i64 0), .nil 7, .nil 1, .nil 2, .nil 1, .nil 1, .d (.int .i64 0), .nil 1] /\ tyF 32 0 0 28 /\ tyF 32 1 5 29 /\ tyF 32 2 6 30 /\ tyF 32 3 7 31 /\ tyF 32 4 8 30 /\ tyF 32 5 9 30 /\ tyF 32 6 10 3 /\ tyF 32 7 11 30 := zAG
@[simp] theorem iE : tyB 33 12 240 true none /\ tyZ 33 [.nil 5, .nil 3, .nil 4, .d (.int .i64 0), .d (.int .i64 0), .nil 7, .nil 1, .nil 2, .nil 1, .nil 1, .d (.int .i64 0), .nil 1] /\ tyF 33 0 0 28 /\ tyF 33 1 5 29 /\ tyF 33 2 6 30 /\ tyF 33 3 7 31 /\ tyF 33 4 8 30 /\ tyF 33 5 9 30 /\ tyF 33 6 10 3 /\ tyF 33 7 11 30 := zAG
@[simp] theorem iI : tyB 38 1 24 false none /\ tyZ 38 [.nil 1] /\ tyS 38 9 false := zAG
@[simp] theorem iV : tyB 42 1 24 false none /\ tyZ 42 [.nil 16] /\ tyS 42 61 false := zAG
@[simp] theorem iY : tyB 44 2 32 true none /\ tyZ 44 [.d (.int .i64 0), .nil 16] /\ tyF 44 0 0 3 /\ tyF 44 1 1 42 := zAG
@[simp] theorem iX : tyB 45 1 24 false none /\ tyZ 45 [.nil 5] /\ tyS 45 131 false := zAG
@[simp] theorem iM : tyB 53 3 56 true none /\ tyZ 53 [.d (.int .i64 0), .nil 1, .nil 1] /\ tyF 53 0 0 3 /\ tyF 53 1 1 38 /\ tyF 53 2 2 30 := zAG
@[simp] theorem iN : tyB 55 9 72 true none /\ tyZ 55 [.d (.int .i64 0), .d (.int .i64 0), .d (.int .i64 0), .d (.int .i64 0), .d (.int .i64 0), .d (.int .i64 0), .d (.int .i64 0), .d (.int .i64 0), .d (.int .i64 0)] /\ tyF 55 0 0 3 /\ tyF 55 1 1 3 /\ tyF 55 2 2 3 /\ tyF 55 3 3 3 /\ tyF 55 4 4 3 /\ tyF 55 5 5 3 /\ tyF 55 6 6 3 /\ tyF 55 7 7 3 /\ tyF 55 8 8 3 /\ My prog 55 = true /\ zX prog 55 = [3, 3, 3, 3, 3, 3, 3, 3, 3] := zAG
@[simp] theorem l3 : tyB 56 1 24 false none /\ tyZ 56 [.nil 3] /\ tyS 56 98 false := zAG
@[simp] theorem iL : tyB 57 1 24 false none /\ tyZ 57 [.nil 5] /\ tyS 57 87 false := zAG
@[simp] theorem iQ : tyB 59 2 48 true none /\ tyZ 59 [.nil 3, .nil 5] /\ tyF 59 0 0 56 /\ tyF 59 1 1 57 := zAG
@[simp] theorem iG : tyB 61 16 192 true none /\ tyZ 61 [.d (.int .i64 0), .d (.int .i64 0), .d (.int .i64 0), .nil 1, .nil 1, .d (.int .i64 0), .d (.int .i64 0), .d (.int .i64 0), .d (.int .i64 0), .d (.int .i64 0), .d (.int .i64 0), .d (.int .i64 0), .d (.int .i64 0), .d (.int .i64 0), .nil 3, .nil 5] /\ tyF 61 0 0 3 /\ tyF 61 1 1 3 /\ tyF 61 2 2 53 /\ tyF 61 3 5 55 /\ tyF 61 4 14 59 := zAG
@[simp] theorem iS : tyB 72 7 56 true none /\ tyZ 72 [.d (.int .i64 0), .d (.int .i64 0), .d (.int .i64 0), .d (.int .i64 0), .d (.int .i64 0), .d (.int .i64 0), .d (.int .i64 0)] /\ tyF 72 0 0 3 /\ tyF 72 1 1 3 /\ tyF 72 2 2 3 /\ tyF 72 3 3 3 /\ tyF 72 4 4 3 /\ tyF 72 5 5 3 /\ tyF 72 6 6 3 /\ My prog 72 = true /\ zX prog 72 = [3, 3, 3, 3, 3, 3, 3] := zAG
@[simp] theorem l4 : tyB 85 1 24 false none /\ tyZ 85 [.nil 2] /\ tyS 85 141 false := zAG
@[simp] theorem iK : tyB 87 5 72 true none /\ tyZ 87 [.d (.int .i64 0), .d (.int .i64 0), .d (.int .i64 0), .nil 2, .nil 5] /\ tyF 87 0 0 3 /\ tyF 87 1 1 3 /\ tyF 87 2 2 3 /\ tyF 87 3 3 85 /\ tyF 87 4 4 45 := zAG
@[simp] theorem l6 : tyB 97 3 40 true none /\ tyZ 97 [.d (.int .i64 0), .nil 1, .d (.int .i64 0)] /\ tyF 97 0 0 3 /\ tyF 97 1 1 30 /\ tyF 97 2 2 3 := zAG
@[simp] theorem iD : tyB 98 3 40 true none /\ tyZ 98 [.d (.int .i64 0), .nil 1, .d (.int .i64 0)] /\ tyF 98 0 0 3 /\ tyF 98 1 1 30 /\ tyF 98 2 2 3 := zAG
@[simp] theorem iC : tyB 99 1 8 false (some .u64) /\ tyZ 99 [.d (.int .u64 0)] := zAG
@[simp] theorem lb : tyB 100 3 40 true none /\ tyZ 100 [.nil 1, .d (.int .i64 0), .d (.int .i64 0)] /\ tyF 100 0 0 22 /\ tyF 100 1 1 3 /\ tyF 100 2 2 3 := zAG
@[simp] theorem lg : tyB 101 3 40 true none /\ tyZ 101 [.nil 1, .d (.int .i64 0), .d (.int .i64 0)] /\ tyF 101 0 0 22 /\ tyF 101 1 1 3 /\ tyF 101 2 2 3 := zAG
@[simp] theorem lT : tyB 103 1 24 false none /\ tyZ 103 [.nil 9] /\ tyS 103 114 false := zAG
@[simp] theorem lh : tyB 114 9 120 true none /\ tyZ 114 [.d (.int .i64 0), .d (.int .i64 0), .d (.int .i64 0), .d (.int .i64 0), .d (.int .i64 0), .d (.int .i64 0), .nil 1, .nil 1, .nil 1] /\ tyF 114 0 0 3 /\ tyF 114 1 1 3 /\ tyF 114 2 2 3 /\ tyF 114 3 3 3 /\ tyF 114 4 4 3 /\ tyF 114 5 5 53 /\ tyF 114 6 8 30 := zAG
@[simp] theorem lX : tyB 118 5 40 true none /\ tyZ 118 [.d (.int .i64 0), .d (.int .i64 0), .d (.int .i64 0), .d (.int .i64 0), .d (.int .i64 0)] /\ tyF 118 0 0 3 /\ tyF 118 1 1 3 /\ tyF 118 2 2 3 /\ tyF 118 3 3 3 /\ tyF 118 4 4 3 := zAG
@[simp] theorem lz : tyB 119 5 40 true none /\ tyZ 119 [.d (.int .i64 0), .d (.int .i64 0), .d (.int .i64 0), .d (.int .i64 0), .d (.int .i64 0)] /\ tyF 119 0 0 3 /\ tyF 119 1 1 3 /\ tyF 119 2 2 3 /\ tyF 119 3 3 3 /\ tyF 119 4 4 3 /\ My prog 119 = true /\ zX prog 119 = [3, 3, 3, 3, 3] := zAG
@[simp] theorem lW : tyB 121 3 24 true none /\ tyZ 121 [.d (.int .i64 0), .d (.int .i64 0), .d (.int .i64 0)] /\ tyF 121 0 0 3 /\ tyF 121 1 1 3 /\ tyF 121 2 2 3 /\ My prog 121 = true /\ zX prog 121 = [3, 3, 3] := zAG
@[simp] theorem lP : tyB 122 4 32 true none /\ tyZ 122 [.d (.int .i64 0), .d (.int .i64 0), .d (.int .i64 0), .d (.int .i64 0)] /\ tyF 122 0 0 3 /\ tyF 122 1 1 3 /\ tyF 122 2 2 3 /\ tyF 122 3 3 3 := zAG
@[simp] theorem lu : tyB 123 4 32 true none /\ tyZ 123 [.d (.int .i64 0), .d (.int .i64 0), .d (.int .i64 0), .d (.int .i64 0)] /\ tyF 123 0 0 3 /\ tyF 123 1 1 3 /\ tyF 123 2 2 3 /\ tyF 123 3 3 3 /\ My prog 123 = true /\ zX prog 123 = [3, 3, 3, 3] := zAG
@[simp] theorem la : tyB 131 5 40 true none /\ tyZ 131 [.d (.int .i64 0), .d (.int .i64 0), .d (.int .i64 0), .d (.int .i64 0), .d (.int .i64 0)] /\ tyF 131 0 0 3 /\ tyF 131 1 1 3 /\ tyF 131 2 2 3 /\ tyF 131 3 3 3 /\ tyF 131 4 4 3 /\ My prog 131 = true /\ zX prog 131 = [3, 3, 3, 3, 3] := zAG
@[simp] theorem lO : tyB 141 2 16 true none /\ tyZ 141 [.d (.int .i64 0), .d (.bool false)] /\ tyF 141 0 0 3 /\ tyF 141 1 1 4 /\ My prog 141 = true /\ zX prog 141 = [3, 4] := zAG
@[simp] theorem lL : tyB 159 2 16 true none /\ tyZ 159 [.d (.int .i64 0), .d (.int .i64 0)] /\ tyF 159 0 0 3 /\ tyF 159 1 1 3 /\ My prog 159 = true /\ zX prog 159 = [3, 3] := zAG
@[simp] theorem lr : tyB 161 4 32 true none /\ tyZ 161 [.d (.int .i64 0), .d (.int .i64 0), .d (.int .i64 0), .d (.int .i64 0)] /\ tyF 161 0 0 3 /\ tyF 161 1 1 3 /\ tyF 161 2 2 159 /\ My prog 161 = true /\ zX prog 161 = [3, 3, 3, 3] := zAG
@[simp] theorem lU : tyB 207 1 24 false none /\ tyZ 207 [.nil 1] /\ tyS 207 4 false := zAG
@[simp] theorem lp : tyB 208 1 24 false none /\ tyZ 208 [.nil 1] /\ tyS 208 30 false := zAG
@[simp] theorem lN : tyB 210 6 128 true none /\ tyZ 210 [.d (.int .i64 0), .nil 1, .nil 1, .nil 1, .nil 1, .nil 1] /\ tyF 210 0 0 3 /\ tyF 210 1 1 30 /\ tyF 210 2 2 207 /\ tyF 210 3 3 38 /\ tyF 210 4 4 30 /\ tyF 210 5 5 208 := zAG
@[simp] theorem lY : tyB 218 100 100 true none /\ tyZ 218 (SJ (zB 100)) /\ EZ prog 218 = some 100 /\ ZS prog 218 = 4 := zAG
@[simp] theorem lk : tyB 220 1 24 false none /\ tyZ 220 [.nil 2] /\ tyS 220 59 false := zAG
@[simp] theorem lf : tyB 221 1 24 false none /\ tyZ 221 [.nil 1] /\ tyS 221 45 false := zAG
@[simp] theorem lV : tyB 223 2 48 true none /\ tyZ 223 [.nil 2, .nil 1] /\ tyF 223 0 0 220 /\ tyF 223 1 1 221 := zAG
@[simp] theorem l0 : tyB 245 5 40 true none /\ tyZ 245 [.d (.int .i64 0), .d (.int .i64 0), .d (.int .i64 0), .d (.int .i64 0), .d (.int .i64 0)] /\ tyF 245 0 0 3 /\ tyF 245 1 1 3 /\ tyF 245 2 2 3 /\ tyF 245 3 3 3 /\ tyF 245 4 4 3 /\ My prog 245 = true /\ zX prog 245 = [3, 3, 3, 3, 3] := zAG
@[simp] theorem lM : tyB 262 4 64 true none /\ tyZ 262 [.d (.str ⟨#[]⟩), .d (.str ⟨#[]⟩), .d (.str ⟨#[]⟩), .d (.str ⟨#[]⟩)] /\ EZ prog 262 = some 4 /\ ZS prog 262 = 9 /\ bOk prog 262 0 = true /\ jx prog 262 0 = 0 /\ bTy prog 262 0 = 9 /\ bOk prog 262 1 = true /\ jx prog 262 1 = 1 /\ bTy prog 262 1 = 9 /\ bOk prog 262 2 = true /\ jx prog 262 2 = 2 /\ bTy prog 262 2 = 9 /\ bOk prog 262 3 = true /\ jx prog 262 3 = 3 /\ bTy prog 262 3 = 9 := zAG
@[simp] theorem lv : tyB 263 10 160 true none /\ tyZ 263 [.d (.str ⟨#[]⟩), .d (.str ⟨#[]⟩), .d (.str ⟨#[]⟩), .d (.str ⟨#[]⟩), .d (.str ⟨#[]⟩), .d (.str ⟨#[]⟩), .d (.str ⟨#[]⟩), .d (.str ⟨#[]⟩), .d (.str ⟨#[]⟩), .d (.str ⟨#[]⟩)] /\ EZ prog 263 = some 10 /\ ZS prog 263 = 9 /\ bOk prog 263 0 = true /\ jx prog 263 0 = 0 /\ bTy prog 263 0 = 9 /\ bOk prog 263 1 = true /\ jx prog 263 1 = 1 /\ bTy prog 263 1 = 9 /\ bOk prog 263 2 = true /\ jx prog 263 2 = 2 /\ bTy prog 263 2 = 9 /\ bOk prog 263 3 = true /\ jx prog 263 3 = 3 /\ bTy prog 263 3 = 9 /\ bOk prog 263 4 = true /\ jx prog 263 4 = 4 /\ bTy prog 263 4 = 9 /\ bOk prog 263 5 = true /\ jx prog 263 5 = 5 /\ bTy prog 263 5 = 9 /\ bOk prog 263 6 = true /\ jx prog 263 6 = 6 /\ bTy prog 263 6 = 9 /\ bOk prog 263 7 = true /\ jx prog 263 7 = 7 /\ bTy prog 263 7 = 9 /\ bOk prog 263 8 = true /\ jx prog 263 8 = 8 /\ bTy prog 263 8 = 9 /\ bOk prog 263 9 = true /\ jx prog 263 9 = 9 /\ bTy prog 263 9 = 9 := zAG
@[simp] theorem lS : tyB 287 4 48 true none /\ tyZ 287 [.d (.int .i64 0), .d (.int .i64 0), .nil 16, .d (.int .i64 0)] /\ tyF 287 0 0 3 /\ tyF 287 1 1 3 /\ tyF 287 2 2 42 /\ tyF 287 3 3 3 := zAG
@[simp] theorem lj : tyB 317 1 24 false none /\ tyZ 317 [.nil 5] /\ tyS 317 245 false := zAG
@[simp] theorem ln : tyB 321 1 24 false none /\ tyZ 321 [.nil 6] /\ tyS 321 334 false := zAG
@[simp] theorem lK : tyB 334 6 48 true none /\ tyZ 334 [.d (.int .i64 0), .d (.int .i64 0), .d (.int .i64 0), .d (.int .i64 0), .d (.int .i64 0), .d (.int .i64 0)] /\ tyF 334 0 0 3 /\ tyF 334 1 1 3 /\ tyF 334 2 2 3 /\ tyF 334 3 3 3 /\ tyF 334 4 4 3 /\ tyF 334 5 5 3 /\ My prog 334 = true /\ zX prog 334 = [3, 3, 3, 3, 3, 3] := zAG
@[simp] theorem lq : tyB 337 5 40 true none /\ tyZ 337 [.d (.int .i64 0), .d (.int .i64 0), .d (.int .i64 0), .d (.int .i64 0), .d (.int .i64 0)] /\ EZ prog 337 = some 5 /\ ZS prog 337 = 3 /\ bOk prog 337 0 = true /\ jx prog 337 0 = 0 /\ bTy prog 337 0 = 3 /\ bOk prog 337 1 = true /\ jx prog 337 1 = 1 /\ bTy prog 337 1 = 3 /\ bOk prog 337 2 = true /\ jx prog 337 2 = 2 /\ bTy prog 337 2 = 3 /\ bOk prog 337 3 = true /\ jx prog 337 3 = 3 /\ bTy prog 337 3 = 3 /\ bOk prog 337 4 = true /\ jx prog 337 4 = 4 /\ bTy prog 337 4 = 3 := zAG
@[simp] theorem ld : tyB 346 1 24 false none /\ tyZ 346 [.nil 2] /\ tyS 346 159 false := zAG
@[simp] theorem lQ : tyB 387 1 1 false (some .u8) /\ tyZ 387 [.d (.int .u8 0)] := zAG
theorem mixed:prog.follows .mixedOrders=true:=zAZ
abbrev Sa(f:Nat):=QX prog f false
abbrev So(f:Nat):=QX prog f true
abbrev Sd(f:Nat):=YN prog f
end Go.Proofs.YtdffgedmahdehaaGreat
