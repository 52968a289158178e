/- The facts of the plain types of the program, by evaluation. No condition. -/
import Derived.Test.YtdffgedmahdehaaGreatVe
import Derived.Test.YtdffgedmahdehaaGreatProg
namespace Go.Proofs.YtdffgedmahdehaaGreat
open Tryz
open Go.Vm
abbrev tyB(t c b:Nat)(a:Bool)(k:Option IntKind):Prop:=Kk prog t=true/\prog.cellsOf t=c/\xW prog t=a/\prog.bytesOf t=b/\(prog.underlying t).isSome=true/\Nl prog t=k
abbrev tyZ(t:Nat)(z:List At):Prop:=zk prog 12 t=some z/\YR prog t=true
abbrev tyF(t i o f:Nat):Prop:=Kr prog t i=true/\Yg prog t i=o/\J0 prog t i=f/\bOk prog t i=true/\KH prog t i=o/\bTy prog t i=f
abbrev tyS(t e:Nat)(b:Bool):Prop:=Zy prog t=true/\ZD prog t=e/\WX prog t=b/\qF prog t=false
@[simp] theorem ty2 : tyB 2 1 8 false (some .i64) /\ tyZ 2 [.d (.int .i64 0)] := fK
@[simp] theorem ty3 : tyB 3 1 8 false (some .i64) /\ tyZ 3 [.d (.int .i64 0)] := fK
@[simp] theorem ty4 : tyB 4 1 1 false none /\ tyZ 4 [.d (.bool false)] /\ V4 prog 4 = true := fK
@[simp] theorem ty5 : tyB 5 1 1 false (some .u8) /\ tyZ 5 [.d (.int .u8 0)] := fK
@[simp] theorem ty6 : tyB 6 1 1 false (some .u8) /\ tyZ 6 [.d (.int .u8 0)] := fK
@[simp] theorem ty8 : tyB 8 4 24 true none /\ tyZ 8 [.d (.int .i64 0), .d (.int .i64 0), .d (.bool false), .d (.int .u8 0)] /\ tyF 8 0 0 2 /\ tyF 8 1 1 3 /\ tyF 8 2 2 4 /\ tyF 8 3 3 6 := fK
@[simp] theorem ty9 : tyB 9 1 16 false none /\ tyZ 9 [.d (.str ⟨#[]⟩)] /\ qF prog 9 = true := fK
@[simp] theorem Fu : tyB 10 1 16 false none /\ tyZ 10 [.d (.str ⟨#[]⟩)] /\ qF prog 10 = true := fK
@[simp] theorem Ff : tyB 11 1 16 false none /\ tyZ 11 [.d (.str ⟨#[]⟩)] /\ qF prog 11 = true := fK
@[simp] theorem Fs : tyB 12 1 8 false (some .u64) /\ tyZ 12 [.d (.int .u64 0)] := fK
@[simp] theorem Fh : tyB 14 2 24 true none /\ tyZ 14 [.d (.str ⟨#[]⟩), .d (.int .u64 0)] /\ tyF 14 0 0 9 /\ tyF 14 1 1 12 := fK
@[simp] theorem Fv : tyB 22 1 24 false none /\ tyZ 22 [.nil 1] /\ tyS 22 5 true := fK
@[simp] theorem FX : tyB 24 1 24 false none /\ tyZ 24 [.nil 5] /\ tyS 24 119 false := fK
@[simp] theorem F0 : tyB 25 1 24 false none /\ tyZ 25 [.nil 3] /\ tyS 25 121 false := fK
@[simp] theorem Fe : tyB 26 1 24 false none /\ tyZ 26 [.nil 4] /\ tyS 26 123 false := fK
@[simp] theorem Fj : tyB 28 5 88 true none /\ tyZ 28 [.nil 5, .nil 3, .nil 4, .d (.int .i64 0), .d (.int .i64 0)] /\ tyF 28 0 0 24 /\ tyF 28 1 1 25 /\ tyF 28 2 2 26 /\ tyF 28 3 3 3 /\ tyF 28 4 4 3 := fK
@[simp] theorem Fp : tyB 29 1 24 false none /\ tyZ 29 [.nil 7] /\ tyS 29 72 false := fK
@[simp] theorem Ft : tyB 30 1 24 false none /\ tyZ 30 [.nil 1] /\ tyS 30 3 false := fK
@[simp] theorem Fl : tyB 31 1 24 false none /\ tyZ 31 [.nil 2] /\ tyS 31 44 false := fK
@[simp] theorem Fo : tyB 32 12 240 true none /\ tyZ 32 [.nil 5, .nil 3, .nil 4, .d (.int .i64 0), .d (.int .i64 0), .nil 7, .nil 1, .nil 2, .nil 1, .nil 1, .d (.int .i64 0), .nil 1] /\ tyF 32 0 0 28 /\ tyF 32 1 5 29 /\ tyF 32 2 6 30 /\ tyF 32 3 7 31 /\ tyF 32 4 8 30 /\ tyF 32 5 9 30 /\ tyF 32 6 10 3 /\ tyF 32 7 11 30 := fK
@[simp] theorem Fg : tyB 33 12 240 true none /\ tyZ 33 [.nil 5, .nil 3, .nil 4, .d (.int .i64 0), .d (.int .i64 0), .nil 7, .nil 1, .nil 2, .nil 1, .nil 1, .d (.int .i64 0), .nil 1] /\ tyF 33 0 0 28 /\ tyF 33 1 5 29 /\ tyF 33 2 6 30 /\ tyF 33 3 7 31 /\ tyF 33 4 8 30 /\ tyF 33 5 9 30 /\ tyF 33 6 10 3 /\ tyF 33 7 11 30 := fK
@[simp] theorem F2 : tyB 38 1 24 false none /\ tyZ 38 [.nil 1] /\ tyS 38 9 false := fK
@[simp] theorem Fm : tyB 42 1 24 false none /\ tyZ 42 [.nil 16] /\ tyS 42 61 false := fK
@[simp] theorem Fc : tyB 44 2 32 true none /\ tyZ 44 [.d (.int .i64 0), .nil 16] /\ tyF 44 0 0 3 /\ tyF 44 1 1 42 := fK
@[simp] theorem Fx : tyB 45 1 24 false none /\ tyZ 45 [.nil 5] /\ tyS 45 131 false := fK
@[simp] theorem Fq : tyB 53 3 56 true none /\ tyZ 53 [.d (.int .i64 0), .nil 1, .nil 1] /\ tyF 53 0 0 3 /\ tyF 53 1 1 38 /\ tyF 53 2 2 30 := fK
@[simp] theorem Fk : tyB 55 9 72 true none /\ tyZ 55 [.d (.int .i64 0), .d (.int .i64 0), .d (.int .i64 0), .d (.int .i64 0), .d (.int .i64 0), .d (.int .i64 0), .d (.int .i64 0), .d (.int .i64 0), .d (.int .i64 0)] /\ tyF 55 0 0 3 /\ tyF 55 1 1 3 /\ tyF 55 2 2 3 /\ tyF 55 3 3 3 /\ tyF 55 4 4 3 /\ tyF 55 5 5 3 /\ tyF 55 6 6 3 /\ tyF 55 7 7 3 /\ tyF 55 8 8 3 /\ j5 prog 55 = true /\ QO prog 55 = [3, 3, 3, 3, 3, 3, 3, 3, 3] := fK
@[simp] theorem Fy : tyB 56 1 24 false none /\ tyZ 56 [.nil 3] /\ tyS 56 98 false := fK
@[simp] theorem FY : tyB 57 1 24 false none /\ tyZ 57 [.nil 5] /\ tyS 57 87 false := fK
@[simp] theorem F3 : tyB 59 2 48 true none /\ tyZ 59 [.nil 3, .nil 5] /\ tyF 59 0 0 56 /\ tyF 59 1 1 57 := fK
@[simp] theorem F1 : tyB 61 16 192 true none /\ tyZ 61 [.d (.int .i64 0), .d (.int .i64 0), .d (.int .i64 0), .nil 1, .nil 1, .d (.int .i64 0), .d (.int .i64 0), .d (.int .i64 0), .d (.int .i64 0), .d (.int .i64 0), .d (.int .i64 0), .d (.int .i64 0), .d (.int .i64 0), .d (.int .i64 0), .nil 3, .nil 5] /\ tyF 61 0 0 3 /\ tyF 61 1 1 3 /\ tyF 61 2 2 53 /\ tyF 61 3 5 55 /\ tyF 61 4 14 59 := fK
@[simp] theorem F4 : tyB 72 7 56 true none /\ tyZ 72 [.d (.int .i64 0), .d (.int .i64 0), .d (.int .i64 0), .d (.int .i64 0), .d (.int .i64 0), .d (.int .i64 0), .d (.int .i64 0)] /\ tyF 72 0 0 3 /\ tyF 72 1 1 3 /\ tyF 72 2 2 3 /\ tyF 72 3 3 3 /\ tyF 72 4 4 3 /\ tyF 72 5 5 3 /\ tyF 72 6 6 3 /\ j5 prog 72 = true /\ QO prog 72 = [3, 3, 3, 3, 3, 3, 3] := fK
@[simp] theorem Fw : tyB 85 1 24 false none /\ tyZ 85 [.nil 2] /\ tyS 85 141 false := fK
@[simp] theorem Fa : tyB 87 5 72 true none /\ tyZ 87 [.d (.int .i64 0), .d (.int .i64 0), .d (.int .i64 0), .nil 2, .nil 5] /\ tyF 87 0 0 3 /\ tyF 87 1 1 3 /\ tyF 87 2 2 3 /\ tyF 87 3 3 85 /\ tyF 87 4 4 45 := fK
@[simp] theorem Fb : tyB 97 3 40 true none /\ tyZ 97 [.d (.int .i64 0), .nil 1, .d (.int .i64 0)] /\ tyF 97 0 0 3 /\ tyF 97 1 1 30 /\ tyF 97 2 2 3 := fK
@[simp] theorem Fz : tyB 98 3 40 true none /\ tyZ 98 [.d (.int .i64 0), .nil 1, .d (.int .i64 0)] /\ tyF 98 0 0 3 /\ tyF 98 1 1 30 /\ tyF 98 2 2 3 := fK
@[simp] theorem Fi : tyB 99 1 8 false (some .u64) /\ tyZ 99 [.d (.int .u64 0)] := fK
@[simp] theorem G9 : tyB 100 3 40 true none /\ tyZ 100 [.nil 1, .d (.int .i64 0), .d (.int .i64 0)] /\ tyF 100 0 0 22 /\ tyF 100 1 1 3 /\ tyF 100 2 2 3 := fK
@[simp] theorem FW : tyB 101 3 40 true none /\ tyZ 101 [.nil 1, .d (.int .i64 0), .d (.int .i64 0)] /\ tyF 101 0 0 22 /\ tyF 101 1 1 3 /\ tyF 101 2 2 3 := fK
@[simp] theorem FG : tyB 103 1 24 false none /\ tyZ 103 [.nil 9] /\ tyS 103 114 false := fK
@[simp] theorem FJ : tyB 114 9 120 true none /\ tyZ 114 [.d (.int .i64 0), .d (.int .i64 0), .d (.int .i64 0), .d (.int .i64 0), .d (.int .i64 0), .d (.int .i64 0), .nil 1, .nil 1, .nil 1] /\ tyF 114 0 0 3 /\ tyF 114 1 1 3 /\ tyF 114 2 2 3 /\ tyF 114 3 3 3 /\ tyF 114 4 4 3 /\ tyF 114 5 5 53 /\ tyF 114 6 8 30 := fK
@[simp] theorem G1 : tyB 118 5 40 true none /\ tyZ 118 [.d (.int .i64 0), .d (.int .i64 0), .d (.int .i64 0), .d (.int .i64 0), .d (.int .i64 0)] /\ tyF 118 0 0 3 /\ tyF 118 1 1 3 /\ tyF 118 2 2 3 /\ tyF 118 3 3 3 /\ tyF 118 4 4 3 := fK
@[simp] theorem G8 : tyB 119 5 40 true none /\ tyZ 119 [.d (.int .i64 0), .d (.int .i64 0), .d (.int .i64 0), .d (.int .i64 0), .d (.int .i64 0)] /\ tyF 119 0 0 3 /\ tyF 119 1 1 3 /\ tyF 119 2 2 3 /\ tyF 119 3 3 3 /\ tyF 119 4 4 3 /\ j5 prog 119 = true /\ QO prog 119 = [3, 3, 3, 3, 3] := fK
@[simp] theorem FI : tyB 121 3 24 true none /\ tyZ 121 [.d (.int .i64 0), .d (.int .i64 0), .d (.int .i64 0)] /\ tyF 121 0 0 3 /\ tyF 121 1 1 3 /\ tyF 121 2 2 3 /\ j5 prog 121 = true /\ QO prog 121 = [3, 3, 3] := fK
@[simp] theorem FK : tyB 122 4 32 true none /\ tyZ 122 [.d (.int .i64 0), .d (.int .i64 0), .d (.int .i64 0), .d (.int .i64 0)] /\ tyF 122 0 0 3 /\ tyF 122 1 1 3 /\ tyF 122 2 2 3 /\ tyF 122 3 3 3 := fK
@[simp] theorem G7 : tyB 123 4 32 true none /\ tyZ 123 [.d (.int .i64 0), .d (.int .i64 0), .d (.int .i64 0), .d (.int .i64 0)] /\ tyF 123 0 0 3 /\ tyF 123 1 1 3 /\ tyF 123 2 2 3 /\ tyF 123 3 3 3 /\ j5 prog 123 = true /\ QO prog 123 = [3, 3, 3, 3] := fK
@[simp] theorem FH : tyB 131 5 40 true none /\ tyZ 131 [.d (.int .i64 0), .d (.int .i64 0), .d (.int .i64 0), .d (.int .i64 0), .d (.int .i64 0)] /\ tyF 131 0 0 3 /\ tyF 131 1 1 3 /\ tyF 131 2 2 3 /\ tyF 131 3 3 3 /\ tyF 131 4 4 3 /\ j5 prog 131 = true /\ QO prog 131 = [3, 3, 3, 3, 3] := fK
@[simp] theorem FR : tyB 141 2 16 true none /\ tyZ 141 [.d (.int .i64 0), .d (.bool false)] /\ tyF 141 0 0 3 /\ tyF 141 1 1 4 /\ j5 prog 141 = true /\ QO prog 141 = [3, 4] := fK
@[simp] theorem FV : tyB 159 2 16 true none /\ tyZ 159 [.d (.int .i64 0), .d (.int .i64 0)] /\ tyF 159 0 0 3 /\ tyF 159 1 1 3 /\ j5 prog 159 = true /\ QO prog 159 = [3, 3] := fK
@[simp] theorem G4 : tyB 161 4 32 true none /\ tyZ 161 [.d (.int .i64 0), .d (.int .i64 0), .d (.int .i64 0), .d (.int .i64 0)] /\ tyF 161 0 0 3 /\ tyF 161 1 1 3 /\ tyF 161 2 2 159 /\ j5 prog 161 = true /\ QO prog 161 = [3, 3, 3, 3] := fK
@[simp] theorem FM : tyB 207 1 24 false none /\ tyZ 207 [.nil 1] /\ tyS 207 4 false := fK
@[simp] theorem FL : tyB 208 1 24 false none /\ tyZ 208 [.nil 1] /\ tyS 208 30 false := fK
@[simp] theorem FN : tyB 210 6 128 true none /\ tyZ 210 [.d (.int .i64 0), .nil 1, .nil 1, .nil 1, .nil 1, .nil 1] /\ tyF 210 0 0 3 /\ tyF 210 1 1 30 /\ tyF 210 2 2 207 /\ tyF 210 3 3 38 /\ tyF 210 4 4 30 /\ tyF 210 5 5 208 := fK
@[simp] theorem G5 : tyB 218 100 100 true none /\ tyZ 218 (Pq (zB 100)) /\ UK prog 218 = some 100 /\ ZD prog 218 = 4 := fK
@[simp] theorem G6 : tyB 220 1 24 false none /\ tyZ 220 [.nil 2] /\ tyS 220 59 false := fK
@[simp] theorem FQ : tyB 221 1 24 false none /\ tyZ 221 [.nil 1] /\ tyS 221 45 false := fK
@[simp] theorem G3 : tyB 223 2 48 true none /\ tyZ 223 [.nil 2, .nil 1] /\ tyF 223 0 0 220 /\ tyF 223 1 1 221 := fK
@[simp] theorem FP : tyB 245 5 40 true none /\ tyZ 245 [.d (.int .i64 0), .d (.int .i64 0), .d (.int .i64 0), .d (.int .i64 0), .d (.int .i64 0)] /\ tyF 245 0 0 3 /\ tyF 245 1 1 3 /\ tyF 245 2 2 3 /\ tyF 245 3 3 3 /\ tyF 245 4 4 3 /\ j5 prog 245 = true /\ QO prog 245 = [3, 3, 3, 3, 3] := fK
@[simp] theorem FU : tyB 262 4 64 true none /\ tyZ 262 [.d (.str ⟨#[]⟩), .d (.str ⟨#[]⟩), .d (.str ⟨#[]⟩), .d (.str ⟨#[]⟩)] /\ UK prog 262 = some 4 /\ ZD prog 262 = 9 /\ bOk prog 262 0 = true /\ KH prog 262 0 = 0 /\ bTy prog 262 0 = 9 /\ bOk prog 262 1 = true /\ KH prog 262 1 = 1 /\ bTy prog 262 1 = 9 /\ bOk prog 262 2 = true /\ KH prog 262 2 = 2 /\ bTy prog 262 2 = 9 /\ bOk prog 262 3 = true /\ KH prog 262 3 = 3 /\ bTy prog 262 3 = 9 := fK
@[simp] theorem FB : tyB 263 10 160 true none /\ tyZ 263 [.d (.str ⟨#[]⟩), .d (.str ⟨#[]⟩), .d (.str ⟨#[]⟩), .d (.str ⟨#[]⟩), .d (.str ⟨#[]⟩), .d (.str ⟨#[]⟩), .d (.str ⟨#[]⟩), .d (.str ⟨#[]⟩), .d (.str ⟨#[]⟩), .d (.str ⟨#[]⟩)] /\ UK prog 263 = some 10 /\ ZD prog 263 = 9 /\ bOk prog 263 0 = true /\ KH prog 263 0 = 0 /\ bTy prog 263 0 = 9 /\ bOk prog 263 1 = true /\ KH prog 263 1 = 1 /\ bTy prog 263 1 = 9 /\ bOk prog 263 2 = true /\ KH prog 263 2 = 2 /\ bTy prog 263 2 = 9 /\ bOk prog 263 3 = true /\ KH prog 263 3 = 3 /\ bTy prog 263 3 = 9 /\ bOk prog 263 4 = true /\ KH prog 263 4 = 4 /\ bTy prog 263 4 = 9 /\ bOk prog 263 5 = true /\ KH prog 263 5 = 5 /\ bTy prog 263 5 = 9 /\ bOk prog 263 6 = true /\ KH prog 263 6 = 6 /\ bTy prog 263 6 = 9 /\ bOk prog 263 7 = true /\ KH prog 263 7 = 7 /\ bTy prog 263 7 = 9 /\ bOk prog 263 8 = true /\ KH prog 263 8 = 8 /\ bTy prog 263 8 = 9 /\ bOk prog 263 9 = true /\ KH prog 263 9 = 9 /\ bTy prog 263 9 = 9 := fK
@[simp] theorem FT : tyB 287 4 48 true none /\ tyZ 287 [.d (.int .i64 0), .d (.int .i64 0), .nil 16, .d (.int .i64 0)] /\ tyF 287 0 0 3 /\ tyF 287 1 1 3 /\ tyF 287 2 2 42 /\ tyF 287 3 3 3 := fK
@[simp] theorem FA : tyB 317 1 24 false none /\ tyZ 317 [.nil 5] /\ tyS 317 245 false := fK
@[simp] theorem FE : tyB 321 1 24 false none /\ tyZ 321 [.nil 6] /\ tyS 321 334 false := fK
@[simp] theorem FD : tyB 334 6 48 true none /\ tyZ 334 [.d (.int .i64 0), .d (.int .i64 0), .d (.int .i64 0), .d (.int .i64 0), .d (.int .i64 0), .d (.int .i64 0)] /\ tyF 334 0 0 3 /\ tyF 334 1 1 3 /\ tyF 334 2 2 3 /\ tyF 334 3 3 3 /\ tyF 334 4 4 3 /\ tyF 334 5 5 3 /\ j5 prog 334 = true /\ QO prog 334 = [3, 3, 3, 3, 3, 3] := fK
@[simp] theorem G2 : tyB 337 5 40 true none /\ tyZ 337 [.d (.int .i64 0), .d (.int .i64 0), .d (.int .i64 0), .d (.int .i64 0), .d (.int .i64 0)] /\ UK prog 337 = some 5 /\ ZD prog 337 = 3 /\ bOk prog 337 0 = true /\ KH prog 337 0 = 0 /\ bTy prog 337 0 = 3 /\ bOk prog 337 1 = true /\ KH prog 337 1 = 1 /\ bTy prog 337 1 = 3 /\ bOk prog 337 2 = true /\ KH prog 337 2 = 2 /\ bTy prog 337 2 = 3 /\ bOk prog 337 3 = true /\ KH prog 337 3 = 3 /\ bTy prog 337 3 = 3 /\ bOk prog 337 4 = true /\ KH prog 337 4 = 4 /\ bTy prog 337 4 = 3 := fK
@[simp] theorem G0 : tyB 346 1 24 false none /\ tyZ 346 [.nil 2] /\ tyS 346 159 false := fK
@[simp] theorem FO : tyB 387 1 1 false (some .u8) /\ tyZ 387 [.d (.int .u8 0)] := fK
theorem mixed:prog.follows .mixedOrders=true:=fL
abbrev Sa(f:Nat):=Y0 prog f false
abbrev So(f:Nat):=Y0 prog f true
abbrev Sd(f:Nat):=Zp prog f
end Go.Proofs.YtdffgedmahdehaaGreat
