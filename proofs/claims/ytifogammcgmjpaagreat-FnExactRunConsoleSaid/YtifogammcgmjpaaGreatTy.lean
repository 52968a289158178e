/- The facts of the plain types of the program, by evaluation. No condition. -/
import Derived.Test.YtifogammcgmjpaaGreatVe
import Derived.Test.YtifogammcgmjpaaGreatProg
namespace Go.Proofs.YtifogammcgmjpaaGreat
open Tryz
open Go.Vm
abbrev f(t c b:Nat)(a:Bool)(k:Option IntKind):Prop:=Uh prog t=true/\prog.cellsOf t=c/\Ie prog t=a/\prog.bytesOf t=b/\(prog.underlying t).isSome=true/\cQ prog t=k
abbrev e(t:Nat)(z:List At):Prop:=P8 prog 12 t=some z/\JN prog t=true
abbrev a(t i o f:Nat):Prop:=RO prog t i=true/\KU prog t i=o/\Uz prog t i=f/\a6 prog t i=true/\TZ prog t i=o/\aT prog t i=f
abbrev bi(t e:Nat)(b:Bool):Prop:=Xr prog t=true/\C prog t=e/\F4 prog t=b/\L4 prog t=false
@[simp] theorem ty2 : f 2 1 8 false (some .i64) /\ e 2 [.d (.int .i64 0)] := b
@[simp] theorem ty3 : f 3 1 8 false (some .i64) /\ e 3 [.d (.int .i64 0)] := b
@[simp] theorem ty4 : f 4 1 1 false none /\ e 4 [.d (.bool false)] /\ vf prog 4 = true := b
@[simp] theorem ty5 : f 5 1 1 false (some .u8) /\ e 5 [.d (.int .u8 0)] := b
@[simp] theorem ty6 : f 6 1 1 false (some .u8) /\ e 6 [.d (.int .u8 0)] := b
@[simp] theorem ty8 : f 8 4 24 true none /\ e 8 [.d (.int .i64 0), .d (.int .i64 0), .d (.bool false), .d (.int .u8 0)] /\ a 8 0 0 2 /\ a 8 1 1 3 /\ a 8 2 2 4 /\ a 8 3 3 6 := b
@[simp] theorem ZM : f 9 1 16 false none /\ e 9 [.d (.str ⟨#[]⟩)] /\ L4 prog 9 = true := b
@[simp] theorem ZGU : f 10 1 16 false none /\ e 10 [.d (.str ⟨#[]⟩)] /\ L4 prog 10 = true := b
@[simp] theorem ZGQ : f 11 1 16 false none /\ e 11 [.d (.str ⟨#[]⟩)] /\ L4 prog 11 = true := b
@[simp] theorem ZGN : f 12 1 8 false (some .u64) /\ e 12 [.d (.int .u64 0)] := b
@[simp] theorem ZGT : f 14 2 24 true none /\ e 14 [.d (.str ⟨#[]⟩), .d (.int .u64 0)] /\ a 14 0 0 9 /\ a 14 1 1 12 := b
@[simp] theorem ZF8 : f 22 1 24 false none /\ e 22 [.nil 1] /\ bi 22 9 false := b
@[simp] theorem ZGC : f 28 1 24 false none /\ e 28 [.nil 5] /\ bi 28 66 false := b
@[simp] theorem ZGF : f 29 1 24 false none /\ e 29 [.nil 3] /\ bi 29 59 false := b
@[simp] theorem ZGM : f 30 1 24 false none /\ e 30 [.nil 4] /\ bi 30 68 false := b
@[simp] theorem ZGJ : f 32 5 88 true none /\ e 32 [.nil 5, .nil 3, .nil 4, .d (.int .i64 0), .d (.int .i64 0)] /\ a 32 0 0 28 /\ a 32 1 1 29 /\ a 32 2 2 30 /\ a 32 3 3 3 /\ a 32 4 4 3 := b
@[simp] theorem ZGP : f 33 1 24 false none /\ e 33 [.nil 7] /\ bi 33 61 false := b
@[simp] theorem ZGK : f 34 1 24 false none /\ e 34 [.nil 1] /\ bi 34 3 false := b
@[simp] theorem ZF7 : f 35 1 24 false none /\ e 35 [.nil 2] /\ bi 35 50 false := b
@[simp] theorem ZGI : f 37 12 240 true none /\ e 37 [.nil 5, .nil 3, .nil 4, .d (.int .i64 0), .d (.int .i64 0), .nil 7, .nil 1, .nil 2, .nil 1, .nil 1, .d (.int .i64 0), .nil 1] /\ a 37 0 0 32 /\ a 37 1 5 33 /\ a 37 2 6 34 /\ a 37 3 7 35 /\ a 37 4 8 34 /\ a 37 5 9 34 /\ a 37 6 10 3 /\ a 37 7 11 34 := b
@[simp] theorem ZGO : f 48 1 24 false none /\ e 48 [.nil 16] /\ bi 48 105 false := b
@[simp] theorem ZGB : f 49 2 32 true none /\ e 49 [.d (.int .i64 0), .nil 16] /\ a 49 0 0 3 /\ a 49 1 1 48 := b
@[simp] theorem ZF5 : f 50 2 32 true none /\ e 50 [.d (.int .i64 0), .nil 16] /\ a 50 0 0 3 /\ a 50 1 1 48 := b
@[simp] theorem ZGS : f 59 3 24 true none /\ e 59 [.d (.int .i64 0), .d (.int .i64 0), .d (.int .i64 0)] /\ a 59 0 0 3 /\ a 59 1 1 3 /\ a 59 2 2 3 /\ E0 prog 59 = true /\ jW prog 59 = [3, 3, 3] := b
@[simp] theorem ZF9 : f 61 7 56 true none /\ e 61 [.d (.int .i64 0), .d (.int .i64 0), .d (.int .i64 0), .d (.int .i64 0), .d (.int .i64 0), .d (.int .i64 0), .d (.int .i64 0)] /\ a 61 0 0 3 /\ a 61 1 1 3 /\ a 61 2 2 3 /\ a 61 3 3 3 /\ a 61 4 4 3 /\ a 61 5 5 3 /\ a 61 6 6 3 /\ E0 prog 61 = true /\ jW prog 61 = [3, 3, 3, 3, 3, 3, 3] := b
@[simp] theorem ZGA : f 64 1 24 false none /\ e 64 [.nil 1] /\ bi 64 5 true := b
@[simp] theorem ZGD : f 66 5 40 true none /\ e 66 [.d (.int .i64 0), .d (.int .i64 0), .d (.int .i64 0), .d (.int .i64 0), .d (.int .i64 0)] /\ a 66 0 0 3 /\ a 66 1 1 3 /\ a 66 2 2 3 /\ a 66 3 3 3 /\ a 66 4 4 3 /\ E0 prog 66 = true /\ jW prog 66 = [3, 3, 3, 3, 3] := b
@[simp] theorem ZGE : f 68 4 32 true none /\ e 68 [.d (.int .i64 0), .d (.int .i64 0), .d (.int .i64 0), .d (.int .i64 0)] /\ a 68 0 0 3 /\ a 68 1 1 3 /\ a 68 2 2 3 /\ a 68 3 3 3 /\ E0 prog 68 = true /\ jW prog 68 = [3, 3, 3, 3] := b
@[simp] theorem ZGL : f 74 3 56 true none /\ e 74 [.d (.int .i64 0), .nil 1, .nil 1] /\ a 74 0 0 3 /\ a 74 1 1 22 /\ a 74 2 2 34 := b
@[simp] theorem ZGR : f 78 9 120 true none /\ e 78 [.d (.int .i64 0), .d (.int .i64 0), .d (.int .i64 0), .d (.int .i64 0), .d (.int .i64 0), .d (.int .i64 0), .nil 1, .nil 1, .nil 1] /\ a 78 0 0 3 /\ a 78 1 1 3 /\ a 78 2 2 3 /\ a 78 3 3 3 /\ a 78 4 4 3 /\ a 78 5 5 74 /\ a 78 6 8 34 := b
@[simp] theorem ZGV : f 87 1 24 false none /\ e 87 [.nil 5] /\ bi 87 120 false := b
@[simp] theorem ZF6 : f 98 9 72 true none /\ e 98 [.d (.int .i64 0), .d (.int .i64 0), .d (.int .i64 0), .d (.int .i64 0), .d (.int .i64 0), .d (.int .i64 0), .d (.int .i64 0), .d (.int .i64 0), .d (.int .i64 0)] /\ a 98 0 0 3 /\ a 98 1 1 3 /\ a 98 2 2 3 /\ a 98 3 3 3 /\ a 98 4 4 3 /\ a 98 5 5 3 /\ a 98 6 6 3 /\ a 98 7 7 3 /\ a 98 8 8 3 := b
@[simp] theorem ZGH : f 99 9 72 true none /\ e 99 [.d (.int .i64 0), .d (.int .i64 0), .d (.int .i64 0), .d (.int .i64 0), .d (.int .i64 0), .d (.int .i64 0), .d (.int .i64 0), .d (.int .i64 0), .d (.int .i64 0)] /\ a 99 0 0 3 /\ a 99 1 1 3 /\ a 99 2 2 3 /\ a 99 3 3 3 /\ a 99 4 4 3 /\ a 99 5 5 3 /\ a 99 6 6 3 /\ a 99 7 7 3 /\ a 99 8 8 3 /\ E0 prog 99 = true /\ jW prog 99 = [3, 3, 3, 3, 3, 3, 3, 3, 3] := b
@[simp] theorem ZF0 : f 100 1 24 false none /\ e 100 [.nil 3] /\ bi 100 162 false := b
@[simp] theorem ZFe : f 101 1 24 false none /\ e 101 [.nil 5] /\ bi 101 185 false := b
@[simp] theorem ZFi : f 102 2 48 true none /\ e 102 [.nil 3, .nil 5] /\ a 102 0 0 100 /\ a 102 1 1 101 := b
@[simp] theorem ZFg : f 103 2 48 true none /\ e 103 [.nil 3, .nil 5] /\ a 103 0 0 100 /\ a 103 1 1 101 := b
@[simp] theorem ZFx : f 104 16 192 true none /\ e 104 [.d (.int .i64 0), .d (.int .i64 0), .d (.int .i64 0), .nil 1, .nil 1, .d (.int .i64 0), .d (.int .i64 0), .d (.int .i64 0), .d (.int .i64 0), .d (.int .i64 0), .d (.int .i64 0), .d (.int .i64 0), .d (.int .i64 0), .d (.int .i64 0), .nil 3, .nil 5] /\ a 104 0 0 3 /\ a 104 1 1 3 /\ a 104 2 2 74 /\ a 104 3 5 99 /\ a 104 4 14 103 := b
@[simp] theorem ZFh : f 105 16 192 true none /\ e 105 [.d (.int .i64 0), .d (.int .i64 0), .d (.int .i64 0), .nil 1, .nil 1, .d (.int .i64 0), .d (.int .i64 0), .d (.int .i64 0), .d (.int .i64 0), .d (.int .i64 0), .d (.int .i64 0), .d (.int .i64 0), .d (.int .i64 0), .d (.int .i64 0), .nil 3, .nil 5] /\ a 105 0 0 3 /\ a 105 1 1 3 /\ a 105 2 2 74 /\ a 105 3 5 99 /\ a 105 4 14 103 := b
@[simp] theorem ZFa : f 119 5 40 true none /\ e 119 [.d (.int .i64 0), .d (.int .i64 0), .d (.int .i64 0), .d (.int .i64 0), .d (.int .i64 0)] /\ a 119 0 0 3 /\ a 119 1 1 3 /\ a 119 2 2 3 /\ a 119 3 3 3 /\ a 119 4 4 3 := b
@[simp] theorem ZFz : f 120 5 40 true none /\ e 120 [.d (.int .i64 0), .d (.int .i64 0), .d (.int .i64 0), .d (.int .i64 0), .d (.int .i64 0)] /\ a 120 0 0 3 /\ a 120 1 1 3 /\ a 120 2 2 3 /\ a 120 3 3 3 /\ a 120 4 4 3 /\ E0 prog 120 = true /\ jW prog 120 = [3, 3, 3, 3, 3] := b
@[simp] theorem ZFd : f 122 1 24 false none /\ e 122 [.nil 2] /\ bi 122 103 false := b
@[simp] theorem ZFj : f 123 1 24 false none /\ e 123 [.nil 1] /\ bi 123 87 false := b
@[simp] theorem ZFf : f 125 2 48 true none /\ e 125 [.nil 2, .nil 1] /\ a 125 0 0 122 /\ a 125 1 1 123 := b
@[simp] theorem ZF1 : f 135 2 16 true none /\ e 135 [.d (.int .i64 0), .d (.int .i64 0)] /\ a 135 0 0 3 /\ a 135 1 1 3 /\ E0 prog 135 = true /\ jW prog 135 = [3, 3] := b
@[simp] theorem ZFm : f 137 4 32 true none /\ e 137 [.d (.int .i64 0), .d (.int .i64 0), .d (.int .i64 0), .d (.int .i64 0)] /\ a 137 0 0 3 /\ a 137 1 1 3 /\ a 137 2 2 135 /\ E0 prog 137 = true /\ jW prog 137 = [3, 3, 3, 3] := b
@[simp] theorem ZFo : f 139 1 24 false none /\ e 139 [.nil 1] /\ bi 139 4 false := b
@[simp] theorem ZFb : f 140 1 24 false none /\ e 140 [.nil 1] /\ bi 140 34 false := b
@[simp] theorem ZFs : f 142 6 128 true none /\ e 142 [.d (.int .i64 0), .nil 1, .nil 1, .nil 1, .nil 1, .nil 1] /\ a 142 0 0 3 /\ a 142 1 1 34 /\ a 142 2 2 139 /\ a 142 3 3 22 /\ a 142 4 4 34 /\ a 142 5 5 140 := b
@[simp] theorem ZFw : f 162 3 40 true none /\ e 162 [.d (.int .i64 0), .nil 1, .d (.int .i64 0)] /\ a 162 0 0 3 /\ a 162 1 1 34 /\ a 162 2 2 3 := b
@[simp] theorem ZFp : f 165 5 40 true none /\ e 165 [.d (.int .i64 0), .d (.int .i64 0), .d (.int .i64 0), .d (.int .i64 0), .d (.int .i64 0)] /\ a 165 0 0 3 /\ a 165 1 1 3 /\ a 165 2 2 3 /\ a 165 3 3 3 /\ a 165 4 4 3 /\ E0 prog 165 = true /\ jW prog 165 = [3, 3, 3, 3, 3] := b
@[simp] theorem ZF2 : f 183 1 24 false none /\ e 183 [.nil 2] /\ bi 183 254 false := b
@[simp] theorem ZFr : f 185 5 72 true none /\ e 185 [.d (.int .i64 0), .d (.int .i64 0), .d (.int .i64 0), .nil 2, .nil 5] /\ a 185 0 0 3 /\ a 185 1 1 3 /\ a 185 2 2 3 /\ a 185 3 3 183 /\ a 185 4 4 87 := b
@[simp] theorem ZF3 : f 203 100 100 true none /\ e 203 (N5 (zB 100)) /\ tr prog 203 = some 100 /\ C prog 203 = 4 := b
@[simp] theorem ZFq : f 218 4 48 true none /\ e 218 [.d (.int .i64 0), .d (.int .i64 0), .nil 16, .d (.int .i64 0)] /\ a 218 0 0 3 /\ a 218 1 1 3 /\ a 218 2 2 48 /\ a 218 3 3 3 := b
@[simp] theorem ZFl : f 243 4 64 true none /\ e 243 [.d (.str ⟨#[]⟩), .d (.str ⟨#[]⟩), .d (.str ⟨#[]⟩), .d (.str ⟨#[]⟩)] /\ tr prog 243 = some 4 /\ C prog 243 = 9 /\ a6 prog 243 0 = true /\ TZ prog 243 0 = 0 /\ aT prog 243 0 = 9 /\ a6 prog 243 1 = true /\ TZ prog 243 1 = 1 /\ aT prog 243 1 = 9 /\ a6 prog 243 2 = true /\ TZ prog 243 2 = 2 /\ aT prog 243 2 = 9 /\ a6 prog 243 3 = true /\ TZ prog 243 3 = 3 /\ aT prog 243 3 = 9 := b
@[simp] theorem ZFk : f 244 10 160 true none /\ e 244 [.d (.str ⟨#[]⟩), .d (.str ⟨#[]⟩), .d (.str ⟨#[]⟩), .d (.str ⟨#[]⟩), .d (.str ⟨#[]⟩), .d (.str ⟨#[]⟩), .d (.str ⟨#[]⟩), .d (.str ⟨#[]⟩), .d (.str ⟨#[]⟩), .d (.str ⟨#[]⟩)] /\ tr prog 244 = some 10 /\ C prog 244 = 9 /\ a6 prog 244 0 = true /\ TZ prog 244 0 = 0 /\ aT prog 244 0 = 9 /\ a6 prog 244 1 = true /\ TZ prog 244 1 = 1 /\ aT prog 244 1 = 9 /\ a6 prog 244 2 = true /\ TZ prog 244 2 = 2 /\ aT prog 244 2 = 9 /\ a6 prog 244 3 = true /\ TZ prog 244 3 = 3 /\ aT prog 244 3 = 9 /\ a6 prog 244 4 = true /\ TZ prog 244 4 = 4 /\ aT prog 244 4 = 9 /\ a6 prog 244 5 = true /\ TZ prog 244 5 = 5 /\ aT prog 244 5 = 9 /\ a6 prog 244 6 = true /\ TZ prog 244 6 = 6 /\ aT prog 244 6 = 9 /\ a6 prog 244 7 = true /\ TZ prog 244 7 = 7 /\ aT prog 244 7 = 9 /\ a6 prog 244 8 = true /\ TZ prog 244 8 = 8 /\ aT prog 244 8 = 9 /\ a6 prog 244 9 = true /\ TZ prog 244 9 = 9 /\ aT prog 244 9 = 9 := b
@[simp] theorem ZFt : f 254 2 16 true none /\ e 254 [.d (.int .i64 0), .d (.bool false)] /\ a 254 0 0 3 /\ a 254 1 1 4 /\ E0 prog 254 = true /\ jW prog 254 = [3, 4] := b
@[simp] theorem ZFu : f 270 1 24 false none /\ e 270 [.nil 5] /\ bi 270 165 false := b
@[simp] theorem ZFZ : f 274 1 24 false none /\ e 274 [.nil 6] /\ bi 274 298 false := b
@[simp] theorem ZFc : f 294 1 24 false none /\ e 294 [.nil 2] /\ bi 294 135 false := b
@[simp] theorem ZFy : f 298 6 48 true none /\ e 298 [.d (.int .i64 0), .d (.int .i64 0), .d (.int .i64 0), .d (.int .i64 0), .d (.int .i64 0), .d (.int .i64 0)] /\ a 298 0 0 3 /\ a 298 1 1 3 /\ a 298 2 2 3 /\ a 298 3 3 3 /\ a 298 4 4 3 /\ a 298 5 5 3 /\ E0 prog 298 = true /\ jW prog 298 = [3, 3, 3, 3, 3, 3] := b
@[simp] theorem ZFv : f 318 5 40 true none /\ e 318 [.d (.int .i64 0), .d (.int .i64 0), .d (.int .i64 0), .d (.int .i64 0), .d (.int .i64 0)] /\ tr prog 318 = some 5 /\ C prog 318 = 3 /\ a6 prog 318 0 = true /\ TZ prog 318 0 = 0 /\ aT prog 318 0 = 3 /\ a6 prog 318 1 = true /\ TZ prog 318 1 = 1 /\ aT prog 318 1 = 3 /\ a6 prog 318 2 = true /\ TZ prog 318 2 = 2 /\ aT prog 318 2 = 3 /\ a6 prog 318 3 = true /\ TZ prog 318 3 = 3 /\ aT prog 318 3 = 3 /\ a6 prog 318 4 = true /\ TZ prog 318 4 = 4 /\ aT prog 318 4 = 3 := b
@[simp] theorem ZFn : f 350 1 1 false (some .u8) /\ e 350 [.d (.int .u8 0)] := b
theorem ac:prog.follows .mixedOrders=true:=d
abbrev c(f:Nat):=KJ prog f false
abbrev So(f:Nat):=KJ prog f true
abbrev Sd(f:Nat):=Z7 prog f
end Go.Proofs.YtifogammcgmjpaaGreat
