/- The facts of the plain types of the program, by evaluation. No condition. -/
import Derived.Test.YtipadonicggnbaaGreatVe
import Derived.Test.YtipadonicggnbaaGreatProg
namespace Go.Proofs.YtipadonicggnbaaGreat
open Tryz
open Go.Vm
abbrev f(t c b:Nat)(a:Bool)(k:Option IntKind):Prop:=Wj prog t=true/\prog.cellsOf t=c/\Ow prog t=a/\prog.bytesOf t=b/\(prog.underlying t).isSome=true/\fU prog t=k
abbrev b(t:Nat)(z:List At):Prop:=TG prog 12 t=some z/\Qq prog t=true
abbrev a(t i o f:Nat):Prop:=U4 prog t i=true/\KJ prog t i=o/\Wc prog t i=f/\bb prog t i=true/\VU prog t i=o/\aV prog t i=f
abbrev a7(t e:Nat)(b:Bool):Prop:=Xo prog t=true/\E prog t=e/\Ig prog t=b/\Oo prog t=false
@[simp] theorem ty2 : f 2 1 8 false (some .i64) /\ b 2 [.d (.int .i64 0)] := d
@[simp] theorem bO : f 3 1 8 false (some .i64) /\ b 3 [.d (.int .i64 0)] := d
@[simp] theorem q5 : f 4 1 1 false none /\ b 4 [.d (.bool false)] /\ Cu prog 4 = true := d
@[simp] theorem ty5 : f 5 1 1 false (some .u8) /\ b 5 [.d (.int .u8 0)] := d
@[simp] theorem ZI : f 6 1 1 false (some .u8) /\ b 6 [.d (.int .u8 0)] := d
@[simp] theorem ty8 : f 8 4 24 true none /\ b 8 [.d (.int .i64 0), .d (.int .i64 0), .d (.bool false), .d (.int .u8 0)] /\ a 8 0 0 2 /\ a 8 1 1 3 /\ a 8 2 2 4 /\ a 8 3 3 6 := d
@[simp] theorem Y8 : f 9 1 16 false none /\ b 9 [.d (.str ⟨#[]⟩)] /\ Oo prog 9 = true := d
@[simp] theorem Yb : f 10 1 16 false none /\ b 10 [.d (.str ⟨#[]⟩)] /\ Oo prog 10 = true := d
@[simp] theorem ZDg : f 11 1 16 false none /\ b 11 [.d (.str ⟨#[]⟩)] /\ Oo prog 11 = true := d
@[simp] theorem ZDk : f 12 1 8 false (some .u64) /\ b 12 [.d (.int .u64 0)] := d
@[simp] theorem Yw : f 14 2 24 true none /\ b 14 [.d (.str ⟨#[]⟩), .d (.int .u64 0)] /\ a 14 0 0 9 /\ a 14 1 1 12 := d
@[simp] theorem r0 : f 22 1 24 false none /\ b 22 [.nil 5] /\ a7 22 180 false := d
@[simp] theorem wd : f 23 1 24 false none /\ b 23 [.nil 3] /\ a7 23 182 false := d
@[simp] theorem nY : f 24 1 24 false none /\ b 24 [.nil 4] /\ a7 24 186 false := d
@[simp] theorem ij : f 26 5 88 true none /\ b 26 [.nil 5, .nil 3, .nil 4, .d (.int .i64 0), .d (.int .i64 0)] /\ a 26 0 0 22 /\ a 26 1 1 23 /\ a 26 2 2 24 /\ a 26 3 3 3 /\ a 26 4 4 3 := d
@[simp] theorem pi : f 27 1 24 false none /\ b 27 [.nil 7] /\ a7 27 111 false := d
@[simp] theorem fH : f 28 1 24 false none /\ b 28 [.nil 1] /\ a7 28 3 false := d
@[simp] theorem tl : f 29 1 24 false none /\ b 29 [.nil 2] /\ a7 29 77 false := d
@[simp] theorem q0 : f 31 12 240 true none /\ b 31 [.nil 5, .nil 3, .nil 4, .d (.int .i64 0), .d (.int .i64 0), .nil 7, .nil 1, .nil 2, .nil 1, .nil 1, .d (.int .i64 0), .nil 1] /\ a 31 0 0 26 /\ a 31 1 5 27 /\ a 31 2 6 28 /\ a 31 3 7 29 /\ a 31 4 8 28 /\ a 31 5 9 28 /\ a 31 6 10 3 /\ a 31 7 11 28 := d
@[simp] theorem ZDj : f 33 1 24 false none /\ b 33 [.nil 5] /\ a7 33 147 false := d
@[simp] theorem Yo : f 34 1 24 false none /\ b 34 [.nil 3] /\ a7 34 145 false := d
@[simp] theorem ZDm : f 35 1 24 false none /\ b 35 [.nil 4] /\ a7 35 184 false := d
@[simp] theorem Vm : f 37 5 88 true none /\ b 37 [.nil 5, .nil 3, .nil 4, .d (.int .i64 0), .d (.int .i64 0)] /\ a 37 0 0 33 /\ a 37 1 1 34 /\ a 37 2 2 35 /\ a 37 3 3 3 /\ a 37 4 4 3 := d
@[simp] theorem Yj : f 38 1 24 false none /\ b 38 [.nil 7] /\ a7 38 109 false := d
@[simp] theorem Zz : f 39 1 24 false none /\ b 39 [.nil 2] /\ a7 39 81 false := d
@[simp] theorem ZDh : f 41 12 240 true none /\ b 41 [.nil 5, .nil 3, .nil 4, .d (.int .i64 0), .d (.int .i64 0), .nil 7, .nil 1, .nil 2, .nil 1, .nil 1, .d (.int .i64 0), .nil 1] /\ a 41 0 0 37 /\ a 41 1 5 38 /\ a 41 2 6 28 /\ a 41 3 7 39 /\ a 41 4 8 28 /\ a 41 5 9 28 /\ a 41 6 10 3 /\ a 41 7 11 28 := d
@[simp] theorem Gi : f 52 1 24 false none /\ b 52 [.nil 1] /\ a7 52 9 false := d
@[simp] theorem n4 : f 75 1 24 false none /\ b 75 [.nil 16] /\ a7 75 206 false := d
@[simp] theorem St : f 77 2 32 true none /\ b 77 [.d (.int .i64 0), .nil 16] /\ a 77 0 0 3 /\ a 77 1 1 75 := d
@[simp] theorem ZDn : f 79 1 24 false none /\ b 79 [.nil 16] /\ a7 79 130 false := d
@[simp] theorem ZDo : f 81 2 32 true none /\ b 81 [.d (.int .i64 0), .nil 16] /\ a 81 0 0 3 /\ a 81 1 1 79 := d
@[simp] theorem Ze : f 86 3 56 true none /\ b 86 [.d (.int .i64 0), .nil 1, .nil 1] /\ a 86 0 0 3 /\ a 86 1 1 52 /\ a 86 2 2 28 := d
@[simp] theorem ZDd : f 90 9 120 true none /\ b 90 [.d (.int .i64 0), .d (.int .i64 0), .d (.int .i64 0), .d (.int .i64 0), .d (.int .i64 0), .d (.int .i64 0), .nil 1, .nil 1, .nil 1] /\ a 90 0 0 3 /\ a 90 1 1 3 /\ a 90 2 2 3 /\ a 90 3 3 3 /\ a 90 4 4 3 /\ a 90 5 5 86 /\ a 90 6 8 28 := d
@[simp] theorem Zb : f 100 1 24 false none /\ b 100 [.nil 5] /\ a7 100 150 false := d
@[simp] theorem ZDM : f 108 7 56 true none /\ b 108 [.d (.int .i64 0), .d (.int .i64 0), .d (.int .i64 0), .d (.int .i64 0), .d (.int .i64 0), .d (.int .i64 0), .d (.int .i64 0)] /\ a 108 0 0 3 /\ a 108 1 1 3 /\ a 108 2 2 3 /\ a 108 3 3 3 /\ a 108 4 4 3 /\ a 108 5 5 3 /\ a 108 6 6 3 := d
@[simp] theorem Yi : f 109 7 56 true none /\ b 109 [.d (.int .i64 0), .d (.int .i64 0), .d (.int .i64 0), .d (.int .i64 0), .d (.int .i64 0), .d (.int .i64 0), .d (.int .i64 0)] /\ a 109 0 0 3 /\ a 109 1 1 3 /\ a 109 2 2 3 /\ a 109 3 3 3 /\ a 109 4 4 3 /\ a 109 5 5 3 /\ a 109 6 6 3 /\ PR prog 109 = true /\ Kq prog 109 = [3, 3, 3, 3, 3, 3, 3] := d
@[simp] theorem rg : f 111 7 56 true none /\ b 111 [.d (.int .i64 0), .d (.int .i64 0), .d (.int .i64 0), .d (.int .i64 0), .d (.int .i64 0), .d (.int .i64 0), .d (.int .i64 0)] /\ a 111 0 0 3 /\ a 111 1 1 3 /\ a 111 2 2 3 /\ a 111 3 3 3 /\ a 111 4 4 3 /\ a 111 5 5 3 /\ a 111 6 6 3 /\ PR prog 111 = true /\ Kq prog 111 = [3, 3, 3, 3, 3, 3, 3] := d
@[simp] theorem ZC9 : f 124 9 72 true none /\ b 124 [.d (.int .i64 0), .d (.int .i64 0), .d (.int .i64 0), .d (.int .i64 0), .d (.int .i64 0), .d (.int .i64 0), .d (.int .i64 0), .d (.int .i64 0), .d (.int .i64 0)] /\ a 124 0 0 3 /\ a 124 1 1 3 /\ a 124 2 2 3 /\ a 124 3 3 3 /\ a 124 4 4 3 /\ a 124 5 5 3 /\ a 124 6 6 3 /\ a 124 7 7 3 /\ a 124 8 8 3 /\ PR prog 124 = true /\ Kq prog 124 = [3, 3, 3, 3, 3, 3, 3, 3, 3] := d
@[simp] theorem Yt : f 125 1 24 false none /\ b 125 [.nil 3] /\ a7 125 216 false := d
@[simp] theorem ZC7 : f 126 1 24 false none /\ b 126 [.nil 5] /\ a7 126 237 false := d
@[simp] theorem ZB : f 128 2 48 true none /\ b 128 [.nil 3, .nil 5] /\ a 128 0 0 125 /\ a 128 1 1 126 := d
@[simp] theorem ZDX : f 130 16 192 true none /\ b 130 [.d (.int .i64 0), .d (.int .i64 0), .d (.int .i64 0), .nil 1, .nil 1, .d (.int .i64 0), .d (.int .i64 0), .d (.int .i64 0), .d (.int .i64 0), .d (.int .i64 0), .d (.int .i64 0), .d (.int .i64 0), .d (.int .i64 0), .d (.int .i64 0), .nil 3, .nil 5] /\ a 130 0 0 3 /\ a 130 1 1 3 /\ a 130 2 2 86 /\ a 130 3 5 124 /\ a 130 4 14 128 := d
@[simp] theorem ZDI : f 142 1 24 false none /\ b 142 [.nil 1] /\ a7 142 5 true := d
@[simp] theorem Xy : f 145 3 24 true none /\ b 145 [.d (.int .i64 0), .d (.int .i64 0), .d (.int .i64 0)] /\ a 145 0 0 3 /\ a 145 1 1 3 /\ a 145 2 2 3 /\ PR prog 145 = true /\ Kq prog 145 = [3, 3, 3] := d
@[simp] theorem Vb : f 147 5 40 true none /\ b 147 [.d (.int .i64 0), .d (.int .i64 0), .d (.int .i64 0), .d (.int .i64 0), .d (.int .i64 0)] /\ a 147 0 0 3 /\ a 147 1 1 3 /\ a 147 2 2 3 /\ a 147 3 3 3 /\ a 147 4 4 3 /\ PR prog 147 = true /\ Kq prog 147 = [3, 3, 3, 3, 3] := d
@[simp] theorem ZC1 : f 150 5 40 true none /\ b 150 [.d (.int .i64 0), .d (.int .i64 0), .d (.int .i64 0), .d (.int .i64 0), .d (.int .i64 0)] /\ a 150 0 0 3 /\ a 150 1 1 3 /\ a 150 2 2 3 /\ a 150 3 3 3 /\ a 150 4 4 3 /\ PR prog 150 = true /\ Kq prog 150 = [3, 3, 3, 3, 3] := d
@[simp] theorem ZDB : f 152 1 24 false none /\ b 152 [.nil 2] /\ a7 152 128 false := d
@[simp] theorem ZDW : f 153 1 24 false none /\ b 153 [.nil 1] /\ a7 153 100 false := d
@[simp] theorem Ve : f 155 2 48 true none /\ b 155 [.nil 2, .nil 1] /\ a 155 0 0 152 /\ a 155 1 1 153 := d
@[simp] theorem X2 : f 164 2 16 true none /\ b 164 [.d (.int .i64 0), .d (.int .i64 0)] /\ a 164 0 0 3 /\ a 164 1 1 3 /\ PR prog 164 = true /\ Kq prog 164 = [3, 3] := d
@[simp] theorem XI : f 166 4 32 true none /\ b 166 [.d (.int .i64 0), .d (.int .i64 0), .d (.int .i64 0), .d (.int .i64 0)] /\ a 166 0 0 3 /\ a 166 1 1 3 /\ a 166 2 2 164 /\ PR prog 166 = true /\ Kq prog 166 = [3, 3, 3, 3] := d
@[simp] theorem ZC2 : f 168 1 24 false none /\ b 168 [.nil 1] /\ a7 168 4 false := d
@[simp] theorem ZA : f 169 1 24 false none /\ b 169 [.nil 1] /\ a7 169 28 false := d
@[simp] theorem ZC0 : f 171 6 128 true none /\ b 171 [.d (.int .i64 0), .nil 1, .nil 1, .nil 1, .nil 1, .nil 1] /\ a 171 0 0 3 /\ a 171 1 1 28 /\ a 171 2 2 168 /\ a 171 3 3 52 /\ a 171 4 4 28 /\ a 171 5 5 169 := d
@[simp] theorem M9 : f 180 5 40 true none /\ b 180 [.d (.int .i64 0), .d (.int .i64 0), .d (.int .i64 0), .d (.int .i64 0), .d (.int .i64 0)] /\ a 180 0 0 3 /\ a 180 1 1 3 /\ a 180 2 2 3 /\ a 180 3 3 3 /\ a 180 4 4 3 /\ PR prog 180 = true /\ Kq prog 180 = [3, 3, 3, 3, 3] := d
@[simp] theorem tY : f 182 3 24 true none /\ b 182 [.d (.int .i64 0), .d (.int .i64 0), .d (.int .i64 0)] /\ a 182 0 0 3 /\ a 182 1 1 3 /\ a 182 2 2 3 /\ PR prog 182 = true /\ Kq prog 182 = [3, 3, 3] := d
@[simp] theorem Y4 : f 184 4 32 true none /\ b 184 [.d (.int .i64 0), .d (.int .i64 0), .d (.int .i64 0), .d (.int .i64 0)] /\ a 184 0 0 3 /\ a 184 1 1 3 /\ a 184 2 2 3 /\ a 184 3 3 3 /\ PR prog 184 = true /\ Kq prog 184 = [3, 3, 3, 3] := d
@[simp] theorem kf : f 186 4 32 true none /\ b 186 [.d (.int .i64 0), .d (.int .i64 0), .d (.int .i64 0), .d (.int .i64 0)] /\ a 186 0 0 3 /\ a 186 1 1 3 /\ a 186 2 2 3 /\ a 186 3 3 3 /\ PR prog 186 = true /\ Kq prog 186 = [3, 3, 3, 3] := d
@[simp] theorem hN : f 199 3 56 true none /\ b 199 [.d (.int .i64 0), .nil 1, .nil 1] /\ a 199 0 0 3 /\ a 199 1 1 52 /\ a 199 2 2 28 := d
@[simp] theorem gZ : f 200 9 72 true none /\ b 200 [.d (.int .i64 0), .d (.int .i64 0), .d (.int .i64 0), .d (.int .i64 0), .d (.int .i64 0), .d (.int .i64 0), .d (.int .i64 0), .d (.int .i64 0), .d (.int .i64 0)] /\ a 200 0 0 3 /\ a 200 1 1 3 /\ a 200 2 2 3 /\ a 200 3 3 3 /\ a 200 4 4 3 /\ a 200 5 5 3 /\ a 200 6 6 3 /\ a 200 7 7 3 /\ a 200 8 8 3 /\ PR prog 200 = true /\ Kq prog 200 = [3, 3, 3, 3, 3, 3, 3, 3, 3] := d
@[simp] theorem mp : f 201 1 24 false none /\ b 201 [.nil 3] /\ a7 201 357 false := d
@[simp] theorem O0 : f 202 1 24 false none /\ b 202 [.nil 5] /\ a7 202 362 false := d
@[simp] theorem ih : f 204 2 48 true none /\ b 204 [.nil 3, .nil 5] /\ a 204 0 0 201 /\ a 204 1 1 202 := d
@[simp] theorem lN : f 206 16 192 true none /\ b 206 [.d (.int .i64 0), .d (.int .i64 0), .d (.int .i64 0), .nil 1, .nil 1, .d (.int .i64 0), .d (.int .i64 0), .d (.int .i64 0), .d (.int .i64 0), .d (.int .i64 0), .d (.int .i64 0), .d (.int .i64 0), .d (.int .i64 0), .d (.int .i64 0), .nil 3, .nil 5] /\ a 206 0 0 3 /\ a 206 1 1 3 /\ a 206 2 2 199 /\ a 206 3 5 200 /\ a 206 4 14 204 := d
@[simp] theorem ZDT : f 216 3 40 true none /\ b 216 [.d (.int .i64 0), .nil 1, .d (.int .i64 0)] /\ a 216 0 0 3 /\ a 216 1 1 28 /\ a 216 2 2 3 := d
@[simp] theorem Z9 : f 218 5 40 true none /\ b 218 [.d (.int .i64 0), .d (.int .i64 0), .d (.int .i64 0), .d (.int .i64 0), .d (.int .i64 0)] /\ a 218 0 0 3 /\ a 218 1 1 3 /\ a 218 2 2 3 /\ a 218 3 3 3 /\ a 218 4 4 3 /\ PR prog 218 = true /\ Kq prog 218 = [3, 3, 3, 3, 3] := d
@[simp] theorem ZC : f 235 1 24 false none /\ b 235 [.nil 2] /\ a7 235 314 false := d
@[simp] theorem YQ : f 237 5 72 true none /\ b 237 [.d (.int .i64 0), .d (.int .i64 0), .d (.int .i64 0), .nil 2, .nil 5] /\ a 237 0 0 3 /\ a 237 1 1 3 /\ a 237 2 2 3 /\ a 237 3 3 235 /\ a 237 4 4 100 := d
@[simp] theorem ZC5 : f 255 100 100 true none /\ b 255 (Pj (zB 100)) /\ Bm prog 255 = some 100 /\ E prog 255 = 4 := d
@[simp] theorem Z4 : f 276 4 48 true none /\ b 276 [.d (.int .i64 0), .d (.int .i64 0), .nil 16, .d (.int .i64 0)] /\ a 276 0 0 3 /\ a 276 1 1 3 /\ a 276 2 2 79 /\ a 276 3 3 3 := d
@[simp] theorem ZDC : f 304 4 64 true none /\ b 304 [.d (.str ⟨#[]⟩), .d (.str ⟨#[]⟩), .d (.str ⟨#[]⟩), .d (.str ⟨#[]⟩)] /\ Bm prog 304 = some 4 /\ E prog 304 = 9 /\ bb prog 304 0 = true /\ VU prog 304 0 = 0 /\ aV prog 304 0 = 9 /\ bb prog 304 1 = true /\ VU prog 304 1 = 1 /\ aV prog 304 1 = 9 /\ bb prog 304 2 = true /\ VU prog 304 2 = 2 /\ aV prog 304 2 = 9 /\ bb prog 304 3 = true /\ VU prog 304 3 = 3 /\ aV prog 304 3 = 9 := d
@[simp] theorem ZDP : f 305 10 160 true none /\ b 305 [.d (.str ⟨#[]⟩), .d (.str ⟨#[]⟩), .d (.str ⟨#[]⟩), .d (.str ⟨#[]⟩), .d (.str ⟨#[]⟩), .d (.str ⟨#[]⟩), .d (.str ⟨#[]⟩), .d (.str ⟨#[]⟩), .d (.str ⟨#[]⟩), .d (.str ⟨#[]⟩)] /\ Bm prog 305 = some 10 /\ E prog 305 = 9 /\ bb prog 305 0 = true /\ VU prog 305 0 = 0 /\ aV prog 305 0 = 9 /\ bb prog 305 1 = true /\ VU prog 305 1 = 1 /\ aV prog 305 1 = 9 /\ bb prog 305 2 = true /\ VU prog 305 2 = 2 /\ aV prog 305 2 = 9 /\ bb prog 305 3 = true /\ VU prog 305 3 = 3 /\ aV prog 305 3 = 9 /\ bb prog 305 4 = true /\ VU prog 305 4 = 4 /\ aV prog 305 4 = 9 /\ bb prog 305 5 = true /\ VU prog 305 5 = 5 /\ aV prog 305 5 = 9 /\ bb prog 305 6 = true /\ VU prog 305 6 = 6 /\ aV prog 305 6 = 9 /\ bb prog 305 7 = true /\ VU prog 305 7 = 7 /\ aV prog 305 7 = 9 /\ bb prog 305 8 = true /\ VU prog 305 8 = 8 /\ aV prog 305 8 = 9 /\ bb prog 305 9 = true /\ VU prog 305 9 = 9 /\ aV prog 305 9 = 9 := d
@[simp] theorem ZD : f 314 2 16 true none /\ b 314 [.d (.int .i64 0), .d (.bool false)] /\ a 314 0 0 3 /\ a 314 1 1 4 /\ PR prog 314 = true /\ Kq prog 314 = [3, 4] := d
@[simp] theorem Ww : f 338 1 24 false none /\ b 338 [.nil 5] /\ a7 338 218 false := d
@[simp] theorem ZR : f 342 1 24 false none /\ b 342 [.nil 6] /\ a7 342 381 false := d
@[simp] theorem nm : f 357 3 40 true none /\ b 357 [.d (.int .i64 0), .nil 1, .d (.int .i64 0)] /\ a 357 0 0 3 /\ a 357 1 1 28 /\ a 357 2 2 3 := d
@[simp] theorem us : f 359 1 24 false none /\ b 359 [.nil 2] /\ a7 359 421 false := d
@[simp] theorem H1 : f 360 1 24 false none /\ b 360 [.nil 5] /\ a7 360 423 false := d
@[simp] theorem uS : f 362 5 72 true none /\ b 362 [.d (.int .i64 0), .d (.int .i64 0), .d (.int .i64 0), .nil 2, .nil 5] /\ a 362 0 0 3 /\ a 362 1 1 3 /\ a 362 2 2 3 /\ a 362 3 3 359 /\ a 362 4 4 360 := d
@[simp] theorem Vd : f 377 1 24 false none /\ b 377 [.nil 2] /\ a7 377 164 false := d
@[simp] theorem YW : f 381 6 48 true none /\ b 381 [.d (.int .i64 0), .d (.int .i64 0), .d (.int .i64 0), .d (.int .i64 0), .d (.int .i64 0), .d (.int .i64 0)] /\ a 381 0 0 3 /\ a 381 1 1 3 /\ a 381 2 2 3 /\ a 381 3 3 3 /\ a 381 4 4 3 /\ a 381 5 5 3 /\ PR prog 381 = true /\ Kq prog 381 = [3, 3, 3, 3, 3, 3] := d
@[simp] theorem XF : f 407 5 40 true none /\ b 407 [.d (.int .i64 0), .d (.int .i64 0), .d (.int .i64 0), .d (.int .i64 0), .d (.int .i64 0)] /\ Bm prog 407 = some 5 /\ E prog 407 = 3 /\ bb prog 407 0 = true /\ VU prog 407 0 = 0 /\ aV prog 407 0 = 3 /\ bb prog 407 1 = true /\ VU prog 407 1 = 1 /\ aV prog 407 1 = 3 /\ bb prog 407 2 = true /\ VU prog 407 2 = 2 /\ aV prog 407 2 = 3 /\ bb prog 407 3 = true /\ VU prog 407 3 = 3 /\ aV prog 407 3 = 3 /\ bb prog 407 4 = true /\ VU prog 407 4 = 4 /\ aV prog 407 4 = 3 := d
@[simp] theorem xG : f 421 2 16 true none /\ b 421 [.d (.int .i64 0), .d (.bool false)] /\ a 421 0 0 3 /\ a 421 1 1 4 /\ PR prog 421 = true /\ Kq prog 421 = [3, 4] := d
@[simp] theorem qM : f 423 5 40 true none /\ b 423 [.d (.int .i64 0), .d (.int .i64 0), .d (.int .i64 0), .d (.int .i64 0), .d (.int .i64 0)] /\ a 423 0 0 3 /\ a 423 1 1 3 /\ a 423 2 2 3 /\ a 423 3 3 3 /\ a 423 4 4 3 /\ PR prog 423 = true /\ Kq prog 423 = [3, 3, 3, 3, 3] := d
@[simp] theorem ZDJ : f 447 1 1 false (some .u8) /\ b 447 [.d (.int .u8 0)] := d
theorem P:prog.follows .mixedOrders=true:=ai
abbrev Sa(f:Nat):=JT prog f false
abbrev So(f:Nat):=JT prog f true
abbrev y(f:Nat):=YJ prog f
end Go.Proofs.YtipadonicggnbaaGreat
