/- The facts of the plain types of the program, by evaluation. No condition. -/
import Derived.Test.YthjkhlcbpfnobaaGreatVe
import Derived.Test.YthjkhlcbpfnobaaGreatProg
namespace Go.Proofs.YthjkhlcbpfnobaaGreat
open Tryz
open Go.Vm
abbrev tyB (t c b : Nat) (a : Bool) (k : Option IntKind) : Prop := qT prog t = true /\ prog.cellsOf t = c /\ TM prog t = a /\ prog.bytesOf t = b /\ (prog.underlying t).isSome = true /\ AV prog t = k
abbrev tyZ (t : Nat) (z : List At) : Prop := Wa prog 12 t = some z /\ Qc prog t = true
abbrev tyF (t i o f : Nat) : Prop := jy prog t i = true /\ JA prog t i = o /\ qg prog t i = f /\ bOk prog t i = true /\ jw prog t i = o /\ bTy prog t i = f
abbrev tyS (t e : Nat) (b : Bool) : Prop := XZ prog t = true /\ ZR prog t = e /\ Np prog t = b /\ SB prog t = false
@[simp] theorem ty2 : tyB 2 1 8 false (some .i64) /\ tyZ 2 [.d (.int .i64 0)] := zAG
@[simp] theorem ty3 : tyB 3 1 8 false (some .i64) /\ tyZ 3 [.d (.int .i64 0)] := zAG
@[simp] theorem ty4 : tyB 4 1 1 false none /\ tyZ 4 [.d (.bool false)] /\ Lv prog 4 = true := zAG
@[simp] theorem ty5 : tyB 5 1 1 false (some .u8) /\ tyZ 5 [.d (.int .u8 0)] := zAG
@[simp] theorem ty6 : tyB 6 1 1 false (some .u8) /\ tyZ 6 [.d (.int .u8 0)] := zAG
@[simp] theorem ty8 : tyB 8 4 24 true none /\ tyZ 8 [.d (.int .i64 0), .d (.int .i64 0), .d (.bool false), .d (.int .u8 0)] /\ tyF 8 0 0 2 /\ tyF 8 1 1 3 /\ tyF 8 2 2 4 /\ tyF 8 3 3 6 := zAG
@[simp] theorem ty9 : tyB 9 1 16 false none /\ tyZ 9 [.d (.str ⟨#[]⟩)] /\ SB prog 9 = true := zAG
@[simp] theorem mU : tyB 10 1 16 false none /\ tyZ 10 [.d (.str ⟨#[]⟩)] /\ SB prog 10 = true := zAG
@[simp] theorem mQ : tyB 11 1 16 false none /\ tyZ 11 [.d (.str ⟨#[]⟩)] /\ SB prog 11 = true := zAG
@[simp] theorem mR : tyB 12 1 8 false (some .u64) /\ tyZ 12 [.d (.int .u64 0)] := zAG
@[simp] theorem mq : tyB 14 2 24 true none /\ tyZ 14 [.d (.str ⟨#[]⟩), .d (.int .u64 0)] /\ tyF 14 0 0 9 /\ tyF 14 1 1 12 := zAG
@[simp] theorem mf : tyB 22 1 24 false none /\ tyZ 22 [.nil 1] /\ tyS 22 5 true := zAG
@[simp] theorem mi : tyB 24 1 24 false none /\ tyZ 24 [.nil 5] /\ tyS 24 161 false := zAG
@[simp] theorem mZ : tyB 25 1 24 false none /\ tyZ 25 [.nil 3] /\ tyS 25 159 false := zAG
@[simp] theorem ma : tyB 26 1 24 false none /\ tyZ 26 [.nil 4] /\ tyS 26 196 false := zAG
@[simp] theorem mr : tyB 28 5 88 true none /\ tyZ 28 [.nil 5, .nil 3, .nil 4, .d (.int .i64 0), .d (.int .i64 0)] /\ tyF 28 0 0 24 /\ tyF 28 1 1 25 /\ tyF 28 2 2 26 /\ tyF 28 3 3 3 /\ tyF 28 4 4 3 := zAG
@[simp] theorem mW : tyB 29 1 24 false none /\ tyZ 29 [.nil 7] /\ tyS 29 107 false := zAG
@[simp] theorem mM : tyB 30 1 24 false none /\ tyZ 30 [.nil 1] /\ tyS 30 3 false := zAG
@[simp] theorem mS : tyB 31 1 24 false none /\ tyZ 31 [.nil 2] /\ tyS 31 73 false := zAG
@[simp] theorem mg : tyB 33 12 240 true none /\ tyZ 33 [.nil 5, .nil 3, .nil 4, .d (.int .i64 0), .d (.int .i64 0), .nil 7, .nil 1, .nil 2, .nil 1, .nil 1, .d (.int .i64 0), .nil 1] /\ tyF 33 0 0 28 /\ tyF 33 1 5 29 /\ tyF 33 2 6 30 /\ tyF 33 3 7 31 /\ tyF 33 4 8 30 /\ tyF 33 5 9 30 /\ tyF 33 6 10 3 /\ tyF 33 7 11 30 := zAG
@[simp] theorem mh : tyB 34 1 24 false none /\ tyZ 34 [.nil 9] /\ tyS 34 45 false := zAG
@[simp] theorem mV : tyB 41 1 24 false none /\ tyZ 41 [.nil 1] /\ tyS 41 9 false := zAG
@[simp] theorem mb : tyB 43 3 56 true none /\ tyZ 43 [.d (.int .i64 0), .nil 1, .nil 1] /\ tyF 43 0 0 3 /\ tyF 43 1 1 41 /\ tyF 43 2 2 30 := zAG
@[simp] theorem mT : tyB 45 9 120 true none /\ tyZ 45 [.d (.int .i64 0), .d (.int .i64 0), .d (.int .i64 0), .d (.int .i64 0), .d (.int .i64 0), .d (.int .i64 0), .nil 1, .nil 1, .nil 1] /\ tyF 45 0 0 3 /\ tyF 45 1 1 3 /\ tyF 45 2 2 3 /\ tyF 45 3 3 3 /\ tyF 45 4 4 3 /\ tyF 45 5 5 43 /\ tyF 45 6 8 30 := zAG
@[simp] theorem mO : tyB 59 2 16 true none /\ tyZ 59 [.d (.int .i64 0), .d (.int .i64 0)] /\ tyF 59 0 0 3 /\ tyF 59 1 1 3 /\ Pp prog 59 = true /\ zd prog 59 = [3, 3] := zAG
@[simp] theorem mN : tyB 61 4 32 true none /\ tyZ 61 [.d (.int .i64 0), .d (.int .i64 0), .d (.int .i64 0), .d (.int .i64 0)] /\ tyF 61 0 0 3 /\ tyF 61 1 1 3 /\ tyF 61 2 2 59 /\ Pp prog 61 = true /\ zd prog 61 = [3, 3, 3, 3] := zAG
@[simp] theorem mY : tyB 64 9 72 true none /\ tyZ 64 [.d (.int .i64 0), .d (.int .i64 0), .d (.int .i64 0), .d (.int .i64 0), .d (.int .i64 0), .d (.int .i64 0), .d (.int .i64 0), .d (.int .i64 0), .d (.int .i64 0)] /\ tyF 64 0 0 3 /\ tyF 64 1 1 3 /\ tyF 64 2 2 3 /\ tyF 64 3 3 3 /\ tyF 64 4 4 3 /\ tyF 64 5 5 3 /\ tyF 64 6 6 3 /\ tyF 64 7 7 3 /\ tyF 64 8 8 3 /\ Pp prog 64 = true /\ zd prog 64 = [3, 3, 3, 3, 3, 3, 3, 3, 3] := zAG
@[simp] theorem mw : tyB 65 1 24 false none /\ tyZ 65 [.nil 3] /\ tyS 65 177 false := zAG
@[simp] theorem mc : tyB 66 1 24 false none /\ tyZ 66 [.nil 5] /\ tyS 66 140 false := zAG
@[simp] theorem mu : tyB 68 2 48 true none /\ tyZ 68 [.nil 3, .nil 5] /\ tyF 68 0 0 65 /\ tyF 68 1 1 66 := zAG
@[simp] theorem mj : tyB 70 16 192 true none /\ tyZ 70 [.d (.int .i64 0), .d (.int .i64 0), .d (.int .i64 0), .nil 1, .nil 1, .d (.int .i64 0), .d (.int .i64 0), .d (.int .i64 0), .d (.int .i64 0), .d (.int .i64 0), .d (.int .i64 0), .d (.int .i64 0), .d (.int .i64 0), .d (.int .i64 0), .nil 3, .nil 5] /\ tyF 70 0 0 3 /\ tyF 70 1 1 3 /\ tyF 70 2 2 43 /\ tyF 70 3 5 64 /\ tyF 70 4 14 68 := zAG
@[simp] theorem mn : tyB 71 1 24 false none /\ tyZ 71 [.nil 16] /\ tyS 71 70 false := zAG
@[simp] theorem mP : tyB 73 2 32 true none /\ tyZ 73 [.d (.int .i64 0), .nil 16] /\ tyF 73 0 0 3 /\ tyF 73 1 1 71 := zAG
@[simp] theorem mv : tyB 79 1 24 false none /\ tyZ 79 [.nil 5] /\ tyS 79 142 false := zAG
@[simp] theorem nj : tyB 107 7 56 true none /\ tyZ 107 [.d (.int .i64 0), .d (.int .i64 0), .d (.int .i64 0), .d (.int .i64 0), .d (.int .i64 0), .d (.int .i64 0), .d (.int .i64 0)] /\ tyF 107 0 0 3 /\ tyF 107 1 1 3 /\ tyF 107 2 2 3 /\ tyF 107 3 3 3 /\ tyF 107 4 4 3 /\ tyF 107 5 5 3 /\ tyF 107 6 6 3 /\ Pp prog 107 = true /\ zd prog 107 = [3, 3, 3, 3, 3, 3, 3] := zAG
@[simp] theorem nm : tyB 120 11 176 true none /\ tyZ 120 [.d (.str ⟨#[]⟩), .d (.str ⟨#[]⟩), .d (.str ⟨#[]⟩), .d (.str ⟨#[]⟩), .d (.str ⟨#[]⟩), .d (.str ⟨#[]⟩), .d (.str ⟨#[]⟩), .d (.str ⟨#[]⟩), .d (.str ⟨#[]⟩), .d (.str ⟨#[]⟩), .d (.str ⟨#[]⟩)] /\ GV prog 120 = some 11 /\ ZR prog 120 = 9 /\ bOk prog 120 0 = true /\ jw prog 120 0 = 0 /\ bTy prog 120 0 = 9 /\ bOk prog 120 1 = true /\ jw prog 120 1 = 1 /\ bTy prog 120 1 = 9 /\ bOk prog 120 2 = true /\ jw prog 120 2 = 2 /\ bTy prog 120 2 = 9 /\ bOk prog 120 3 = true /\ jw prog 120 3 = 3 /\ bTy prog 120 3 = 9 /\ bOk prog 120 4 = true /\ jw prog 120 4 = 4 /\ bTy prog 120 4 = 9 /\ bOk prog 120 5 = true /\ jw prog 120 5 = 5 /\ bTy prog 120 5 = 9 /\ bOk prog 120 6 = true /\ jw prog 120 6 = 6 /\ bTy prog 120 6 = 9 /\ bOk prog 120 7 = true /\ jw prog 120 7 = 7 /\ bTy prog 120 7 = 9 /\ bOk prog 120 8 = true /\ jw prog 120 8 = 8 /\ bTy prog 120 8 = 9 /\ bOk prog 120 9 = true /\ jw prog 120 9 = 9 /\ bTy prog 120 9 = 9 /\ bOk prog 120 10 = true /\ jw prog 120 10 = 10 /\ bTy prog 120 10 = 9 := zAG
@[simp] theorem np : tyB 128 5 40 true none /\ tyZ 128 [.d (.int .i64 0), .d (.int .i64 0), .d (.int .i64 0), .d (.int .i64 0), .d (.int .i64 0)] /\ tyF 128 0 0 3 /\ tyF 128 1 1 3 /\ tyF 128 2 2 3 /\ tyF 128 3 3 3 /\ tyF 128 4 4 3 /\ Pp prog 128 = true /\ zd prog 128 = [3, 3, 3, 3, 3] := zAG
@[simp] theorem mH : tyB 131 1 24 false none /\ tyZ 131 [.nil 2] /\ tyS 131 68 false := zAG
@[simp] theorem ny : tyB 132 1 24 false none /\ tyZ 132 [.nil 1] /\ tyS 132 79 false := zAG
@[simp] theorem mC : tyB 134 2 48 true none /\ tyZ 134 [.nil 2, .nil 1] /\ tyF 134 0 0 131 /\ tyF 134 1 1 132 := zAG
@[simp] theorem nu : tyB 138 1 24 false none /\ tyZ 138 [.nil 2] /\ tyS 138 234 false := zAG
@[simp] theorem nz : tyB 140 5 72 true none /\ tyZ 140 [.d (.int .i64 0), .d (.int .i64 0), .d (.int .i64 0), .nil 2, .nil 5] /\ tyF 140 0 0 3 /\ tyF 140 1 1 3 /\ tyF 140 2 2 3 /\ tyF 140 3 3 138 /\ tyF 140 4 4 79 := zAG
@[simp] theorem mE : tyB 142 5 40 true none /\ tyZ 142 [.d (.int .i64 0), .d (.int .i64 0), .d (.int .i64 0), .d (.int .i64 0), .d (.int .i64 0)] /\ tyF 142 0 0 3 /\ tyF 142 1 1 3 /\ tyF 142 2 2 3 /\ tyF 142 3 3 3 /\ tyF 142 4 4 3 /\ Pp prog 142 = true /\ zd prog 142 = [3, 3, 3, 3, 3] := zAG
@[simp] theorem mL : tyB 153 100 100 true none /\ tyZ 153 (B4 (zB 100)) /\ GV prog 153 = some 100 /\ ZR prog 153 = 4 := zAG
@[simp] theorem mI : tyB 159 3 24 true none /\ tyZ 159 [.d (.int .i64 0), .d (.int .i64 0), .d (.int .i64 0)] /\ tyF 159 0 0 3 /\ tyF 159 1 1 3 /\ tyF 159 2 2 3 /\ Pp prog 159 = true /\ zd prog 159 = [3, 3, 3] := zAG
@[simp] theorem n8 : tyB 161 5 40 true none /\ tyZ 161 [.d (.int .i64 0), .d (.int .i64 0), .d (.int .i64 0), .d (.int .i64 0), .d (.int .i64 0)] /\ tyF 161 0 0 3 /\ tyF 161 1 1 3 /\ tyF 161 2 2 3 /\ tyF 161 3 3 3 /\ tyF 161 4 4 3 /\ Pp prog 161 = true /\ zd prog 161 = [3, 3, 3, 3, 3] := zAG
@[simp] theorem n7 : tyB 177 3 40 true none /\ tyZ 177 [.d (.int .i64 0), .nil 1, .d (.int .i64 0)] /\ tyF 177 0 0 3 /\ tyF 177 1 1 30 /\ tyF 177 2 2 3 := zAG
@[simp] theorem nv : tyB 178 1 8 false (some .u64) /\ tyZ 178 [.d (.int .u64 0)] := zAG
@[simp] theorem n9 : tyB 180 3 40 true none /\ tyZ 180 [.nil 1, .d (.int .i64 0), .d (.int .i64 0)] /\ tyF 180 0 0 22 /\ tyF 180 1 1 3 /\ tyF 180 2 2 3 := zAG
@[simp] theorem mD : tyB 196 4 32 true none /\ tyZ 196 [.d (.int .i64 0), .d (.int .i64 0), .d (.int .i64 0), .d (.int .i64 0)] /\ tyF 196 0 0 3 /\ tyF 196 1 1 3 /\ tyF 196 2 2 3 /\ tyF 196 3 3 3 /\ Pp prog 196 = true /\ zd prog 196 = [3, 3, 3, 3] := zAG
@[simp] theorem nt : tyB 209 1 24 false none /\ tyZ 209 [.nil 1] /\ tyS 209 30 false := zAG
@[simp] theorem nq : tyB 234 2 16 true none /\ tyZ 234 [.d (.int .i64 0), .d (.bool false)] /\ tyF 234 0 0 3 /\ tyF 234 1 1 4 /\ Pp prog 234 = true /\ zd prog 234 = [3, 4] := zAG
@[simp] theorem mK : tyB 253 4 48 true none /\ tyZ 253 [.d (.int .i64 0), .d (.int .i64 0), .nil 16, .d (.int .i64 0)] /\ tyF 253 0 0 3 /\ tyF 253 1 1 3 /\ tyF 253 2 2 71 /\ tyF 253 3 3 3 := zAG
@[simp] theorem mJ : tyB 269 1 24 false none /\ tyZ 269 [.nil 5] /\ tyS 269 128 false := zAG
@[simp] theorem nr : tyB 273 1 24 false none /\ tyZ 273 [.nil 6] /\ tyS 273 309 false := zAG
@[simp] theorem mG : tyB 286 1 24 false none /\ tyZ 286 [.nil 2] /\ tyS 286 59 false := zAG
@[simp] theorem nn : tyB 298 5 40 true none /\ tyZ 298 [.d (.int .i64 0), .d (.int .i64 0), .d (.int .i64 0), .d (.int .i64 0), .d (.int .i64 0)] /\ GV prog 298 = some 5 /\ ZR prog 298 = 3 /\ bOk prog 298 0 = true /\ jw prog 298 0 = 0 /\ bTy prog 298 0 = 3 /\ bOk prog 298 1 = true /\ jw prog 298 1 = 1 /\ bTy prog 298 1 = 3 /\ bOk prog 298 2 = true /\ jw prog 298 2 = 2 /\ bTy prog 298 2 = 3 /\ bOk prog 298 3 = true /\ jw prog 298 3 = 3 /\ bTy prog 298 3 = 3 /\ bOk prog 298 4 = true /\ jw prog 298 4 = 4 /\ bTy prog 298 4 = 3 := zAG
@[simp] theorem mA : tyB 309 6 48 true none /\ tyZ 309 [.d (.int .i64 0), .d (.int .i64 0), .d (.int .i64 0), .d (.int .i64 0), .d (.int .i64 0), .d (.int .i64 0)] /\ tyF 309 0 0 3 /\ tyF 309 1 1 3 /\ tyF 309 2 2 3 /\ tyF 309 3 3 3 /\ tyF 309 4 4 3 /\ tyF 309 5 5 3 /\ Pp prog 309 = true /\ zd prog 309 = [3, 3, 3, 3, 3, 3] := zAG
@[simp] theorem mB : tyB 353 1 1 false (some .u8) /\ tyZ 353 [.d (.int .u8 0)] := zAG
theorem mixed : prog.follows .mixedOrders = true := zAU
abbrev Sa (f : Nat) := JH prog f false
abbrev So (f : Nat) := JH prog f true
abbrev Sd (f : Nat) := YV prog f
end Go.Proofs.YthjkhlcbpfnobaaGreat
