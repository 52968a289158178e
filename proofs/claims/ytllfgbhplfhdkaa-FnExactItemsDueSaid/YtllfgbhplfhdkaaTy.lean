/- The facts of the plain types of the program, by evaluation. No condition. -/
import Derived.Test.YtllfgbhplfhdkaaVe
import Derived.Test.YtllfgbhplfhdkaaProg
namespace Go.Proofs.Ytllfgbhplfhdkaa
open Go.Vm
@[simp] theorem ty2 : tyOk Try.prog 2 = true := by kernel_rfl
@[simp] theorem ce2 : Try.prog.cellsOf 2 = 1 := by kernel_rfl
@[simp] theorem ag2 : aggT Try.prog 2 = false := by kernel_rfl
@[simp] theorem by2 : Try.prog.bytesOf 2 = 8 := by kernel_rfl
@[simp] theorem un2 : (Try.prog.underlying 2).isSome = true := by kernel_rfl
@[simp] theorem zr2 : zrow Try.prog 12 2 = some [.d (.int .i64 0)] := by kernel_rfl
@[simp] theorem ze2 : zeroOk Try.prog 2 = true := by kernel_rfl
@[simp] theorem in2 : intT Try.prog 2 = some .i64 := by kernel_rfl
@[simp] theorem ty3 : tyOk Try.prog 3 = true := by kernel_rfl
@[simp] theorem ce3 : Try.prog.cellsOf 3 = 1 := by kernel_rfl
@[simp] theorem ag3 : aggT Try.prog 3 = false := by kernel_rfl
@[simp] theorem by3 : Try.prog.bytesOf 3 = 8 := by kernel_rfl
@[simp] theorem un3 : (Try.prog.underlying 3).isSome = true := by kernel_rfl
@[simp] theorem zr3 : zrow Try.prog 12 3 = some [.d (.int .i64 0)] := by kernel_rfl
@[simp] theorem ze3 : zeroOk Try.prog 3 = true := by kernel_rfl
@[simp] theorem in3 : intT Try.prog 3 = some .i64 := by kernel_rfl
@[simp] theorem ty4 : tyOk Try.prog 4 = true := by kernel_rfl
@[simp] theorem ce4 : Try.prog.cellsOf 4 = 1 := by kernel_rfl
@[simp] theorem ag4 : aggT Try.prog 4 = false := by kernel_rfl
@[simp] theorem by4 : Try.prog.bytesOf 4 = 1 := by kernel_rfl
@[simp] theorem un4 : (Try.prog.underlying 4).isSome = true := by kernel_rfl
@[simp] theorem zr4 : zrow Try.prog 12 4 = some [.d (.bool false)] := by kernel_rfl
@[simp] theorem ze4 : zeroOk Try.prog 4 = true := by kernel_rfl
@[simp] theorem in4 : intT Try.prog 4 = none := by kernel_rfl
@[simp] theorem bo4 : boolT Try.prog 4 = true := by kernel_rfl
@[simp] theorem ty5 : tyOk Try.prog 5 = true := by kernel_rfl
@[simp] theorem ce5 : Try.prog.cellsOf 5 = 1 := by kernel_rfl
@[simp] theorem ag5 : aggT Try.prog 5 = false := by kernel_rfl
@[simp] theorem by5 : Try.prog.bytesOf 5 = 1 := by kernel_rfl
@[simp] theorem un5 : (Try.prog.underlying 5).isSome = true := by kernel_rfl
@[simp] theorem zr5 : zrow Try.prog 12 5 = some [.d (.int .u8 0)] := by kernel_rfl
@[simp] theorem ze5 : zeroOk Try.prog 5 = true := by kernel_rfl
@[simp] theorem in5 : intT Try.prog 5 = some .u8 := by kernel_rfl
@[simp] theorem ty6 : tyOk Try.prog 6 = true := by kernel_rfl
@[simp] theorem ce6 : Try.prog.cellsOf 6 = 1 := by kernel_rfl
@[simp] theorem ag6 : aggT Try.prog 6 = false := by kernel_rfl
@[simp] theorem by6 : Try.prog.bytesOf 6 = 1 := by kernel_rfl
@[simp] theorem un6 : (Try.prog.underlying 6).isSome = true := by kernel_rfl
@[simp] theorem zr6 : zrow Try.prog 12 6 = some [.d (.int .u8 0)] := by kernel_rfl
@[simp] theorem ze6 : zeroOk Try.prog 6 = true := by kernel_rfl
@[simp] theorem in6 : intT Try.prog 6 = some .u8 := by kernel_rfl
@[simp] theorem ty8 : tyOk Try.prog 8 = true := by kernel_rfl
@[simp] theorem ce8 : Try.prog.cellsOf 8 = 4 := by kernel_rfl
@[simp] theorem ag8 : aggT Try.prog 8 = true := by kernel_rfl
@[simp] theorem by8 : Try.prog.bytesOf 8 = 24 := by kernel_rfl
@[simp] theorem un8 : (Try.prog.underlying 8).isSome = true := by kernel_rfl
@[simp] theorem zr8 : zrow Try.prog 12 8 = some [.d (.int .i64 0), .d (.int .i64 0), .d (.bool false), .d (.int .u8 0)] := by kernel_rfl
@[simp] theorem ze8 : zeroOk Try.prog 8 = true := by kernel_rfl
@[simp] theorem in8 : intT Try.prog 8 = none := by kernel_rfl
@[simp] theorem fk8_0 : fieldOk Try.prog 8 0 = true := by kernel_rfl
@[simp] theorem ff8_0 : fieldOff Try.prog 8 0 = 0 := by kernel_rfl
@[simp] theorem ft8_0 : fieldTy Try.prog 8 0 = 2 := by kernel_rfl
@[simp] theorem bk8_0 : bOk Try.prog 8 0 = true := by kernel_rfl
@[simp] theorem bf8_0 : bOff Try.prog 8 0 = 0 := by kernel_rfl
@[simp] theorem bt8_0 : bTy Try.prog 8 0 = 2 := by kernel_rfl
@[simp] theorem fk8_1 : fieldOk Try.prog 8 1 = true := by kernel_rfl
@[simp] theorem ff8_1 : fieldOff Try.prog 8 1 = 1 := by kernel_rfl
@[simp] theorem ft8_1 : fieldTy Try.prog 8 1 = 3 := by kernel_rfl
@[simp] theorem bk8_1 : bOk Try.prog 8 1 = true := by kernel_rfl
@[simp] theorem bf8_1 : bOff Try.prog 8 1 = 1 := by kernel_rfl
@[simp] theorem bt8_1 : bTy Try.prog 8 1 = 3 := by kernel_rfl
@[simp] theorem fk8_2 : fieldOk Try.prog 8 2 = true := by kernel_rfl
@[simp] theorem ff8_2 : fieldOff Try.prog 8 2 = 2 := by kernel_rfl
@[simp] theorem ft8_2 : fieldTy Try.prog 8 2 = 4 := by kernel_rfl
@[simp] theorem bk8_2 : bOk Try.prog 8 2 = true := by kernel_rfl
@[simp] theorem bf8_2 : bOff Try.prog 8 2 = 2 := by kernel_rfl
@[simp] theorem bt8_2 : bTy Try.prog 8 2 = 4 := by kernel_rfl
@[simp] theorem fk8_3 : fieldOk Try.prog 8 3 = true := by kernel_rfl
@[simp] theorem ff8_3 : fieldOff Try.prog 8 3 = 3 := by kernel_rfl
@[simp] theorem ft8_3 : fieldTy Try.prog 8 3 = 6 := by kernel_rfl
@[simp] theorem bk8_3 : bOk Try.prog 8 3 = true := by kernel_rfl
@[simp] theorem bf8_3 : bOff Try.prog 8 3 = 3 := by kernel_rfl
@[simp] theorem bt8_3 : bTy Try.prog 8 3 = 6 := by kernel_rfl
@[simp] theorem ty9 : tyOk Try.prog 9 = true := by kernel_rfl
@[simp] theorem ce9 : Try.prog.cellsOf 9 = 1 := by kernel_rfl
@[simp] theorem ag9 : aggT Try.prog 9 = false := by kernel_rfl
@[simp] theorem by9 : Try.prog.bytesOf 9 = 16 := by kernel_rfl
@[simp] theorem un9 : (Try.prog.underlying 9).isSome = true := by kernel_rfl
@[simp] theorem zr9 : zrow Try.prog 12 9 = some [.d (.str ⟨#[]⟩)] := by kernel_rfl
@[simp] theorem ze9 : zeroOk Try.prog 9 = true := by kernel_rfl
@[simp] theorem in9 : intT Try.prog 9 = none := by kernel_rfl
@[simp] theorem st9 : strT Try.prog 9 = true := by kernel_rfl
@[simp] theorem ty10 : tyOk Try.prog 10 = true := by kernel_rfl
@[simp] theorem ce10 : Try.prog.cellsOf 10 = 1 := by kernel_rfl
@[simp] theorem ag10 : aggT Try.prog 10 = false := by kernel_rfl
@[simp] theorem by10 : Try.prog.bytesOf 10 = 16 := by kernel_rfl
@[simp] theorem un10 : (Try.prog.underlying 10).isSome = true := by kernel_rfl
@[simp] theorem zr10 : zrow Try.prog 12 10 = some [.d (.str ⟨#[]⟩)] := by kernel_rfl
@[simp] theorem ze10 : zeroOk Try.prog 10 = true := by kernel_rfl
@[simp] theorem in10 : intT Try.prog 10 = none := by kernel_rfl
@[simp] theorem st10 : strT Try.prog 10 = true := by kernel_rfl
@[simp] theorem ty11 : tyOk Try.prog 11 = true := by kernel_rfl
@[simp] theorem ce11 : Try.prog.cellsOf 11 = 1 := by kernel_rfl
@[simp] theorem ag11 : aggT Try.prog 11 = false := by kernel_rfl
@[simp] theorem by11 : Try.prog.bytesOf 11 = 16 := by kernel_rfl
@[simp] theorem un11 : (Try.prog.underlying 11).isSome = true := by kernel_rfl
@[simp] theorem zr11 : zrow Try.prog 12 11 = some [.d (.str ⟨#[]⟩)] := by kernel_rfl
@[simp] theorem ze11 : zeroOk Try.prog 11 = true := by kernel_rfl
@[simp] theorem in11 : intT Try.prog 11 = none := by kernel_rfl
@[simp] theorem st11 : strT Try.prog 11 = true := by kernel_rfl
@[simp] theorem ty12 : tyOk Try.prog 12 = true := by kernel_rfl
@[simp] theorem ce12 : Try.prog.cellsOf 12 = 1 := by kernel_rfl
@[simp] theorem ag12 : aggT Try.prog 12 = false := by kernel_rfl
@[simp] theorem by12 : Try.prog.bytesOf 12 = 8 := by kernel_rfl
@[simp] theorem un12 : (Try.prog.underlying 12).isSome = true := by kernel_rfl
@[simp] theorem zr12 : zrow Try.prog 12 12 = some [.d (.int .u64 0)] := by kernel_rfl
@[simp] theorem ze12 : zeroOk Try.prog 12 = true := by kernel_rfl
@[simp] theorem in12 : intT Try.prog 12 = some .u64 := by kernel_rfl
@[simp] theorem ty14 : tyOk Try.prog 14 = true := by kernel_rfl
@[simp] theorem ce14 : Try.prog.cellsOf 14 = 2 := by kernel_rfl
@[simp] theorem ag14 : aggT Try.prog 14 = true := by kernel_rfl
@[simp] theorem by14 : Try.prog.bytesOf 14 = 24 := by kernel_rfl
@[simp] theorem un14 : (Try.prog.underlying 14).isSome = true := by kernel_rfl
@[simp] theorem zr14 : zrow Try.prog 12 14 = some [.d (.str ⟨#[]⟩), .d (.int .u64 0)] := by kernel_rfl
@[simp] theorem ze14 : zeroOk Try.prog 14 = true := by kernel_rfl
@[simp] theorem in14 : intT Try.prog 14 = none := by kernel_rfl
@[simp] theorem fk14_0 : fieldOk Try.prog 14 0 = true := by kernel_rfl
@[simp] theorem ff14_0 : fieldOff Try.prog 14 0 = 0 := by kernel_rfl
@[simp] theorem ft14_0 : fieldTy Try.prog 14 0 = 9 := by kernel_rfl
@[simp] theorem bk14_0 : bOk Try.prog 14 0 = true := by kernel_rfl
@[simp] theorem bf14_0 : bOff Try.prog 14 0 = 0 := by kernel_rfl
@[simp] theorem bt14_0 : bTy Try.prog 14 0 = 9 := by kernel_rfl
@[simp] theorem fk14_1 : fieldOk Try.prog 14 1 = true := by kernel_rfl
@[simp] theorem ff14_1 : fieldOff Try.prog 14 1 = 1 := by kernel_rfl
@[simp] theorem ft14_1 : fieldTy Try.prog 14 1 = 12 := by kernel_rfl
@[simp] theorem bk14_1 : bOk Try.prog 14 1 = true := by kernel_rfl
@[simp] theorem bf14_1 : bOff Try.prog 14 1 = 1 := by kernel_rfl
@[simp] theorem bt14_1 : bTy Try.prog 14 1 = 12 := by kernel_rfl
@[simp] theorem ty22 : tyOk Try.prog 22 = true := by kernel_rfl
@[simp] theorem ce22 : Try.prog.cellsOf 22 = 1 := by kernel_rfl
@[simp] theorem ag22 : aggT Try.prog 22 = false := by kernel_rfl
@[simp] theorem by22 : Try.prog.bytesOf 22 = 24 := by kernel_rfl
@[simp] theorem un22 : (Try.prog.underlying 22).isSome = true := by kernel_rfl
@[simp] theorem zr22 : zrow Try.prog 12 22 = some [.nil 5] := by kernel_rfl
@[simp] theorem ze22 : zeroOk Try.prog 22 = true := by kernel_rfl
@[simp] theorem in22 : intT Try.prog 22 = none := by kernel_rfl
@[simp] theorem sl22 : sliceT Try.prog 22 = true := by kernel_rfl
@[simp] theorem el22 : elemT Try.prog 22 = 115 := by kernel_rfl
@[simp] theorem bs22 : byteT Try.prog 22 = false := by kernel_rfl
@[simp] theorem st22 : strT Try.prog 22 = false := by kernel_rfl
@[simp] theorem ty23 : tyOk Try.prog 23 = true := by kernel_rfl
@[simp] theorem ce23 : Try.prog.cellsOf 23 = 1 := by kernel_rfl
@[simp] theorem ag23 : aggT Try.prog 23 = false := by kernel_rfl
@[simp] theorem by23 : Try.prog.bytesOf 23 = 24 := by kernel_rfl
@[simp] theorem un23 : (Try.prog.underlying 23).isSome = true := by kernel_rfl
@[simp] theorem zr23 : zrow Try.prog 12 23 = some [.nil 3] := by kernel_rfl
@[simp] theorem ze23 : zeroOk Try.prog 23 = true := by kernel_rfl
@[simp] theorem in23 : intT Try.prog 23 = none := by kernel_rfl
@[simp] theorem sl23 : sliceT Try.prog 23 = true := by kernel_rfl
@[simp] theorem el23 : elemT Try.prog 23 = 117 := by kernel_rfl
@[simp] theorem bs23 : byteT Try.prog 23 = false := by kernel_rfl
@[simp] theorem st23 : strT Try.prog 23 = false := by kernel_rfl
@[simp] theorem ty24 : tyOk Try.prog 24 = true := by kernel_rfl
@[simp] theorem ce24 : Try.prog.cellsOf 24 = 1 := by kernel_rfl
@[simp] theorem ag24 : aggT Try.prog 24 = false := by kernel_rfl
@[simp] theorem by24 : Try.prog.bytesOf 24 = 24 := by kernel_rfl
@[simp] theorem un24 : (Try.prog.underlying 24).isSome = true := by kernel_rfl
@[simp] theorem zr24 : zrow Try.prog 12 24 = some [.nil 4] := by kernel_rfl
@[simp] theorem ze24 : zeroOk Try.prog 24 = true := by kernel_rfl
@[simp] theorem in24 : intT Try.prog 24 = none := by kernel_rfl
@[simp] theorem sl24 : sliceT Try.prog 24 = true := by kernel_rfl
@[simp] theorem el24 : elemT Try.prog 24 = 121 := by kernel_rfl
@[simp] theorem bs24 : byteT Try.prog 24 = false := by kernel_rfl
@[simp] theorem st24 : strT Try.prog 24 = false := by kernel_rfl
@[simp] theorem ty26 : tyOk Try.prog 26 = true := by kernel_rfl
@[simp] theorem ce26 : Try.prog.cellsOf 26 = 5 := by kernel_rfl
@[simp] theorem ag26 : aggT Try.prog 26 = true := by kernel_rfl
@[simp] theorem by26 : Try.prog.bytesOf 26 = 88 := by kernel_rfl
@[simp] theorem un26 : (Try.prog.underlying 26).isSome = true := by kernel_rfl
@[simp] theorem zr26 : zrow Try.prog 12 26 = some [.nil 5, .nil 3, .nil 4, .d (.int .i64 0), .d (.int .i64 0)] := by kernel_rfl
@[simp] theorem ze26 : zeroOk Try.prog 26 = true := by kernel_rfl
@[simp] theorem in26 : intT Try.prog 26 = none := by kernel_rfl
@[simp] theorem fk26_0 : fieldOk Try.prog 26 0 = true := by kernel_rfl
@[simp] theorem ff26_0 : fieldOff Try.prog 26 0 = 0 := by kernel_rfl
@[simp] theorem ft26_0 : fieldTy Try.prog 26 0 = 22 := by kernel_rfl
@[simp] theorem bk26_0 : bOk Try.prog 26 0 = true := by kernel_rfl
@[simp] theorem bf26_0 : bOff Try.prog 26 0 = 0 := by kernel_rfl
@[simp] theorem bt26_0 : bTy Try.prog 26 0 = 22 := by kernel_rfl
@[simp] theorem fk26_1 : fieldOk Try.prog 26 1 = true := by kernel_rfl
@[simp] theorem ff26_1 : fieldOff Try.prog 26 1 = 1 := by kernel_rfl
@[simp] theorem ft26_1 : fieldTy Try.prog 26 1 = 23 := by kernel_rfl
@[simp] theorem bk26_1 : bOk Try.prog 26 1 = true := by kernel_rfl
@[simp] theorem bf26_1 : bOff Try.prog 26 1 = 1 := by kernel_rfl
@[simp] theorem bt26_1 : bTy Try.prog 26 1 = 23 := by kernel_rfl
@[simp] theorem fk26_2 : fieldOk Try.prog 26 2 = true := by kernel_rfl
@[simp] theorem ff26_2 : fieldOff Try.prog 26 2 = 2 := by kernel_rfl
@[simp] theorem ft26_2 : fieldTy Try.prog 26 2 = 24 := by kernel_rfl
@[simp] theorem bk26_2 : bOk Try.prog 26 2 = true := by kernel_rfl
@[simp] theorem bf26_2 : bOff Try.prog 26 2 = 2 := by kernel_rfl
@[simp] theorem bt26_2 : bTy Try.prog 26 2 = 24 := by kernel_rfl
@[simp] theorem fk26_3 : fieldOk Try.prog 26 3 = true := by kernel_rfl
@[simp] theorem ff26_3 : fieldOff Try.prog 26 3 = 3 := by kernel_rfl
@[simp] theorem ft26_3 : fieldTy Try.prog 26 3 = 3 := by kernel_rfl
@[simp] theorem bk26_3 : bOk Try.prog 26 3 = true := by kernel_rfl
@[simp] theorem bf26_3 : bOff Try.prog 26 3 = 3 := by kernel_rfl
@[simp] theorem bt26_3 : bTy Try.prog 26 3 = 3 := by kernel_rfl
@[simp] theorem fk26_4 : fieldOk Try.prog 26 4 = true := by kernel_rfl
@[simp] theorem ff26_4 : fieldOff Try.prog 26 4 = 4 := by kernel_rfl
@[simp] theorem ft26_4 : fieldTy Try.prog 26 4 = 3 := by kernel_rfl
@[simp] theorem bk26_4 : bOk Try.prog 26 4 = true := by kernel_rfl
@[simp] theorem bf26_4 : bOff Try.prog 26 4 = 4 := by kernel_rfl
@[simp] theorem bt26_4 : bTy Try.prog 26 4 = 3 := by kernel_rfl
@[simp] theorem ty27 : tyOk Try.prog 27 = true := by kernel_rfl
@[simp] theorem ce27 : Try.prog.cellsOf 27 = 1 := by kernel_rfl
@[simp] theorem ag27 : aggT Try.prog 27 = false := by kernel_rfl
@[simp] theorem by27 : Try.prog.bytesOf 27 = 24 := by kernel_rfl
@[simp] theorem un27 : (Try.prog.underlying 27).isSome = true := by kernel_rfl
@[simp] theorem zr27 : zrow Try.prog 12 27 = some [.nil 16] := by kernel_rfl
@[simp] theorem ze27 : zeroOk Try.prog 27 = true := by kernel_rfl
@[simp] theorem in27 : intT Try.prog 27 = none := by kernel_rfl
@[simp] theorem sl27 : sliceT Try.prog 27 = true := by kernel_rfl
@[simp] theorem el27 : elemT Try.prog 27 = 110 := by kernel_rfl
@[simp] theorem bs27 : byteT Try.prog 27 = false := by kernel_rfl
@[simp] theorem st27 : strT Try.prog 27 = false := by kernel_rfl
@[simp] theorem ty29 : tyOk Try.prog 29 = true := by kernel_rfl
@[simp] theorem ce29 : Try.prog.cellsOf 29 = 2 := by kernel_rfl
@[simp] theorem ag29 : aggT Try.prog 29 = true := by kernel_rfl
@[simp] theorem by29 : Try.prog.bytesOf 29 = 32 := by kernel_rfl
@[simp] theorem un29 : (Try.prog.underlying 29).isSome = true := by kernel_rfl
@[simp] theorem zr29 : zrow Try.prog 12 29 = some [.d (.int .i64 0), .nil 16] := by kernel_rfl
@[simp] theorem ze29 : zeroOk Try.prog 29 = true := by kernel_rfl
@[simp] theorem in29 : intT Try.prog 29 = none := by kernel_rfl
@[simp] theorem fk29_0 : fieldOk Try.prog 29 0 = true := by kernel_rfl
@[simp] theorem ff29_0 : fieldOff Try.prog 29 0 = 0 := by kernel_rfl
@[simp] theorem ft29_0 : fieldTy Try.prog 29 0 = 3 := by kernel_rfl
@[simp] theorem bk29_0 : bOk Try.prog 29 0 = true := by kernel_rfl
@[simp] theorem bf29_0 : bOff Try.prog 29 0 = 0 := by kernel_rfl
@[simp] theorem bt29_0 : bTy Try.prog 29 0 = 3 := by kernel_rfl
@[simp] theorem fk29_1 : fieldOk Try.prog 29 1 = true := by kernel_rfl
@[simp] theorem ff29_1 : fieldOff Try.prog 29 1 = 1 := by kernel_rfl
@[simp] theorem ft29_1 : fieldTy Try.prog 29 1 = 27 := by kernel_rfl
@[simp] theorem bk29_1 : bOk Try.prog 29 1 = true := by kernel_rfl
@[simp] theorem bf29_1 : bOff Try.prog 29 1 = 1 := by kernel_rfl
@[simp] theorem bt29_1 : bTy Try.prog 29 1 = 27 := by kernel_rfl
@[simp] theorem ty32 : tyOk Try.prog 32 = true := by kernel_rfl
@[simp] theorem ce32 : Try.prog.cellsOf 32 = 1 := by kernel_rfl
@[simp] theorem ag32 : aggT Try.prog 32 = false := by kernel_rfl
@[simp] theorem by32 : Try.prog.bytesOf 32 = 24 := by kernel_rfl
@[simp] theorem un32 : (Try.prog.underlying 32).isSome = true := by kernel_rfl
@[simp] theorem zr32 : zrow Try.prog 12 32 = some [.nil 1] := by kernel_rfl
@[simp] theorem ze32 : zeroOk Try.prog 32 = true := by kernel_rfl
@[simp] theorem in32 : intT Try.prog 32 = none := by kernel_rfl
@[simp] theorem sl32 : sliceT Try.prog 32 = true := by kernel_rfl
@[simp] theorem el32 : elemT Try.prog 32 = 3 := by kernel_rfl
@[simp] theorem bs32 : byteT Try.prog 32 = false := by kernel_rfl
@[simp] theorem st32 : strT Try.prog 32 = false := by kernel_rfl
@[simp] theorem ty34 : tyOk Try.prog 34 = true := by kernel_rfl
@[simp] theorem ce34 : Try.prog.cellsOf 34 = 1 := by kernel_rfl
@[simp] theorem ag34 : aggT Try.prog 34 = false := by kernel_rfl
@[simp] theorem by34 : Try.prog.bytesOf 34 = 24 := by kernel_rfl
@[simp] theorem un34 : (Try.prog.underlying 34).isSome = true := by kernel_rfl
@[simp] theorem zr34 : zrow Try.prog 12 34 = some [.nil 5] := by kernel_rfl
@[simp] theorem ze34 : zeroOk Try.prog 34 = true := by kernel_rfl
@[simp] theorem in34 : intT Try.prog 34 = none := by kernel_rfl
@[simp] theorem sl34 : sliceT Try.prog 34 = true := by kernel_rfl
@[simp] theorem el34 : elemT Try.prog 34 = 113 := by kernel_rfl
@[simp] theorem bs34 : byteT Try.prog 34 = false := by kernel_rfl
@[simp] theorem st34 : strT Try.prog 34 = false := by kernel_rfl
@[simp] theorem ty35 : tyOk Try.prog 35 = true := by kernel_rfl
@[simp] theorem ce35 : Try.prog.cellsOf 35 = 1 := by kernel_rfl
@[simp] theorem ag35 : aggT Try.prog 35 = false := by kernel_rfl
@[simp] theorem by35 : Try.prog.bytesOf 35 = 24 := by kernel_rfl
@[simp] theorem un35 : (Try.prog.underlying 35).isSome = true := by kernel_rfl
@[simp] theorem zr35 : zrow Try.prog 12 35 = some [.nil 3] := by kernel_rfl
@[simp] theorem ze35 : zeroOk Try.prog 35 = true := by kernel_rfl
@[simp] theorem in35 : intT Try.prog 35 = none := by kernel_rfl
@[simp] theorem sl35 : sliceT Try.prog 35 = true := by kernel_rfl
@[simp] theorem el35 : elemT Try.prog 35 = 93 := by kernel_rfl
@[simp] theorem bs35 : byteT Try.prog 35 = false := by kernel_rfl
@[simp] theorem st35 : strT Try.prog 35 = false := by kernel_rfl
@[simp] theorem ty36 : tyOk Try.prog 36 = true := by kernel_rfl
@[simp] theorem ce36 : Try.prog.cellsOf 36 = 1 := by kernel_rfl
@[simp] theorem ag36 : aggT Try.prog 36 = false := by kernel_rfl
@[simp] theorem by36 : Try.prog.bytesOf 36 = 24 := by kernel_rfl
@[simp] theorem un36 : (Try.prog.underlying 36).isSome = true := by kernel_rfl
@[simp] theorem zr36 : zrow Try.prog 12 36 = some [.nil 4] := by kernel_rfl
@[simp] theorem ze36 : zeroOk Try.prog 36 = true := by kernel_rfl
@[simp] theorem in36 : intT Try.prog 36 = none := by kernel_rfl
@[simp] theorem sl36 : sliceT Try.prog 36 = true := by kernel_rfl
@[simp] theorem el36 : elemT Try.prog 36 = 119 := by kernel_rfl
@[simp] theorem bs36 : byteT Try.prog 36 = false := by kernel_rfl
@[simp] theorem st36 : strT Try.prog 36 = false := by kernel_rfl
@[simp] theorem ty38 : tyOk Try.prog 38 = true := by kernel_rfl
@[simp] theorem ce38 : Try.prog.cellsOf 38 = 5 := by kernel_rfl
@[simp] theorem ag38 : aggT Try.prog 38 = true := by kernel_rfl
@[simp] theorem by38 : Try.prog.bytesOf 38 = 88 := by kernel_rfl
@[simp] theorem un38 : (Try.prog.underlying 38).isSome = true := by kernel_rfl
@[simp] theorem zr38 : zrow Try.prog 12 38 = some [.nil 5, .nil 3, .nil 4, .d (.int .i64 0), .d (.int .i64 0)] := by kernel_rfl
@[simp] theorem ze38 : zeroOk Try.prog 38 = true := by kernel_rfl
@[simp] theorem in38 : intT Try.prog 38 = none := by kernel_rfl
@[simp] theorem fk38_0 : fieldOk Try.prog 38 0 = true := by kernel_rfl
@[simp] theorem ff38_0 : fieldOff Try.prog 38 0 = 0 := by kernel_rfl
@[simp] theorem ft38_0 : fieldTy Try.prog 38 0 = 34 := by kernel_rfl
@[simp] theorem bk38_0 : bOk Try.prog 38 0 = true := by kernel_rfl
@[simp] theorem bf38_0 : bOff Try.prog 38 0 = 0 := by kernel_rfl
@[simp] theorem bt38_0 : bTy Try.prog 38 0 = 34 := by kernel_rfl
@[simp] theorem fk38_1 : fieldOk Try.prog 38 1 = true := by kernel_rfl
@[simp] theorem ff38_1 : fieldOff Try.prog 38 1 = 1 := by kernel_rfl
@[simp] theorem ft38_1 : fieldTy Try.prog 38 1 = 35 := by kernel_rfl
@[simp] theorem bk38_1 : bOk Try.prog 38 1 = true := by kernel_rfl
@[simp] theorem bf38_1 : bOff Try.prog 38 1 = 1 := by kernel_rfl
@[simp] theorem bt38_1 : bTy Try.prog 38 1 = 35 := by kernel_rfl
@[simp] theorem fk38_2 : fieldOk Try.prog 38 2 = true := by kernel_rfl
@[simp] theorem ff38_2 : fieldOff Try.prog 38 2 = 2 := by kernel_rfl
@[simp] theorem ft38_2 : fieldTy Try.prog 38 2 = 36 := by kernel_rfl
@[simp] theorem bk38_2 : bOk Try.prog 38 2 = true := by kernel_rfl
@[simp] theorem bf38_2 : bOff Try.prog 38 2 = 2 := by kernel_rfl
@[simp] theorem bt38_2 : bTy Try.prog 38 2 = 36 := by kernel_rfl
@[simp] theorem fk38_3 : fieldOk Try.prog 38 3 = true := by kernel_rfl
@[simp] theorem ff38_3 : fieldOff Try.prog 38 3 = 3 := by kernel_rfl
@[simp] theorem ft38_3 : fieldTy Try.prog 38 3 = 3 := by kernel_rfl
@[simp] theorem bk38_3 : bOk Try.prog 38 3 = true := by kernel_rfl
@[simp] theorem bf38_3 : bOff Try.prog 38 3 = 3 := by kernel_rfl
@[simp] theorem bt38_3 : bTy Try.prog 38 3 = 3 := by kernel_rfl
@[simp] theorem fk38_4 : fieldOk Try.prog 38 4 = true := by kernel_rfl
@[simp] theorem ff38_4 : fieldOff Try.prog 38 4 = 4 := by kernel_rfl
@[simp] theorem ft38_4 : fieldTy Try.prog 38 4 = 3 := by kernel_rfl
@[simp] theorem bk38_4 : bOk Try.prog 38 4 = true := by kernel_rfl
@[simp] theorem bf38_4 : bOff Try.prog 38 4 = 4 := by kernel_rfl
@[simp] theorem bt38_4 : bTy Try.prog 38 4 = 3 := by kernel_rfl
@[simp] theorem ty40 : tyOk Try.prog 40 = true := by kernel_rfl
@[simp] theorem ce40 : Try.prog.cellsOf 40 = 1 := by kernel_rfl
@[simp] theorem ag40 : aggT Try.prog 40 = false := by kernel_rfl
@[simp] theorem by40 : Try.prog.bytesOf 40 = 24 := by kernel_rfl
@[simp] theorem un40 : (Try.prog.underlying 40).isSome = true := by kernel_rfl
@[simp] theorem zr40 : zrow Try.prog 12 40 = some [.nil 16] := by kernel_rfl
@[simp] theorem ze40 : zeroOk Try.prog 40 = true := by kernel_rfl
@[simp] theorem in40 : intT Try.prog 40 = none := by kernel_rfl
@[simp] theorem sl40 : sliceT Try.prog 40 = true := by kernel_rfl
@[simp] theorem el40 : elemT Try.prog 40 = 74 := by kernel_rfl
@[simp] theorem bs40 : byteT Try.prog 40 = false := by kernel_rfl
@[simp] theorem st40 : strT Try.prog 40 = false := by kernel_rfl
@[simp] theorem ty42 : tyOk Try.prog 42 = true := by kernel_rfl
@[simp] theorem ce42 : Try.prog.cellsOf 42 = 2 := by kernel_rfl
@[simp] theorem ag42 : aggT Try.prog 42 = true := by kernel_rfl
@[simp] theorem by42 : Try.prog.bytesOf 42 = 32 := by kernel_rfl
@[simp] theorem un42 : (Try.prog.underlying 42).isSome = true := by kernel_rfl
@[simp] theorem zr42 : zrow Try.prog 12 42 = some [.d (.int .i64 0), .nil 16] := by kernel_rfl
@[simp] theorem ze42 : zeroOk Try.prog 42 = true := by kernel_rfl
@[simp] theorem in42 : intT Try.prog 42 = none := by kernel_rfl
@[simp] theorem fk42_0 : fieldOk Try.prog 42 0 = true := by kernel_rfl
@[simp] theorem ff42_0 : fieldOff Try.prog 42 0 = 0 := by kernel_rfl
@[simp] theorem ft42_0 : fieldTy Try.prog 42 0 = 3 := by kernel_rfl
@[simp] theorem bk42_0 : bOk Try.prog 42 0 = true := by kernel_rfl
@[simp] theorem bf42_0 : bOff Try.prog 42 0 = 0 := by kernel_rfl
@[simp] theorem bt42_0 : bTy Try.prog 42 0 = 3 := by kernel_rfl
@[simp] theorem fk42_1 : fieldOk Try.prog 42 1 = true := by kernel_rfl
@[simp] theorem ff42_1 : fieldOff Try.prog 42 1 = 1 := by kernel_rfl
@[simp] theorem ft42_1 : fieldTy Try.prog 42 1 = 40 := by kernel_rfl
@[simp] theorem bk42_1 : bOk Try.prog 42 1 = true := by kernel_rfl
@[simp] theorem bf42_1 : bOff Try.prog 42 1 = 1 := by kernel_rfl
@[simp] theorem bt42_1 : bTy Try.prog 42 1 = 40 := by kernel_rfl
@[simp] theorem ty51 : tyOk Try.prog 51 = true := by kernel_rfl
@[simp] theorem ce51 : Try.prog.cellsOf 51 = 1 := by kernel_rfl
@[simp] theorem ag51 : aggT Try.prog 51 = false := by kernel_rfl
@[simp] theorem by51 : Try.prog.bytesOf 51 = 24 := by kernel_rfl
@[simp] theorem un51 : (Try.prog.underlying 51).isSome = true := by kernel_rfl
@[simp] theorem zr51 : zrow Try.prog 12 51 = some [.nil 7] := by kernel_rfl
@[simp] theorem ze51 : zeroOk Try.prog 51 = true := by kernel_rfl
@[simp] theorem in51 : intT Try.prog 51 = none := by kernel_rfl
@[simp] theorem sl51 : sliceT Try.prog 51 = true := by kernel_rfl
@[simp] theorem el51 : elemT Try.prog 51 = 95 := by kernel_rfl
@[simp] theorem bs51 : byteT Try.prog 51 = false := by kernel_rfl
@[simp] theorem st51 : strT Try.prog 51 = false := by kernel_rfl
@[simp] theorem ty52 : tyOk Try.prog 52 = true := by kernel_rfl
@[simp] theorem ce52 : Try.prog.cellsOf 52 = 1 := by kernel_rfl
@[simp] theorem ag52 : aggT Try.prog 52 = false := by kernel_rfl
@[simp] theorem by52 : Try.prog.bytesOf 52 = 24 := by kernel_rfl
@[simp] theorem un52 : (Try.prog.underlying 52).isSome = true := by kernel_rfl
@[simp] theorem zr52 : zrow Try.prog 12 52 = some [.nil 2] := by kernel_rfl
@[simp] theorem ze52 : zeroOk Try.prog 52 = true := by kernel_rfl
@[simp] theorem in52 : intT Try.prog 52 = none := by kernel_rfl
@[simp] theorem sl52 : sliceT Try.prog 52 = true := by kernel_rfl
@[simp] theorem el52 : elemT Try.prog 52 = 42 := by kernel_rfl
@[simp] theorem bs52 : byteT Try.prog 52 = false := by kernel_rfl
@[simp] theorem st52 : strT Try.prog 52 = false := by kernel_rfl
@[simp] theorem ty54 : tyOk Try.prog 54 = true := by kernel_rfl
@[simp] theorem ce54 : Try.prog.cellsOf 54 = 12 := by kernel_rfl
@[simp] theorem ag54 : aggT Try.prog 54 = true := by kernel_rfl
@[simp] theorem by54 : Try.prog.bytesOf 54 = 240 := by kernel_rfl
@[simp] theorem un54 : (Try.prog.underlying 54).isSome = true := by kernel_rfl
@[simp] theorem zr54 : zrow Try.prog 12 54 = some [.nil 5, .nil 3, .nil 4, .d (.int .i64 0), .d (.int .i64 0), .nil 7, .nil 1, .nil 2, .nil 1, .nil 1, .d (.int .i64 0), .nil 1] := by kernel_rfl
@[simp] theorem ze54 : zeroOk Try.prog 54 = true := by kernel_rfl
@[simp] theorem in54 : intT Try.prog 54 = none := by kernel_rfl
@[simp] theorem fk54_0 : fieldOk Try.prog 54 0 = true := by kernel_rfl
@[simp] theorem ff54_0 : fieldOff Try.prog 54 0 = 0 := by kernel_rfl
@[simp] theorem ft54_0 : fieldTy Try.prog 54 0 = 38 := by kernel_rfl
@[simp] theorem bk54_0 : bOk Try.prog 54 0 = true := by kernel_rfl
@[simp] theorem bf54_0 : bOff Try.prog 54 0 = 0 := by kernel_rfl
@[simp] theorem bt54_0 : bTy Try.prog 54 0 = 38 := by kernel_rfl
@[simp] theorem fk54_1 : fieldOk Try.prog 54 1 = true := by kernel_rfl
@[simp] theorem ff54_1 : fieldOff Try.prog 54 1 = 5 := by kernel_rfl
@[simp] theorem ft54_1 : fieldTy Try.prog 54 1 = 51 := by kernel_rfl
@[simp] theorem bk54_1 : bOk Try.prog 54 1 = true := by kernel_rfl
@[simp] theorem bf54_1 : bOff Try.prog 54 1 = 5 := by kernel_rfl
@[simp] theorem bt54_1 : bTy Try.prog 54 1 = 51 := by kernel_rfl
@[simp] theorem fk54_2 : fieldOk Try.prog 54 2 = true := by kernel_rfl
@[simp] theorem ff54_2 : fieldOff Try.prog 54 2 = 6 := by kernel_rfl
@[simp] theorem ft54_2 : fieldTy Try.prog 54 2 = 32 := by kernel_rfl
@[simp] theorem bk54_2 : bOk Try.prog 54 2 = true := by kernel_rfl
@[simp] theorem bf54_2 : bOff Try.prog 54 2 = 6 := by kernel_rfl
@[simp] theorem bt54_2 : bTy Try.prog 54 2 = 32 := by kernel_rfl
@[simp] theorem fk54_3 : fieldOk Try.prog 54 3 = true := by kernel_rfl
@[simp] theorem ff54_3 : fieldOff Try.prog 54 3 = 7 := by kernel_rfl
@[simp] theorem ft54_3 : fieldTy Try.prog 54 3 = 52 := by kernel_rfl
@[simp] theorem bk54_3 : bOk Try.prog 54 3 = true := by kernel_rfl
@[simp] theorem bf54_3 : bOff Try.prog 54 3 = 7 := by kernel_rfl
@[simp] theorem bt54_3 : bTy Try.prog 54 3 = 52 := by kernel_rfl
@[simp] theorem fk54_4 : fieldOk Try.prog 54 4 = true := by kernel_rfl
@[simp] theorem ff54_4 : fieldOff Try.prog 54 4 = 8 := by kernel_rfl
@[simp] theorem ft54_4 : fieldTy Try.prog 54 4 = 32 := by kernel_rfl
@[simp] theorem bk54_4 : bOk Try.prog 54 4 = true := by kernel_rfl
@[simp] theorem bf54_4 : bOff Try.prog 54 4 = 8 := by kernel_rfl
@[simp] theorem bt54_4 : bTy Try.prog 54 4 = 32 := by kernel_rfl
@[simp] theorem fk54_5 : fieldOk Try.prog 54 5 = true := by kernel_rfl
@[simp] theorem ff54_5 : fieldOff Try.prog 54 5 = 9 := by kernel_rfl
@[simp] theorem ft54_5 : fieldTy Try.prog 54 5 = 32 := by kernel_rfl
@[simp] theorem bk54_5 : bOk Try.prog 54 5 = true := by kernel_rfl
@[simp] theorem bf54_5 : bOff Try.prog 54 5 = 9 := by kernel_rfl
@[simp] theorem bt54_5 : bTy Try.prog 54 5 = 32 := by kernel_rfl
@[simp] theorem fk54_6 : fieldOk Try.prog 54 6 = true := by kernel_rfl
@[simp] theorem ff54_6 : fieldOff Try.prog 54 6 = 10 := by kernel_rfl
@[simp] theorem ft54_6 : fieldTy Try.prog 54 6 = 3 := by kernel_rfl
@[simp] theorem bk54_6 : bOk Try.prog 54 6 = true := by kernel_rfl
@[simp] theorem bf54_6 : bOff Try.prog 54 6 = 10 := by kernel_rfl
@[simp] theorem bt54_6 : bTy Try.prog 54 6 = 3 := by kernel_rfl
@[simp] theorem fk54_7 : fieldOk Try.prog 54 7 = true := by kernel_rfl
@[simp] theorem ff54_7 : fieldOff Try.prog 54 7 = 11 := by kernel_rfl
@[simp] theorem ft54_7 : fieldTy Try.prog 54 7 = 32 := by kernel_rfl
@[simp] theorem bk54_7 : bOk Try.prog 54 7 = true := by kernel_rfl
@[simp] theorem bf54_7 : bOff Try.prog 54 7 = 11 := by kernel_rfl
@[simp] theorem bt54_7 : bTy Try.prog 54 7 = 32 := by kernel_rfl
@[simp] theorem ty64 : tyOk Try.prog 64 = true := by kernel_rfl
@[simp] theorem ce64 : Try.prog.cellsOf 64 = 1 := by kernel_rfl
@[simp] theorem ag64 : aggT Try.prog 64 = false := by kernel_rfl
@[simp] theorem by64 : Try.prog.bytesOf 64 = 24 := by kernel_rfl
@[simp] theorem un64 : (Try.prog.underlying 64).isSome = true := by kernel_rfl
@[simp] theorem zr64 : zrow Try.prog 12 64 = some [.nil 1] := by kernel_rfl
@[simp] theorem ze64 : zeroOk Try.prog 64 = true := by kernel_rfl
@[simp] theorem in64 : intT Try.prog 64 = none := by kernel_rfl
@[simp] theorem sl64 : sliceT Try.prog 64 = true := by kernel_rfl
@[simp] theorem el64 : elemT Try.prog 64 = 9 := by kernel_rfl
@[simp] theorem bs64 : byteT Try.prog 64 = false := by kernel_rfl
@[simp] theorem st64 : strT Try.prog 64 = false := by kernel_rfl
@[simp] theorem ty66 : tyOk Try.prog 66 = true := by kernel_rfl
@[simp] theorem ce66 : Try.prog.cellsOf 66 = 3 := by kernel_rfl
@[simp] theorem ag66 : aggT Try.prog 66 = true := by kernel_rfl
@[simp] theorem by66 : Try.prog.bytesOf 66 = 56 := by kernel_rfl
@[simp] theorem un66 : (Try.prog.underlying 66).isSome = true := by kernel_rfl
@[simp] theorem zr66 : zrow Try.prog 12 66 = some [.d (.int .i64 0), .nil 1, .nil 1] := by kernel_rfl
@[simp] theorem ze66 : zeroOk Try.prog 66 = true := by kernel_rfl
@[simp] theorem in66 : intT Try.prog 66 = none := by kernel_rfl
@[simp] theorem fk66_0 : fieldOk Try.prog 66 0 = true := by kernel_rfl
@[simp] theorem ff66_0 : fieldOff Try.prog 66 0 = 0 := by kernel_rfl
@[simp] theorem ft66_0 : fieldTy Try.prog 66 0 = 3 := by kernel_rfl
@[simp] theorem bk66_0 : bOk Try.prog 66 0 = true := by kernel_rfl
@[simp] theorem bf66_0 : bOff Try.prog 66 0 = 0 := by kernel_rfl
@[simp] theorem bt66_0 : bTy Try.prog 66 0 = 3 := by kernel_rfl
@[simp] theorem fk66_1 : fieldOk Try.prog 66 1 = true := by kernel_rfl
@[simp] theorem ff66_1 : fieldOff Try.prog 66 1 = 1 := by kernel_rfl
@[simp] theorem ft66_1 : fieldTy Try.prog 66 1 = 64 := by kernel_rfl
@[simp] theorem bk66_1 : bOk Try.prog 66 1 = true := by kernel_rfl
@[simp] theorem bf66_1 : bOff Try.prog 66 1 = 1 := by kernel_rfl
@[simp] theorem bt66_1 : bTy Try.prog 66 1 = 64 := by kernel_rfl
@[simp] theorem fk66_2 : fieldOk Try.prog 66 2 = true := by kernel_rfl
@[simp] theorem ff66_2 : fieldOff Try.prog 66 2 = 2 := by kernel_rfl
@[simp] theorem ft66_2 : fieldTy Try.prog 66 2 = 32 := by kernel_rfl
@[simp] theorem bk66_2 : bOk Try.prog 66 2 = true := by kernel_rfl
@[simp] theorem bf66_2 : bOff Try.prog 66 2 = 2 := by kernel_rfl
@[simp] theorem bt66_2 : bTy Try.prog 66 2 = 32 := by kernel_rfl
@[simp] theorem ty68 : tyOk Try.prog 68 = true := by kernel_rfl
@[simp] theorem ce68 : Try.prog.cellsOf 68 = 9 := by kernel_rfl
@[simp] theorem ag68 : aggT Try.prog 68 = true := by kernel_rfl
@[simp] theorem by68 : Try.prog.bytesOf 68 = 72 := by kernel_rfl
@[simp] theorem un68 : (Try.prog.underlying 68).isSome = true := by kernel_rfl
@[simp] theorem zr68 : zrow Try.prog 12 68 = some [.d (.int .i64 0), .d (.int .i64 0), .d (.int .i64 0), .d (.int .i64 0), .d (.int .i64 0), .d (.int .i64 0), .d (.int .i64 0), .d (.int .i64 0), .d (.int .i64 0)] := by kernel_rfl
@[simp] theorem ze68 : zeroOk Try.prog 68 = true := by kernel_rfl
@[simp] theorem in68 : intT Try.prog 68 = none := by kernel_rfl
@[simp] theorem eq68 : eqOk Try.prog 68 = true := by kernel_rfl
@[simp] theorem fs68 : fieldTs Try.prog 68 = [3, 3, 3, 3, 3, 3, 3, 3, 3] := by kernel_rfl
@[simp] theorem fk68_0 : fieldOk Try.prog 68 0 = true := by kernel_rfl
@[simp] theorem ff68_0 : fieldOff Try.prog 68 0 = 0 := by kernel_rfl
@[simp] theorem ft68_0 : fieldTy Try.prog 68 0 = 3 := by kernel_rfl
@[simp] theorem bk68_0 : bOk Try.prog 68 0 = true := by kernel_rfl
@[simp] theorem bf68_0 : bOff Try.prog 68 0 = 0 := by kernel_rfl
@[simp] theorem bt68_0 : bTy Try.prog 68 0 = 3 := by kernel_rfl
@[simp] theorem fk68_1 : fieldOk Try.prog 68 1 = true := by kernel_rfl
@[simp] theorem ff68_1 : fieldOff Try.prog 68 1 = 1 := by kernel_rfl
@[simp] theorem ft68_1 : fieldTy Try.prog 68 1 = 3 := by kernel_rfl
@[simp] theorem bk68_1 : bOk Try.prog 68 1 = true := by kernel_rfl
@[simp] theorem bf68_1 : bOff Try.prog 68 1 = 1 := by kernel_rfl
@[simp] theorem bt68_1 : bTy Try.prog 68 1 = 3 := by kernel_rfl
@[simp] theorem fk68_2 : fieldOk Try.prog 68 2 = true := by kernel_rfl
@[simp] theorem ff68_2 : fieldOff Try.prog 68 2 = 2 := by kernel_rfl
@[simp] theorem ft68_2 : fieldTy Try.prog 68 2 = 3 := by kernel_rfl
@[simp] theorem bk68_2 : bOk Try.prog 68 2 = true := by kernel_rfl
@[simp] theorem bf68_2 : bOff Try.prog 68 2 = 2 := by kernel_rfl
@[simp] theorem bt68_2 : bTy Try.prog 68 2 = 3 := by kernel_rfl
@[simp] theorem fk68_3 : fieldOk Try.prog 68 3 = true := by kernel_rfl
@[simp] theorem ff68_3 : fieldOff Try.prog 68 3 = 3 := by kernel_rfl
@[simp] theorem ft68_3 : fieldTy Try.prog 68 3 = 3 := by kernel_rfl
@[simp] theorem bk68_3 : bOk Try.prog 68 3 = true := by kernel_rfl
@[simp] theorem bf68_3 : bOff Try.prog 68 3 = 3 := by kernel_rfl
@[simp] theorem bt68_3 : bTy Try.prog 68 3 = 3 := by kernel_rfl
@[simp] theorem fk68_4 : fieldOk Try.prog 68 4 = true := by kernel_rfl
@[simp] theorem ff68_4 : fieldOff Try.prog 68 4 = 4 := by kernel_rfl
@[simp] theorem ft68_4 : fieldTy Try.prog 68 4 = 3 := by kernel_rfl
@[simp] theorem bk68_4 : bOk Try.prog 68 4 = true := by kernel_rfl
@[simp] theorem bf68_4 : bOff Try.prog 68 4 = 4 := by kernel_rfl
@[simp] theorem bt68_4 : bTy Try.prog 68 4 = 3 := by kernel_rfl
@[simp] theorem fk68_5 : fieldOk Try.prog 68 5 = true := by kernel_rfl
@[simp] theorem ff68_5 : fieldOff Try.prog 68 5 = 5 := by kernel_rfl
@[simp] theorem ft68_5 : fieldTy Try.prog 68 5 = 3 := by kernel_rfl
@[simp] theorem bk68_5 : bOk Try.prog 68 5 = true := by kernel_rfl
@[simp] theorem bf68_5 : bOff Try.prog 68 5 = 5 := by kernel_rfl
@[simp] theorem bt68_5 : bTy Try.prog 68 5 = 3 := by kernel_rfl
@[simp] theorem fk68_6 : fieldOk Try.prog 68 6 = true := by kernel_rfl
@[simp] theorem ff68_6 : fieldOff Try.prog 68 6 = 6 := by kernel_rfl
@[simp] theorem ft68_6 : fieldTy Try.prog 68 6 = 3 := by kernel_rfl
@[simp] theorem bk68_6 : bOk Try.prog 68 6 = true := by kernel_rfl
@[simp] theorem bf68_6 : bOff Try.prog 68 6 = 6 := by kernel_rfl
@[simp] theorem bt68_6 : bTy Try.prog 68 6 = 3 := by kernel_rfl
@[simp] theorem fk68_7 : fieldOk Try.prog 68 7 = true := by kernel_rfl
@[simp] theorem ff68_7 : fieldOff Try.prog 68 7 = 7 := by kernel_rfl
@[simp] theorem ft68_7 : fieldTy Try.prog 68 7 = 3 := by kernel_rfl
@[simp] theorem bk68_7 : bOk Try.prog 68 7 = true := by kernel_rfl
@[simp] theorem bf68_7 : bOff Try.prog 68 7 = 7 := by kernel_rfl
@[simp] theorem bt68_7 : bTy Try.prog 68 7 = 3 := by kernel_rfl
@[simp] theorem fk68_8 : fieldOk Try.prog 68 8 = true := by kernel_rfl
@[simp] theorem ff68_8 : fieldOff Try.prog 68 8 = 8 := by kernel_rfl
@[simp] theorem ft68_8 : fieldTy Try.prog 68 8 = 3 := by kernel_rfl
@[simp] theorem bk68_8 : bOk Try.prog 68 8 = true := by kernel_rfl
@[simp] theorem bf68_8 : bOff Try.prog 68 8 = 8 := by kernel_rfl
@[simp] theorem bt68_8 : bTy Try.prog 68 8 = 3 := by kernel_rfl
@[simp] theorem ty69 : tyOk Try.prog 69 = true := by kernel_rfl
@[simp] theorem ce69 : Try.prog.cellsOf 69 = 1 := by kernel_rfl
@[simp] theorem ag69 : aggT Try.prog 69 = false := by kernel_rfl
@[simp] theorem by69 : Try.prog.bytesOf 69 = 24 := by kernel_rfl
@[simp] theorem un69 : (Try.prog.underlying 69).isSome = true := by kernel_rfl
@[simp] theorem zr69 : zrow Try.prog 12 69 = some [.nil 3] := by kernel_rfl
@[simp] theorem ze69 : zeroOk Try.prog 69 = true := by kernel_rfl
@[simp] theorem in69 : intT Try.prog 69 = none := by kernel_rfl
@[simp] theorem sl69 : sliceT Try.prog 69 = true := by kernel_rfl
@[simp] theorem el69 : elemT Try.prog 69 = 155 := by kernel_rfl
@[simp] theorem bs69 : byteT Try.prog 69 = false := by kernel_rfl
@[simp] theorem st69 : strT Try.prog 69 = false := by kernel_rfl
@[simp] theorem ty70 : tyOk Try.prog 70 = true := by kernel_rfl
@[simp] theorem ce70 : Try.prog.cellsOf 70 = 1 := by kernel_rfl
@[simp] theorem ag70 : aggT Try.prog 70 = false := by kernel_rfl
@[simp] theorem by70 : Try.prog.bytesOf 70 = 24 := by kernel_rfl
@[simp] theorem un70 : (Try.prog.underlying 70).isSome = true := by kernel_rfl
@[simp] theorem zr70 : zrow Try.prog 12 70 = some [.nil 5] := by kernel_rfl
@[simp] theorem ze70 : zeroOk Try.prog 70 = true := by kernel_rfl
@[simp] theorem in70 : intT Try.prog 70 = none := by kernel_rfl
@[simp] theorem sl70 : sliceT Try.prog 70 = true := by kernel_rfl
@[simp] theorem el70 : elemT Try.prog 70 = 126 := by kernel_rfl
@[simp] theorem bs70 : byteT Try.prog 70 = false := by kernel_rfl
@[simp] theorem st70 : strT Try.prog 70 = false := by kernel_rfl
@[simp] theorem ty72 : tyOk Try.prog 72 = true := by kernel_rfl
@[simp] theorem ce72 : Try.prog.cellsOf 72 = 2 := by kernel_rfl
@[simp] theorem ag72 : aggT Try.prog 72 = true := by kernel_rfl
@[simp] theorem by72 : Try.prog.bytesOf 72 = 48 := by kernel_rfl
@[simp] theorem un72 : (Try.prog.underlying 72).isSome = true := by kernel_rfl
@[simp] theorem zr72 : zrow Try.prog 12 72 = some [.nil 3, .nil 5] := by kernel_rfl
@[simp] theorem ze72 : zeroOk Try.prog 72 = true := by kernel_rfl
@[simp] theorem in72 : intT Try.prog 72 = none := by kernel_rfl
@[simp] theorem fk72_0 : fieldOk Try.prog 72 0 = true := by kernel_rfl
@[simp] theorem ff72_0 : fieldOff Try.prog 72 0 = 0 := by kernel_rfl
@[simp] theorem ft72_0 : fieldTy Try.prog 72 0 = 69 := by kernel_rfl
@[simp] theorem bk72_0 : bOk Try.prog 72 0 = true := by kernel_rfl
@[simp] theorem bf72_0 : bOff Try.prog 72 0 = 0 := by kernel_rfl
@[simp] theorem bt72_0 : bTy Try.prog 72 0 = 69 := by kernel_rfl
@[simp] theorem fk72_1 : fieldOk Try.prog 72 1 = true := by kernel_rfl
@[simp] theorem ff72_1 : fieldOff Try.prog 72 1 = 1 := by kernel_rfl
@[simp] theorem ft72_1 : fieldTy Try.prog 72 1 = 70 := by kernel_rfl
@[simp] theorem bk72_1 : bOk Try.prog 72 1 = true := by kernel_rfl
@[simp] theorem bf72_1 : bOff Try.prog 72 1 = 1 := by kernel_rfl
@[simp] theorem bt72_1 : bTy Try.prog 72 1 = 70 := by kernel_rfl
@[simp] theorem ty74 : tyOk Try.prog 74 = true := by kernel_rfl
@[simp] theorem ce74 : Try.prog.cellsOf 74 = 16 := by kernel_rfl
@[simp] theorem ag74 : aggT Try.prog 74 = true := by kernel_rfl
@[simp] theorem by74 : Try.prog.bytesOf 74 = 192 := by kernel_rfl
@[simp] theorem un74 : (Try.prog.underlying 74).isSome = true := by kernel_rfl
@[simp] theorem zr74 : zrow Try.prog 12 74 = some [.d (.int .i64 0), .d (.int .i64 0), .d (.int .i64 0), .nil 1, .nil 1, .d (.int .i64 0), .d (.int .i64 0), .d (.int .i64 0), .d (.int .i64 0), .d (.int .i64 0), .d (.int .i64 0), .d (.int .i64 0), .d (.int .i64 0), .d (.int .i64 0), .nil 3, .nil 5] := by kernel_rfl
@[simp] theorem ze74 : zeroOk Try.prog 74 = true := by kernel_rfl
@[simp] theorem in74 : intT Try.prog 74 = none := by kernel_rfl
@[simp] theorem fk74_0 : fieldOk Try.prog 74 0 = true := by kernel_rfl
@[simp] theorem ff74_0 : fieldOff Try.prog 74 0 = 0 := by kernel_rfl
@[simp] theorem ft74_0 : fieldTy Try.prog 74 0 = 3 := by kernel_rfl
@[simp] theorem bk74_0 : bOk Try.prog 74 0 = true := by kernel_rfl
@[simp] theorem bf74_0 : bOff Try.prog 74 0 = 0 := by kernel_rfl
@[simp] theorem bt74_0 : bTy Try.prog 74 0 = 3 := by kernel_rfl
@[simp] theorem fk74_1 : fieldOk Try.prog 74 1 = true := by kernel_rfl
@[simp] theorem ff74_1 : fieldOff Try.prog 74 1 = 1 := by kernel_rfl
@[simp] theorem ft74_1 : fieldTy Try.prog 74 1 = 3 := by kernel_rfl
@[simp] theorem bk74_1 : bOk Try.prog 74 1 = true := by kernel_rfl
@[simp] theorem bf74_1 : bOff Try.prog 74 1 = 1 := by kernel_rfl
@[simp] theorem bt74_1 : bTy Try.prog 74 1 = 3 := by kernel_rfl
@[simp] theorem fk74_2 : fieldOk Try.prog 74 2 = true := by kernel_rfl
@[simp] theorem ff74_2 : fieldOff Try.prog 74 2 = 2 := by kernel_rfl
@[simp] theorem ft74_2 : fieldTy Try.prog 74 2 = 66 := by kernel_rfl
@[simp] theorem bk74_2 : bOk Try.prog 74 2 = true := by kernel_rfl
@[simp] theorem bf74_2 : bOff Try.prog 74 2 = 2 := by kernel_rfl
@[simp] theorem bt74_2 : bTy Try.prog 74 2 = 66 := by kernel_rfl
@[simp] theorem fk74_3 : fieldOk Try.prog 74 3 = true := by kernel_rfl
@[simp] theorem ff74_3 : fieldOff Try.prog 74 3 = 5 := by kernel_rfl
@[simp] theorem ft74_3 : fieldTy Try.prog 74 3 = 68 := by kernel_rfl
@[simp] theorem bk74_3 : bOk Try.prog 74 3 = true := by kernel_rfl
@[simp] theorem bf74_3 : bOff Try.prog 74 3 = 5 := by kernel_rfl
@[simp] theorem bt74_3 : bTy Try.prog 74 3 = 68 := by kernel_rfl
@[simp] theorem fk74_4 : fieldOk Try.prog 74 4 = true := by kernel_rfl
@[simp] theorem ff74_4 : fieldOff Try.prog 74 4 = 14 := by kernel_rfl
@[simp] theorem ft74_4 : fieldTy Try.prog 74 4 = 72 := by kernel_rfl
@[simp] theorem bk74_4 : bOk Try.prog 74 4 = true := by kernel_rfl
@[simp] theorem bf74_4 : bOff Try.prog 74 4 = 14 := by kernel_rfl
@[simp] theorem bt74_4 : bTy Try.prog 74 4 = 72 := by kernel_rfl
@[simp] theorem ty93 : tyOk Try.prog 93 = true := by kernel_rfl
@[simp] theorem ce93 : Try.prog.cellsOf 93 = 3 := by kernel_rfl
@[simp] theorem ag93 : aggT Try.prog 93 = true := by kernel_rfl
@[simp] theorem by93 : Try.prog.bytesOf 93 = 24 := by kernel_rfl
@[simp] theorem un93 : (Try.prog.underlying 93).isSome = true := by kernel_rfl
@[simp] theorem zr93 : zrow Try.prog 12 93 = some [.d (.int .i64 0), .d (.int .i64 0), .d (.int .i64 0)] := by kernel_rfl
@[simp] theorem ze93 : zeroOk Try.prog 93 = true := by kernel_rfl
@[simp] theorem in93 : intT Try.prog 93 = none := by kernel_rfl
@[simp] theorem eq93 : eqOk Try.prog 93 = true := by kernel_rfl
@[simp] theorem fs93 : fieldTs Try.prog 93 = [3, 3, 3] := by kernel_rfl
@[simp] theorem fk93_0 : fieldOk Try.prog 93 0 = true := by kernel_rfl
@[simp] theorem ff93_0 : fieldOff Try.prog 93 0 = 0 := by kernel_rfl
@[simp] theorem ft93_0 : fieldTy Try.prog 93 0 = 3 := by kernel_rfl
@[simp] theorem bk93_0 : bOk Try.prog 93 0 = true := by kernel_rfl
@[simp] theorem bf93_0 : bOff Try.prog 93 0 = 0 := by kernel_rfl
@[simp] theorem bt93_0 : bTy Try.prog 93 0 = 3 := by kernel_rfl
@[simp] theorem fk93_1 : fieldOk Try.prog 93 1 = true := by kernel_rfl
@[simp] theorem ff93_1 : fieldOff Try.prog 93 1 = 1 := by kernel_rfl
@[simp] theorem ft93_1 : fieldTy Try.prog 93 1 = 3 := by kernel_rfl
@[simp] theorem bk93_1 : bOk Try.prog 93 1 = true := by kernel_rfl
@[simp] theorem bf93_1 : bOff Try.prog 93 1 = 1 := by kernel_rfl
@[simp] theorem bt93_1 : bTy Try.prog 93 1 = 3 := by kernel_rfl
@[simp] theorem fk93_2 : fieldOk Try.prog 93 2 = true := by kernel_rfl
@[simp] theorem ff93_2 : fieldOff Try.prog 93 2 = 2 := by kernel_rfl
@[simp] theorem ft93_2 : fieldTy Try.prog 93 2 = 3 := by kernel_rfl
@[simp] theorem bk93_2 : bOk Try.prog 93 2 = true := by kernel_rfl
@[simp] theorem bf93_2 : bOff Try.prog 93 2 = 2 := by kernel_rfl
@[simp] theorem bt93_2 : bTy Try.prog 93 2 = 3 := by kernel_rfl
@[simp] theorem ty95 : tyOk Try.prog 95 = true := by kernel_rfl
@[simp] theorem ce95 : Try.prog.cellsOf 95 = 7 := by kernel_rfl
@[simp] theorem ag95 : aggT Try.prog 95 = true := by kernel_rfl
@[simp] theorem by95 : Try.prog.bytesOf 95 = 56 := by kernel_rfl
@[simp] theorem un95 : (Try.prog.underlying 95).isSome = true := by kernel_rfl
@[simp] theorem zr95 : zrow Try.prog 12 95 = some [.d (.int .i64 0), .d (.int .i64 0), .d (.int .i64 0), .d (.int .i64 0), .d (.int .i64 0), .d (.int .i64 0), .d (.int .i64 0)] := by kernel_rfl
@[simp] theorem ze95 : zeroOk Try.prog 95 = true := by kernel_rfl
@[simp] theorem in95 : intT Try.prog 95 = none := by kernel_rfl
@[simp] theorem eq95 : eqOk Try.prog 95 = true := by kernel_rfl
@[simp] theorem fs95 : fieldTs Try.prog 95 = [3, 3, 3, 3, 3, 3, 3] := by kernel_rfl
@[simp] theorem fk95_0 : fieldOk Try.prog 95 0 = true := by kernel_rfl
@[simp] theorem ff95_0 : fieldOff Try.prog 95 0 = 0 := by kernel_rfl
@[simp] theorem ft95_0 : fieldTy Try.prog 95 0 = 3 := by kernel_rfl
@[simp] theorem bk95_0 : bOk Try.prog 95 0 = true := by kernel_rfl
@[simp] theorem bf95_0 : bOff Try.prog 95 0 = 0 := by kernel_rfl
@[simp] theorem bt95_0 : bTy Try.prog 95 0 = 3 := by kernel_rfl
@[simp] theorem fk95_1 : fieldOk Try.prog 95 1 = true := by kernel_rfl
@[simp] theorem ff95_1 : fieldOff Try.prog 95 1 = 1 := by kernel_rfl
@[simp] theorem ft95_1 : fieldTy Try.prog 95 1 = 3 := by kernel_rfl
@[simp] theorem bk95_1 : bOk Try.prog 95 1 = true := by kernel_rfl
@[simp] theorem bf95_1 : bOff Try.prog 95 1 = 1 := by kernel_rfl
@[simp] theorem bt95_1 : bTy Try.prog 95 1 = 3 := by kernel_rfl
@[simp] theorem fk95_2 : fieldOk Try.prog 95 2 = true := by kernel_rfl
@[simp] theorem ff95_2 : fieldOff Try.prog 95 2 = 2 := by kernel_rfl
@[simp] theorem ft95_2 : fieldTy Try.prog 95 2 = 3 := by kernel_rfl
@[simp] theorem bk95_2 : bOk Try.prog 95 2 = true := by kernel_rfl
@[simp] theorem bf95_2 : bOff Try.prog 95 2 = 2 := by kernel_rfl
@[simp] theorem bt95_2 : bTy Try.prog 95 2 = 3 := by kernel_rfl
@[simp] theorem fk95_3 : fieldOk Try.prog 95 3 = true := by kernel_rfl
@[simp] theorem ff95_3 : fieldOff Try.prog 95 3 = 3 := by kernel_rfl
@[simp] theorem ft95_3 : fieldTy Try.prog 95 3 = 3 := by kernel_rfl
@[simp] theorem bk95_3 : bOk Try.prog 95 3 = true := by kernel_rfl
@[simp] theorem bf95_3 : bOff Try.prog 95 3 = 3 := by kernel_rfl
@[simp] theorem bt95_3 : bTy Try.prog 95 3 = 3 := by kernel_rfl
@[simp] theorem fk95_4 : fieldOk Try.prog 95 4 = true := by kernel_rfl
@[simp] theorem ff95_4 : fieldOff Try.prog 95 4 = 4 := by kernel_rfl
@[simp] theorem ft95_4 : fieldTy Try.prog 95 4 = 3 := by kernel_rfl
@[simp] theorem bk95_4 : bOk Try.prog 95 4 = true := by kernel_rfl
@[simp] theorem bf95_4 : bOff Try.prog 95 4 = 4 := by kernel_rfl
@[simp] theorem bt95_4 : bTy Try.prog 95 4 = 3 := by kernel_rfl
@[simp] theorem fk95_5 : fieldOk Try.prog 95 5 = true := by kernel_rfl
@[simp] theorem ff95_5 : fieldOff Try.prog 95 5 = 5 := by kernel_rfl
@[simp] theorem ft95_5 : fieldTy Try.prog 95 5 = 3 := by kernel_rfl
@[simp] theorem bk95_5 : bOk Try.prog 95 5 = true := by kernel_rfl
@[simp] theorem bf95_5 : bOff Try.prog 95 5 = 5 := by kernel_rfl
@[simp] theorem bt95_5 : bTy Try.prog 95 5 = 3 := by kernel_rfl
@[simp] theorem fk95_6 : fieldOk Try.prog 95 6 = true := by kernel_rfl
@[simp] theorem ff95_6 : fieldOff Try.prog 95 6 = 6 := by kernel_rfl
@[simp] theorem ft95_6 : fieldTy Try.prog 95 6 = 3 := by kernel_rfl
@[simp] theorem bk95_6 : bOk Try.prog 95 6 = true := by kernel_rfl
@[simp] theorem bf95_6 : bOff Try.prog 95 6 = 6 := by kernel_rfl
@[simp] theorem bt95_6 : bTy Try.prog 95 6 = 3 := by kernel_rfl
@[simp] theorem ty103 : tyOk Try.prog 103 = true := by kernel_rfl
@[simp] theorem ce103 : Try.prog.cellsOf 103 = 3 := by kernel_rfl
@[simp] theorem ag103 : aggT Try.prog 103 = true := by kernel_rfl
@[simp] theorem by103 : Try.prog.bytesOf 103 = 56 := by kernel_rfl
@[simp] theorem un103 : (Try.prog.underlying 103).isSome = true := by kernel_rfl
@[simp] theorem zr103 : zrow Try.prog 12 103 = some [.d (.int .i64 0), .nil 1, .nil 1] := by kernel_rfl
@[simp] theorem ze103 : zeroOk Try.prog 103 = true := by kernel_rfl
@[simp] theorem in103 : intT Try.prog 103 = none := by kernel_rfl
@[simp] theorem fk103_0 : fieldOk Try.prog 103 0 = true := by kernel_rfl
@[simp] theorem ff103_0 : fieldOff Try.prog 103 0 = 0 := by kernel_rfl
@[simp] theorem ft103_0 : fieldTy Try.prog 103 0 = 3 := by kernel_rfl
@[simp] theorem bk103_0 : bOk Try.prog 103 0 = true := by kernel_rfl
@[simp] theorem bf103_0 : bOff Try.prog 103 0 = 0 := by kernel_rfl
@[simp] theorem bt103_0 : bTy Try.prog 103 0 = 3 := by kernel_rfl
@[simp] theorem fk103_1 : fieldOk Try.prog 103 1 = true := by kernel_rfl
@[simp] theorem ff103_1 : fieldOff Try.prog 103 1 = 1 := by kernel_rfl
@[simp] theorem ft103_1 : fieldTy Try.prog 103 1 = 64 := by kernel_rfl
@[simp] theorem bk103_1 : bOk Try.prog 103 1 = true := by kernel_rfl
@[simp] theorem bf103_1 : bOff Try.prog 103 1 = 1 := by kernel_rfl
@[simp] theorem bt103_1 : bTy Try.prog 103 1 = 64 := by kernel_rfl
@[simp] theorem fk103_2 : fieldOk Try.prog 103 2 = true := by kernel_rfl
@[simp] theorem ff103_2 : fieldOff Try.prog 103 2 = 2 := by kernel_rfl
@[simp] theorem ft103_2 : fieldTy Try.prog 103 2 = 32 := by kernel_rfl
@[simp] theorem bk103_2 : bOk Try.prog 103 2 = true := by kernel_rfl
@[simp] theorem bf103_2 : bOff Try.prog 103 2 = 2 := by kernel_rfl
@[simp] theorem bt103_2 : bTy Try.prog 103 2 = 32 := by kernel_rfl
@[simp] theorem ty104 : tyOk Try.prog 104 = true := by kernel_rfl
@[simp] theorem ce104 : Try.prog.cellsOf 104 = 9 := by kernel_rfl
@[simp] theorem ag104 : aggT Try.prog 104 = true := by kernel_rfl
@[simp] theorem by104 : Try.prog.bytesOf 104 = 72 := by kernel_rfl
@[simp] theorem un104 : (Try.prog.underlying 104).isSome = true := by kernel_rfl
@[simp] theorem zr104 : zrow Try.prog 12 104 = some [.d (.int .i64 0), .d (.int .i64 0), .d (.int .i64 0), .d (.int .i64 0), .d (.int .i64 0), .d (.int .i64 0), .d (.int .i64 0), .d (.int .i64 0), .d (.int .i64 0)] := by kernel_rfl
@[simp] theorem ze104 : zeroOk Try.prog 104 = true := by kernel_rfl
@[simp] theorem in104 : intT Try.prog 104 = none := by kernel_rfl
@[simp] theorem eq104 : eqOk Try.prog 104 = true := by kernel_rfl
@[simp] theorem fs104 : fieldTs Try.prog 104 = [3, 3, 3, 3, 3, 3, 3, 3, 3] := by kernel_rfl
@[simp] theorem fk104_0 : fieldOk Try.prog 104 0 = true := by kernel_rfl
@[simp] theorem ff104_0 : fieldOff Try.prog 104 0 = 0 := by kernel_rfl
@[simp] theorem ft104_0 : fieldTy Try.prog 104 0 = 3 := by kernel_rfl
@[simp] theorem bk104_0 : bOk Try.prog 104 0 = true := by kernel_rfl
@[simp] theorem bf104_0 : bOff Try.prog 104 0 = 0 := by kernel_rfl
@[simp] theorem bt104_0 : bTy Try.prog 104 0 = 3 := by kernel_rfl
@[simp] theorem fk104_1 : fieldOk Try.prog 104 1 = true := by kernel_rfl
@[simp] theorem ff104_1 : fieldOff Try.prog 104 1 = 1 := by kernel_rfl
@[simp] theorem ft104_1 : fieldTy Try.prog 104 1 = 3 := by kernel_rfl
@[simp] theorem bk104_1 : bOk Try.prog 104 1 = true := by kernel_rfl
@[simp] theorem bf104_1 : bOff Try.prog 104 1 = 1 := by kernel_rfl
@[simp] theorem bt104_1 : bTy Try.prog 104 1 = 3 := by kernel_rfl
@[simp] theorem fk104_2 : fieldOk Try.prog 104 2 = true := by kernel_rfl
@[simp] theorem ff104_2 : fieldOff Try.prog 104 2 = 2 := by kernel_rfl
@[simp] theorem ft104_2 : fieldTy Try.prog 104 2 = 3 := by kernel_rfl
@[simp] theorem bk104_2 : bOk Try.prog 104 2 = true := by kernel_rfl
@[simp] theorem bf104_2 : bOff Try.prog 104 2 = 2 := by kernel_rfl
@[simp] theorem bt104_2 : bTy Try.prog 104 2 = 3 := by kernel_rfl
@[simp] theorem fk104_3 : fieldOk Try.prog 104 3 = true := by kernel_rfl
@[simp] theorem ff104_3 : fieldOff Try.prog 104 3 = 3 := by kernel_rfl
@[simp] theorem ft104_3 : fieldTy Try.prog 104 3 = 3 := by kernel_rfl
@[simp] theorem bk104_3 : bOk Try.prog 104 3 = true := by kernel_rfl
@[simp] theorem bf104_3 : bOff Try.prog 104 3 = 3 := by kernel_rfl
@[simp] theorem bt104_3 : bTy Try.prog 104 3 = 3 := by kernel_rfl
@[simp] theorem fk104_4 : fieldOk Try.prog 104 4 = true := by kernel_rfl
@[simp] theorem ff104_4 : fieldOff Try.prog 104 4 = 4 := by kernel_rfl
@[simp] theorem ft104_4 : fieldTy Try.prog 104 4 = 3 := by kernel_rfl
@[simp] theorem bk104_4 : bOk Try.prog 104 4 = true := by kernel_rfl
@[simp] theorem bf104_4 : bOff Try.prog 104 4 = 4 := by kernel_rfl
@[simp] theorem bt104_4 : bTy Try.prog 104 4 = 3 := by kernel_rfl
@[simp] theorem fk104_5 : fieldOk Try.prog 104 5 = true := by kernel_rfl
@[simp] theorem ff104_5 : fieldOff Try.prog 104 5 = 5 := by kernel_rfl
@[simp] theorem ft104_5 : fieldTy Try.prog 104 5 = 3 := by kernel_rfl
@[simp] theorem bk104_5 : bOk Try.prog 104 5 = true := by kernel_rfl
@[simp] theorem bf104_5 : bOff Try.prog 104 5 = 5 := by kernel_rfl
@[simp] theorem bt104_5 : bTy Try.prog 104 5 = 3 := by kernel_rfl
@[simp] theorem fk104_6 : fieldOk Try.prog 104 6 = true := by kernel_rfl
@[simp] theorem ff104_6 : fieldOff Try.prog 104 6 = 6 := by kernel_rfl
@[simp] theorem ft104_6 : fieldTy Try.prog 104 6 = 3 := by kernel_rfl
@[simp] theorem bk104_6 : bOk Try.prog 104 6 = true := by kernel_rfl
@[simp] theorem bf104_6 : bOff Try.prog 104 6 = 6 := by kernel_rfl
@[simp] theorem bt104_6 : bTy Try.prog 104 6 = 3 := by kernel_rfl
@[simp] theorem fk104_7 : fieldOk Try.prog 104 7 = true := by kernel_rfl
@[simp] theorem ff104_7 : fieldOff Try.prog 104 7 = 7 := by kernel_rfl
@[simp] theorem ft104_7 : fieldTy Try.prog 104 7 = 3 := by kernel_rfl
@[simp] theorem bk104_7 : bOk Try.prog 104 7 = true := by kernel_rfl
@[simp] theorem bf104_7 : bOff Try.prog 104 7 = 7 := by kernel_rfl
@[simp] theorem bt104_7 : bTy Try.prog 104 7 = 3 := by kernel_rfl
@[simp] theorem fk104_8 : fieldOk Try.prog 104 8 = true := by kernel_rfl
@[simp] theorem ff104_8 : fieldOff Try.prog 104 8 = 8 := by kernel_rfl
@[simp] theorem ft104_8 : fieldTy Try.prog 104 8 = 3 := by kernel_rfl
@[simp] theorem bk104_8 : bOk Try.prog 104 8 = true := by kernel_rfl
@[simp] theorem bf104_8 : bOff Try.prog 104 8 = 8 := by kernel_rfl
@[simp] theorem bt104_8 : bTy Try.prog 104 8 = 3 := by kernel_rfl
@[simp] theorem ty105 : tyOk Try.prog 105 = true := by kernel_rfl
@[simp] theorem ce105 : Try.prog.cellsOf 105 = 1 := by kernel_rfl
@[simp] theorem ag105 : aggT Try.prog 105 = false := by kernel_rfl
@[simp] theorem by105 : Try.prog.bytesOf 105 = 24 := by kernel_rfl
@[simp] theorem un105 : (Try.prog.underlying 105).isSome = true := by kernel_rfl
@[simp] theorem zr105 : zrow Try.prog 12 105 = some [.nil 3] := by kernel_rfl
@[simp] theorem ze105 : zeroOk Try.prog 105 = true := by kernel_rfl
@[simp] theorem in105 : intT Try.prog 105 = none := by kernel_rfl
@[simp] theorem sl105 : sliceT Try.prog 105 = true := by kernel_rfl
@[simp] theorem el105 : elemT Try.prog 105 = 178 := by kernel_rfl
@[simp] theorem bs105 : byteT Try.prog 105 = false := by kernel_rfl
@[simp] theorem st105 : strT Try.prog 105 = false := by kernel_rfl
@[simp] theorem ty106 : tyOk Try.prog 106 = true := by kernel_rfl
@[simp] theorem ce106 : Try.prog.cellsOf 106 = 1 := by kernel_rfl
@[simp] theorem ag106 : aggT Try.prog 106 = false := by kernel_rfl
@[simp] theorem by106 : Try.prog.bytesOf 106 = 24 := by kernel_rfl
@[simp] theorem un106 : (Try.prog.underlying 106).isSome = true := by kernel_rfl
@[simp] theorem zr106 : zrow Try.prog 12 106 = some [.nil 5] := by kernel_rfl
@[simp] theorem ze106 : zeroOk Try.prog 106 = true := by kernel_rfl
@[simp] theorem in106 : intT Try.prog 106 = none := by kernel_rfl
@[simp] theorem sl106 : sliceT Try.prog 106 = true := by kernel_rfl
@[simp] theorem el106 : elemT Try.prog 106 = 183 := by kernel_rfl
@[simp] theorem bs106 : byteT Try.prog 106 = false := by kernel_rfl
@[simp] theorem st106 : strT Try.prog 106 = false := by kernel_rfl
@[simp] theorem ty108 : tyOk Try.prog 108 = true := by kernel_rfl
@[simp] theorem ce108 : Try.prog.cellsOf 108 = 2 := by kernel_rfl
@[simp] theorem ag108 : aggT Try.prog 108 = true := by kernel_rfl
@[simp] theorem by108 : Try.prog.bytesOf 108 = 48 := by kernel_rfl
@[simp] theorem un108 : (Try.prog.underlying 108).isSome = true := by kernel_rfl
@[simp] theorem zr108 : zrow Try.prog 12 108 = some [.nil 3, .nil 5] := by kernel_rfl
@[simp] theorem ze108 : zeroOk Try.prog 108 = true := by kernel_rfl
@[simp] theorem in108 : intT Try.prog 108 = none := by kernel_rfl
@[simp] theorem fk108_0 : fieldOk Try.prog 108 0 = true := by kernel_rfl
@[simp] theorem ff108_0 : fieldOff Try.prog 108 0 = 0 := by kernel_rfl
@[simp] theorem ft108_0 : fieldTy Try.prog 108 0 = 105 := by kernel_rfl
@[simp] theorem bk108_0 : bOk Try.prog 108 0 = true := by kernel_rfl
@[simp] theorem bf108_0 : bOff Try.prog 108 0 = 0 := by kernel_rfl
@[simp] theorem bt108_0 : bTy Try.prog 108 0 = 105 := by kernel_rfl
@[simp] theorem fk108_1 : fieldOk Try.prog 108 1 = true := by kernel_rfl
@[simp] theorem ff108_1 : fieldOff Try.prog 108 1 = 1 := by kernel_rfl
@[simp] theorem ft108_1 : fieldTy Try.prog 108 1 = 106 := by kernel_rfl
@[simp] theorem bk108_1 : bOk Try.prog 108 1 = true := by kernel_rfl
@[simp] theorem bf108_1 : bOff Try.prog 108 1 = 1 := by kernel_rfl
@[simp] theorem bt108_1 : bTy Try.prog 108 1 = 106 := by kernel_rfl
@[simp] theorem ty109 : tyOk Try.prog 109 = true := by kernel_rfl
@[simp] theorem ce109 : Try.prog.cellsOf 109 = 16 := by kernel_rfl
@[simp] theorem ag109 : aggT Try.prog 109 = true := by kernel_rfl
@[simp] theorem by109 : Try.prog.bytesOf 109 = 192 := by kernel_rfl
@[simp] theorem un109 : (Try.prog.underlying 109).isSome = true := by kernel_rfl
@[simp] theorem zr109 : zrow Try.prog 12 109 = some [.d (.int .i64 0), .d (.int .i64 0), .d (.int .i64 0), .nil 1, .nil 1, .d (.int .i64 0), .d (.int .i64 0), .d (.int .i64 0), .d (.int .i64 0), .d (.int .i64 0), .d (.int .i64 0), .d (.int .i64 0), .d (.int .i64 0), .d (.int .i64 0), .nil 3, .nil 5] := by kernel_rfl
@[simp] theorem ze109 : zeroOk Try.prog 109 = true := by kernel_rfl
@[simp] theorem in109 : intT Try.prog 109 = none := by kernel_rfl
@[simp] theorem fk109_0 : fieldOk Try.prog 109 0 = true := by kernel_rfl
@[simp] theorem ff109_0 : fieldOff Try.prog 109 0 = 0 := by kernel_rfl
@[simp] theorem ft109_0 : fieldTy Try.prog 109 0 = 3 := by kernel_rfl
@[simp] theorem bk109_0 : bOk Try.prog 109 0 = true := by kernel_rfl
@[simp] theorem bf109_0 : bOff Try.prog 109 0 = 0 := by kernel_rfl
@[simp] theorem bt109_0 : bTy Try.prog 109 0 = 3 := by kernel_rfl
@[simp] theorem fk109_1 : fieldOk Try.prog 109 1 = true := by kernel_rfl
@[simp] theorem ff109_1 : fieldOff Try.prog 109 1 = 1 := by kernel_rfl
@[simp] theorem ft109_1 : fieldTy Try.prog 109 1 = 3 := by kernel_rfl
@[simp] theorem bk109_1 : bOk Try.prog 109 1 = true := by kernel_rfl
@[simp] theorem bf109_1 : bOff Try.prog 109 1 = 1 := by kernel_rfl
@[simp] theorem bt109_1 : bTy Try.prog 109 1 = 3 := by kernel_rfl
@[simp] theorem fk109_2 : fieldOk Try.prog 109 2 = true := by kernel_rfl
@[simp] theorem ff109_2 : fieldOff Try.prog 109 2 = 2 := by kernel_rfl
@[simp] theorem ft109_2 : fieldTy Try.prog 109 2 = 103 := by kernel_rfl
@[simp] theorem bk109_2 : bOk Try.prog 109 2 = true := by kernel_rfl
@[simp] theorem bf109_2 : bOff Try.prog 109 2 = 2 := by kernel_rfl
@[simp] theorem bt109_2 : bTy Try.prog 109 2 = 103 := by kernel_rfl
@[simp] theorem fk109_3 : fieldOk Try.prog 109 3 = true := by kernel_rfl
@[simp] theorem ff109_3 : fieldOff Try.prog 109 3 = 5 := by kernel_rfl
@[simp] theorem ft109_3 : fieldTy Try.prog 109 3 = 104 := by kernel_rfl
@[simp] theorem bk109_3 : bOk Try.prog 109 3 = true := by kernel_rfl
@[simp] theorem bf109_3 : bOff Try.prog 109 3 = 5 := by kernel_rfl
@[simp] theorem bt109_3 : bTy Try.prog 109 3 = 104 := by kernel_rfl
@[simp] theorem fk109_4 : fieldOk Try.prog 109 4 = true := by kernel_rfl
@[simp] theorem ff109_4 : fieldOff Try.prog 109 4 = 14 := by kernel_rfl
@[simp] theorem ft109_4 : fieldTy Try.prog 109 4 = 108 := by kernel_rfl
@[simp] theorem bk109_4 : bOk Try.prog 109 4 = true := by kernel_rfl
@[simp] theorem bf109_4 : bOff Try.prog 109 4 = 14 := by kernel_rfl
@[simp] theorem bt109_4 : bTy Try.prog 109 4 = 108 := by kernel_rfl
@[simp] theorem ty110 : tyOk Try.prog 110 = true := by kernel_rfl
@[simp] theorem ce110 : Try.prog.cellsOf 110 = 16 := by kernel_rfl
@[simp] theorem ag110 : aggT Try.prog 110 = true := by kernel_rfl
@[simp] theorem by110 : Try.prog.bytesOf 110 = 192 := by kernel_rfl
@[simp] theorem un110 : (Try.prog.underlying 110).isSome = true := by kernel_rfl
@[simp] theorem zr110 : zrow Try.prog 12 110 = some [.d (.int .i64 0), .d (.int .i64 0), .d (.int .i64 0), .nil 1, .nil 1, .d (.int .i64 0), .d (.int .i64 0), .d (.int .i64 0), .d (.int .i64 0), .d (.int .i64 0), .d (.int .i64 0), .d (.int .i64 0), .d (.int .i64 0), .d (.int .i64 0), .nil 3, .nil 5] := by kernel_rfl
@[simp] theorem ze110 : zeroOk Try.prog 110 = true := by kernel_rfl
@[simp] theorem in110 : intT Try.prog 110 = none := by kernel_rfl
@[simp] theorem fk110_0 : fieldOk Try.prog 110 0 = true := by kernel_rfl
@[simp] theorem ff110_0 : fieldOff Try.prog 110 0 = 0 := by kernel_rfl
@[simp] theorem ft110_0 : fieldTy Try.prog 110 0 = 3 := by kernel_rfl
@[simp] theorem bk110_0 : bOk Try.prog 110 0 = true := by kernel_rfl
@[simp] theorem bf110_0 : bOff Try.prog 110 0 = 0 := by kernel_rfl
@[simp] theorem bt110_0 : bTy Try.prog 110 0 = 3 := by kernel_rfl
@[simp] theorem fk110_1 : fieldOk Try.prog 110 1 = true := by kernel_rfl
@[simp] theorem ff110_1 : fieldOff Try.prog 110 1 = 1 := by kernel_rfl
@[simp] theorem ft110_1 : fieldTy Try.prog 110 1 = 3 := by kernel_rfl
@[simp] theorem bk110_1 : bOk Try.prog 110 1 = true := by kernel_rfl
@[simp] theorem bf110_1 : bOff Try.prog 110 1 = 1 := by kernel_rfl
@[simp] theorem bt110_1 : bTy Try.prog 110 1 = 3 := by kernel_rfl
@[simp] theorem fk110_2 : fieldOk Try.prog 110 2 = true := by kernel_rfl
@[simp] theorem ff110_2 : fieldOff Try.prog 110 2 = 2 := by kernel_rfl
@[simp] theorem ft110_2 : fieldTy Try.prog 110 2 = 103 := by kernel_rfl
@[simp] theorem bk110_2 : bOk Try.prog 110 2 = true := by kernel_rfl
@[simp] theorem bf110_2 : bOff Try.prog 110 2 = 2 := by kernel_rfl
@[simp] theorem bt110_2 : bTy Try.prog 110 2 = 103 := by kernel_rfl
@[simp] theorem fk110_3 : fieldOk Try.prog 110 3 = true := by kernel_rfl
@[simp] theorem ff110_3 : fieldOff Try.prog 110 3 = 5 := by kernel_rfl
@[simp] theorem ft110_3 : fieldTy Try.prog 110 3 = 104 := by kernel_rfl
@[simp] theorem bk110_3 : bOk Try.prog 110 3 = true := by kernel_rfl
@[simp] theorem bf110_3 : bOff Try.prog 110 3 = 5 := by kernel_rfl
@[simp] theorem bt110_3 : bTy Try.prog 110 3 = 104 := by kernel_rfl
@[simp] theorem fk110_4 : fieldOk Try.prog 110 4 = true := by kernel_rfl
@[simp] theorem ff110_4 : fieldOff Try.prog 110 4 = 14 := by kernel_rfl
@[simp] theorem ft110_4 : fieldTy Try.prog 110 4 = 108 := by kernel_rfl
@[simp] theorem bk110_4 : bOk Try.prog 110 4 = true := by kernel_rfl
@[simp] theorem bf110_4 : bOff Try.prog 110 4 = 14 := by kernel_rfl
@[simp] theorem bt110_4 : bTy Try.prog 110 4 = 108 := by kernel_rfl
@[simp] theorem ty113 : tyOk Try.prog 113 = true := by kernel_rfl
@[simp] theorem ce113 : Try.prog.cellsOf 113 = 5 := by kernel_rfl
@[simp] theorem ag113 : aggT Try.prog 113 = true := by kernel_rfl
@[simp] theorem by113 : Try.prog.bytesOf 113 = 40 := by kernel_rfl
@[simp] theorem un113 : (Try.prog.underlying 113).isSome = true := by kernel_rfl
@[simp] theorem zr113 : zrow Try.prog 12 113 = some [.d (.int .i64 0), .d (.int .i64 0), .d (.int .i64 0), .d (.int .i64 0), .d (.int .i64 0)] := by kernel_rfl
@[simp] theorem ze113 : zeroOk Try.prog 113 = true := by kernel_rfl
@[simp] theorem in113 : intT Try.prog 113 = none := by kernel_rfl
@[simp] theorem eq113 : eqOk Try.prog 113 = true := by kernel_rfl
@[simp] theorem fs113 : fieldTs Try.prog 113 = [3, 3, 3, 3, 3] := by kernel_rfl
@[simp] theorem fk113_0 : fieldOk Try.prog 113 0 = true := by kernel_rfl
@[simp] theorem ff113_0 : fieldOff Try.prog 113 0 = 0 := by kernel_rfl
@[simp] theorem ft113_0 : fieldTy Try.prog 113 0 = 3 := by kernel_rfl
@[simp] theorem bk113_0 : bOk Try.prog 113 0 = true := by kernel_rfl
@[simp] theorem bf113_0 : bOff Try.prog 113 0 = 0 := by kernel_rfl
@[simp] theorem bt113_0 : bTy Try.prog 113 0 = 3 := by kernel_rfl
@[simp] theorem fk113_1 : fieldOk Try.prog 113 1 = true := by kernel_rfl
@[simp] theorem ff113_1 : fieldOff Try.prog 113 1 = 1 := by kernel_rfl
@[simp] theorem ft113_1 : fieldTy Try.prog 113 1 = 3 := by kernel_rfl
@[simp] theorem bk113_1 : bOk Try.prog 113 1 = true := by kernel_rfl
@[simp] theorem bf113_1 : bOff Try.prog 113 1 = 1 := by kernel_rfl
@[simp] theorem bt113_1 : bTy Try.prog 113 1 = 3 := by kernel_rfl
@[simp] theorem fk113_2 : fieldOk Try.prog 113 2 = true := by kernel_rfl
@[simp] theorem ff113_2 : fieldOff Try.prog 113 2 = 2 := by kernel_rfl
@[simp] theorem ft113_2 : fieldTy Try.prog 113 2 = 3 := by kernel_rfl
@[simp] theorem bk113_2 : bOk Try.prog 113 2 = true := by kernel_rfl
@[simp] theorem bf113_2 : bOff Try.prog 113 2 = 2 := by kernel_rfl
@[simp] theorem bt113_2 : bTy Try.prog 113 2 = 3 := by kernel_rfl
@[simp] theorem fk113_3 : fieldOk Try.prog 113 3 = true := by kernel_rfl
@[simp] theorem ff113_3 : fieldOff Try.prog 113 3 = 3 := by kernel_rfl
@[simp] theorem ft113_3 : fieldTy Try.prog 113 3 = 3 := by kernel_rfl
@[simp] theorem bk113_3 : bOk Try.prog 113 3 = true := by kernel_rfl
@[simp] theorem bf113_3 : bOff Try.prog 113 3 = 3 := by kernel_rfl
@[simp] theorem bt113_3 : bTy Try.prog 113 3 = 3 := by kernel_rfl
@[simp] theorem fk113_4 : fieldOk Try.prog 113 4 = true := by kernel_rfl
@[simp] theorem ff113_4 : fieldOff Try.prog 113 4 = 4 := by kernel_rfl
@[simp] theorem ft113_4 : fieldTy Try.prog 113 4 = 3 := by kernel_rfl
@[simp] theorem bk113_4 : bOk Try.prog 113 4 = true := by kernel_rfl
@[simp] theorem bf113_4 : bOff Try.prog 113 4 = 4 := by kernel_rfl
@[simp] theorem bt113_4 : bTy Try.prog 113 4 = 3 := by kernel_rfl
@[simp] theorem ty115 : tyOk Try.prog 115 = true := by kernel_rfl
@[simp] theorem ce115 : Try.prog.cellsOf 115 = 5 := by kernel_rfl
@[simp] theorem ag115 : aggT Try.prog 115 = true := by kernel_rfl
@[simp] theorem by115 : Try.prog.bytesOf 115 = 40 := by kernel_rfl
@[simp] theorem un115 : (Try.prog.underlying 115).isSome = true := by kernel_rfl
@[simp] theorem zr115 : zrow Try.prog 12 115 = some [.d (.int .i64 0), .d (.int .i64 0), .d (.int .i64 0), .d (.int .i64 0), .d (.int .i64 0)] := by kernel_rfl
@[simp] theorem ze115 : zeroOk Try.prog 115 = true := by kernel_rfl
@[simp] theorem in115 : intT Try.prog 115 = none := by kernel_rfl
@[simp] theorem eq115 : eqOk Try.prog 115 = true := by kernel_rfl
@[simp] theorem fs115 : fieldTs Try.prog 115 = [3, 3, 3, 3, 3] := by kernel_rfl
@[simp] theorem fk115_0 : fieldOk Try.prog 115 0 = true := by kernel_rfl
@[simp] theorem ff115_0 : fieldOff Try.prog 115 0 = 0 := by kernel_rfl
@[simp] theorem ft115_0 : fieldTy Try.prog 115 0 = 3 := by kernel_rfl
@[simp] theorem bk115_0 : bOk Try.prog 115 0 = true := by kernel_rfl
@[simp] theorem bf115_0 : bOff Try.prog 115 0 = 0 := by kernel_rfl
@[simp] theorem bt115_0 : bTy Try.prog 115 0 = 3 := by kernel_rfl
@[simp] theorem fk115_1 : fieldOk Try.prog 115 1 = true := by kernel_rfl
@[simp] theorem ff115_1 : fieldOff Try.prog 115 1 = 1 := by kernel_rfl
@[simp] theorem ft115_1 : fieldTy Try.prog 115 1 = 3 := by kernel_rfl
@[simp] theorem bk115_1 : bOk Try.prog 115 1 = true := by kernel_rfl
@[simp] theorem bf115_1 : bOff Try.prog 115 1 = 1 := by kernel_rfl
@[simp] theorem bt115_1 : bTy Try.prog 115 1 = 3 := by kernel_rfl
@[simp] theorem fk115_2 : fieldOk Try.prog 115 2 = true := by kernel_rfl
@[simp] theorem ff115_2 : fieldOff Try.prog 115 2 = 2 := by kernel_rfl
@[simp] theorem ft115_2 : fieldTy Try.prog 115 2 = 3 := by kernel_rfl
@[simp] theorem bk115_2 : bOk Try.prog 115 2 = true := by kernel_rfl
@[simp] theorem bf115_2 : bOff Try.prog 115 2 = 2 := by kernel_rfl
@[simp] theorem bt115_2 : bTy Try.prog 115 2 = 3 := by kernel_rfl
@[simp] theorem fk115_3 : fieldOk Try.prog 115 3 = true := by kernel_rfl
@[simp] theorem ff115_3 : fieldOff Try.prog 115 3 = 3 := by kernel_rfl
@[simp] theorem ft115_3 : fieldTy Try.prog 115 3 = 3 := by kernel_rfl
@[simp] theorem bk115_3 : bOk Try.prog 115 3 = true := by kernel_rfl
@[simp] theorem bf115_3 : bOff Try.prog 115 3 = 3 := by kernel_rfl
@[simp] theorem bt115_3 : bTy Try.prog 115 3 = 3 := by kernel_rfl
@[simp] theorem fk115_4 : fieldOk Try.prog 115 4 = true := by kernel_rfl
@[simp] theorem ff115_4 : fieldOff Try.prog 115 4 = 4 := by kernel_rfl
@[simp] theorem ft115_4 : fieldTy Try.prog 115 4 = 3 := by kernel_rfl
@[simp] theorem bk115_4 : bOk Try.prog 115 4 = true := by kernel_rfl
@[simp] theorem bf115_4 : bOff Try.prog 115 4 = 4 := by kernel_rfl
@[simp] theorem bt115_4 : bTy Try.prog 115 4 = 3 := by kernel_rfl
@[simp] theorem ty117 : tyOk Try.prog 117 = true := by kernel_rfl
@[simp] theorem ce117 : Try.prog.cellsOf 117 = 3 := by kernel_rfl
@[simp] theorem ag117 : aggT Try.prog 117 = true := by kernel_rfl
@[simp] theorem by117 : Try.prog.bytesOf 117 = 24 := by kernel_rfl
@[simp] theorem un117 : (Try.prog.underlying 117).isSome = true := by kernel_rfl
@[simp] theorem zr117 : zrow Try.prog 12 117 = some [.d (.int .i64 0), .d (.int .i64 0), .d (.int .i64 0)] := by kernel_rfl
@[simp] theorem ze117 : zeroOk Try.prog 117 = true := by kernel_rfl
@[simp] theorem in117 : intT Try.prog 117 = none := by kernel_rfl
@[simp] theorem eq117 : eqOk Try.prog 117 = true := by kernel_rfl
@[simp] theorem fs117 : fieldTs Try.prog 117 = [3, 3, 3] := by kernel_rfl
@[simp] theorem fk117_0 : fieldOk Try.prog 117 0 = true := by kernel_rfl
@[simp] theorem ff117_0 : fieldOff Try.prog 117 0 = 0 := by kernel_rfl
@[simp] theorem ft117_0 : fieldTy Try.prog 117 0 = 3 := by kernel_rfl
@[simp] theorem bk117_0 : bOk Try.prog 117 0 = true := by kernel_rfl
@[simp] theorem bf117_0 : bOff Try.prog 117 0 = 0 := by kernel_rfl
@[simp] theorem bt117_0 : bTy Try.prog 117 0 = 3 := by kernel_rfl
@[simp] theorem fk117_1 : fieldOk Try.prog 117 1 = true := by kernel_rfl
@[simp] theorem ff117_1 : fieldOff Try.prog 117 1 = 1 := by kernel_rfl
@[simp] theorem ft117_1 : fieldTy Try.prog 117 1 = 3 := by kernel_rfl
@[simp] theorem bk117_1 : bOk Try.prog 117 1 = true := by kernel_rfl
@[simp] theorem bf117_1 : bOff Try.prog 117 1 = 1 := by kernel_rfl
@[simp] theorem bt117_1 : bTy Try.prog 117 1 = 3 := by kernel_rfl
@[simp] theorem fk117_2 : fieldOk Try.prog 117 2 = true := by kernel_rfl
@[simp] theorem ff117_2 : fieldOff Try.prog 117 2 = 2 := by kernel_rfl
@[simp] theorem ft117_2 : fieldTy Try.prog 117 2 = 3 := by kernel_rfl
@[simp] theorem bk117_2 : bOk Try.prog 117 2 = true := by kernel_rfl
@[simp] theorem bf117_2 : bOff Try.prog 117 2 = 2 := by kernel_rfl
@[simp] theorem bt117_2 : bTy Try.prog 117 2 = 3 := by kernel_rfl
@[simp] theorem ty119 : tyOk Try.prog 119 = true := by kernel_rfl
@[simp] theorem ce119 : Try.prog.cellsOf 119 = 4 := by kernel_rfl
@[simp] theorem ag119 : aggT Try.prog 119 = true := by kernel_rfl
@[simp] theorem by119 : Try.prog.bytesOf 119 = 32 := by kernel_rfl
@[simp] theorem un119 : (Try.prog.underlying 119).isSome = true := by kernel_rfl
@[simp] theorem zr119 : zrow Try.prog 12 119 = some [.d (.int .i64 0), .d (.int .i64 0), .d (.int .i64 0), .d (.int .i64 0)] := by kernel_rfl
@[simp] theorem ze119 : zeroOk Try.prog 119 = true := by kernel_rfl
@[simp] theorem in119 : intT Try.prog 119 = none := by kernel_rfl
@[simp] theorem eq119 : eqOk Try.prog 119 = true := by kernel_rfl
@[simp] theorem fs119 : fieldTs Try.prog 119 = [3, 3, 3, 3] := by kernel_rfl
@[simp] theorem fk119_0 : fieldOk Try.prog 119 0 = true := by kernel_rfl
@[simp] theorem ff119_0 : fieldOff Try.prog 119 0 = 0 := by kernel_rfl
@[simp] theorem ft119_0 : fieldTy Try.prog 119 0 = 3 := by kernel_rfl
@[simp] theorem bk119_0 : bOk Try.prog 119 0 = true := by kernel_rfl
@[simp] theorem bf119_0 : bOff Try.prog 119 0 = 0 := by kernel_rfl
@[simp] theorem bt119_0 : bTy Try.prog 119 0 = 3 := by kernel_rfl
@[simp] theorem fk119_1 : fieldOk Try.prog 119 1 = true := by kernel_rfl
@[simp] theorem ff119_1 : fieldOff Try.prog 119 1 = 1 := by kernel_rfl
@[simp] theorem ft119_1 : fieldTy Try.prog 119 1 = 3 := by kernel_rfl
@[simp] theorem bk119_1 : bOk Try.prog 119 1 = true := by kernel_rfl
@[simp] theorem bf119_1 : bOff Try.prog 119 1 = 1 := by kernel_rfl
@[simp] theorem bt119_1 : bTy Try.prog 119 1 = 3 := by kernel_rfl
@[simp] theorem fk119_2 : fieldOk Try.prog 119 2 = true := by kernel_rfl
@[simp] theorem ff119_2 : fieldOff Try.prog 119 2 = 2 := by kernel_rfl
@[simp] theorem ft119_2 : fieldTy Try.prog 119 2 = 3 := by kernel_rfl
@[simp] theorem bk119_2 : bOk Try.prog 119 2 = true := by kernel_rfl
@[simp] theorem bf119_2 : bOff Try.prog 119 2 = 2 := by kernel_rfl
@[simp] theorem bt119_2 : bTy Try.prog 119 2 = 3 := by kernel_rfl
@[simp] theorem fk119_3 : fieldOk Try.prog 119 3 = true := by kernel_rfl
@[simp] theorem ff119_3 : fieldOff Try.prog 119 3 = 3 := by kernel_rfl
@[simp] theorem ft119_3 : fieldTy Try.prog 119 3 = 3 := by kernel_rfl
@[simp] theorem bk119_3 : bOk Try.prog 119 3 = true := by kernel_rfl
@[simp] theorem bf119_3 : bOff Try.prog 119 3 = 3 := by kernel_rfl
@[simp] theorem bt119_3 : bTy Try.prog 119 3 = 3 := by kernel_rfl
@[simp] theorem ty121 : tyOk Try.prog 121 = true := by kernel_rfl
@[simp] theorem ce121 : Try.prog.cellsOf 121 = 4 := by kernel_rfl
@[simp] theorem ag121 : aggT Try.prog 121 = true := by kernel_rfl
@[simp] theorem by121 : Try.prog.bytesOf 121 = 32 := by kernel_rfl
@[simp] theorem un121 : (Try.prog.underlying 121).isSome = true := by kernel_rfl
@[simp] theorem zr121 : zrow Try.prog 12 121 = some [.d (.int .i64 0), .d (.int .i64 0), .d (.int .i64 0), .d (.int .i64 0)] := by kernel_rfl
@[simp] theorem ze121 : zeroOk Try.prog 121 = true := by kernel_rfl
@[simp] theorem in121 : intT Try.prog 121 = none := by kernel_rfl
@[simp] theorem eq121 : eqOk Try.prog 121 = true := by kernel_rfl
@[simp] theorem fs121 : fieldTs Try.prog 121 = [3, 3, 3, 3] := by kernel_rfl
@[simp] theorem fk121_0 : fieldOk Try.prog 121 0 = true := by kernel_rfl
@[simp] theorem ff121_0 : fieldOff Try.prog 121 0 = 0 := by kernel_rfl
@[simp] theorem ft121_0 : fieldTy Try.prog 121 0 = 3 := by kernel_rfl
@[simp] theorem bk121_0 : bOk Try.prog 121 0 = true := by kernel_rfl
@[simp] theorem bf121_0 : bOff Try.prog 121 0 = 0 := by kernel_rfl
@[simp] theorem bt121_0 : bTy Try.prog 121 0 = 3 := by kernel_rfl
@[simp] theorem fk121_1 : fieldOk Try.prog 121 1 = true := by kernel_rfl
@[simp] theorem ff121_1 : fieldOff Try.prog 121 1 = 1 := by kernel_rfl
@[simp] theorem ft121_1 : fieldTy Try.prog 121 1 = 3 := by kernel_rfl
@[simp] theorem bk121_1 : bOk Try.prog 121 1 = true := by kernel_rfl
@[simp] theorem bf121_1 : bOff Try.prog 121 1 = 1 := by kernel_rfl
@[simp] theorem bt121_1 : bTy Try.prog 121 1 = 3 := by kernel_rfl
@[simp] theorem fk121_2 : fieldOk Try.prog 121 2 = true := by kernel_rfl
@[simp] theorem ff121_2 : fieldOff Try.prog 121 2 = 2 := by kernel_rfl
@[simp] theorem ft121_2 : fieldTy Try.prog 121 2 = 3 := by kernel_rfl
@[simp] theorem bk121_2 : bOk Try.prog 121 2 = true := by kernel_rfl
@[simp] theorem bf121_2 : bOff Try.prog 121 2 = 2 := by kernel_rfl
@[simp] theorem bt121_2 : bTy Try.prog 121 2 = 3 := by kernel_rfl
@[simp] theorem fk121_3 : fieldOk Try.prog 121 3 = true := by kernel_rfl
@[simp] theorem ff121_3 : fieldOff Try.prog 121 3 = 3 := by kernel_rfl
@[simp] theorem ft121_3 : fieldTy Try.prog 121 3 = 3 := by kernel_rfl
@[simp] theorem bk121_3 : bOk Try.prog 121 3 = true := by kernel_rfl
@[simp] theorem bf121_3 : bOff Try.prog 121 3 = 3 := by kernel_rfl
@[simp] theorem bt121_3 : bTy Try.prog 121 3 = 3 := by kernel_rfl
@[simp] theorem ty123 : tyOk Try.prog 123 = true := by kernel_rfl
@[simp] theorem ce123 : Try.prog.cellsOf 123 = 1 := by kernel_rfl
@[simp] theorem ag123 : aggT Try.prog 123 = false := by kernel_rfl
@[simp] theorem by123 : Try.prog.bytesOf 123 = 24 := by kernel_rfl
@[simp] theorem un123 : (Try.prog.underlying 123).isSome = true := by kernel_rfl
@[simp] theorem zr123 : zrow Try.prog 12 123 = some [.nil 2] := by kernel_rfl
@[simp] theorem ze123 : zeroOk Try.prog 123 = true := by kernel_rfl
@[simp] theorem in123 : intT Try.prog 123 = none := by kernel_rfl
@[simp] theorem sl123 : sliceT Try.prog 123 = true := by kernel_rfl
@[simp] theorem el123 : elemT Try.prog 123 = 175 := by kernel_rfl
@[simp] theorem bs123 : byteT Try.prog 123 = false := by kernel_rfl
@[simp] theorem st123 : strT Try.prog 123 = false := by kernel_rfl
@[simp] theorem ty124 : tyOk Try.prog 124 = true := by kernel_rfl
@[simp] theorem ce124 : Try.prog.cellsOf 124 = 1 := by kernel_rfl
@[simp] theorem ag124 : aggT Try.prog 124 = false := by kernel_rfl
@[simp] theorem by124 : Try.prog.bytesOf 124 = 24 := by kernel_rfl
@[simp] theorem un124 : (Try.prog.underlying 124).isSome = true := by kernel_rfl
@[simp] theorem zr124 : zrow Try.prog 12 124 = some [.nil 5] := by kernel_rfl
@[simp] theorem ze124 : zeroOk Try.prog 124 = true := by kernel_rfl
@[simp] theorem in124 : intT Try.prog 124 = none := by kernel_rfl
@[simp] theorem sl124 : sliceT Try.prog 124 = true := by kernel_rfl
@[simp] theorem el124 : elemT Try.prog 124 = 148 := by kernel_rfl
@[simp] theorem bs124 : byteT Try.prog 124 = false := by kernel_rfl
@[simp] theorem st124 : strT Try.prog 124 = false := by kernel_rfl
@[simp] theorem ty126 : tyOk Try.prog 126 = true := by kernel_rfl
@[simp] theorem ce126 : Try.prog.cellsOf 126 = 5 := by kernel_rfl
@[simp] theorem ag126 : aggT Try.prog 126 = true := by kernel_rfl
@[simp] theorem by126 : Try.prog.bytesOf 126 = 72 := by kernel_rfl
@[simp] theorem un126 : (Try.prog.underlying 126).isSome = true := by kernel_rfl
@[simp] theorem zr126 : zrow Try.prog 12 126 = some [.d (.int .i64 0), .d (.int .i64 0), .d (.int .i64 0), .nil 2, .nil 5] := by kernel_rfl
@[simp] theorem ze126 : zeroOk Try.prog 126 = true := by kernel_rfl
@[simp] theorem in126 : intT Try.prog 126 = none := by kernel_rfl
@[simp] theorem fk126_0 : fieldOk Try.prog 126 0 = true := by kernel_rfl
@[simp] theorem ff126_0 : fieldOff Try.prog 126 0 = 0 := by kernel_rfl
@[simp] theorem ft126_0 : fieldTy Try.prog 126 0 = 3 := by kernel_rfl
@[simp] theorem bk126_0 : bOk Try.prog 126 0 = true := by kernel_rfl
@[simp] theorem bf126_0 : bOff Try.prog 126 0 = 0 := by kernel_rfl
@[simp] theorem bt126_0 : bTy Try.prog 126 0 = 3 := by kernel_rfl
@[simp] theorem fk126_1 : fieldOk Try.prog 126 1 = true := by kernel_rfl
@[simp] theorem ff126_1 : fieldOff Try.prog 126 1 = 1 := by kernel_rfl
@[simp] theorem ft126_1 : fieldTy Try.prog 126 1 = 3 := by kernel_rfl
@[simp] theorem bk126_1 : bOk Try.prog 126 1 = true := by kernel_rfl
@[simp] theorem bf126_1 : bOff Try.prog 126 1 = 1 := by kernel_rfl
@[simp] theorem bt126_1 : bTy Try.prog 126 1 = 3 := by kernel_rfl
@[simp] theorem fk126_2 : fieldOk Try.prog 126 2 = true := by kernel_rfl
@[simp] theorem ff126_2 : fieldOff Try.prog 126 2 = 2 := by kernel_rfl
@[simp] theorem ft126_2 : fieldTy Try.prog 126 2 = 3 := by kernel_rfl
@[simp] theorem bk126_2 : bOk Try.prog 126 2 = true := by kernel_rfl
@[simp] theorem bf126_2 : bOff Try.prog 126 2 = 2 := by kernel_rfl
@[simp] theorem bt126_2 : bTy Try.prog 126 2 = 3 := by kernel_rfl
@[simp] theorem fk126_3 : fieldOk Try.prog 126 3 = true := by kernel_rfl
@[simp] theorem ff126_3 : fieldOff Try.prog 126 3 = 3 := by kernel_rfl
@[simp] theorem ft126_3 : fieldTy Try.prog 126 3 = 123 := by kernel_rfl
@[simp] theorem bk126_3 : bOk Try.prog 126 3 = true := by kernel_rfl
@[simp] theorem bf126_3 : bOff Try.prog 126 3 = 3 := by kernel_rfl
@[simp] theorem bt126_3 : bTy Try.prog 126 3 = 123 := by kernel_rfl
@[simp] theorem fk126_4 : fieldOk Try.prog 126 4 = true := by kernel_rfl
@[simp] theorem ff126_4 : fieldOff Try.prog 126 4 = 4 := by kernel_rfl
@[simp] theorem ft126_4 : fieldTy Try.prog 126 4 = 124 := by kernel_rfl
@[simp] theorem bk126_4 : bOk Try.prog 126 4 = true := by kernel_rfl
@[simp] theorem bf126_4 : bOff Try.prog 126 4 = 4 := by kernel_rfl
@[simp] theorem bt126_4 : bTy Try.prog 126 4 = 124 := by kernel_rfl
@[simp] theorem ty148 : tyOk Try.prog 148 = true := by kernel_rfl
@[simp] theorem ce148 : Try.prog.cellsOf 148 = 5 := by kernel_rfl
@[simp] theorem ag148 : aggT Try.prog 148 = true := by kernel_rfl
@[simp] theorem by148 : Try.prog.bytesOf 148 = 40 := by kernel_rfl
@[simp] theorem un148 : (Try.prog.underlying 148).isSome = true := by kernel_rfl
@[simp] theorem zr148 : zrow Try.prog 12 148 = some [.d (.int .i64 0), .d (.int .i64 0), .d (.int .i64 0), .d (.int .i64 0), .d (.int .i64 0)] := by kernel_rfl
@[simp] theorem ze148 : zeroOk Try.prog 148 = true := by kernel_rfl
@[simp] theorem in148 : intT Try.prog 148 = none := by kernel_rfl
@[simp] theorem eq148 : eqOk Try.prog 148 = true := by kernel_rfl
@[simp] theorem fs148 : fieldTs Try.prog 148 = [3, 3, 3, 3, 3] := by kernel_rfl
@[simp] theorem fk148_0 : fieldOk Try.prog 148 0 = true := by kernel_rfl
@[simp] theorem ff148_0 : fieldOff Try.prog 148 0 = 0 := by kernel_rfl
@[simp] theorem ft148_0 : fieldTy Try.prog 148 0 = 3 := by kernel_rfl
@[simp] theorem bk148_0 : bOk Try.prog 148 0 = true := by kernel_rfl
@[simp] theorem bf148_0 : bOff Try.prog 148 0 = 0 := by kernel_rfl
@[simp] theorem bt148_0 : bTy Try.prog 148 0 = 3 := by kernel_rfl
@[simp] theorem fk148_1 : fieldOk Try.prog 148 1 = true := by kernel_rfl
@[simp] theorem ff148_1 : fieldOff Try.prog 148 1 = 1 := by kernel_rfl
@[simp] theorem ft148_1 : fieldTy Try.prog 148 1 = 3 := by kernel_rfl
@[simp] theorem bk148_1 : bOk Try.prog 148 1 = true := by kernel_rfl
@[simp] theorem bf148_1 : bOff Try.prog 148 1 = 1 := by kernel_rfl
@[simp] theorem bt148_1 : bTy Try.prog 148 1 = 3 := by kernel_rfl
@[simp] theorem fk148_2 : fieldOk Try.prog 148 2 = true := by kernel_rfl
@[simp] theorem ff148_2 : fieldOff Try.prog 148 2 = 2 := by kernel_rfl
@[simp] theorem ft148_2 : fieldTy Try.prog 148 2 = 3 := by kernel_rfl
@[simp] theorem bk148_2 : bOk Try.prog 148 2 = true := by kernel_rfl
@[simp] theorem bf148_2 : bOff Try.prog 148 2 = 2 := by kernel_rfl
@[simp] theorem bt148_2 : bTy Try.prog 148 2 = 3 := by kernel_rfl
@[simp] theorem fk148_3 : fieldOk Try.prog 148 3 = true := by kernel_rfl
@[simp] theorem ff148_3 : fieldOff Try.prog 148 3 = 3 := by kernel_rfl
@[simp] theorem ft148_3 : fieldTy Try.prog 148 3 = 3 := by kernel_rfl
@[simp] theorem bk148_3 : bOk Try.prog 148 3 = true := by kernel_rfl
@[simp] theorem bf148_3 : bOff Try.prog 148 3 = 3 := by kernel_rfl
@[simp] theorem bt148_3 : bTy Try.prog 148 3 = 3 := by kernel_rfl
@[simp] theorem fk148_4 : fieldOk Try.prog 148 4 = true := by kernel_rfl
@[simp] theorem ff148_4 : fieldOff Try.prog 148 4 = 4 := by kernel_rfl
@[simp] theorem ft148_4 : fieldTy Try.prog 148 4 = 3 := by kernel_rfl
@[simp] theorem bk148_4 : bOk Try.prog 148 4 = true := by kernel_rfl
@[simp] theorem bf148_4 : bOff Try.prog 148 4 = 4 := by kernel_rfl
@[simp] theorem bt148_4 : bTy Try.prog 148 4 = 3 := by kernel_rfl
@[simp] theorem ty155 : tyOk Try.prog 155 = true := by kernel_rfl
@[simp] theorem ce155 : Try.prog.cellsOf 155 = 3 := by kernel_rfl
@[simp] theorem ag155 : aggT Try.prog 155 = true := by kernel_rfl
@[simp] theorem by155 : Try.prog.bytesOf 155 = 40 := by kernel_rfl
@[simp] theorem un155 : (Try.prog.underlying 155).isSome = true := by kernel_rfl
@[simp] theorem zr155 : zrow Try.prog 12 155 = some [.d (.int .i64 0), .nil 1, .d (.int .i64 0)] := by kernel_rfl
@[simp] theorem ze155 : zeroOk Try.prog 155 = true := by kernel_rfl
@[simp] theorem in155 : intT Try.prog 155 = none := by kernel_rfl
@[simp] theorem fk155_0 : fieldOk Try.prog 155 0 = true := by kernel_rfl
@[simp] theorem ff155_0 : fieldOff Try.prog 155 0 = 0 := by kernel_rfl
@[simp] theorem ft155_0 : fieldTy Try.prog 155 0 = 3 := by kernel_rfl
@[simp] theorem bk155_0 : bOk Try.prog 155 0 = true := by kernel_rfl
@[simp] theorem bf155_0 : bOff Try.prog 155 0 = 0 := by kernel_rfl
@[simp] theorem bt155_0 : bTy Try.prog 155 0 = 3 := by kernel_rfl
@[simp] theorem fk155_1 : fieldOk Try.prog 155 1 = true := by kernel_rfl
@[simp] theorem ff155_1 : fieldOff Try.prog 155 1 = 1 := by kernel_rfl
@[simp] theorem ft155_1 : fieldTy Try.prog 155 1 = 32 := by kernel_rfl
@[simp] theorem bk155_1 : bOk Try.prog 155 1 = true := by kernel_rfl
@[simp] theorem bf155_1 : bOff Try.prog 155 1 = 1 := by kernel_rfl
@[simp] theorem bt155_1 : bTy Try.prog 155 1 = 32 := by kernel_rfl
@[simp] theorem fk155_2 : fieldOk Try.prog 155 2 = true := by kernel_rfl
@[simp] theorem ff155_2 : fieldOff Try.prog 155 2 = 2 := by kernel_rfl
@[simp] theorem ft155_2 : fieldTy Try.prog 155 2 = 3 := by kernel_rfl
@[simp] theorem bk155_2 : bOk Try.prog 155 2 = true := by kernel_rfl
@[simp] theorem bf155_2 : bOff Try.prog 155 2 = 2 := by kernel_rfl
@[simp] theorem bt155_2 : bTy Try.prog 155 2 = 3 := by kernel_rfl
@[simp] theorem ty162 : tyOk Try.prog 162 = true := by kernel_rfl
@[simp] theorem ce162 : Try.prog.cellsOf 162 = 2 := by kernel_rfl
@[simp] theorem ag162 : aggT Try.prog 162 = true := by kernel_rfl
@[simp] theorem by162 : Try.prog.bytesOf 162 = 16 := by kernel_rfl
@[simp] theorem un162 : (Try.prog.underlying 162).isSome = true := by kernel_rfl
@[simp] theorem zr162 : zrow Try.prog 12 162 = some [.d (.int .i64 0), .d (.int .i64 0)] := by kernel_rfl
@[simp] theorem ze162 : zeroOk Try.prog 162 = true := by kernel_rfl
@[simp] theorem in162 : intT Try.prog 162 = none := by kernel_rfl
@[simp] theorem eq162 : eqOk Try.prog 162 = true := by kernel_rfl
@[simp] theorem fs162 : fieldTs Try.prog 162 = [3, 3] := by kernel_rfl
@[simp] theorem fk162_0 : fieldOk Try.prog 162 0 = true := by kernel_rfl
@[simp] theorem ff162_0 : fieldOff Try.prog 162 0 = 0 := by kernel_rfl
@[simp] theorem ft162_0 : fieldTy Try.prog 162 0 = 3 := by kernel_rfl
@[simp] theorem bk162_0 : bOk Try.prog 162 0 = true := by kernel_rfl
@[simp] theorem bf162_0 : bOff Try.prog 162 0 = 0 := by kernel_rfl
@[simp] theorem bt162_0 : bTy Try.prog 162 0 = 3 := by kernel_rfl
@[simp] theorem fk162_1 : fieldOk Try.prog 162 1 = true := by kernel_rfl
@[simp] theorem ff162_1 : fieldOff Try.prog 162 1 = 1 := by kernel_rfl
@[simp] theorem ft162_1 : fieldTy Try.prog 162 1 = 3 := by kernel_rfl
@[simp] theorem bk162_1 : bOk Try.prog 162 1 = true := by kernel_rfl
@[simp] theorem bf162_1 : bOff Try.prog 162 1 = 1 := by kernel_rfl
@[simp] theorem bt162_1 : bTy Try.prog 162 1 = 3 := by kernel_rfl
@[simp] theorem ty173 : tyOk Try.prog 173 = true := by kernel_rfl
@[simp] theorem ce173 : Try.prog.cellsOf 173 = 1 := by kernel_rfl
@[simp] theorem ag173 : aggT Try.prog 173 = false := by kernel_rfl
@[simp] theorem by173 : Try.prog.bytesOf 173 = 24 := by kernel_rfl
@[simp] theorem un173 : (Try.prog.underlying 173).isSome = true := by kernel_rfl
@[simp] theorem zr173 : zrow Try.prog 12 173 = some [.nil 1] := by kernel_rfl
@[simp] theorem ze173 : zeroOk Try.prog 173 = true := by kernel_rfl
@[simp] theorem in173 : intT Try.prog 173 = none := by kernel_rfl
@[simp] theorem sl173 : sliceT Try.prog 173 = true := by kernel_rfl
@[simp] theorem el173 : elemT Try.prog 173 = 5 := by kernel_rfl
@[simp] theorem bs173 : byteT Try.prog 173 = true := by kernel_rfl
@[simp] theorem st173 : strT Try.prog 173 = false := by kernel_rfl
@[simp] theorem ty175 : tyOk Try.prog 175 = true := by kernel_rfl
@[simp] theorem ce175 : Try.prog.cellsOf 175 = 2 := by kernel_rfl
@[simp] theorem ag175 : aggT Try.prog 175 = true := by kernel_rfl
@[simp] theorem by175 : Try.prog.bytesOf 175 = 16 := by kernel_rfl
@[simp] theorem un175 : (Try.prog.underlying 175).isSome = true := by kernel_rfl
@[simp] theorem zr175 : zrow Try.prog 12 175 = some [.d (.int .i64 0), .d (.bool false)] := by kernel_rfl
@[simp] theorem ze175 : zeroOk Try.prog 175 = true := by kernel_rfl
@[simp] theorem in175 : intT Try.prog 175 = none := by kernel_rfl
@[simp] theorem eq175 : eqOk Try.prog 175 = true := by kernel_rfl
@[simp] theorem fs175 : fieldTs Try.prog 175 = [3, 4] := by kernel_rfl
@[simp] theorem fk175_0 : fieldOk Try.prog 175 0 = true := by kernel_rfl
@[simp] theorem ff175_0 : fieldOff Try.prog 175 0 = 0 := by kernel_rfl
@[simp] theorem ft175_0 : fieldTy Try.prog 175 0 = 3 := by kernel_rfl
@[simp] theorem bk175_0 : bOk Try.prog 175 0 = true := by kernel_rfl
@[simp] theorem bf175_0 : bOff Try.prog 175 0 = 0 := by kernel_rfl
@[simp] theorem bt175_0 : bTy Try.prog 175 0 = 3 := by kernel_rfl
@[simp] theorem fk175_1 : fieldOk Try.prog 175 1 = true := by kernel_rfl
@[simp] theorem ff175_1 : fieldOff Try.prog 175 1 = 1 := by kernel_rfl
@[simp] theorem ft175_1 : fieldTy Try.prog 175 1 = 4 := by kernel_rfl
@[simp] theorem bk175_1 : bOk Try.prog 175 1 = true := by kernel_rfl
@[simp] theorem bf175_1 : bOff Try.prog 175 1 = 1 := by kernel_rfl
@[simp] theorem bt175_1 : bTy Try.prog 175 1 = 4 := by kernel_rfl
@[simp] theorem ty178 : tyOk Try.prog 178 = true := by kernel_rfl
@[simp] theorem ce178 : Try.prog.cellsOf 178 = 3 := by kernel_rfl
@[simp] theorem ag178 : aggT Try.prog 178 = true := by kernel_rfl
@[simp] theorem by178 : Try.prog.bytesOf 178 = 40 := by kernel_rfl
@[simp] theorem un178 : (Try.prog.underlying 178).isSome = true := by kernel_rfl
@[simp] theorem zr178 : zrow Try.prog 12 178 = some [.d (.int .i64 0), .nil 1, .d (.int .i64 0)] := by kernel_rfl
@[simp] theorem ze178 : zeroOk Try.prog 178 = true := by kernel_rfl
@[simp] theorem in178 : intT Try.prog 178 = none := by kernel_rfl
@[simp] theorem fk178_0 : fieldOk Try.prog 178 0 = true := by kernel_rfl
@[simp] theorem ff178_0 : fieldOff Try.prog 178 0 = 0 := by kernel_rfl
@[simp] theorem ft178_0 : fieldTy Try.prog 178 0 = 3 := by kernel_rfl
@[simp] theorem bk178_0 : bOk Try.prog 178 0 = true := by kernel_rfl
@[simp] theorem bf178_0 : bOff Try.prog 178 0 = 0 := by kernel_rfl
@[simp] theorem bt178_0 : bTy Try.prog 178 0 = 3 := by kernel_rfl
@[simp] theorem fk178_1 : fieldOk Try.prog 178 1 = true := by kernel_rfl
@[simp] theorem ff178_1 : fieldOff Try.prog 178 1 = 1 := by kernel_rfl
@[simp] theorem ft178_1 : fieldTy Try.prog 178 1 = 32 := by kernel_rfl
@[simp] theorem bk178_1 : bOk Try.prog 178 1 = true := by kernel_rfl
@[simp] theorem bf178_1 : bOff Try.prog 178 1 = 1 := by kernel_rfl
@[simp] theorem bt178_1 : bTy Try.prog 178 1 = 32 := by kernel_rfl
@[simp] theorem fk178_2 : fieldOk Try.prog 178 2 = true := by kernel_rfl
@[simp] theorem ff178_2 : fieldOff Try.prog 178 2 = 2 := by kernel_rfl
@[simp] theorem ft178_2 : fieldTy Try.prog 178 2 = 3 := by kernel_rfl
@[simp] theorem bk178_2 : bOk Try.prog 178 2 = true := by kernel_rfl
@[simp] theorem bf178_2 : bOff Try.prog 178 2 = 2 := by kernel_rfl
@[simp] theorem bt178_2 : bTy Try.prog 178 2 = 3 := by kernel_rfl
@[simp] theorem ty180 : tyOk Try.prog 180 = true := by kernel_rfl
@[simp] theorem ce180 : Try.prog.cellsOf 180 = 1 := by kernel_rfl
@[simp] theorem ag180 : aggT Try.prog 180 = false := by kernel_rfl
@[simp] theorem by180 : Try.prog.bytesOf 180 = 24 := by kernel_rfl
@[simp] theorem un180 : (Try.prog.underlying 180).isSome = true := by kernel_rfl
@[simp] theorem zr180 : zrow Try.prog 12 180 = some [.nil 2] := by kernel_rfl
@[simp] theorem ze180 : zeroOk Try.prog 180 = true := by kernel_rfl
@[simp] theorem in180 : intT Try.prog 180 = none := by kernel_rfl
@[simp] theorem sl180 : sliceT Try.prog 180 = true := by kernel_rfl
@[simp] theorem el180 : elemT Try.prog 180 = 196 := by kernel_rfl
@[simp] theorem bs180 : byteT Try.prog 180 = false := by kernel_rfl
@[simp] theorem st180 : strT Try.prog 180 = false := by kernel_rfl
@[simp] theorem ty181 : tyOk Try.prog 181 = true := by kernel_rfl
@[simp] theorem ce181 : Try.prog.cellsOf 181 = 1 := by kernel_rfl
@[simp] theorem ag181 : aggT Try.prog 181 = false := by kernel_rfl
@[simp] theorem by181 : Try.prog.bytesOf 181 = 24 := by kernel_rfl
@[simp] theorem un181 : (Try.prog.underlying 181).isSome = true := by kernel_rfl
@[simp] theorem zr181 : zrow Try.prog 12 181 = some [.nil 5] := by kernel_rfl
@[simp] theorem ze181 : zeroOk Try.prog 181 = true := by kernel_rfl
@[simp] theorem in181 : intT Try.prog 181 = none := by kernel_rfl
@[simp] theorem sl181 : sliceT Try.prog 181 = true := by kernel_rfl
@[simp] theorem el181 : elemT Try.prog 181 = 198 := by kernel_rfl
@[simp] theorem bs181 : byteT Try.prog 181 = false := by kernel_rfl
@[simp] theorem st181 : strT Try.prog 181 = false := by kernel_rfl
@[simp] theorem ty183 : tyOk Try.prog 183 = true := by kernel_rfl
@[simp] theorem ce183 : Try.prog.cellsOf 183 = 5 := by kernel_rfl
@[simp] theorem ag183 : aggT Try.prog 183 = true := by kernel_rfl
@[simp] theorem by183 : Try.prog.bytesOf 183 = 72 := by kernel_rfl
@[simp] theorem un183 : (Try.prog.underlying 183).isSome = true := by kernel_rfl
@[simp] theorem zr183 : zrow Try.prog 12 183 = some [.d (.int .i64 0), .d (.int .i64 0), .d (.int .i64 0), .nil 2, .nil 5] := by kernel_rfl
@[simp] theorem ze183 : zeroOk Try.prog 183 = true := by kernel_rfl
@[simp] theorem in183 : intT Try.prog 183 = none := by kernel_rfl
@[simp] theorem fk183_0 : fieldOk Try.prog 183 0 = true := by kernel_rfl
@[simp] theorem ff183_0 : fieldOff Try.prog 183 0 = 0 := by kernel_rfl
@[simp] theorem ft183_0 : fieldTy Try.prog 183 0 = 3 := by kernel_rfl
@[simp] theorem bk183_0 : bOk Try.prog 183 0 = true := by kernel_rfl
@[simp] theorem bf183_0 : bOff Try.prog 183 0 = 0 := by kernel_rfl
@[simp] theorem bt183_0 : bTy Try.prog 183 0 = 3 := by kernel_rfl
@[simp] theorem fk183_1 : fieldOk Try.prog 183 1 = true := by kernel_rfl
@[simp] theorem ff183_1 : fieldOff Try.prog 183 1 = 1 := by kernel_rfl
@[simp] theorem ft183_1 : fieldTy Try.prog 183 1 = 3 := by kernel_rfl
@[simp] theorem bk183_1 : bOk Try.prog 183 1 = true := by kernel_rfl
@[simp] theorem bf183_1 : bOff Try.prog 183 1 = 1 := by kernel_rfl
@[simp] theorem bt183_1 : bTy Try.prog 183 1 = 3 := by kernel_rfl
@[simp] theorem fk183_2 : fieldOk Try.prog 183 2 = true := by kernel_rfl
@[simp] theorem ff183_2 : fieldOff Try.prog 183 2 = 2 := by kernel_rfl
@[simp] theorem ft183_2 : fieldTy Try.prog 183 2 = 3 := by kernel_rfl
@[simp] theorem bk183_2 : bOk Try.prog 183 2 = true := by kernel_rfl
@[simp] theorem bf183_2 : bOff Try.prog 183 2 = 2 := by kernel_rfl
@[simp] theorem bt183_2 : bTy Try.prog 183 2 = 3 := by kernel_rfl
@[simp] theorem fk183_3 : fieldOk Try.prog 183 3 = true := by kernel_rfl
@[simp] theorem ff183_3 : fieldOff Try.prog 183 3 = 3 := by kernel_rfl
@[simp] theorem ft183_3 : fieldTy Try.prog 183 3 = 180 := by kernel_rfl
@[simp] theorem bk183_3 : bOk Try.prog 183 3 = true := by kernel_rfl
@[simp] theorem bf183_3 : bOff Try.prog 183 3 = 3 := by kernel_rfl
@[simp] theorem bt183_3 : bTy Try.prog 183 3 = 180 := by kernel_rfl
@[simp] theorem fk183_4 : fieldOk Try.prog 183 4 = true := by kernel_rfl
@[simp] theorem ff183_4 : fieldOff Try.prog 183 4 = 4 := by kernel_rfl
@[simp] theorem ft183_4 : fieldTy Try.prog 183 4 = 181 := by kernel_rfl
@[simp] theorem bk183_4 : bOk Try.prog 183 4 = true := by kernel_rfl
@[simp] theorem bf183_4 : bOff Try.prog 183 4 = 4 := by kernel_rfl
@[simp] theorem bt183_4 : bTy Try.prog 183 4 = 181 := by kernel_rfl
@[simp] theorem ty196 : tyOk Try.prog 196 = true := by kernel_rfl
@[simp] theorem ce196 : Try.prog.cellsOf 196 = 2 := by kernel_rfl
@[simp] theorem ag196 : aggT Try.prog 196 = true := by kernel_rfl
@[simp] theorem by196 : Try.prog.bytesOf 196 = 16 := by kernel_rfl
@[simp] theorem un196 : (Try.prog.underlying 196).isSome = true := by kernel_rfl
@[simp] theorem zr196 : zrow Try.prog 12 196 = some [.d (.int .i64 0), .d (.bool false)] := by kernel_rfl
@[simp] theorem ze196 : zeroOk Try.prog 196 = true := by kernel_rfl
@[simp] theorem in196 : intT Try.prog 196 = none := by kernel_rfl
@[simp] theorem eq196 : eqOk Try.prog 196 = true := by kernel_rfl
@[simp] theorem fs196 : fieldTs Try.prog 196 = [3, 4] := by kernel_rfl
@[simp] theorem fk196_0 : fieldOk Try.prog 196 0 = true := by kernel_rfl
@[simp] theorem ff196_0 : fieldOff Try.prog 196 0 = 0 := by kernel_rfl
@[simp] theorem ft196_0 : fieldTy Try.prog 196 0 = 3 := by kernel_rfl
@[simp] theorem bk196_0 : bOk Try.prog 196 0 = true := by kernel_rfl
@[simp] theorem bf196_0 : bOff Try.prog 196 0 = 0 := by kernel_rfl
@[simp] theorem bt196_0 : bTy Try.prog 196 0 = 3 := by kernel_rfl
@[simp] theorem fk196_1 : fieldOk Try.prog 196 1 = true := by kernel_rfl
@[simp] theorem ff196_1 : fieldOff Try.prog 196 1 = 1 := by kernel_rfl
@[simp] theorem ft196_1 : fieldTy Try.prog 196 1 = 4 := by kernel_rfl
@[simp] theorem bk196_1 : bOk Try.prog 196 1 = true := by kernel_rfl
@[simp] theorem bf196_1 : bOff Try.prog 196 1 = 1 := by kernel_rfl
@[simp] theorem bt196_1 : bTy Try.prog 196 1 = 4 := by kernel_rfl
@[simp] theorem ty198 : tyOk Try.prog 198 = true := by kernel_rfl
@[simp] theorem ce198 : Try.prog.cellsOf 198 = 5 := by kernel_rfl
@[simp] theorem ag198 : aggT Try.prog 198 = true := by kernel_rfl
@[simp] theorem by198 : Try.prog.bytesOf 198 = 40 := by kernel_rfl
@[simp] theorem un198 : (Try.prog.underlying 198).isSome = true := by kernel_rfl
@[simp] theorem zr198 : zrow Try.prog 12 198 = some [.d (.int .i64 0), .d (.int .i64 0), .d (.int .i64 0), .d (.int .i64 0), .d (.int .i64 0)] := by kernel_rfl
@[simp] theorem ze198 : zeroOk Try.prog 198 = true := by kernel_rfl
@[simp] theorem in198 : intT Try.prog 198 = none := by kernel_rfl
@[simp] theorem eq198 : eqOk Try.prog 198 = true := by kernel_rfl
@[simp] theorem fs198 : fieldTs Try.prog 198 = [3, 3, 3, 3, 3] := by kernel_rfl
@[simp] theorem fk198_0 : fieldOk Try.prog 198 0 = true := by kernel_rfl
@[simp] theorem ff198_0 : fieldOff Try.prog 198 0 = 0 := by kernel_rfl
@[simp] theorem ft198_0 : fieldTy Try.prog 198 0 = 3 := by kernel_rfl
@[simp] theorem bk198_0 : bOk Try.prog 198 0 = true := by kernel_rfl
@[simp] theorem bf198_0 : bOff Try.prog 198 0 = 0 := by kernel_rfl
@[simp] theorem bt198_0 : bTy Try.prog 198 0 = 3 := by kernel_rfl
@[simp] theorem fk198_1 : fieldOk Try.prog 198 1 = true := by kernel_rfl
@[simp] theorem ff198_1 : fieldOff Try.prog 198 1 = 1 := by kernel_rfl
@[simp] theorem ft198_1 : fieldTy Try.prog 198 1 = 3 := by kernel_rfl
@[simp] theorem bk198_1 : bOk Try.prog 198 1 = true := by kernel_rfl
@[simp] theorem bf198_1 : bOff Try.prog 198 1 = 1 := by kernel_rfl
@[simp] theorem bt198_1 : bTy Try.prog 198 1 = 3 := by kernel_rfl
@[simp] theorem fk198_2 : fieldOk Try.prog 198 2 = true := by kernel_rfl
@[simp] theorem ff198_2 : fieldOff Try.prog 198 2 = 2 := by kernel_rfl
@[simp] theorem ft198_2 : fieldTy Try.prog 198 2 = 3 := by kernel_rfl
@[simp] theorem bk198_2 : bOk Try.prog 198 2 = true := by kernel_rfl
@[simp] theorem bf198_2 : bOff Try.prog 198 2 = 2 := by kernel_rfl
@[simp] theorem bt198_2 : bTy Try.prog 198 2 = 3 := by kernel_rfl
@[simp] theorem fk198_3 : fieldOk Try.prog 198 3 = true := by kernel_rfl
@[simp] theorem ff198_3 : fieldOff Try.prog 198 3 = 3 := by kernel_rfl
@[simp] theorem ft198_3 : fieldTy Try.prog 198 3 = 3 := by kernel_rfl
@[simp] theorem bk198_3 : bOk Try.prog 198 3 = true := by kernel_rfl
@[simp] theorem bf198_3 : bOff Try.prog 198 3 = 3 := by kernel_rfl
@[simp] theorem bt198_3 : bTy Try.prog 198 3 = 3 := by kernel_rfl
@[simp] theorem fk198_4 : fieldOk Try.prog 198 4 = true := by kernel_rfl
@[simp] theorem ff198_4 : fieldOff Try.prog 198 4 = 4 := by kernel_rfl
@[simp] theorem ft198_4 : fieldTy Try.prog 198 4 = 3 := by kernel_rfl
@[simp] theorem bk198_4 : bOk Try.prog 198 4 = true := by kernel_rfl
@[simp] theorem bf198_4 : bOff Try.prog 198 4 = 4 := by kernel_rfl
@[simp] theorem bt198_4 : bTy Try.prog 198 4 = 3 := by kernel_rfl
@[simp] theorem ty210 : tyOk Try.prog 210 = true := by kernel_rfl
@[simp] theorem ce210 : Try.prog.cellsOf 210 = 1 := by kernel_rfl
@[simp] theorem ag210 : aggT Try.prog 210 = false := by kernel_rfl
@[simp] theorem by210 : Try.prog.bytesOf 210 = 1 := by kernel_rfl
@[simp] theorem un210 : (Try.prog.underlying 210).isSome = true := by kernel_rfl
@[simp] theorem zr210 : zrow Try.prog 12 210 = some [.d (.int .u8 0)] := by kernel_rfl
@[simp] theorem ze210 : zeroOk Try.prog 210 = true := by kernel_rfl
@[simp] theorem in210 : intT Try.prog 210 = some .u8 := by kernel_rfl
end Go.Proofs.Ytllfgbhplfhdkaa
