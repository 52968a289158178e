/- The facts of the plain types of the program, by evaluation. No condition. -/
import Derived.Test.YtdbemnnipjknfaaGreatVe
import Derived.Test.YtdbemnnipjknfaaGreatProg
namespace Go.Proofs.YtdbemnnipjknfaaGreat
open Go.Vm
@[simp] theorem ty2 : tyOk Tryz.prog 2 = true := by kernel_rfl
@[simp] theorem ce2 : Tryz.prog.cellsOf 2 = 1 := by kernel_rfl
@[simp] theorem ag2 : aggT Tryz.prog 2 = false := by kernel_rfl
@[simp] theorem by2 : Tryz.prog.bytesOf 2 = 8 := by kernel_rfl
@[simp] theorem un2 : (Tryz.prog.underlying 2).isSome = true := by kernel_rfl
@[simp] theorem zr2 : zrow Tryz.prog 12 2 = some [.d (.int .i64 0)] := by kernel_rfl
@[simp] theorem ze2 : zeroOk Tryz.prog 2 = true := by kernel_rfl
@[simp] theorem in2 : intT Tryz.prog 2 = some .i64 := by kernel_rfl
@[simp] theorem ty3 : tyOk Tryz.prog 3 = true := by kernel_rfl
@[simp] theorem ce3 : Tryz.prog.cellsOf 3 = 1 := by kernel_rfl
@[simp] theorem ag3 : aggT Tryz.prog 3 = false := by kernel_rfl
@[simp] theorem by3 : Tryz.prog.bytesOf 3 = 8 := by kernel_rfl
@[simp] theorem un3 : (Tryz.prog.underlying 3).isSome = true := by kernel_rfl
@[simp] theorem zr3 : zrow Tryz.prog 12 3 = some [.d (.int .i64 0)] := by kernel_rfl
@[simp] theorem ze3 : zeroOk Tryz.prog 3 = true := by kernel_rfl
@[simp] theorem in3 : intT Tryz.prog 3 = some .i64 := by kernel_rfl
@[simp] theorem ty4 : tyOk Tryz.prog 4 = true := by kernel_rfl
@[simp] theorem ce4 : Tryz.prog.cellsOf 4 = 1 := by kernel_rfl
@[simp] theorem ag4 : aggT Tryz.prog 4 = false := by kernel_rfl
@[simp] theorem by4 : Tryz.prog.bytesOf 4 = 1 := by kernel_rfl
@[simp] theorem un4 : (Tryz.prog.underlying 4).isSome = true := by kernel_rfl
@[simp] theorem zr4 : zrow Tryz.prog 12 4 = some [.d (.bool false)] := by kernel_rfl
@[simp] theorem ze4 : zeroOk Tryz.prog 4 = true := by kernel_rfl
@[simp] theorem in4 : intT Tryz.prog 4 = none := by kernel_rfl
@[simp] theorem bo4 : boolT Tryz.prog 4 = true := by kernel_rfl
@[simp] theorem ty5 : tyOk Tryz.prog 5 = true := by kernel_rfl
@[simp] theorem ce5 : Tryz.prog.cellsOf 5 = 1 := by kernel_rfl
@[simp] theorem ag5 : aggT Tryz.prog 5 = false := by kernel_rfl
@[simp] theorem by5 : Tryz.prog.bytesOf 5 = 1 := by kernel_rfl
@[simp] theorem un5 : (Tryz.prog.underlying 5).isSome = true := by kernel_rfl
@[simp] theorem zr5 : zrow Tryz.prog 12 5 = some [.d (.int .u8 0)] := by kernel_rfl
@[simp] theorem ze5 : zeroOk Tryz.prog 5 = true := by kernel_rfl
@[simp] theorem in5 : intT Tryz.prog 5 = some .u8 := by kernel_rfl
@[simp] theorem ty6 : tyOk Tryz.prog 6 = true := by kernel_rfl
@[simp] theorem ce6 : Tryz.prog.cellsOf 6 = 1 := by kernel_rfl
@[simp] theorem ag6 : aggT Tryz.prog 6 = false := by kernel_rfl
@[simp] theorem by6 : Tryz.prog.bytesOf 6 = 1 := by kernel_rfl
@[simp] theorem un6 : (Tryz.prog.underlying 6).isSome = true := by kernel_rfl
@[simp] theorem zr6 : zrow Tryz.prog 12 6 = some [.d (.int .u8 0)] := by kernel_rfl
@[simp] theorem ze6 : zeroOk Tryz.prog 6 = true := by kernel_rfl
@[simp] theorem in6 : intT Tryz.prog 6 = some .u8 := by kernel_rfl
@[simp] theorem ty8 : tyOk Tryz.prog 8 = true := by kernel_rfl
@[simp] theorem ce8 : Tryz.prog.cellsOf 8 = 4 := by kernel_rfl
@[simp] theorem ag8 : aggT Tryz.prog 8 = true := by kernel_rfl
@[simp] theorem by8 : Tryz.prog.bytesOf 8 = 24 := by kernel_rfl
@[simp] theorem un8 : (Tryz.prog.underlying 8).isSome = true := by kernel_rfl
@[simp] theorem zr8 : zrow Tryz.prog 12 8 = some [.d (.int .i64 0), .d (.int .i64 0), .d (.bool false), .d (.int .u8 0)] := by kernel_rfl
@[simp] theorem ze8 : zeroOk Tryz.prog 8 = true := by kernel_rfl
@[simp] theorem in8 : intT Tryz.prog 8 = none := by kernel_rfl
@[simp] theorem fk8_0 : fieldOk Tryz.prog 8 0 = true := by kernel_rfl
@[simp] theorem ff8_0 : fieldOff Tryz.prog 8 0 = 0 := by kernel_rfl
@[simp] theorem ft8_0 : fieldTy Tryz.prog 8 0 = 2 := by kernel_rfl
@[simp] theorem bk8_0 : bOk Tryz.prog 8 0 = true := by kernel_rfl
@[simp] theorem bf8_0 : bOff Tryz.prog 8 0 = 0 := by kernel_rfl
@[simp] theorem bt8_0 : bTy Tryz.prog 8 0 = 2 := by kernel_rfl
@[simp] theorem fk8_1 : fieldOk Tryz.prog 8 1 = true := by kernel_rfl
@[simp] theorem ff8_1 : fieldOff Tryz.prog 8 1 = 1 := by kernel_rfl
@[simp] theorem ft8_1 : fieldTy Tryz.prog 8 1 = 3 := by kernel_rfl
@[simp] theorem bk8_1 : bOk Tryz.prog 8 1 = true := by kernel_rfl
@[simp] theorem bf8_1 : bOff Tryz.prog 8 1 = 1 := by kernel_rfl
@[simp] theorem bt8_1 : bTy Tryz.prog 8 1 = 3 := by kernel_rfl
@[simp] theorem fk8_2 : fieldOk Tryz.prog 8 2 = true := by kernel_rfl
@[simp] theorem ff8_2 : fieldOff Tryz.prog 8 2 = 2 := by kernel_rfl
@[simp] theorem ft8_2 : fieldTy Tryz.prog 8 2 = 4 := by kernel_rfl
@[simp] theorem bk8_2 : bOk Tryz.prog 8 2 = true := by kernel_rfl
@[simp] theorem bf8_2 : bOff Tryz.prog 8 2 = 2 := by kernel_rfl
@[simp] theorem bt8_2 : bTy Tryz.prog 8 2 = 4 := by kernel_rfl
@[simp] theorem fk8_3 : fieldOk Tryz.prog 8 3 = true := by kernel_rfl
@[simp] theorem ff8_3 : fieldOff Tryz.prog 8 3 = 3 := by kernel_rfl
@[simp] theorem ft8_3 : fieldTy Tryz.prog 8 3 = 6 := by kernel_rfl
@[simp] theorem bk8_3 : bOk Tryz.prog 8 3 = true := by kernel_rfl
@[simp] theorem bf8_3 : bOff Tryz.prog 8 3 = 3 := by kernel_rfl
@[simp] theorem bt8_3 : bTy Tryz.prog 8 3 = 6 := by kernel_rfl
@[simp] theorem ty9 : tyOk Tryz.prog 9 = true := by kernel_rfl
@[simp] theorem ce9 : Tryz.prog.cellsOf 9 = 1 := by kernel_rfl
@[simp] theorem ag9 : aggT Tryz.prog 9 = false := by kernel_rfl
@[simp] theorem by9 : Tryz.prog.bytesOf 9 = 16 := by kernel_rfl
@[simp] theorem un9 : (Tryz.prog.underlying 9).isSome = true := by kernel_rfl
@[simp] theorem zr9 : zrow Tryz.prog 12 9 = some [.d (.str ⟨#[]⟩)] := by kernel_rfl
@[simp] theorem ze9 : zeroOk Tryz.prog 9 = true := by kernel_rfl
@[simp] theorem in9 : intT Tryz.prog 9 = none := by kernel_rfl
@[simp] theorem st9 : strT Tryz.prog 9 = true := by kernel_rfl
@[simp] theorem ty10 : tyOk Tryz.prog 10 = true := by kernel_rfl
@[simp] theorem ce10 : Tryz.prog.cellsOf 10 = 1 := by kernel_rfl
@[simp] theorem ag10 : aggT Tryz.prog 10 = false := by kernel_rfl
@[simp] theorem by10 : Tryz.prog.bytesOf 10 = 16 := by kernel_rfl
@[simp] theorem un10 : (Tryz.prog.underlying 10).isSome = true := by kernel_rfl
@[simp] theorem zr10 : zrow Tryz.prog 12 10 = some [.d (.str ⟨#[]⟩)] := by kernel_rfl
@[simp] theorem ze10 : zeroOk Tryz.prog 10 = true := by kernel_rfl
@[simp] theorem in10 : intT Tryz.prog 10 = none := by kernel_rfl
@[simp] theorem st10 : strT Tryz.prog 10 = true := by kernel_rfl
@[simp] theorem ty11 : tyOk Tryz.prog 11 = true := by kernel_rfl
@[simp] theorem ce11 : Tryz.prog.cellsOf 11 = 1 := by kernel_rfl
@[simp] theorem ag11 : aggT Tryz.prog 11 = false := by kernel_rfl
@[simp] theorem by11 : Tryz.prog.bytesOf 11 = 16 := by kernel_rfl
@[simp] theorem un11 : (Tryz.prog.underlying 11).isSome = true := by kernel_rfl
@[simp] theorem zr11 : zrow Tryz.prog 12 11 = some [.d (.str ⟨#[]⟩)] := by kernel_rfl
@[simp] theorem ze11 : zeroOk Tryz.prog 11 = true := by kernel_rfl
@[simp] theorem in11 : intT Tryz.prog 11 = none := by kernel_rfl
@[simp] theorem st11 : strT Tryz.prog 11 = true := by kernel_rfl
@[simp] theorem ty12 : tyOk Tryz.prog 12 = true := by kernel_rfl
@[simp] theorem ce12 : Tryz.prog.cellsOf 12 = 1 := by kernel_rfl
@[simp] theorem ag12 : aggT Tryz.prog 12 = false := by kernel_rfl
@[simp] theorem by12 : Tryz.prog.bytesOf 12 = 8 := by kernel_rfl
@[simp] theorem un12 : (Tryz.prog.underlying 12).isSome = true := by kernel_rfl
@[simp] theorem zr12 : zrow Tryz.prog 12 12 = some [.d (.int .u64 0)] := by kernel_rfl
@[simp] theorem ze12 : zeroOk Tryz.prog 12 = true := by kernel_rfl
@[simp] theorem in12 : intT Tryz.prog 12 = some .u64 := by kernel_rfl
@[simp] theorem ty14 : tyOk Tryz.prog 14 = true := by kernel_rfl
@[simp] theorem ce14 : Tryz.prog.cellsOf 14 = 2 := by kernel_rfl
@[simp] theorem ag14 : aggT Tryz.prog 14 = true := by kernel_rfl
@[simp] theorem by14 : Tryz.prog.bytesOf 14 = 24 := by kernel_rfl
@[simp] theorem un14 : (Tryz.prog.underlying 14).isSome = true := by kernel_rfl
@[simp] theorem zr14 : zrow Tryz.prog 12 14 = some [.d (.str ⟨#[]⟩), .d (.int .u64 0)] := by kernel_rfl
@[simp] theorem ze14 : zeroOk Tryz.prog 14 = true := by kernel_rfl
@[simp] theorem in14 : intT Tryz.prog 14 = none := by kernel_rfl
@[simp] theorem fk14_0 : fieldOk Tryz.prog 14 0 = true := by kernel_rfl
@[simp] theorem ff14_0 : fieldOff Tryz.prog 14 0 = 0 := by kernel_rfl
@[simp] theorem ft14_0 : fieldTy Tryz.prog 14 0 = 9 := by kernel_rfl
@[simp] theorem bk14_0 : bOk Tryz.prog 14 0 = true := by kernel_rfl
@[simp] theorem bf14_0 : bOff Tryz.prog 14 0 = 0 := by kernel_rfl
@[simp] theorem bt14_0 : bTy Tryz.prog 14 0 = 9 := by kernel_rfl
@[simp] theorem fk14_1 : fieldOk Tryz.prog 14 1 = true := by kernel_rfl
@[simp] theorem ff14_1 : fieldOff Tryz.prog 14 1 = 1 := by kernel_rfl
@[simp] theorem ft14_1 : fieldTy Tryz.prog 14 1 = 12 := by kernel_rfl
@[simp] theorem bk14_1 : bOk Tryz.prog 14 1 = true := by kernel_rfl
@[simp] theorem bf14_1 : bOff Tryz.prog 14 1 = 1 := by kernel_rfl
@[simp] theorem bt14_1 : bTy Tryz.prog 14 1 = 12 := by kernel_rfl
@[simp] theorem ty22 : tyOk Tryz.prog 22 = true := by kernel_rfl
@[simp] theorem ce22 : Tryz.prog.cellsOf 22 = 1 := by kernel_rfl
@[simp] theorem ag22 : aggT Tryz.prog 22 = false := by kernel_rfl
@[simp] theorem by22 : Tryz.prog.bytesOf 22 = 24 := by kernel_rfl
@[simp] theorem un22 : (Tryz.prog.underlying 22).isSome = true := by kernel_rfl
@[simp] theorem zr22 : zrow Tryz.prog 12 22 = some [.nil 5] := by kernel_rfl
@[simp] theorem ze22 : zeroOk Tryz.prog 22 = true := by kernel_rfl
@[simp] theorem in22 : intT Tryz.prog 22 = none := by kernel_rfl
@[simp] theorem sl22 : sliceT Tryz.prog 22 = true := by kernel_rfl
@[simp] theorem el22 : elemT Tryz.prog 22 = 132 := by kernel_rfl
@[simp] theorem bs22 : byteT Tryz.prog 22 = false := by kernel_rfl
@[simp] theorem st22 : strT Tryz.prog 22 = false := by kernel_rfl
@[simp] theorem ty23 : tyOk Tryz.prog 23 = true := by kernel_rfl
@[simp] theorem ce23 : Tryz.prog.cellsOf 23 = 1 := by kernel_rfl
@[simp] theorem ag23 : aggT Tryz.prog 23 = false := by kernel_rfl
@[simp] theorem by23 : Tryz.prog.bytesOf 23 = 24 := by kernel_rfl
@[simp] theorem un23 : (Tryz.prog.underlying 23).isSome = true := by kernel_rfl
@[simp] theorem zr23 : zrow Tryz.prog 12 23 = some [.nil 3] := by kernel_rfl
@[simp] theorem ze23 : zeroOk Tryz.prog 23 = true := by kernel_rfl
@[simp] theorem in23 : intT Tryz.prog 23 = none := by kernel_rfl
@[simp] theorem sl23 : sliceT Tryz.prog 23 = true := by kernel_rfl
@[simp] theorem el23 : elemT Tryz.prog 23 = 134 := by kernel_rfl
@[simp] theorem bs23 : byteT Tryz.prog 23 = false := by kernel_rfl
@[simp] theorem st23 : strT Tryz.prog 23 = false := by kernel_rfl
@[simp] theorem ty24 : tyOk Tryz.prog 24 = true := by kernel_rfl
@[simp] theorem ce24 : Tryz.prog.cellsOf 24 = 1 := by kernel_rfl
@[simp] theorem ag24 : aggT Tryz.prog 24 = false := by kernel_rfl
@[simp] theorem by24 : Tryz.prog.bytesOf 24 = 24 := by kernel_rfl
@[simp] theorem un24 : (Tryz.prog.underlying 24).isSome = true := by kernel_rfl
@[simp] theorem zr24 : zrow Tryz.prog 12 24 = some [.nil 4] := by kernel_rfl
@[simp] theorem ze24 : zeroOk Tryz.prog 24 = true := by kernel_rfl
@[simp] theorem in24 : intT Tryz.prog 24 = none := by kernel_rfl
@[simp] theorem sl24 : sliceT Tryz.prog 24 = true := by kernel_rfl
@[simp] theorem el24 : elemT Tryz.prog 24 = 136 := by kernel_rfl
@[simp] theorem bs24 : byteT Tryz.prog 24 = false := by kernel_rfl
@[simp] theorem st24 : strT Tryz.prog 24 = false := by kernel_rfl
@[simp] theorem ty26 : tyOk Tryz.prog 26 = true := by kernel_rfl
@[simp] theorem ce26 : Tryz.prog.cellsOf 26 = 5 := by kernel_rfl
@[simp] theorem ag26 : aggT Tryz.prog 26 = true := by kernel_rfl
@[simp] theorem by26 : Tryz.prog.bytesOf 26 = 88 := by kernel_rfl
@[simp] theorem un26 : (Tryz.prog.underlying 26).isSome = true := by kernel_rfl
@[simp] theorem zr26 : zrow Tryz.prog 12 26 = some [.nil 5, .nil 3, .nil 4, .d (.int .i64 0), .d (.int .i64 0)] := by kernel_rfl
@[simp] theorem ze26 : zeroOk Tryz.prog 26 = true := by kernel_rfl
@[simp] theorem in26 : intT Tryz.prog 26 = none := by kernel_rfl
@[simp] theorem fk26_0 : fieldOk Tryz.prog 26 0 = true := by kernel_rfl
@[simp] theorem ff26_0 : fieldOff Tryz.prog 26 0 = 0 := by kernel_rfl
@[simp] theorem ft26_0 : fieldTy Tryz.prog 26 0 = 22 := by kernel_rfl
@[simp] theorem bk26_0 : bOk Tryz.prog 26 0 = true := by kernel_rfl
@[simp] theorem bf26_0 : bOff Tryz.prog 26 0 = 0 := by kernel_rfl
@[simp] theorem bt26_0 : bTy Tryz.prog 26 0 = 22 := by kernel_rfl
@[simp] theorem fk26_1 : fieldOk Tryz.prog 26 1 = true := by kernel_rfl
@[simp] theorem ff26_1 : fieldOff Tryz.prog 26 1 = 1 := by kernel_rfl
@[simp] theorem ft26_1 : fieldTy Tryz.prog 26 1 = 23 := by kernel_rfl
@[simp] theorem bk26_1 : bOk Tryz.prog 26 1 = true := by kernel_rfl
@[simp] theorem bf26_1 : bOff Tryz.prog 26 1 = 1 := by kernel_rfl
@[simp] theorem bt26_1 : bTy Tryz.prog 26 1 = 23 := by kernel_rfl
@[simp] theorem fk26_2 : fieldOk Tryz.prog 26 2 = true := by kernel_rfl
@[simp] theorem ff26_2 : fieldOff Tryz.prog 26 2 = 2 := by kernel_rfl
@[simp] theorem ft26_2 : fieldTy Tryz.prog 26 2 = 24 := by kernel_rfl
@[simp] theorem bk26_2 : bOk Tryz.prog 26 2 = true := by kernel_rfl
@[simp] theorem bf26_2 : bOff Tryz.prog 26 2 = 2 := by kernel_rfl
@[simp] theorem bt26_2 : bTy Tryz.prog 26 2 = 24 := by kernel_rfl
@[simp] theorem fk26_3 : fieldOk Tryz.prog 26 3 = true := by kernel_rfl
@[simp] theorem ff26_3 : fieldOff Tryz.prog 26 3 = 3 := by kernel_rfl
@[simp] theorem ft26_3 : fieldTy Tryz.prog 26 3 = 3 := by kernel_rfl
@[simp] theorem bk26_3 : bOk Tryz.prog 26 3 = true := by kernel_rfl
@[simp] theorem bf26_3 : bOff Tryz.prog 26 3 = 3 := by kernel_rfl
@[simp] theorem bt26_3 : bTy Tryz.prog 26 3 = 3 := by kernel_rfl
@[simp] theorem fk26_4 : fieldOk Tryz.prog 26 4 = true := by kernel_rfl
@[simp] theorem ff26_4 : fieldOff Tryz.prog 26 4 = 4 := by kernel_rfl
@[simp] theorem ft26_4 : fieldTy Tryz.prog 26 4 = 3 := by kernel_rfl
@[simp] theorem bk26_4 : bOk Tryz.prog 26 4 = true := by kernel_rfl
@[simp] theorem bf26_4 : bOff Tryz.prog 26 4 = 4 := by kernel_rfl
@[simp] theorem bt26_4 : bTy Tryz.prog 26 4 = 3 := by kernel_rfl
@[simp] theorem ty27 : tyOk Tryz.prog 27 = true := by kernel_rfl
@[simp] theorem ce27 : Tryz.prog.cellsOf 27 = 1 := by kernel_rfl
@[simp] theorem ag27 : aggT Tryz.prog 27 = false := by kernel_rfl
@[simp] theorem by27 : Tryz.prog.bytesOf 27 = 24 := by kernel_rfl
@[simp] theorem un27 : (Tryz.prog.underlying 27).isSome = true := by kernel_rfl
@[simp] theorem zr27 : zrow Tryz.prog 12 27 = some [.nil 7] := by kernel_rfl
@[simp] theorem ze27 : zeroOk Tryz.prog 27 = true := by kernel_rfl
@[simp] theorem in27 : intT Tryz.prog 27 = none := by kernel_rfl
@[simp] theorem sl27 : sliceT Tryz.prog 27 = true := by kernel_rfl
@[simp] theorem el27 : elemT Tryz.prog 27 = 105 := by kernel_rfl
@[simp] theorem bs27 : byteT Tryz.prog 27 = false := by kernel_rfl
@[simp] theorem st27 : strT Tryz.prog 27 = false := by kernel_rfl
@[simp] theorem ty28 : tyOk Tryz.prog 28 = true := by kernel_rfl
@[simp] theorem ce28 : Tryz.prog.cellsOf 28 = 1 := by kernel_rfl
@[simp] theorem ag28 : aggT Tryz.prog 28 = false := by kernel_rfl
@[simp] theorem by28 : Tryz.prog.bytesOf 28 = 24 := by kernel_rfl
@[simp] theorem un28 : (Tryz.prog.underlying 28).isSome = true := by kernel_rfl
@[simp] theorem zr28 : zrow Tryz.prog 12 28 = some [.nil 1] := by kernel_rfl
@[simp] theorem ze28 : zeroOk Tryz.prog 28 = true := by kernel_rfl
@[simp] theorem in28 : intT Tryz.prog 28 = none := by kernel_rfl
@[simp] theorem sl28 : sliceT Tryz.prog 28 = true := by kernel_rfl
@[simp] theorem el28 : elemT Tryz.prog 28 = 3 := by kernel_rfl
@[simp] theorem bs28 : byteT Tryz.prog 28 = false := by kernel_rfl
@[simp] theorem st28 : strT Tryz.prog 28 = false := by kernel_rfl
@[simp] theorem ty29 : tyOk Tryz.prog 29 = true := by kernel_rfl
@[simp] theorem ce29 : Tryz.prog.cellsOf 29 = 1 := by kernel_rfl
@[simp] theorem ag29 : aggT Tryz.prog 29 = false := by kernel_rfl
@[simp] theorem by29 : Tryz.prog.bytesOf 29 = 24 := by kernel_rfl
@[simp] theorem un29 : (Tryz.prog.underlying 29).isSome = true := by kernel_rfl
@[simp] theorem zr29 : zrow Tryz.prog 12 29 = some [.nil 2] := by kernel_rfl
@[simp] theorem ze29 : zeroOk Tryz.prog 29 = true := by kernel_rfl
@[simp] theorem in29 : intT Tryz.prog 29 = none := by kernel_rfl
@[simp] theorem sl29 : sliceT Tryz.prog 29 = true := by kernel_rfl
@[simp] theorem el29 : elemT Tryz.prog 29 = 94 := by kernel_rfl
@[simp] theorem bs29 : byteT Tryz.prog 29 = false := by kernel_rfl
@[simp] theorem st29 : strT Tryz.prog 29 = false := by kernel_rfl
@[simp] theorem ty31 : tyOk Tryz.prog 31 = true := by kernel_rfl
@[simp] theorem ce31 : Tryz.prog.cellsOf 31 = 12 := by kernel_rfl
@[simp] theorem ag31 : aggT Tryz.prog 31 = true := by kernel_rfl
@[simp] theorem by31 : Tryz.prog.bytesOf 31 = 240 := by kernel_rfl
@[simp] theorem un31 : (Tryz.prog.underlying 31).isSome = true := by kernel_rfl
@[simp] theorem zr31 : zrow Tryz.prog 12 31 = some [.nil 5, .nil 3, .nil 4, .d (.int .i64 0), .d (.int .i64 0), .nil 7, .nil 1, .nil 2, .nil 1, .nil 1, .d (.int .i64 0), .nil 1] := by kernel_rfl
@[simp] theorem ze31 : zeroOk Tryz.prog 31 = true := by kernel_rfl
@[simp] theorem in31 : intT Tryz.prog 31 = none := by kernel_rfl
@[simp] theorem fk31_0 : fieldOk Tryz.prog 31 0 = true := by kernel_rfl
@[simp] theorem ff31_0 : fieldOff Tryz.prog 31 0 = 0 := by kernel_rfl
@[simp] theorem ft31_0 : fieldTy Tryz.prog 31 0 = 26 := by kernel_rfl
@[simp] theorem bk31_0 : bOk Tryz.prog 31 0 = true := by kernel_rfl
@[simp] theorem bf31_0 : bOff Tryz.prog 31 0 = 0 := by kernel_rfl
@[simp] theorem bt31_0 : bTy Tryz.prog 31 0 = 26 := by kernel_rfl
@[simp] theorem fk31_1 : fieldOk Tryz.prog 31 1 = true := by kernel_rfl
@[simp] theorem ff31_1 : fieldOff Tryz.prog 31 1 = 5 := by kernel_rfl
@[simp] theorem ft31_1 : fieldTy Tryz.prog 31 1 = 27 := by kernel_rfl
@[simp] theorem bk31_1 : bOk Tryz.prog 31 1 = true := by kernel_rfl
@[simp] theorem bf31_1 : bOff Tryz.prog 31 1 = 5 := by kernel_rfl
@[simp] theorem bt31_1 : bTy Tryz.prog 31 1 = 27 := by kernel_rfl
@[simp] theorem fk31_2 : fieldOk Tryz.prog 31 2 = true := by kernel_rfl
@[simp] theorem ff31_2 : fieldOff Tryz.prog 31 2 = 6 := by kernel_rfl
@[simp] theorem ft31_2 : fieldTy Tryz.prog 31 2 = 28 := by kernel_rfl
@[simp] theorem bk31_2 : bOk Tryz.prog 31 2 = true := by kernel_rfl
@[simp] theorem bf31_2 : bOff Tryz.prog 31 2 = 6 := by kernel_rfl
@[simp] theorem bt31_2 : bTy Tryz.prog 31 2 = 28 := by kernel_rfl
@[simp] theorem fk31_3 : fieldOk Tryz.prog 31 3 = true := by kernel_rfl
@[simp] theorem ff31_3 : fieldOff Tryz.prog 31 3 = 7 := by kernel_rfl
@[simp] theorem ft31_3 : fieldTy Tryz.prog 31 3 = 29 := by kernel_rfl
@[simp] theorem bk31_3 : bOk Tryz.prog 31 3 = true := by kernel_rfl
@[simp] theorem bf31_3 : bOff Tryz.prog 31 3 = 7 := by kernel_rfl
@[simp] theorem bt31_3 : bTy Tryz.prog 31 3 = 29 := by kernel_rfl
@[simp] theorem fk31_4 : fieldOk Tryz.prog 31 4 = true := by kernel_rfl
@[simp] theorem ff31_4 : fieldOff Tryz.prog 31 4 = 8 := by kernel_rfl
@[simp] theorem ft31_4 : fieldTy Tryz.prog 31 4 = 28 := by kernel_rfl
@[simp] theorem bk31_4 : bOk Tryz.prog 31 4 = true := by kernel_rfl
@[simp] theorem bf31_4 : bOff Tryz.prog 31 4 = 8 := by kernel_rfl
@[simp] theorem bt31_4 : bTy Tryz.prog 31 4 = 28 := by kernel_rfl
@[simp] theorem fk31_5 : fieldOk Tryz.prog 31 5 = true := by kernel_rfl
@[simp] theorem ff31_5 : fieldOff Tryz.prog 31 5 = 9 := by kernel_rfl
@[simp] theorem ft31_5 : fieldTy Tryz.prog 31 5 = 28 := by kernel_rfl
@[simp] theorem bk31_5 : bOk Tryz.prog 31 5 = true := by kernel_rfl
@[simp] theorem bf31_5 : bOff Tryz.prog 31 5 = 9 := by kernel_rfl
@[simp] theorem bt31_5 : bTy Tryz.prog 31 5 = 28 := by kernel_rfl
@[simp] theorem fk31_6 : fieldOk Tryz.prog 31 6 = true := by kernel_rfl
@[simp] theorem ff31_6 : fieldOff Tryz.prog 31 6 = 10 := by kernel_rfl
@[simp] theorem ft31_6 : fieldTy Tryz.prog 31 6 = 3 := by kernel_rfl
@[simp] theorem bk31_6 : bOk Tryz.prog 31 6 = true := by kernel_rfl
@[simp] theorem bf31_6 : bOff Tryz.prog 31 6 = 10 := by kernel_rfl
@[simp] theorem bt31_6 : bTy Tryz.prog 31 6 = 3 := by kernel_rfl
@[simp] theorem fk31_7 : fieldOk Tryz.prog 31 7 = true := by kernel_rfl
@[simp] theorem ff31_7 : fieldOff Tryz.prog 31 7 = 11 := by kernel_rfl
@[simp] theorem ft31_7 : fieldTy Tryz.prog 31 7 = 28 := by kernel_rfl
@[simp] theorem bk31_7 : bOk Tryz.prog 31 7 = true := by kernel_rfl
@[simp] theorem bf31_7 : bOff Tryz.prog 31 7 = 11 := by kernel_rfl
@[simp] theorem bt31_7 : bTy Tryz.prog 31 7 = 28 := by kernel_rfl
@[simp] theorem ty34 : tyOk Tryz.prog 34 = true := by kernel_rfl
@[simp] theorem ce34 : Tryz.prog.cellsOf 34 = 1 := by kernel_rfl
@[simp] theorem ag34 : aggT Tryz.prog 34 = false := by kernel_rfl
@[simp] theorem by34 : Tryz.prog.bytesOf 34 = 24 := by kernel_rfl
@[simp] theorem un34 : (Tryz.prog.underlying 34).isSome = true := by kernel_rfl
@[simp] theorem zr34 : zrow Tryz.prog 12 34 = some [.nil 5] := by kernel_rfl
@[simp] theorem ze34 : zeroOk Tryz.prog 34 = true := by kernel_rfl
@[simp] theorem in34 : intT Tryz.prog 34 = none := by kernel_rfl
@[simp] theorem sl34 : sliceT Tryz.prog 34 = true := by kernel_rfl
@[simp] theorem el34 : elemT Tryz.prog 34 = 127 := by kernel_rfl
@[simp] theorem bs34 : byteT Tryz.prog 34 = false := by kernel_rfl
@[simp] theorem st34 : strT Tryz.prog 34 = false := by kernel_rfl
@[simp] theorem ty35 : tyOk Tryz.prog 35 = true := by kernel_rfl
@[simp] theorem ce35 : Tryz.prog.cellsOf 35 = 1 := by kernel_rfl
@[simp] theorem ag35 : aggT Tryz.prog 35 = false := by kernel_rfl
@[simp] theorem by35 : Tryz.prog.bytesOf 35 = 24 := by kernel_rfl
@[simp] theorem un35 : (Tryz.prog.underlying 35).isSome = true := by kernel_rfl
@[simp] theorem zr35 : zrow Tryz.prog 12 35 = some [.nil 3] := by kernel_rfl
@[simp] theorem ze35 : zeroOk Tryz.prog 35 = true := by kernel_rfl
@[simp] theorem in35 : intT Tryz.prog 35 = none := by kernel_rfl
@[simp] theorem sl35 : sliceT Tryz.prog 35 = true := by kernel_rfl
@[simp] theorem el35 : elemT Tryz.prog 35 = 96 := by kernel_rfl
@[simp] theorem bs35 : byteT Tryz.prog 35 = false := by kernel_rfl
@[simp] theorem st35 : strT Tryz.prog 35 = false := by kernel_rfl
@[simp] theorem ty36 : tyOk Tryz.prog 36 = true := by kernel_rfl
@[simp] theorem ce36 : Tryz.prog.cellsOf 36 = 1 := by kernel_rfl
@[simp] theorem ag36 : aggT Tryz.prog 36 = false := by kernel_rfl
@[simp] theorem by36 : Tryz.prog.bytesOf 36 = 24 := by kernel_rfl
@[simp] theorem un36 : (Tryz.prog.underlying 36).isSome = true := by kernel_rfl
@[simp] theorem zr36 : zrow Tryz.prog 12 36 = some [.nil 4] := by kernel_rfl
@[simp] theorem ze36 : zeroOk Tryz.prog 36 = true := by kernel_rfl
@[simp] theorem in36 : intT Tryz.prog 36 = none := by kernel_rfl
@[simp] theorem sl36 : sliceT Tryz.prog 36 = true := by kernel_rfl
@[simp] theorem el36 : elemT Tryz.prog 36 = 130 := by kernel_rfl
@[simp] theorem bs36 : byteT Tryz.prog 36 = false := by kernel_rfl
@[simp] theorem st36 : strT Tryz.prog 36 = false := by kernel_rfl
@[simp] theorem ty38 : tyOk Tryz.prog 38 = true := by kernel_rfl
@[simp] theorem ce38 : Tryz.prog.cellsOf 38 = 5 := by kernel_rfl
@[simp] theorem ag38 : aggT Tryz.prog 38 = true := by kernel_rfl
@[simp] theorem by38 : Tryz.prog.bytesOf 38 = 88 := by kernel_rfl
@[simp] theorem un38 : (Tryz.prog.underlying 38).isSome = true := by kernel_rfl
@[simp] theorem zr38 : zrow Tryz.prog 12 38 = some [.nil 5, .nil 3, .nil 4, .d (.int .i64 0), .d (.int .i64 0)] := by kernel_rfl
@[simp] theorem ze38 : zeroOk Tryz.prog 38 = true := by kernel_rfl
@[simp] theorem in38 : intT Tryz.prog 38 = none := by kernel_rfl
@[simp] theorem fk38_0 : fieldOk Tryz.prog 38 0 = true := by kernel_rfl
@[simp] theorem ff38_0 : fieldOff Tryz.prog 38 0 = 0 := by kernel_rfl
@[simp] theorem ft38_0 : fieldTy Tryz.prog 38 0 = 34 := by kernel_rfl
@[simp] theorem bk38_0 : bOk Tryz.prog 38 0 = true := by kernel_rfl
@[simp] theorem bf38_0 : bOff Tryz.prog 38 0 = 0 := by kernel_rfl
@[simp] theorem bt38_0 : bTy Tryz.prog 38 0 = 34 := by kernel_rfl
@[simp] theorem fk38_1 : fieldOk Tryz.prog 38 1 = true := by kernel_rfl
@[simp] theorem ff38_1 : fieldOff Tryz.prog 38 1 = 1 := by kernel_rfl
@[simp] theorem ft38_1 : fieldTy Tryz.prog 38 1 = 35 := by kernel_rfl
@[simp] theorem bk38_1 : bOk Tryz.prog 38 1 = true := by kernel_rfl
@[simp] theorem bf38_1 : bOff Tryz.prog 38 1 = 1 := by kernel_rfl
@[simp] theorem bt38_1 : bTy Tryz.prog 38 1 = 35 := by kernel_rfl
@[simp] theorem fk38_2 : fieldOk Tryz.prog 38 2 = true := by kernel_rfl
@[simp] theorem ff38_2 : fieldOff Tryz.prog 38 2 = 2 := by kernel_rfl
@[simp] theorem ft38_2 : fieldTy Tryz.prog 38 2 = 36 := by kernel_rfl
@[simp] theorem bk38_2 : bOk Tryz.prog 38 2 = true := by kernel_rfl
@[simp] theorem bf38_2 : bOff Tryz.prog 38 2 = 2 := by kernel_rfl
@[simp] theorem bt38_2 : bTy Tryz.prog 38 2 = 36 := by kernel_rfl
@[simp] theorem fk38_3 : fieldOk Tryz.prog 38 3 = true := by kernel_rfl
@[simp] theorem ff38_3 : fieldOff Tryz.prog 38 3 = 3 := by kernel_rfl
@[simp] theorem ft38_3 : fieldTy Tryz.prog 38 3 = 3 := by kernel_rfl
@[simp] theorem bk38_3 : bOk Tryz.prog 38 3 = true := by kernel_rfl
@[simp] theorem bf38_3 : bOff Tryz.prog 38 3 = 3 := by kernel_rfl
@[simp] theorem bt38_3 : bTy Tryz.prog 38 3 = 3 := by kernel_rfl
@[simp] theorem fk38_4 : fieldOk Tryz.prog 38 4 = true := by kernel_rfl
@[simp] theorem ff38_4 : fieldOff Tryz.prog 38 4 = 4 := by kernel_rfl
@[simp] theorem ft38_4 : fieldTy Tryz.prog 38 4 = 3 := by kernel_rfl
@[simp] theorem bk38_4 : bOk Tryz.prog 38 4 = true := by kernel_rfl
@[simp] theorem bf38_4 : bOff Tryz.prog 38 4 = 4 := by kernel_rfl
@[simp] theorem bt38_4 : bTy Tryz.prog 38 4 = 3 := by kernel_rfl
@[simp] theorem ty39 : tyOk Tryz.prog 39 = true := by kernel_rfl
@[simp] theorem ce39 : Tryz.prog.cellsOf 39 = 1 := by kernel_rfl
@[simp] theorem ag39 : aggT Tryz.prog 39 = false := by kernel_rfl
@[simp] theorem by39 : Tryz.prog.bytesOf 39 = 24 := by kernel_rfl
@[simp] theorem un39 : (Tryz.prog.underlying 39).isSome = true := by kernel_rfl
@[simp] theorem zr39 : zrow Tryz.prog 12 39 = some [.nil 7] := by kernel_rfl
@[simp] theorem ze39 : zeroOk Tryz.prog 39 = true := by kernel_rfl
@[simp] theorem in39 : intT Tryz.prog 39 = none := by kernel_rfl
@[simp] theorem sl39 : sliceT Tryz.prog 39 = true := by kernel_rfl
@[simp] theorem el39 : elemT Tryz.prog 39 = 61 := by kernel_rfl
@[simp] theorem bs39 : byteT Tryz.prog 39 = false := by kernel_rfl
@[simp] theorem st39 : strT Tryz.prog 39 = false := by kernel_rfl
@[simp] theorem ty40 : tyOk Tryz.prog 40 = true := by kernel_rfl
@[simp] theorem ce40 : Tryz.prog.cellsOf 40 = 1 := by kernel_rfl
@[simp] theorem ag40 : aggT Tryz.prog 40 = false := by kernel_rfl
@[simp] theorem by40 : Tryz.prog.bytesOf 40 = 24 := by kernel_rfl
@[simp] theorem un40 : (Tryz.prog.underlying 40).isSome = true := by kernel_rfl
@[simp] theorem zr40 : zrow Tryz.prog 12 40 = some [.nil 2] := by kernel_rfl
@[simp] theorem ze40 : zeroOk Tryz.prog 40 = true := by kernel_rfl
@[simp] theorem in40 : intT Tryz.prog 40 = none := by kernel_rfl
@[simp] theorem sl40 : sliceT Tryz.prog 40 = true := by kernel_rfl
@[simp] theorem el40 : elemT Tryz.prog 40 = 66 := by kernel_rfl
@[simp] theorem bs40 : byteT Tryz.prog 40 = false := by kernel_rfl
@[simp] theorem st40 : strT Tryz.prog 40 = false := by kernel_rfl
@[simp] theorem ty42 : tyOk Tryz.prog 42 = true := by kernel_rfl
@[simp] theorem ce42 : Tryz.prog.cellsOf 42 = 12 := by kernel_rfl
@[simp] theorem ag42 : aggT Tryz.prog 42 = true := by kernel_rfl
@[simp] theorem by42 : Tryz.prog.bytesOf 42 = 240 := by kernel_rfl
@[simp] theorem un42 : (Tryz.prog.underlying 42).isSome = true := by kernel_rfl
@[simp] theorem zr42 : zrow Tryz.prog 12 42 = some [.nil 5, .nil 3, .nil 4, .d (.int .i64 0), .d (.int .i64 0), .nil 7, .nil 1, .nil 2, .nil 1, .nil 1, .d (.int .i64 0), .nil 1] := by kernel_rfl
@[simp] theorem ze42 : zeroOk Tryz.prog 42 = true := by kernel_rfl
@[simp] theorem in42 : intT Tryz.prog 42 = none := by kernel_rfl
@[simp] theorem fk42_0 : fieldOk Tryz.prog 42 0 = true := by kernel_rfl
@[simp] theorem ff42_0 : fieldOff Tryz.prog 42 0 = 0 := by kernel_rfl
@[simp] theorem ft42_0 : fieldTy Tryz.prog 42 0 = 38 := by kernel_rfl
@[simp] theorem bk42_0 : bOk Tryz.prog 42 0 = true := by kernel_rfl
@[simp] theorem bf42_0 : bOff Tryz.prog 42 0 = 0 := by kernel_rfl
@[simp] theorem bt42_0 : bTy Tryz.prog 42 0 = 38 := by kernel_rfl
@[simp] theorem fk42_1 : fieldOk Tryz.prog 42 1 = true := by kernel_rfl
@[simp] theorem ff42_1 : fieldOff Tryz.prog 42 1 = 5 := by kernel_rfl
@[simp] theorem ft42_1 : fieldTy Tryz.prog 42 1 = 39 := by kernel_rfl
@[simp] theorem bk42_1 : bOk Tryz.prog 42 1 = true := by kernel_rfl
@[simp] theorem bf42_1 : bOff Tryz.prog 42 1 = 5 := by kernel_rfl
@[simp] theorem bt42_1 : bTy Tryz.prog 42 1 = 39 := by kernel_rfl
@[simp] theorem fk42_2 : fieldOk Tryz.prog 42 2 = true := by kernel_rfl
@[simp] theorem ff42_2 : fieldOff Tryz.prog 42 2 = 6 := by kernel_rfl
@[simp] theorem ft42_2 : fieldTy Tryz.prog 42 2 = 28 := by kernel_rfl
@[simp] theorem bk42_2 : bOk Tryz.prog 42 2 = true := by kernel_rfl
@[simp] theorem bf42_2 : bOff Tryz.prog 42 2 = 6 := by kernel_rfl
@[simp] theorem bt42_2 : bTy Tryz.prog 42 2 = 28 := by kernel_rfl
@[simp] theorem fk42_3 : fieldOk Tryz.prog 42 3 = true := by kernel_rfl
@[simp] theorem ff42_3 : fieldOff Tryz.prog 42 3 = 7 := by kernel_rfl
@[simp] theorem ft42_3 : fieldTy Tryz.prog 42 3 = 40 := by kernel_rfl
@[simp] theorem bk42_3 : bOk Tryz.prog 42 3 = true := by kernel_rfl
@[simp] theorem bf42_3 : bOff Tryz.prog 42 3 = 7 := by kernel_rfl
@[simp] theorem bt42_3 : bTy Tryz.prog 42 3 = 40 := by kernel_rfl
@[simp] theorem fk42_4 : fieldOk Tryz.prog 42 4 = true := by kernel_rfl
@[simp] theorem ff42_4 : fieldOff Tryz.prog 42 4 = 8 := by kernel_rfl
@[simp] theorem ft42_4 : fieldTy Tryz.prog 42 4 = 28 := by kernel_rfl
@[simp] theorem bk42_4 : bOk Tryz.prog 42 4 = true := by kernel_rfl
@[simp] theorem bf42_4 : bOff Tryz.prog 42 4 = 8 := by kernel_rfl
@[simp] theorem bt42_4 : bTy Tryz.prog 42 4 = 28 := by kernel_rfl
@[simp] theorem fk42_5 : fieldOk Tryz.prog 42 5 = true := by kernel_rfl
@[simp] theorem ff42_5 : fieldOff Tryz.prog 42 5 = 9 := by kernel_rfl
@[simp] theorem ft42_5 : fieldTy Tryz.prog 42 5 = 28 := by kernel_rfl
@[simp] theorem bk42_5 : bOk Tryz.prog 42 5 = true := by kernel_rfl
@[simp] theorem bf42_5 : bOff Tryz.prog 42 5 = 9 := by kernel_rfl
@[simp] theorem bt42_5 : bTy Tryz.prog 42 5 = 28 := by kernel_rfl
@[simp] theorem fk42_6 : fieldOk Tryz.prog 42 6 = true := by kernel_rfl
@[simp] theorem ff42_6 : fieldOff Tryz.prog 42 6 = 10 := by kernel_rfl
@[simp] theorem ft42_6 : fieldTy Tryz.prog 42 6 = 3 := by kernel_rfl
@[simp] theorem bk42_6 : bOk Tryz.prog 42 6 = true := by kernel_rfl
@[simp] theorem bf42_6 : bOff Tryz.prog 42 6 = 10 := by kernel_rfl
@[simp] theorem bt42_6 : bTy Tryz.prog 42 6 = 3 := by kernel_rfl
@[simp] theorem fk42_7 : fieldOk Tryz.prog 42 7 = true := by kernel_rfl
@[simp] theorem ff42_7 : fieldOff Tryz.prog 42 7 = 11 := by kernel_rfl
@[simp] theorem ft42_7 : fieldTy Tryz.prog 42 7 = 28 := by kernel_rfl
@[simp] theorem bk42_7 : bOk Tryz.prog 42 7 = true := by kernel_rfl
@[simp] theorem bf42_7 : bOff Tryz.prog 42 7 = 11 := by kernel_rfl
@[simp] theorem bt42_7 : bTy Tryz.prog 42 7 = 28 := by kernel_rfl
@[simp] theorem ty61 : tyOk Tryz.prog 61 = true := by kernel_rfl
@[simp] theorem ce61 : Tryz.prog.cellsOf 61 = 7 := by kernel_rfl
@[simp] theorem ag61 : aggT Tryz.prog 61 = true := by kernel_rfl
@[simp] theorem by61 : Tryz.prog.bytesOf 61 = 56 := by kernel_rfl
@[simp] theorem un61 : (Tryz.prog.underlying 61).isSome = true := by kernel_rfl
@[simp] theorem zr61 : zrow Tryz.prog 12 61 = some [.d (.int .i64 0), .d (.int .i64 0), .d (.int .i64 0), .d (.int .i64 0), .d (.int .i64 0), .d (.int .i64 0), .d (.int .i64 0)] := by kernel_rfl
@[simp] theorem ze61 : zeroOk Tryz.prog 61 = true := by kernel_rfl
@[simp] theorem in61 : intT Tryz.prog 61 = none := by kernel_rfl
@[simp] theorem eq61 : eqOk Tryz.prog 61 = true := by kernel_rfl
@[simp] theorem fs61 : fieldTs Tryz.prog 61 = [3, 3, 3, 3, 3, 3, 3] := by kernel_rfl
@[simp] theorem fk61_0 : fieldOk Tryz.prog 61 0 = true := by kernel_rfl
@[simp] theorem ff61_0 : fieldOff Tryz.prog 61 0 = 0 := by kernel_rfl
@[simp] theorem ft61_0 : fieldTy Tryz.prog 61 0 = 3 := by kernel_rfl
@[simp] theorem bk61_0 : bOk Tryz.prog 61 0 = true := by kernel_rfl
@[simp] theorem bf61_0 : bOff Tryz.prog 61 0 = 0 := by kernel_rfl
@[simp] theorem bt61_0 : bTy Tryz.prog 61 0 = 3 := by kernel_rfl
@[simp] theorem fk61_1 : fieldOk Tryz.prog 61 1 = true := by kernel_rfl
@[simp] theorem ff61_1 : fieldOff Tryz.prog 61 1 = 1 := by kernel_rfl
@[simp] theorem ft61_1 : fieldTy Tryz.prog 61 1 = 3 := by kernel_rfl
@[simp] theorem bk61_1 : bOk Tryz.prog 61 1 = true := by kernel_rfl
@[simp] theorem bf61_1 : bOff Tryz.prog 61 1 = 1 := by kernel_rfl
@[simp] theorem bt61_1 : bTy Tryz.prog 61 1 = 3 := by kernel_rfl
@[simp] theorem fk61_2 : fieldOk Tryz.prog 61 2 = true := by kernel_rfl
@[simp] theorem ff61_2 : fieldOff Tryz.prog 61 2 = 2 := by kernel_rfl
@[simp] theorem ft61_2 : fieldTy Tryz.prog 61 2 = 3 := by kernel_rfl
@[simp] theorem bk61_2 : bOk Tryz.prog 61 2 = true := by kernel_rfl
@[simp] theorem bf61_2 : bOff Tryz.prog 61 2 = 2 := by kernel_rfl
@[simp] theorem bt61_2 : bTy Tryz.prog 61 2 = 3 := by kernel_rfl
@[simp] theorem fk61_3 : fieldOk Tryz.prog 61 3 = true := by kernel_rfl
@[simp] theorem ff61_3 : fieldOff Tryz.prog 61 3 = 3 := by kernel_rfl
@[simp] theorem ft61_3 : fieldTy Tryz.prog 61 3 = 3 := by kernel_rfl
@[simp] theorem bk61_3 : bOk Tryz.prog 61 3 = true := by kernel_rfl
@[simp] theorem bf61_3 : bOff Tryz.prog 61 3 = 3 := by kernel_rfl
@[simp] theorem bt61_3 : bTy Tryz.prog 61 3 = 3 := by kernel_rfl
@[simp] theorem fk61_4 : fieldOk Tryz.prog 61 4 = true := by kernel_rfl
@[simp] theorem ff61_4 : fieldOff Tryz.prog 61 4 = 4 := by kernel_rfl
@[simp] theorem ft61_4 : fieldTy Tryz.prog 61 4 = 3 := by kernel_rfl
@[simp] theorem bk61_4 : bOk Tryz.prog 61 4 = true := by kernel_rfl
@[simp] theorem bf61_4 : bOff Tryz.prog 61 4 = 4 := by kernel_rfl
@[simp] theorem bt61_4 : bTy Tryz.prog 61 4 = 3 := by kernel_rfl
@[simp] theorem fk61_5 : fieldOk Tryz.prog 61 5 = true := by kernel_rfl
@[simp] theorem ff61_5 : fieldOff Tryz.prog 61 5 = 5 := by kernel_rfl
@[simp] theorem ft61_5 : fieldTy Tryz.prog 61 5 = 3 := by kernel_rfl
@[simp] theorem bk61_5 : bOk Tryz.prog 61 5 = true := by kernel_rfl
@[simp] theorem bf61_5 : bOff Tryz.prog 61 5 = 5 := by kernel_rfl
@[simp] theorem bt61_5 : bTy Tryz.prog 61 5 = 3 := by kernel_rfl
@[simp] theorem fk61_6 : fieldOk Tryz.prog 61 6 = true := by kernel_rfl
@[simp] theorem ff61_6 : fieldOff Tryz.prog 61 6 = 6 := by kernel_rfl
@[simp] theorem ft61_6 : fieldTy Tryz.prog 61 6 = 3 := by kernel_rfl
@[simp] theorem bk61_6 : bOk Tryz.prog 61 6 = true := by kernel_rfl
@[simp] theorem bf61_6 : bOff Tryz.prog 61 6 = 6 := by kernel_rfl
@[simp] theorem bt61_6 : bTy Tryz.prog 61 6 = 3 := by kernel_rfl
@[simp] theorem ty64 : tyOk Tryz.prog 64 = true := by kernel_rfl
@[simp] theorem ce64 : Tryz.prog.cellsOf 64 = 1 := by kernel_rfl
@[simp] theorem ag64 : aggT Tryz.prog 64 = false := by kernel_rfl
@[simp] theorem by64 : Tryz.prog.bytesOf 64 = 24 := by kernel_rfl
@[simp] theorem un64 : (Tryz.prog.underlying 64).isSome = true := by kernel_rfl
@[simp] theorem zr64 : zrow Tryz.prog 12 64 = some [.nil 16] := by kernel_rfl
@[simp] theorem ze64 : zeroOk Tryz.prog 64 = true := by kernel_rfl
@[simp] theorem in64 : intT Tryz.prog 64 = none := by kernel_rfl
@[simp] theorem sl64 : sliceT Tryz.prog 64 = true := by kernel_rfl
@[simp] theorem el64 : elemT Tryz.prog 64 = 78 := by kernel_rfl
@[simp] theorem bs64 : byteT Tryz.prog 64 = false := by kernel_rfl
@[simp] theorem st64 : strT Tryz.prog 64 = false := by kernel_rfl
@[simp] theorem ty66 : tyOk Tryz.prog 66 = true := by kernel_rfl
@[simp] theorem ce66 : Tryz.prog.cellsOf 66 = 2 := by kernel_rfl
@[simp] theorem ag66 : aggT Tryz.prog 66 = true := by kernel_rfl
@[simp] theorem by66 : Tryz.prog.bytesOf 66 = 32 := by kernel_rfl
@[simp] theorem un66 : (Tryz.prog.underlying 66).isSome = true := by kernel_rfl
@[simp] theorem zr66 : zrow Tryz.prog 12 66 = some [.d (.int .i64 0), .nil 16] := by kernel_rfl
@[simp] theorem ze66 : zeroOk Tryz.prog 66 = true := by kernel_rfl
@[simp] theorem in66 : intT Tryz.prog 66 = none := by kernel_rfl
@[simp] theorem fk66_0 : fieldOk Tryz.prog 66 0 = true := by kernel_rfl
@[simp] theorem ff66_0 : fieldOff Tryz.prog 66 0 = 0 := by kernel_rfl
@[simp] theorem ft66_0 : fieldTy Tryz.prog 66 0 = 3 := by kernel_rfl
@[simp] theorem bk66_0 : bOk Tryz.prog 66 0 = true := by kernel_rfl
@[simp] theorem bf66_0 : bOff Tryz.prog 66 0 = 0 := by kernel_rfl
@[simp] theorem bt66_0 : bTy Tryz.prog 66 0 = 3 := by kernel_rfl
@[simp] theorem fk66_1 : fieldOk Tryz.prog 66 1 = true := by kernel_rfl
@[simp] theorem ff66_1 : fieldOff Tryz.prog 66 1 = 1 := by kernel_rfl
@[simp] theorem ft66_1 : fieldTy Tryz.prog 66 1 = 64 := by kernel_rfl
@[simp] theorem bk66_1 : bOk Tryz.prog 66 1 = true := by kernel_rfl
@[simp] theorem bf66_1 : bOff Tryz.prog 66 1 = 1 := by kernel_rfl
@[simp] theorem bt66_1 : bTy Tryz.prog 66 1 = 64 := by kernel_rfl
@[simp] theorem ty68 : tyOk Tryz.prog 68 = true := by kernel_rfl
@[simp] theorem ce68 : Tryz.prog.cellsOf 68 = 1 := by kernel_rfl
@[simp] theorem ag68 : aggT Tryz.prog 68 = false := by kernel_rfl
@[simp] theorem by68 : Tryz.prog.bytesOf 68 = 24 := by kernel_rfl
@[simp] theorem un68 : (Tryz.prog.underlying 68).isSome = true := by kernel_rfl
@[simp] theorem zr68 : zrow Tryz.prog 12 68 = some [.nil 1] := by kernel_rfl
@[simp] theorem ze68 : zeroOk Tryz.prog 68 = true := by kernel_rfl
@[simp] theorem in68 : intT Tryz.prog 68 = none := by kernel_rfl
@[simp] theorem sl68 : sliceT Tryz.prog 68 = true := by kernel_rfl
@[simp] theorem el68 : elemT Tryz.prog 68 = 9 := by kernel_rfl
@[simp] theorem bs68 : byteT Tryz.prog 68 = false := by kernel_rfl
@[simp] theorem st68 : strT Tryz.prog 68 = false := by kernel_rfl
@[simp] theorem ty70 : tyOk Tryz.prog 70 = true := by kernel_rfl
@[simp] theorem ce70 : Tryz.prog.cellsOf 70 = 3 := by kernel_rfl
@[simp] theorem ag70 : aggT Tryz.prog 70 = true := by kernel_rfl
@[simp] theorem by70 : Tryz.prog.bytesOf 70 = 56 := by kernel_rfl
@[simp] theorem un70 : (Tryz.prog.underlying 70).isSome = true := by kernel_rfl
@[simp] theorem zr70 : zrow Tryz.prog 12 70 = some [.d (.int .i64 0), .nil 1, .nil 1] := by kernel_rfl
@[simp] theorem ze70 : zeroOk Tryz.prog 70 = true := by kernel_rfl
@[simp] theorem in70 : intT Tryz.prog 70 = none := by kernel_rfl
@[simp] theorem fk70_0 : fieldOk Tryz.prog 70 0 = true := by kernel_rfl
@[simp] theorem ff70_0 : fieldOff Tryz.prog 70 0 = 0 := by kernel_rfl
@[simp] theorem ft70_0 : fieldTy Tryz.prog 70 0 = 3 := by kernel_rfl
@[simp] theorem bk70_0 : bOk Tryz.prog 70 0 = true := by kernel_rfl
@[simp] theorem bf70_0 : bOff Tryz.prog 70 0 = 0 := by kernel_rfl
@[simp] theorem bt70_0 : bTy Tryz.prog 70 0 = 3 := by kernel_rfl
@[simp] theorem fk70_1 : fieldOk Tryz.prog 70 1 = true := by kernel_rfl
@[simp] theorem ff70_1 : fieldOff Tryz.prog 70 1 = 1 := by kernel_rfl
@[simp] theorem ft70_1 : fieldTy Tryz.prog 70 1 = 68 := by kernel_rfl
@[simp] theorem bk70_1 : bOk Tryz.prog 70 1 = true := by kernel_rfl
@[simp] theorem bf70_1 : bOff Tryz.prog 70 1 = 1 := by kernel_rfl
@[simp] theorem bt70_1 : bTy Tryz.prog 70 1 = 68 := by kernel_rfl
@[simp] theorem fk70_2 : fieldOk Tryz.prog 70 2 = true := by kernel_rfl
@[simp] theorem ff70_2 : fieldOff Tryz.prog 70 2 = 2 := by kernel_rfl
@[simp] theorem ft70_2 : fieldTy Tryz.prog 70 2 = 28 := by kernel_rfl
@[simp] theorem bk70_2 : bOk Tryz.prog 70 2 = true := by kernel_rfl
@[simp] theorem bf70_2 : bOff Tryz.prog 70 2 = 2 := by kernel_rfl
@[simp] theorem bt70_2 : bTy Tryz.prog 70 2 = 28 := by kernel_rfl
@[simp] theorem ty72 : tyOk Tryz.prog 72 = true := by kernel_rfl
@[simp] theorem ce72 : Tryz.prog.cellsOf 72 = 9 := by kernel_rfl
@[simp] theorem ag72 : aggT Tryz.prog 72 = true := by kernel_rfl
@[simp] theorem by72 : Tryz.prog.bytesOf 72 = 72 := by kernel_rfl
@[simp] theorem un72 : (Tryz.prog.underlying 72).isSome = true := by kernel_rfl
@[simp] theorem zr72 : zrow Tryz.prog 12 72 = some [.d (.int .i64 0), .d (.int .i64 0), .d (.int .i64 0), .d (.int .i64 0), .d (.int .i64 0), .d (.int .i64 0), .d (.int .i64 0), .d (.int .i64 0), .d (.int .i64 0)] := by kernel_rfl
@[simp] theorem ze72 : zeroOk Tryz.prog 72 = true := by kernel_rfl
@[simp] theorem in72 : intT Tryz.prog 72 = none := by kernel_rfl
@[simp] theorem eq72 : eqOk Tryz.prog 72 = true := by kernel_rfl
@[simp] theorem fs72 : fieldTs Tryz.prog 72 = [3, 3, 3, 3, 3, 3, 3, 3, 3] := by kernel_rfl
@[simp] theorem fk72_0 : fieldOk Tryz.prog 72 0 = true := by kernel_rfl
@[simp] theorem ff72_0 : fieldOff Tryz.prog 72 0 = 0 := by kernel_rfl
@[simp] theorem ft72_0 : fieldTy Tryz.prog 72 0 = 3 := by kernel_rfl
@[simp] theorem bk72_0 : bOk Tryz.prog 72 0 = true := by kernel_rfl
@[simp] theorem bf72_0 : bOff Tryz.prog 72 0 = 0 := by kernel_rfl
@[simp] theorem bt72_0 : bTy Tryz.prog 72 0 = 3 := by kernel_rfl
@[simp] theorem fk72_1 : fieldOk Tryz.prog 72 1 = true := by kernel_rfl
@[simp] theorem ff72_1 : fieldOff Tryz.prog 72 1 = 1 := by kernel_rfl
@[simp] theorem ft72_1 : fieldTy Tryz.prog 72 1 = 3 := by kernel_rfl
@[simp] theorem bk72_1 : bOk Tryz.prog 72 1 = true := by kernel_rfl
@[simp] theorem bf72_1 : bOff Tryz.prog 72 1 = 1 := by kernel_rfl
@[simp] theorem bt72_1 : bTy Tryz.prog 72 1 = 3 := by kernel_rfl
@[simp] theorem fk72_2 : fieldOk Tryz.prog 72 2 = true := by kernel_rfl
@[simp] theorem ff72_2 : fieldOff Tryz.prog 72 2 = 2 := by kernel_rfl
@[simp] theorem ft72_2 : fieldTy Tryz.prog 72 2 = 3 := by kernel_rfl
@[simp] theorem bk72_2 : bOk Tryz.prog 72 2 = true := by kernel_rfl
@[simp] theorem bf72_2 : bOff Tryz.prog 72 2 = 2 := by kernel_rfl
@[simp] theorem bt72_2 : bTy Tryz.prog 72 2 = 3 := by kernel_rfl
@[simp] theorem fk72_3 : fieldOk Tryz.prog 72 3 = true := by kernel_rfl
@[simp] theorem ff72_3 : fieldOff Tryz.prog 72 3 = 3 := by kernel_rfl
@[simp] theorem ft72_3 : fieldTy Tryz.prog 72 3 = 3 := by kernel_rfl
@[simp] theorem bk72_3 : bOk Tryz.prog 72 3 = true := by kernel_rfl
@[simp] theorem bf72_3 : bOff Tryz.prog 72 3 = 3 := by kernel_rfl
@[simp] theorem bt72_3 : bTy Tryz.prog 72 3 = 3 := by kernel_rfl
@[simp] theorem fk72_4 : fieldOk Tryz.prog 72 4 = true := by kernel_rfl
@[simp] theorem ff72_4 : fieldOff Tryz.prog 72 4 = 4 := by kernel_rfl
@[simp] theorem ft72_4 : fieldTy Tryz.prog 72 4 = 3 := by kernel_rfl
@[simp] theorem bk72_4 : bOk Tryz.prog 72 4 = true := by kernel_rfl
@[simp] theorem bf72_4 : bOff Tryz.prog 72 4 = 4 := by kernel_rfl
@[simp] theorem bt72_4 : bTy Tryz.prog 72 4 = 3 := by kernel_rfl
@[simp] theorem fk72_5 : fieldOk Tryz.prog 72 5 = true := by kernel_rfl
@[simp] theorem ff72_5 : fieldOff Tryz.prog 72 5 = 5 := by kernel_rfl
@[simp] theorem ft72_5 : fieldTy Tryz.prog 72 5 = 3 := by kernel_rfl
@[simp] theorem bk72_5 : bOk Tryz.prog 72 5 = true := by kernel_rfl
@[simp] theorem bf72_5 : bOff Tryz.prog 72 5 = 5 := by kernel_rfl
@[simp] theorem bt72_5 : bTy Tryz.prog 72 5 = 3 := by kernel_rfl
@[simp] theorem fk72_6 : fieldOk Tryz.prog 72 6 = true := by kernel_rfl
@[simp] theorem ff72_6 : fieldOff Tryz.prog 72 6 = 6 := by kernel_rfl
@[simp] theorem ft72_6 : fieldTy Tryz.prog 72 6 = 3 := by kernel_rfl
@[simp] theorem bk72_6 : bOk Tryz.prog 72 6 = true := by kernel_rfl
@[simp] theorem bf72_6 : bOff Tryz.prog 72 6 = 6 := by kernel_rfl
@[simp] theorem bt72_6 : bTy Tryz.prog 72 6 = 3 := by kernel_rfl
@[simp] theorem fk72_7 : fieldOk Tryz.prog 72 7 = true := by kernel_rfl
@[simp] theorem ff72_7 : fieldOff Tryz.prog 72 7 = 7 := by kernel_rfl
@[simp] theorem ft72_7 : fieldTy Tryz.prog 72 7 = 3 := by kernel_rfl
@[simp] theorem bk72_7 : bOk Tryz.prog 72 7 = true := by kernel_rfl
@[simp] theorem bf72_7 : bOff Tryz.prog 72 7 = 7 := by kernel_rfl
@[simp] theorem bt72_7 : bTy Tryz.prog 72 7 = 3 := by kernel_rfl
@[simp] theorem fk72_8 : fieldOk Tryz.prog 72 8 = true := by kernel_rfl
@[simp] theorem ff72_8 : fieldOff Tryz.prog 72 8 = 8 := by kernel_rfl
@[simp] theorem ft72_8 : fieldTy Tryz.prog 72 8 = 3 := by kernel_rfl
@[simp] theorem bk72_8 : bOk Tryz.prog 72 8 = true := by kernel_rfl
@[simp] theorem bf72_8 : bOff Tryz.prog 72 8 = 8 := by kernel_rfl
@[simp] theorem bt72_8 : bTy Tryz.prog 72 8 = 3 := by kernel_rfl
@[simp] theorem ty73 : tyOk Tryz.prog 73 = true := by kernel_rfl
@[simp] theorem ce73 : Tryz.prog.cellsOf 73 = 1 := by kernel_rfl
@[simp] theorem ag73 : aggT Tryz.prog 73 = false := by kernel_rfl
@[simp] theorem by73 : Tryz.prog.bytesOf 73 = 24 := by kernel_rfl
@[simp] theorem un73 : (Tryz.prog.underlying 73).isSome = true := by kernel_rfl
@[simp] theorem zr73 : zrow Tryz.prog 12 73 = some [.nil 3] := by kernel_rfl
@[simp] theorem ze73 : zeroOk Tryz.prog 73 = true := by kernel_rfl
@[simp] theorem in73 : intT Tryz.prog 73 = none := by kernel_rfl
@[simp] theorem sl73 : sliceT Tryz.prog 73 = true := by kernel_rfl
@[simp] theorem el73 : elemT Tryz.prog 73 = 148 := by kernel_rfl
@[simp] theorem bs73 : byteT Tryz.prog 73 = false := by kernel_rfl
@[simp] theorem st73 : strT Tryz.prog 73 = false := by kernel_rfl
@[simp] theorem ty74 : tyOk Tryz.prog 74 = true := by kernel_rfl
@[simp] theorem ce74 : Tryz.prog.cellsOf 74 = 1 := by kernel_rfl
@[simp] theorem ag74 : aggT Tryz.prog 74 = false := by kernel_rfl
@[simp] theorem by74 : Tryz.prog.bytesOf 74 = 24 := by kernel_rfl
@[simp] theorem un74 : (Tryz.prog.underlying 74).isSome = true := by kernel_rfl
@[simp] theorem zr74 : zrow Tryz.prog 12 74 = some [.nil 5] := by kernel_rfl
@[simp] theorem ze74 : zeroOk Tryz.prog 74 = true := by kernel_rfl
@[simp] theorem in74 : intT Tryz.prog 74 = none := by kernel_rfl
@[simp] theorem sl74 : sliceT Tryz.prog 74 = true := by kernel_rfl
@[simp] theorem el74 : elemT Tryz.prog 74 = 123 := by kernel_rfl
@[simp] theorem bs74 : byteT Tryz.prog 74 = false := by kernel_rfl
@[simp] theorem st74 : strT Tryz.prog 74 = false := by kernel_rfl
@[simp] theorem ty76 : tyOk Tryz.prog 76 = true := by kernel_rfl
@[simp] theorem ce76 : Tryz.prog.cellsOf 76 = 2 := by kernel_rfl
@[simp] theorem ag76 : aggT Tryz.prog 76 = true := by kernel_rfl
@[simp] theorem by76 : Tryz.prog.bytesOf 76 = 48 := by kernel_rfl
@[simp] theorem un76 : (Tryz.prog.underlying 76).isSome = true := by kernel_rfl
@[simp] theorem zr76 : zrow Tryz.prog 12 76 = some [.nil 3, .nil 5] := by kernel_rfl
@[simp] theorem ze76 : zeroOk Tryz.prog 76 = true := by kernel_rfl
@[simp] theorem in76 : intT Tryz.prog 76 = none := by kernel_rfl
@[simp] theorem fk76_0 : fieldOk Tryz.prog 76 0 = true := by kernel_rfl
@[simp] theorem ff76_0 : fieldOff Tryz.prog 76 0 = 0 := by kernel_rfl
@[simp] theorem ft76_0 : fieldTy Tryz.prog 76 0 = 73 := by kernel_rfl
@[simp] theorem bk76_0 : bOk Tryz.prog 76 0 = true := by kernel_rfl
@[simp] theorem bf76_0 : bOff Tryz.prog 76 0 = 0 := by kernel_rfl
@[simp] theorem bt76_0 : bTy Tryz.prog 76 0 = 73 := by kernel_rfl
@[simp] theorem fk76_1 : fieldOk Tryz.prog 76 1 = true := by kernel_rfl
@[simp] theorem ff76_1 : fieldOff Tryz.prog 76 1 = 1 := by kernel_rfl
@[simp] theorem ft76_1 : fieldTy Tryz.prog 76 1 = 74 := by kernel_rfl
@[simp] theorem bk76_1 : bOk Tryz.prog 76 1 = true := by kernel_rfl
@[simp] theorem bf76_1 : bOff Tryz.prog 76 1 = 1 := by kernel_rfl
@[simp] theorem bt76_1 : bTy Tryz.prog 76 1 = 74 := by kernel_rfl
@[simp] theorem ty78 : tyOk Tryz.prog 78 = true := by kernel_rfl
@[simp] theorem ce78 : Tryz.prog.cellsOf 78 = 16 := by kernel_rfl
@[simp] theorem ag78 : aggT Tryz.prog 78 = true := by kernel_rfl
@[simp] theorem by78 : Tryz.prog.bytesOf 78 = 192 := by kernel_rfl
@[simp] theorem un78 : (Tryz.prog.underlying 78).isSome = true := by kernel_rfl
@[simp] theorem zr78 : zrow Tryz.prog 12 78 = some [.d (.int .i64 0), .d (.int .i64 0), .d (.int .i64 0), .nil 1, .nil 1, .d (.int .i64 0), .d (.int .i64 0), .d (.int .i64 0), .d (.int .i64 0), .d (.int .i64 0), .d (.int .i64 0), .d (.int .i64 0), .d (.int .i64 0), .d (.int .i64 0), .nil 3, .nil 5] := by kernel_rfl
@[simp] theorem ze78 : zeroOk Tryz.prog 78 = true := by kernel_rfl
@[simp] theorem in78 : intT Tryz.prog 78 = none := by kernel_rfl
@[simp] theorem fk78_0 : fieldOk Tryz.prog 78 0 = true := by kernel_rfl
@[simp] theorem ff78_0 : fieldOff Tryz.prog 78 0 = 0 := by kernel_rfl
@[simp] theorem ft78_0 : fieldTy Tryz.prog 78 0 = 3 := by kernel_rfl
@[simp] theorem bk78_0 : bOk Tryz.prog 78 0 = true := by kernel_rfl
@[simp] theorem bf78_0 : bOff Tryz.prog 78 0 = 0 := by kernel_rfl
@[simp] theorem bt78_0 : bTy Tryz.prog 78 0 = 3 := by kernel_rfl
@[simp] theorem fk78_1 : fieldOk Tryz.prog 78 1 = true := by kernel_rfl
@[simp] theorem ff78_1 : fieldOff Tryz.prog 78 1 = 1 := by kernel_rfl
@[simp] theorem ft78_1 : fieldTy Tryz.prog 78 1 = 3 := by kernel_rfl
@[simp] theorem bk78_1 : bOk Tryz.prog 78 1 = true := by kernel_rfl
@[simp] theorem bf78_1 : bOff Tryz.prog 78 1 = 1 := by kernel_rfl
@[simp] theorem bt78_1 : bTy Tryz.prog 78 1 = 3 := by kernel_rfl
@[simp] theorem fk78_2 : fieldOk Tryz.prog 78 2 = true := by kernel_rfl
@[simp] theorem ff78_2 : fieldOff Tryz.prog 78 2 = 2 := by kernel_rfl
@[simp] theorem ft78_2 : fieldTy Tryz.prog 78 2 = 70 := by kernel_rfl
@[simp] theorem bk78_2 : bOk Tryz.prog 78 2 = true := by kernel_rfl
@[simp] theorem bf78_2 : bOff Tryz.prog 78 2 = 2 := by kernel_rfl
@[simp] theorem bt78_2 : bTy Tryz.prog 78 2 = 70 := by kernel_rfl
@[simp] theorem fk78_3 : fieldOk Tryz.prog 78 3 = true := by kernel_rfl
@[simp] theorem ff78_3 : fieldOff Tryz.prog 78 3 = 5 := by kernel_rfl
@[simp] theorem ft78_3 : fieldTy Tryz.prog 78 3 = 72 := by kernel_rfl
@[simp] theorem bk78_3 : bOk Tryz.prog 78 3 = true := by kernel_rfl
@[simp] theorem bf78_3 : bOff Tryz.prog 78 3 = 5 := by kernel_rfl
@[simp] theorem bt78_3 : bTy Tryz.prog 78 3 = 72 := by kernel_rfl
@[simp] theorem fk78_4 : fieldOk Tryz.prog 78 4 = true := by kernel_rfl
@[simp] theorem ff78_4 : fieldOff Tryz.prog 78 4 = 14 := by kernel_rfl
@[simp] theorem ft78_4 : fieldTy Tryz.prog 78 4 = 76 := by kernel_rfl
@[simp] theorem bk78_4 : bOk Tryz.prog 78 4 = true := by kernel_rfl
@[simp] theorem bf78_4 : bOff Tryz.prog 78 4 = 14 := by kernel_rfl
@[simp] theorem bt78_4 : bTy Tryz.prog 78 4 = 76 := by kernel_rfl
@[simp] theorem ty92 : tyOk Tryz.prog 92 = true := by kernel_rfl
@[simp] theorem ce92 : Tryz.prog.cellsOf 92 = 1 := by kernel_rfl
@[simp] theorem ag92 : aggT Tryz.prog 92 = false := by kernel_rfl
@[simp] theorem by92 : Tryz.prog.bytesOf 92 = 24 := by kernel_rfl
@[simp] theorem un92 : (Tryz.prog.underlying 92).isSome = true := by kernel_rfl
@[simp] theorem zr92 : zrow Tryz.prog 12 92 = some [.nil 16] := by kernel_rfl
@[simp] theorem ze92 : zeroOk Tryz.prog 92 = true := by kernel_rfl
@[simp] theorem in92 : intT Tryz.prog 92 = none := by kernel_rfl
@[simp] theorem sl92 : sliceT Tryz.prog 92 = true := by kernel_rfl
@[simp] theorem el92 : elemT Tryz.prog 92 = 170 := by kernel_rfl
@[simp] theorem bs92 : byteT Tryz.prog 92 = false := by kernel_rfl
@[simp] theorem st92 : strT Tryz.prog 92 = false := by kernel_rfl
@[simp] theorem ty94 : tyOk Tryz.prog 94 = true := by kernel_rfl
@[simp] theorem ce94 : Tryz.prog.cellsOf 94 = 2 := by kernel_rfl
@[simp] theorem ag94 : aggT Tryz.prog 94 = true := by kernel_rfl
@[simp] theorem by94 : Tryz.prog.bytesOf 94 = 32 := by kernel_rfl
@[simp] theorem un94 : (Tryz.prog.underlying 94).isSome = true := by kernel_rfl
@[simp] theorem zr94 : zrow Tryz.prog 12 94 = some [.d (.int .i64 0), .nil 16] := by kernel_rfl
@[simp] theorem ze94 : zeroOk Tryz.prog 94 = true := by kernel_rfl
@[simp] theorem in94 : intT Tryz.prog 94 = none := by kernel_rfl
@[simp] theorem fk94_0 : fieldOk Tryz.prog 94 0 = true := by kernel_rfl
@[simp] theorem ff94_0 : fieldOff Tryz.prog 94 0 = 0 := by kernel_rfl
@[simp] theorem ft94_0 : fieldTy Tryz.prog 94 0 = 3 := by kernel_rfl
@[simp] theorem bk94_0 : bOk Tryz.prog 94 0 = true := by kernel_rfl
@[simp] theorem bf94_0 : bOff Tryz.prog 94 0 = 0 := by kernel_rfl
@[simp] theorem bt94_0 : bTy Tryz.prog 94 0 = 3 := by kernel_rfl
@[simp] theorem fk94_1 : fieldOk Tryz.prog 94 1 = true := by kernel_rfl
@[simp] theorem ff94_1 : fieldOff Tryz.prog 94 1 = 1 := by kernel_rfl
@[simp] theorem ft94_1 : fieldTy Tryz.prog 94 1 = 92 := by kernel_rfl
@[simp] theorem bk94_1 : bOk Tryz.prog 94 1 = true := by kernel_rfl
@[simp] theorem bf94_1 : bOff Tryz.prog 94 1 = 1 := by kernel_rfl
@[simp] theorem bt94_1 : bTy Tryz.prog 94 1 = 92 := by kernel_rfl
@[simp] theorem ty96 : tyOk Tryz.prog 96 = true := by kernel_rfl
@[simp] theorem ce96 : Tryz.prog.cellsOf 96 = 3 := by kernel_rfl
@[simp] theorem ag96 : aggT Tryz.prog 96 = true := by kernel_rfl
@[simp] theorem by96 : Tryz.prog.bytesOf 96 = 24 := by kernel_rfl
@[simp] theorem un96 : (Tryz.prog.underlying 96).isSome = true := by kernel_rfl
@[simp] theorem zr96 : zrow Tryz.prog 12 96 = some [.d (.int .i64 0), .d (.int .i64 0), .d (.int .i64 0)] := by kernel_rfl
@[simp] theorem ze96 : zeroOk Tryz.prog 96 = true := by kernel_rfl
@[simp] theorem in96 : intT Tryz.prog 96 = none := by kernel_rfl
@[simp] theorem eq96 : eqOk Tryz.prog 96 = true := by kernel_rfl
@[simp] theorem fs96 : fieldTs Tryz.prog 96 = [3, 3, 3] := by kernel_rfl
@[simp] theorem fk96_0 : fieldOk Tryz.prog 96 0 = true := by kernel_rfl
@[simp] theorem ff96_0 : fieldOff Tryz.prog 96 0 = 0 := by kernel_rfl
@[simp] theorem ft96_0 : fieldTy Tryz.prog 96 0 = 3 := by kernel_rfl
@[simp] theorem bk96_0 : bOk Tryz.prog 96 0 = true := by kernel_rfl
@[simp] theorem bf96_0 : bOff Tryz.prog 96 0 = 0 := by kernel_rfl
@[simp] theorem bt96_0 : bTy Tryz.prog 96 0 = 3 := by kernel_rfl
@[simp] theorem fk96_1 : fieldOk Tryz.prog 96 1 = true := by kernel_rfl
@[simp] theorem ff96_1 : fieldOff Tryz.prog 96 1 = 1 := by kernel_rfl
@[simp] theorem ft96_1 : fieldTy Tryz.prog 96 1 = 3 := by kernel_rfl
@[simp] theorem bk96_1 : bOk Tryz.prog 96 1 = true := by kernel_rfl
@[simp] theorem bf96_1 : bOff Tryz.prog 96 1 = 1 := by kernel_rfl
@[simp] theorem bt96_1 : bTy Tryz.prog 96 1 = 3 := by kernel_rfl
@[simp] theorem fk96_2 : fieldOk Tryz.prog 96 2 = true := by kernel_rfl
@[simp] theorem ff96_2 : fieldOff Tryz.prog 96 2 = 2 := by kernel_rfl
@[simp] theorem ft96_2 : fieldTy Tryz.prog 96 2 = 3 := by kernel_rfl
@[simp] theorem bk96_2 : bOk Tryz.prog 96 2 = true := by kernel_rfl
@[simp] theorem bf96_2 : bOff Tryz.prog 96 2 = 2 := by kernel_rfl
@[simp] theorem bt96_2 : bTy Tryz.prog 96 2 = 3 := by kernel_rfl
@[simp] theorem ty105 : tyOk Tryz.prog 105 = true := by kernel_rfl
@[simp] theorem ce105 : Tryz.prog.cellsOf 105 = 7 := by kernel_rfl
@[simp] theorem ag105 : aggT Tryz.prog 105 = true := by kernel_rfl
@[simp] theorem by105 : Tryz.prog.bytesOf 105 = 56 := by kernel_rfl
@[simp] theorem un105 : (Tryz.prog.underlying 105).isSome = true := by kernel_rfl
@[simp] theorem zr105 : zrow Tryz.prog 12 105 = some [.d (.int .i64 0), .d (.int .i64 0), .d (.int .i64 0), .d (.int .i64 0), .d (.int .i64 0), .d (.int .i64 0), .d (.int .i64 0)] := by kernel_rfl
@[simp] theorem ze105 : zeroOk Tryz.prog 105 = true := by kernel_rfl
@[simp] theorem in105 : intT Tryz.prog 105 = none := by kernel_rfl
@[simp] theorem eq105 : eqOk Tryz.prog 105 = true := by kernel_rfl
@[simp] theorem fs105 : fieldTs Tryz.prog 105 = [3, 3, 3, 3, 3, 3, 3] := by kernel_rfl
@[simp] theorem fk105_0 : fieldOk Tryz.prog 105 0 = true := by kernel_rfl
@[simp] theorem ff105_0 : fieldOff Tryz.prog 105 0 = 0 := by kernel_rfl
@[simp] theorem ft105_0 : fieldTy Tryz.prog 105 0 = 3 := by kernel_rfl
@[simp] theorem bk105_0 : bOk Tryz.prog 105 0 = true := by kernel_rfl
@[simp] theorem bf105_0 : bOff Tryz.prog 105 0 = 0 := by kernel_rfl
@[simp] theorem bt105_0 : bTy Tryz.prog 105 0 = 3 := by kernel_rfl
@[simp] theorem fk105_1 : fieldOk Tryz.prog 105 1 = true := by kernel_rfl
@[simp] theorem ff105_1 : fieldOff Tryz.prog 105 1 = 1 := by kernel_rfl
@[simp] theorem ft105_1 : fieldTy Tryz.prog 105 1 = 3 := by kernel_rfl
@[simp] theorem bk105_1 : bOk Tryz.prog 105 1 = true := by kernel_rfl
@[simp] theorem bf105_1 : bOff Tryz.prog 105 1 = 1 := by kernel_rfl
@[simp] theorem bt105_1 : bTy Tryz.prog 105 1 = 3 := by kernel_rfl
@[simp] theorem fk105_2 : fieldOk Tryz.prog 105 2 = true := by kernel_rfl
@[simp] theorem ff105_2 : fieldOff Tryz.prog 105 2 = 2 := by kernel_rfl
@[simp] theorem ft105_2 : fieldTy Tryz.prog 105 2 = 3 := by kernel_rfl
@[simp] theorem bk105_2 : bOk Tryz.prog 105 2 = true := by kernel_rfl
@[simp] theorem bf105_2 : bOff Tryz.prog 105 2 = 2 := by kernel_rfl
@[simp] theorem bt105_2 : bTy Tryz.prog 105 2 = 3 := by kernel_rfl
@[simp] theorem fk105_3 : fieldOk Tryz.prog 105 3 = true := by kernel_rfl
@[simp] theorem ff105_3 : fieldOff Tryz.prog 105 3 = 3 := by kernel_rfl
@[simp] theorem ft105_3 : fieldTy Tryz.prog 105 3 = 3 := by kernel_rfl
@[simp] theorem bk105_3 : bOk Tryz.prog 105 3 = true := by kernel_rfl
@[simp] theorem bf105_3 : bOff Tryz.prog 105 3 = 3 := by kernel_rfl
@[simp] theorem bt105_3 : bTy Tryz.prog 105 3 = 3 := by kernel_rfl
@[simp] theorem fk105_4 : fieldOk Tryz.prog 105 4 = true := by kernel_rfl
@[simp] theorem ff105_4 : fieldOff Tryz.prog 105 4 = 4 := by kernel_rfl
@[simp] theorem ft105_4 : fieldTy Tryz.prog 105 4 = 3 := by kernel_rfl
@[simp] theorem bk105_4 : bOk Tryz.prog 105 4 = true := by kernel_rfl
@[simp] theorem bf105_4 : bOff Tryz.prog 105 4 = 4 := by kernel_rfl
@[simp] theorem bt105_4 : bTy Tryz.prog 105 4 = 3 := by kernel_rfl
@[simp] theorem fk105_5 : fieldOk Tryz.prog 105 5 = true := by kernel_rfl
@[simp] theorem ff105_5 : fieldOff Tryz.prog 105 5 = 5 := by kernel_rfl
@[simp] theorem ft105_5 : fieldTy Tryz.prog 105 5 = 3 := by kernel_rfl
@[simp] theorem bk105_5 : bOk Tryz.prog 105 5 = true := by kernel_rfl
@[simp] theorem bf105_5 : bOff Tryz.prog 105 5 = 5 := by kernel_rfl
@[simp] theorem bt105_5 : bTy Tryz.prog 105 5 = 3 := by kernel_rfl
@[simp] theorem fk105_6 : fieldOk Tryz.prog 105 6 = true := by kernel_rfl
@[simp] theorem ff105_6 : fieldOff Tryz.prog 105 6 = 6 := by kernel_rfl
@[simp] theorem ft105_6 : fieldTy Tryz.prog 105 6 = 3 := by kernel_rfl
@[simp] theorem bk105_6 : bOk Tryz.prog 105 6 = true := by kernel_rfl
@[simp] theorem bf105_6 : bOff Tryz.prog 105 6 = 6 := by kernel_rfl
@[simp] theorem bt105_6 : bTy Tryz.prog 105 6 = 3 := by kernel_rfl
@[simp] theorem ty120 : tyOk Tryz.prog 120 = true := by kernel_rfl
@[simp] theorem ce120 : Tryz.prog.cellsOf 120 = 1 := by kernel_rfl
@[simp] theorem ag120 : aggT Tryz.prog 120 = false := by kernel_rfl
@[simp] theorem by120 : Tryz.prog.bytesOf 120 = 24 := by kernel_rfl
@[simp] theorem un120 : (Tryz.prog.underlying 120).isSome = true := by kernel_rfl
@[simp] theorem zr120 : zrow Tryz.prog 12 120 = some [.nil 2] := by kernel_rfl
@[simp] theorem ze120 : zeroOk Tryz.prog 120 = true := by kernel_rfl
@[simp] theorem in120 : intT Tryz.prog 120 = none := by kernel_rfl
@[simp] theorem sl120 : sliceT Tryz.prog 120 = true := by kernel_rfl
@[simp] theorem el120 : elemT Tryz.prog 120 = 203 := by kernel_rfl
@[simp] theorem bs120 : byteT Tryz.prog 120 = false := by kernel_rfl
@[simp] theorem st120 : strT Tryz.prog 120 = false := by kernel_rfl
@[simp] theorem ty121 : tyOk Tryz.prog 121 = true := by kernel_rfl
@[simp] theorem ce121 : Tryz.prog.cellsOf 121 = 1 := by kernel_rfl
@[simp] theorem ag121 : aggT Tryz.prog 121 = false := by kernel_rfl
@[simp] theorem by121 : Tryz.prog.bytesOf 121 = 24 := by kernel_rfl
@[simp] theorem un121 : (Tryz.prog.underlying 121).isSome = true := by kernel_rfl
@[simp] theorem zr121 : zrow Tryz.prog 12 121 = some [.nil 5] := by kernel_rfl
@[simp] theorem ze121 : zeroOk Tryz.prog 121 = true := by kernel_rfl
@[simp] theorem in121 : intT Tryz.prog 121 = none := by kernel_rfl
@[simp] theorem sl121 : sliceT Tryz.prog 121 = true := by kernel_rfl
@[simp] theorem el121 : elemT Tryz.prog 121 = 181 := by kernel_rfl
@[simp] theorem bs121 : byteT Tryz.prog 121 = false := by kernel_rfl
@[simp] theorem st121 : strT Tryz.prog 121 = false := by kernel_rfl
@[simp] theorem ty123 : tyOk Tryz.prog 123 = true := by kernel_rfl
@[simp] theorem ce123 : Tryz.prog.cellsOf 123 = 5 := by kernel_rfl
@[simp] theorem ag123 : aggT Tryz.prog 123 = true := by kernel_rfl
@[simp] theorem by123 : Tryz.prog.bytesOf 123 = 72 := by kernel_rfl
@[simp] theorem un123 : (Tryz.prog.underlying 123).isSome = true := by kernel_rfl
@[simp] theorem zr123 : zrow Tryz.prog 12 123 = some [.d (.int .i64 0), .d (.int .i64 0), .d (.int .i64 0), .nil 2, .nil 5] := by kernel_rfl
@[simp] theorem ze123 : zeroOk Tryz.prog 123 = true := by kernel_rfl
@[simp] theorem in123 : intT Tryz.prog 123 = none := by kernel_rfl
@[simp] theorem fk123_0 : fieldOk Tryz.prog 123 0 = true := by kernel_rfl
@[simp] theorem ff123_0 : fieldOff Tryz.prog 123 0 = 0 := by kernel_rfl
@[simp] theorem ft123_0 : fieldTy Tryz.prog 123 0 = 3 := by kernel_rfl
@[simp] theorem bk123_0 : bOk Tryz.prog 123 0 = true := by kernel_rfl
@[simp] theorem bf123_0 : bOff Tryz.prog 123 0 = 0 := by kernel_rfl
@[simp] theorem bt123_0 : bTy Tryz.prog 123 0 = 3 := by kernel_rfl
@[simp] theorem fk123_1 : fieldOk Tryz.prog 123 1 = true := by kernel_rfl
@[simp] theorem ff123_1 : fieldOff Tryz.prog 123 1 = 1 := by kernel_rfl
@[simp] theorem ft123_1 : fieldTy Tryz.prog 123 1 = 3 := by kernel_rfl
@[simp] theorem bk123_1 : bOk Tryz.prog 123 1 = true := by kernel_rfl
@[simp] theorem bf123_1 : bOff Tryz.prog 123 1 = 1 := by kernel_rfl
@[simp] theorem bt123_1 : bTy Tryz.prog 123 1 = 3 := by kernel_rfl
@[simp] theorem fk123_2 : fieldOk Tryz.prog 123 2 = true := by kernel_rfl
@[simp] theorem ff123_2 : fieldOff Tryz.prog 123 2 = 2 := by kernel_rfl
@[simp] theorem ft123_2 : fieldTy Tryz.prog 123 2 = 3 := by kernel_rfl
@[simp] theorem bk123_2 : bOk Tryz.prog 123 2 = true := by kernel_rfl
@[simp] theorem bf123_2 : bOff Tryz.prog 123 2 = 2 := by kernel_rfl
@[simp] theorem bt123_2 : bTy Tryz.prog 123 2 = 3 := by kernel_rfl
@[simp] theorem fk123_3 : fieldOk Tryz.prog 123 3 = true := by kernel_rfl
@[simp] theorem ff123_3 : fieldOff Tryz.prog 123 3 = 3 := by kernel_rfl
@[simp] theorem ft123_3 : fieldTy Tryz.prog 123 3 = 120 := by kernel_rfl
@[simp] theorem bk123_3 : bOk Tryz.prog 123 3 = true := by kernel_rfl
@[simp] theorem bf123_3 : bOff Tryz.prog 123 3 = 3 := by kernel_rfl
@[simp] theorem bt123_3 : bTy Tryz.prog 123 3 = 120 := by kernel_rfl
@[simp] theorem fk123_4 : fieldOk Tryz.prog 123 4 = true := by kernel_rfl
@[simp] theorem ff123_4 : fieldOff Tryz.prog 123 4 = 4 := by kernel_rfl
@[simp] theorem ft123_4 : fieldTy Tryz.prog 123 4 = 121 := by kernel_rfl
@[simp] theorem bk123_4 : bOk Tryz.prog 123 4 = true := by kernel_rfl
@[simp] theorem bf123_4 : bOff Tryz.prog 123 4 = 4 := by kernel_rfl
@[simp] theorem bt123_4 : bTy Tryz.prog 123 4 = 121 := by kernel_rfl
@[simp] theorem ty127 : tyOk Tryz.prog 127 = true := by kernel_rfl
@[simp] theorem ce127 : Tryz.prog.cellsOf 127 = 5 := by kernel_rfl
@[simp] theorem ag127 : aggT Tryz.prog 127 = true := by kernel_rfl
@[simp] theorem by127 : Tryz.prog.bytesOf 127 = 40 := by kernel_rfl
@[simp] theorem un127 : (Tryz.prog.underlying 127).isSome = true := by kernel_rfl
@[simp] theorem zr127 : zrow Tryz.prog 12 127 = some [.d (.int .i64 0), .d (.int .i64 0), .d (.int .i64 0), .d (.int .i64 0), .d (.int .i64 0)] := by kernel_rfl
@[simp] theorem ze127 : zeroOk Tryz.prog 127 = true := by kernel_rfl
@[simp] theorem in127 : intT Tryz.prog 127 = none := by kernel_rfl
@[simp] theorem eq127 : eqOk Tryz.prog 127 = true := by kernel_rfl
@[simp] theorem fs127 : fieldTs Tryz.prog 127 = [3, 3, 3, 3, 3] := by kernel_rfl
@[simp] theorem fk127_0 : fieldOk Tryz.prog 127 0 = true := by kernel_rfl
@[simp] theorem ff127_0 : fieldOff Tryz.prog 127 0 = 0 := by kernel_rfl
@[simp] theorem ft127_0 : fieldTy Tryz.prog 127 0 = 3 := by kernel_rfl
@[simp] theorem bk127_0 : bOk Tryz.prog 127 0 = true := by kernel_rfl
@[simp] theorem bf127_0 : bOff Tryz.prog 127 0 = 0 := by kernel_rfl
@[simp] theorem bt127_0 : bTy Tryz.prog 127 0 = 3 := by kernel_rfl
@[simp] theorem fk127_1 : fieldOk Tryz.prog 127 1 = true := by kernel_rfl
@[simp] theorem ff127_1 : fieldOff Tryz.prog 127 1 = 1 := by kernel_rfl
@[simp] theorem ft127_1 : fieldTy Tryz.prog 127 1 = 3 := by kernel_rfl
@[simp] theorem bk127_1 : bOk Tryz.prog 127 1 = true := by kernel_rfl
@[simp] theorem bf127_1 : bOff Tryz.prog 127 1 = 1 := by kernel_rfl
@[simp] theorem bt127_1 : bTy Tryz.prog 127 1 = 3 := by kernel_rfl
@[simp] theorem fk127_2 : fieldOk Tryz.prog 127 2 = true := by kernel_rfl
@[simp] theorem ff127_2 : fieldOff Tryz.prog 127 2 = 2 := by kernel_rfl
@[simp] theorem ft127_2 : fieldTy Tryz.prog 127 2 = 3 := by kernel_rfl
@[simp] theorem bk127_2 : bOk Tryz.prog 127 2 = true := by kernel_rfl
@[simp] theorem bf127_2 : bOff Tryz.prog 127 2 = 2 := by kernel_rfl
@[simp] theorem bt127_2 : bTy Tryz.prog 127 2 = 3 := by kernel_rfl
@[simp] theorem fk127_3 : fieldOk Tryz.prog 127 3 = true := by kernel_rfl
@[simp] theorem ff127_3 : fieldOff Tryz.prog 127 3 = 3 := by kernel_rfl
@[simp] theorem ft127_3 : fieldTy Tryz.prog 127 3 = 3 := by kernel_rfl
@[simp] theorem bk127_3 : bOk Tryz.prog 127 3 = true := by kernel_rfl
@[simp] theorem bf127_3 : bOff Tryz.prog 127 3 = 3 := by kernel_rfl
@[simp] theorem bt127_3 : bTy Tryz.prog 127 3 = 3 := by kernel_rfl
@[simp] theorem fk127_4 : fieldOk Tryz.prog 127 4 = true := by kernel_rfl
@[simp] theorem ff127_4 : fieldOff Tryz.prog 127 4 = 4 := by kernel_rfl
@[simp] theorem ft127_4 : fieldTy Tryz.prog 127 4 = 3 := by kernel_rfl
@[simp] theorem bk127_4 : bOk Tryz.prog 127 4 = true := by kernel_rfl
@[simp] theorem bf127_4 : bOff Tryz.prog 127 4 = 4 := by kernel_rfl
@[simp] theorem bt127_4 : bTy Tryz.prog 127 4 = 3 := by kernel_rfl
@[simp] theorem ty130 : tyOk Tryz.prog 130 = true := by kernel_rfl
@[simp] theorem ce130 : Tryz.prog.cellsOf 130 = 4 := by kernel_rfl
@[simp] theorem ag130 : aggT Tryz.prog 130 = true := by kernel_rfl
@[simp] theorem by130 : Tryz.prog.bytesOf 130 = 32 := by kernel_rfl
@[simp] theorem un130 : (Tryz.prog.underlying 130).isSome = true := by kernel_rfl
@[simp] theorem zr130 : zrow Tryz.prog 12 130 = some [.d (.int .i64 0), .d (.int .i64 0), .d (.int .i64 0), .d (.int .i64 0)] := by kernel_rfl
@[simp] theorem ze130 : zeroOk Tryz.prog 130 = true := by kernel_rfl
@[simp] theorem in130 : intT Tryz.prog 130 = none := by kernel_rfl
@[simp] theorem eq130 : eqOk Tryz.prog 130 = true := by kernel_rfl
@[simp] theorem fs130 : fieldTs Tryz.prog 130 = [3, 3, 3, 3] := by kernel_rfl
@[simp] theorem fk130_0 : fieldOk Tryz.prog 130 0 = true := by kernel_rfl
@[simp] theorem ff130_0 : fieldOff Tryz.prog 130 0 = 0 := by kernel_rfl
@[simp] theorem ft130_0 : fieldTy Tryz.prog 130 0 = 3 := by kernel_rfl
@[simp] theorem bk130_0 : bOk Tryz.prog 130 0 = true := by kernel_rfl
@[simp] theorem bf130_0 : bOff Tryz.prog 130 0 = 0 := by kernel_rfl
@[simp] theorem bt130_0 : bTy Tryz.prog 130 0 = 3 := by kernel_rfl
@[simp] theorem fk130_1 : fieldOk Tryz.prog 130 1 = true := by kernel_rfl
@[simp] theorem ff130_1 : fieldOff Tryz.prog 130 1 = 1 := by kernel_rfl
@[simp] theorem ft130_1 : fieldTy Tryz.prog 130 1 = 3 := by kernel_rfl
@[simp] theorem bk130_1 : bOk Tryz.prog 130 1 = true := by kernel_rfl
@[simp] theorem bf130_1 : bOff Tryz.prog 130 1 = 1 := by kernel_rfl
@[simp] theorem bt130_1 : bTy Tryz.prog 130 1 = 3 := by kernel_rfl
@[simp] theorem fk130_2 : fieldOk Tryz.prog 130 2 = true := by kernel_rfl
@[simp] theorem ff130_2 : fieldOff Tryz.prog 130 2 = 2 := by kernel_rfl
@[simp] theorem ft130_2 : fieldTy Tryz.prog 130 2 = 3 := by kernel_rfl
@[simp] theorem bk130_2 : bOk Tryz.prog 130 2 = true := by kernel_rfl
@[simp] theorem bf130_2 : bOff Tryz.prog 130 2 = 2 := by kernel_rfl
@[simp] theorem bt130_2 : bTy Tryz.prog 130 2 = 3 := by kernel_rfl
@[simp] theorem fk130_3 : fieldOk Tryz.prog 130 3 = true := by kernel_rfl
@[simp] theorem ff130_3 : fieldOff Tryz.prog 130 3 = 3 := by kernel_rfl
@[simp] theorem ft130_3 : fieldTy Tryz.prog 130 3 = 3 := by kernel_rfl
@[simp] theorem bk130_3 : bOk Tryz.prog 130 3 = true := by kernel_rfl
@[simp] theorem bf130_3 : bOff Tryz.prog 130 3 = 3 := by kernel_rfl
@[simp] theorem bt130_3 : bTy Tryz.prog 130 3 = 3 := by kernel_rfl
@[simp] theorem ty132 : tyOk Tryz.prog 132 = true := by kernel_rfl
@[simp] theorem ce132 : Tryz.prog.cellsOf 132 = 5 := by kernel_rfl
@[simp] theorem ag132 : aggT Tryz.prog 132 = true := by kernel_rfl
@[simp] theorem by132 : Tryz.prog.bytesOf 132 = 40 := by kernel_rfl
@[simp] theorem un132 : (Tryz.prog.underlying 132).isSome = true := by kernel_rfl
@[simp] theorem zr132 : zrow Tryz.prog 12 132 = some [.d (.int .i64 0), .d (.int .i64 0), .d (.int .i64 0), .d (.int .i64 0), .d (.int .i64 0)] := by kernel_rfl
@[simp] theorem ze132 : zeroOk Tryz.prog 132 = true := by kernel_rfl
@[simp] theorem in132 : intT Tryz.prog 132 = none := by kernel_rfl
@[simp] theorem eq132 : eqOk Tryz.prog 132 = true := by kernel_rfl
@[simp] theorem fs132 : fieldTs Tryz.prog 132 = [3, 3, 3, 3, 3] := by kernel_rfl
@[simp] theorem fk132_0 : fieldOk Tryz.prog 132 0 = true := by kernel_rfl
@[simp] theorem ff132_0 : fieldOff Tryz.prog 132 0 = 0 := by kernel_rfl
@[simp] theorem ft132_0 : fieldTy Tryz.prog 132 0 = 3 := by kernel_rfl
@[simp] theorem bk132_0 : bOk Tryz.prog 132 0 = true := by kernel_rfl
@[simp] theorem bf132_0 : bOff Tryz.prog 132 0 = 0 := by kernel_rfl
@[simp] theorem bt132_0 : bTy Tryz.prog 132 0 = 3 := by kernel_rfl
@[simp] theorem fk132_1 : fieldOk Tryz.prog 132 1 = true := by kernel_rfl
@[simp] theorem ff132_1 : fieldOff Tryz.prog 132 1 = 1 := by kernel_rfl
@[simp] theorem ft132_1 : fieldTy Tryz.prog 132 1 = 3 := by kernel_rfl
@[simp] theorem bk132_1 : bOk Tryz.prog 132 1 = true := by kernel_rfl
@[simp] theorem bf132_1 : bOff Tryz.prog 132 1 = 1 := by kernel_rfl
@[simp] theorem bt132_1 : bTy Tryz.prog 132 1 = 3 := by kernel_rfl
@[simp] theorem fk132_2 : fieldOk Tryz.prog 132 2 = true := by kernel_rfl
@[simp] theorem ff132_2 : fieldOff Tryz.prog 132 2 = 2 := by kernel_rfl
@[simp] theorem ft132_2 : fieldTy Tryz.prog 132 2 = 3 := by kernel_rfl
@[simp] theorem bk132_2 : bOk Tryz.prog 132 2 = true := by kernel_rfl
@[simp] theorem bf132_2 : bOff Tryz.prog 132 2 = 2 := by kernel_rfl
@[simp] theorem bt132_2 : bTy Tryz.prog 132 2 = 3 := by kernel_rfl
@[simp] theorem fk132_3 : fieldOk Tryz.prog 132 3 = true := by kernel_rfl
@[simp] theorem ff132_3 : fieldOff Tryz.prog 132 3 = 3 := by kernel_rfl
@[simp] theorem ft132_3 : fieldTy Tryz.prog 132 3 = 3 := by kernel_rfl
@[simp] theorem bk132_3 : bOk Tryz.prog 132 3 = true := by kernel_rfl
@[simp] theorem bf132_3 : bOff Tryz.prog 132 3 = 3 := by kernel_rfl
@[simp] theorem bt132_3 : bTy Tryz.prog 132 3 = 3 := by kernel_rfl
@[simp] theorem fk132_4 : fieldOk Tryz.prog 132 4 = true := by kernel_rfl
@[simp] theorem ff132_4 : fieldOff Tryz.prog 132 4 = 4 := by kernel_rfl
@[simp] theorem ft132_4 : fieldTy Tryz.prog 132 4 = 3 := by kernel_rfl
@[simp] theorem bk132_4 : bOk Tryz.prog 132 4 = true := by kernel_rfl
@[simp] theorem bf132_4 : bOff Tryz.prog 132 4 = 4 := by kernel_rfl
@[simp] theorem bt132_4 : bTy Tryz.prog 132 4 = 3 := by kernel_rfl
@[simp] theorem ty134 : tyOk Tryz.prog 134 = true := by kernel_rfl
@[simp] theorem ce134 : Tryz.prog.cellsOf 134 = 3 := by kernel_rfl
@[simp] theorem ag134 : aggT Tryz.prog 134 = true := by kernel_rfl
@[simp] theorem by134 : Tryz.prog.bytesOf 134 = 24 := by kernel_rfl
@[simp] theorem un134 : (Tryz.prog.underlying 134).isSome = true := by kernel_rfl
@[simp] theorem zr134 : zrow Tryz.prog 12 134 = some [.d (.int .i64 0), .d (.int .i64 0), .d (.int .i64 0)] := by kernel_rfl
@[simp] theorem ze134 : zeroOk Tryz.prog 134 = true := by kernel_rfl
@[simp] theorem in134 : intT Tryz.prog 134 = none := by kernel_rfl
@[simp] theorem eq134 : eqOk Tryz.prog 134 = true := by kernel_rfl
@[simp] theorem fs134 : fieldTs Tryz.prog 134 = [3, 3, 3] := by kernel_rfl
@[simp] theorem fk134_0 : fieldOk Tryz.prog 134 0 = true := by kernel_rfl
@[simp] theorem ff134_0 : fieldOff Tryz.prog 134 0 = 0 := by kernel_rfl
@[simp] theorem ft134_0 : fieldTy Tryz.prog 134 0 = 3 := by kernel_rfl
@[simp] theorem bk134_0 : bOk Tryz.prog 134 0 = true := by kernel_rfl
@[simp] theorem bf134_0 : bOff Tryz.prog 134 0 = 0 := by kernel_rfl
@[simp] theorem bt134_0 : bTy Tryz.prog 134 0 = 3 := by kernel_rfl
@[simp] theorem fk134_1 : fieldOk Tryz.prog 134 1 = true := by kernel_rfl
@[simp] theorem ff134_1 : fieldOff Tryz.prog 134 1 = 1 := by kernel_rfl
@[simp] theorem ft134_1 : fieldTy Tryz.prog 134 1 = 3 := by kernel_rfl
@[simp] theorem bk134_1 : bOk Tryz.prog 134 1 = true := by kernel_rfl
@[simp] theorem bf134_1 : bOff Tryz.prog 134 1 = 1 := by kernel_rfl
@[simp] theorem bt134_1 : bTy Tryz.prog 134 1 = 3 := by kernel_rfl
@[simp] theorem fk134_2 : fieldOk Tryz.prog 134 2 = true := by kernel_rfl
@[simp] theorem ff134_2 : fieldOff Tryz.prog 134 2 = 2 := by kernel_rfl
@[simp] theorem ft134_2 : fieldTy Tryz.prog 134 2 = 3 := by kernel_rfl
@[simp] theorem bk134_2 : bOk Tryz.prog 134 2 = true := by kernel_rfl
@[simp] theorem bf134_2 : bOff Tryz.prog 134 2 = 2 := by kernel_rfl
@[simp] theorem bt134_2 : bTy Tryz.prog 134 2 = 3 := by kernel_rfl
@[simp] theorem ty136 : tyOk Tryz.prog 136 = true := by kernel_rfl
@[simp] theorem ce136 : Tryz.prog.cellsOf 136 = 4 := by kernel_rfl
@[simp] theorem ag136 : aggT Tryz.prog 136 = true := by kernel_rfl
@[simp] theorem by136 : Tryz.prog.bytesOf 136 = 32 := by kernel_rfl
@[simp] theorem un136 : (Tryz.prog.underlying 136).isSome = true := by kernel_rfl
@[simp] theorem zr136 : zrow Tryz.prog 12 136 = some [.d (.int .i64 0), .d (.int .i64 0), .d (.int .i64 0), .d (.int .i64 0)] := by kernel_rfl
@[simp] theorem ze136 : zeroOk Tryz.prog 136 = true := by kernel_rfl
@[simp] theorem in136 : intT Tryz.prog 136 = none := by kernel_rfl
@[simp] theorem eq136 : eqOk Tryz.prog 136 = true := by kernel_rfl
@[simp] theorem fs136 : fieldTs Tryz.prog 136 = [3, 3, 3, 3] := by kernel_rfl
@[simp] theorem fk136_0 : fieldOk Tryz.prog 136 0 = true := by kernel_rfl
@[simp] theorem ff136_0 : fieldOff Tryz.prog 136 0 = 0 := by kernel_rfl
@[simp] theorem ft136_0 : fieldTy Tryz.prog 136 0 = 3 := by kernel_rfl
@[simp] theorem bk136_0 : bOk Tryz.prog 136 0 = true := by kernel_rfl
@[simp] theorem bf136_0 : bOff Tryz.prog 136 0 = 0 := by kernel_rfl
@[simp] theorem bt136_0 : bTy Tryz.prog 136 0 = 3 := by kernel_rfl
@[simp] theorem fk136_1 : fieldOk Tryz.prog 136 1 = true := by kernel_rfl
@[simp] theorem ff136_1 : fieldOff Tryz.prog 136 1 = 1 := by kernel_rfl
@[simp] theorem ft136_1 : fieldTy Tryz.prog 136 1 = 3 := by kernel_rfl
@[simp] theorem bk136_1 : bOk Tryz.prog 136 1 = true := by kernel_rfl
@[simp] theorem bf136_1 : bOff Tryz.prog 136 1 = 1 := by kernel_rfl
@[simp] theorem bt136_1 : bTy Tryz.prog 136 1 = 3 := by kernel_rfl
@[simp] theorem fk136_2 : fieldOk Tryz.prog 136 2 = true := by kernel_rfl
@[simp] theorem ff136_2 : fieldOff Tryz.prog 136 2 = 2 := by kernel_rfl
@[simp] theorem ft136_2 : fieldTy Tryz.prog 136 2 = 3 := by kernel_rfl
@[simp] theorem bk136_2 : bOk Tryz.prog 136 2 = true := by kernel_rfl
@[simp] theorem bf136_2 : bOff Tryz.prog 136 2 = 2 := by kernel_rfl
@[simp] theorem bt136_2 : bTy Tryz.prog 136 2 = 3 := by kernel_rfl
@[simp] theorem fk136_3 : fieldOk Tryz.prog 136 3 = true := by kernel_rfl
@[simp] theorem ff136_3 : fieldOff Tryz.prog 136 3 = 3 := by kernel_rfl
@[simp] theorem ft136_3 : fieldTy Tryz.prog 136 3 = 3 := by kernel_rfl
@[simp] theorem bk136_3 : bOk Tryz.prog 136 3 = true := by kernel_rfl
@[simp] theorem bf136_3 : bOff Tryz.prog 136 3 = 3 := by kernel_rfl
@[simp] theorem bt136_3 : bTy Tryz.prog 136 3 = 3 := by kernel_rfl
@[simp] theorem ty140 : tyOk Tryz.prog 140 = true := by kernel_rfl
@[simp] theorem ce140 : Tryz.prog.cellsOf 140 = 2 := by kernel_rfl
@[simp] theorem ag140 : aggT Tryz.prog 140 = true := by kernel_rfl
@[simp] theorem by140 : Tryz.prog.bytesOf 140 = 16 := by kernel_rfl
@[simp] theorem un140 : (Tryz.prog.underlying 140).isSome = true := by kernel_rfl
@[simp] theorem zr140 : zrow Tryz.prog 12 140 = some [.d (.int .i64 0), .d (.int .i64 0)] := by kernel_rfl
@[simp] theorem ze140 : zeroOk Tryz.prog 140 = true := by kernel_rfl
@[simp] theorem in140 : intT Tryz.prog 140 = none := by kernel_rfl
@[simp] theorem eq140 : eqOk Tryz.prog 140 = true := by kernel_rfl
@[simp] theorem fs140 : fieldTs Tryz.prog 140 = [3, 3] := by kernel_rfl
@[simp] theorem fk140_0 : fieldOk Tryz.prog 140 0 = true := by kernel_rfl
@[simp] theorem ff140_0 : fieldOff Tryz.prog 140 0 = 0 := by kernel_rfl
@[simp] theorem ft140_0 : fieldTy Tryz.prog 140 0 = 3 := by kernel_rfl
@[simp] theorem bk140_0 : bOk Tryz.prog 140 0 = true := by kernel_rfl
@[simp] theorem bf140_0 : bOff Tryz.prog 140 0 = 0 := by kernel_rfl
@[simp] theorem bt140_0 : bTy Tryz.prog 140 0 = 3 := by kernel_rfl
@[simp] theorem fk140_1 : fieldOk Tryz.prog 140 1 = true := by kernel_rfl
@[simp] theorem ff140_1 : fieldOff Tryz.prog 140 1 = 1 := by kernel_rfl
@[simp] theorem ft140_1 : fieldTy Tryz.prog 140 1 = 3 := by kernel_rfl
@[simp] theorem bk140_1 : bOk Tryz.prog 140 1 = true := by kernel_rfl
@[simp] theorem bf140_1 : bOff Tryz.prog 140 1 = 1 := by kernel_rfl
@[simp] theorem bt140_1 : bTy Tryz.prog 140 1 = 3 := by kernel_rfl
@[simp] theorem ty148 : tyOk Tryz.prog 148 = true := by kernel_rfl
@[simp] theorem ce148 : Tryz.prog.cellsOf 148 = 3 := by kernel_rfl
@[simp] theorem ag148 : aggT Tryz.prog 148 = true := by kernel_rfl
@[simp] theorem by148 : Tryz.prog.bytesOf 148 = 40 := by kernel_rfl
@[simp] theorem un148 : (Tryz.prog.underlying 148).isSome = true := by kernel_rfl
@[simp] theorem zr148 : zrow Tryz.prog 12 148 = some [.d (.int .i64 0), .nil 1, .d (.int .i64 0)] := by kernel_rfl
@[simp] theorem ze148 : zeroOk Tryz.prog 148 = true := by kernel_rfl
@[simp] theorem in148 : intT Tryz.prog 148 = none := by kernel_rfl
@[simp] theorem fk148_0 : fieldOk Tryz.prog 148 0 = true := by kernel_rfl
@[simp] theorem ff148_0 : fieldOff Tryz.prog 148 0 = 0 := by kernel_rfl
@[simp] theorem ft148_0 : fieldTy Tryz.prog 148 0 = 3 := by kernel_rfl
@[simp] theorem bk148_0 : bOk Tryz.prog 148 0 = true := by kernel_rfl
@[simp] theorem bf148_0 : bOff Tryz.prog 148 0 = 0 := by kernel_rfl
@[simp] theorem bt148_0 : bTy Tryz.prog 148 0 = 3 := by kernel_rfl
@[simp] theorem fk148_1 : fieldOk Tryz.prog 148 1 = true := by kernel_rfl
@[simp] theorem ff148_1 : fieldOff Tryz.prog 148 1 = 1 := by kernel_rfl
@[simp] theorem ft148_1 : fieldTy Tryz.prog 148 1 = 28 := by kernel_rfl
@[simp] theorem bk148_1 : bOk Tryz.prog 148 1 = true := by kernel_rfl
@[simp] theorem bf148_1 : bOff Tryz.prog 148 1 = 1 := by kernel_rfl
@[simp] theorem bt148_1 : bTy Tryz.prog 148 1 = 28 := by kernel_rfl
@[simp] theorem fk148_2 : fieldOk Tryz.prog 148 2 = true := by kernel_rfl
@[simp] theorem ff148_2 : fieldOff Tryz.prog 148 2 = 2 := by kernel_rfl
@[simp] theorem ft148_2 : fieldTy Tryz.prog 148 2 = 3 := by kernel_rfl
@[simp] theorem bk148_2 : bOk Tryz.prog 148 2 = true := by kernel_rfl
@[simp] theorem bf148_2 : bOff Tryz.prog 148 2 = 2 := by kernel_rfl
@[simp] theorem bt148_2 : bTy Tryz.prog 148 2 = 3 := by kernel_rfl
@[simp] theorem ty163 : tyOk Tryz.prog 163 = true := by kernel_rfl
@[simp] theorem ce163 : Tryz.prog.cellsOf 163 = 3 := by kernel_rfl
@[simp] theorem ag163 : aggT Tryz.prog 163 = true := by kernel_rfl
@[simp] theorem by163 : Tryz.prog.bytesOf 163 = 56 := by kernel_rfl
@[simp] theorem un163 : (Tryz.prog.underlying 163).isSome = true := by kernel_rfl
@[simp] theorem zr163 : zrow Tryz.prog 12 163 = some [.d (.int .i64 0), .nil 1, .nil 1] := by kernel_rfl
@[simp] theorem ze163 : zeroOk Tryz.prog 163 = true := by kernel_rfl
@[simp] theorem in163 : intT Tryz.prog 163 = none := by kernel_rfl
@[simp] theorem fk163_0 : fieldOk Tryz.prog 163 0 = true := by kernel_rfl
@[simp] theorem ff163_0 : fieldOff Tryz.prog 163 0 = 0 := by kernel_rfl
@[simp] theorem ft163_0 : fieldTy Tryz.prog 163 0 = 3 := by kernel_rfl
@[simp] theorem bk163_0 : bOk Tryz.prog 163 0 = true := by kernel_rfl
@[simp] theorem bf163_0 : bOff Tryz.prog 163 0 = 0 := by kernel_rfl
@[simp] theorem bt163_0 : bTy Tryz.prog 163 0 = 3 := by kernel_rfl
@[simp] theorem fk163_1 : fieldOk Tryz.prog 163 1 = true := by kernel_rfl
@[simp] theorem ff163_1 : fieldOff Tryz.prog 163 1 = 1 := by kernel_rfl
@[simp] theorem ft163_1 : fieldTy Tryz.prog 163 1 = 68 := by kernel_rfl
@[simp] theorem bk163_1 : bOk Tryz.prog 163 1 = true := by kernel_rfl
@[simp] theorem bf163_1 : bOff Tryz.prog 163 1 = 1 := by kernel_rfl
@[simp] theorem bt163_1 : bTy Tryz.prog 163 1 = 68 := by kernel_rfl
@[simp] theorem fk163_2 : fieldOk Tryz.prog 163 2 = true := by kernel_rfl
@[simp] theorem ff163_2 : fieldOff Tryz.prog 163 2 = 2 := by kernel_rfl
@[simp] theorem ft163_2 : fieldTy Tryz.prog 163 2 = 28 := by kernel_rfl
@[simp] theorem bk163_2 : bOk Tryz.prog 163 2 = true := by kernel_rfl
@[simp] theorem bf163_2 : bOff Tryz.prog 163 2 = 2 := by kernel_rfl
@[simp] theorem bt163_2 : bTy Tryz.prog 163 2 = 28 := by kernel_rfl
@[simp] theorem ty164 : tyOk Tryz.prog 164 = true := by kernel_rfl
@[simp] theorem ce164 : Tryz.prog.cellsOf 164 = 9 := by kernel_rfl
@[simp] theorem ag164 : aggT Tryz.prog 164 = true := by kernel_rfl
@[simp] theorem by164 : Tryz.prog.bytesOf 164 = 72 := by kernel_rfl
@[simp] theorem un164 : (Tryz.prog.underlying 164).isSome = true := by kernel_rfl
@[simp] theorem zr164 : zrow Tryz.prog 12 164 = some [.d (.int .i64 0), .d (.int .i64 0), .d (.int .i64 0), .d (.int .i64 0), .d (.int .i64 0), .d (.int .i64 0), .d (.int .i64 0), .d (.int .i64 0), .d (.int .i64 0)] := by kernel_rfl
@[simp] theorem ze164 : zeroOk Tryz.prog 164 = true := by kernel_rfl
@[simp] theorem in164 : intT Tryz.prog 164 = none := by kernel_rfl
@[simp] theorem eq164 : eqOk Tryz.prog 164 = true := by kernel_rfl
@[simp] theorem fs164 : fieldTs Tryz.prog 164 = [3, 3, 3, 3, 3, 3, 3, 3, 3] := by kernel_rfl
@[simp] theorem fk164_0 : fieldOk Tryz.prog 164 0 = true := by kernel_rfl
@[simp] theorem ff164_0 : fieldOff Tryz.prog 164 0 = 0 := by kernel_rfl
@[simp] theorem ft164_0 : fieldTy Tryz.prog 164 0 = 3 := by kernel_rfl
@[simp] theorem bk164_0 : bOk Tryz.prog 164 0 = true := by kernel_rfl
@[simp] theorem bf164_0 : bOff Tryz.prog 164 0 = 0 := by kernel_rfl
@[simp] theorem bt164_0 : bTy Tryz.prog 164 0 = 3 := by kernel_rfl
@[simp] theorem fk164_1 : fieldOk Tryz.prog 164 1 = true := by kernel_rfl
@[simp] theorem ff164_1 : fieldOff Tryz.prog 164 1 = 1 := by kernel_rfl
@[simp] theorem ft164_1 : fieldTy Tryz.prog 164 1 = 3 := by kernel_rfl
@[simp] theorem bk164_1 : bOk Tryz.prog 164 1 = true := by kernel_rfl
@[simp] theorem bf164_1 : bOff Tryz.prog 164 1 = 1 := by kernel_rfl
@[simp] theorem bt164_1 : bTy Tryz.prog 164 1 = 3 := by kernel_rfl
@[simp] theorem fk164_2 : fieldOk Tryz.prog 164 2 = true := by kernel_rfl
@[simp] theorem ff164_2 : fieldOff Tryz.prog 164 2 = 2 := by kernel_rfl
@[simp] theorem ft164_2 : fieldTy Tryz.prog 164 2 = 3 := by kernel_rfl
@[simp] theorem bk164_2 : bOk Tryz.prog 164 2 = true := by kernel_rfl
@[simp] theorem bf164_2 : bOff Tryz.prog 164 2 = 2 := by kernel_rfl
@[simp] theorem bt164_2 : bTy Tryz.prog 164 2 = 3 := by kernel_rfl
@[simp] theorem fk164_3 : fieldOk Tryz.prog 164 3 = true := by kernel_rfl
@[simp] theorem ff164_3 : fieldOff Tryz.prog 164 3 = 3 := by kernel_rfl
@[simp] theorem ft164_3 : fieldTy Tryz.prog 164 3 = 3 := by kernel_rfl
@[simp] theorem bk164_3 : bOk Tryz.prog 164 3 = true := by kernel_rfl
@[simp] theorem bf164_3 : bOff Tryz.prog 164 3 = 3 := by kernel_rfl
@[simp] theorem bt164_3 : bTy Tryz.prog 164 3 = 3 := by kernel_rfl
@[simp] theorem fk164_4 : fieldOk Tryz.prog 164 4 = true := by kernel_rfl
@[simp] theorem ff164_4 : fieldOff Tryz.prog 164 4 = 4 := by kernel_rfl
@[simp] theorem ft164_4 : fieldTy Tryz.prog 164 4 = 3 := by kernel_rfl
@[simp] theorem bk164_4 : bOk Tryz.prog 164 4 = true := by kernel_rfl
@[simp] theorem bf164_4 : bOff Tryz.prog 164 4 = 4 := by kernel_rfl
@[simp] theorem bt164_4 : bTy Tryz.prog 164 4 = 3 := by kernel_rfl
@[simp] theorem fk164_5 : fieldOk Tryz.prog 164 5 = true := by kernel_rfl
@[simp] theorem ff164_5 : fieldOff Tryz.prog 164 5 = 5 := by kernel_rfl
@[simp] theorem ft164_5 : fieldTy Tryz.prog 164 5 = 3 := by kernel_rfl
@[simp] theorem bk164_5 : bOk Tryz.prog 164 5 = true := by kernel_rfl
@[simp] theorem bf164_5 : bOff Tryz.prog 164 5 = 5 := by kernel_rfl
@[simp] theorem bt164_5 : bTy Tryz.prog 164 5 = 3 := by kernel_rfl
@[simp] theorem fk164_6 : fieldOk Tryz.prog 164 6 = true := by kernel_rfl
@[simp] theorem ff164_6 : fieldOff Tryz.prog 164 6 = 6 := by kernel_rfl
@[simp] theorem ft164_6 : fieldTy Tryz.prog 164 6 = 3 := by kernel_rfl
@[simp] theorem bk164_6 : bOk Tryz.prog 164 6 = true := by kernel_rfl
@[simp] theorem bf164_6 : bOff Tryz.prog 164 6 = 6 := by kernel_rfl
@[simp] theorem bt164_6 : bTy Tryz.prog 164 6 = 3 := by kernel_rfl
@[simp] theorem fk164_7 : fieldOk Tryz.prog 164 7 = true := by kernel_rfl
@[simp] theorem ff164_7 : fieldOff Tryz.prog 164 7 = 7 := by kernel_rfl
@[simp] theorem ft164_7 : fieldTy Tryz.prog 164 7 = 3 := by kernel_rfl
@[simp] theorem bk164_7 : bOk Tryz.prog 164 7 = true := by kernel_rfl
@[simp] theorem bf164_7 : bOff Tryz.prog 164 7 = 7 := by kernel_rfl
@[simp] theorem bt164_7 : bTy Tryz.prog 164 7 = 3 := by kernel_rfl
@[simp] theorem fk164_8 : fieldOk Tryz.prog 164 8 = true := by kernel_rfl
@[simp] theorem ff164_8 : fieldOff Tryz.prog 164 8 = 8 := by kernel_rfl
@[simp] theorem ft164_8 : fieldTy Tryz.prog 164 8 = 3 := by kernel_rfl
@[simp] theorem bk164_8 : bOk Tryz.prog 164 8 = true := by kernel_rfl
@[simp] theorem bf164_8 : bOff Tryz.prog 164 8 = 8 := by kernel_rfl
@[simp] theorem bt164_8 : bTy Tryz.prog 164 8 = 3 := by kernel_rfl
@[simp] theorem ty165 : tyOk Tryz.prog 165 = true := by kernel_rfl
@[simp] theorem ce165 : Tryz.prog.cellsOf 165 = 1 := by kernel_rfl
@[simp] theorem ag165 : aggT Tryz.prog 165 = false := by kernel_rfl
@[simp] theorem by165 : Tryz.prog.bytesOf 165 = 24 := by kernel_rfl
@[simp] theorem un165 : (Tryz.prog.underlying 165).isSome = true := by kernel_rfl
@[simp] theorem zr165 : zrow Tryz.prog 12 165 = some [.nil 3] := by kernel_rfl
@[simp] theorem ze165 : zeroOk Tryz.prog 165 = true := by kernel_rfl
@[simp] theorem in165 : intT Tryz.prog 165 = none := by kernel_rfl
@[simp] theorem sl165 : sliceT Tryz.prog 165 = true := by kernel_rfl
@[simp] theorem el165 : elemT Tryz.prog 165 = 223 := by kernel_rfl
@[simp] theorem bs165 : byteT Tryz.prog 165 = false := by kernel_rfl
@[simp] theorem st165 : strT Tryz.prog 165 = false := by kernel_rfl
@[simp] theorem ty166 : tyOk Tryz.prog 166 = true := by kernel_rfl
@[simp] theorem ce166 : Tryz.prog.cellsOf 166 = 1 := by kernel_rfl
@[simp] theorem ag166 : aggT Tryz.prog 166 = false := by kernel_rfl
@[simp] theorem by166 : Tryz.prog.bytesOf 166 = 24 := by kernel_rfl
@[simp] theorem un166 : (Tryz.prog.underlying 166).isSome = true := by kernel_rfl
@[simp] theorem zr166 : zrow Tryz.prog 12 166 = some [.nil 5] := by kernel_rfl
@[simp] theorem ze166 : zeroOk Tryz.prog 166 = true := by kernel_rfl
@[simp] theorem in166 : intT Tryz.prog 166 = none := by kernel_rfl
@[simp] theorem sl166 : sliceT Tryz.prog 166 = true := by kernel_rfl
@[simp] theorem el166 : elemT Tryz.prog 166 = 228 := by kernel_rfl
@[simp] theorem bs166 : byteT Tryz.prog 166 = false := by kernel_rfl
@[simp] theorem st166 : strT Tryz.prog 166 = false := by kernel_rfl
@[simp] theorem ty168 : tyOk Tryz.prog 168 = true := by kernel_rfl
@[simp] theorem ce168 : Tryz.prog.cellsOf 168 = 2 := by kernel_rfl
@[simp] theorem ag168 : aggT Tryz.prog 168 = true := by kernel_rfl
@[simp] theorem by168 : Tryz.prog.bytesOf 168 = 48 := by kernel_rfl
@[simp] theorem un168 : (Tryz.prog.underlying 168).isSome = true := by kernel_rfl
@[simp] theorem zr168 : zrow Tryz.prog 12 168 = some [.nil 3, .nil 5] := by kernel_rfl
@[simp] theorem ze168 : zeroOk Tryz.prog 168 = true := by kernel_rfl
@[simp] theorem in168 : intT Tryz.prog 168 = none := by kernel_rfl
@[simp] theorem fk168_0 : fieldOk Tryz.prog 168 0 = true := by kernel_rfl
@[simp] theorem ff168_0 : fieldOff Tryz.prog 168 0 = 0 := by kernel_rfl
@[simp] theorem ft168_0 : fieldTy Tryz.prog 168 0 = 165 := by kernel_rfl
@[simp] theorem bk168_0 : bOk Tryz.prog 168 0 = true := by kernel_rfl
@[simp] theorem bf168_0 : bOff Tryz.prog 168 0 = 0 := by kernel_rfl
@[simp] theorem bt168_0 : bTy Tryz.prog 168 0 = 165 := by kernel_rfl
@[simp] theorem fk168_1 : fieldOk Tryz.prog 168 1 = true := by kernel_rfl
@[simp] theorem ff168_1 : fieldOff Tryz.prog 168 1 = 1 := by kernel_rfl
@[simp] theorem ft168_1 : fieldTy Tryz.prog 168 1 = 166 := by kernel_rfl
@[simp] theorem bk168_1 : bOk Tryz.prog 168 1 = true := by kernel_rfl
@[simp] theorem bf168_1 : bOff Tryz.prog 168 1 = 1 := by kernel_rfl
@[simp] theorem bt168_1 : bTy Tryz.prog 168 1 = 166 := by kernel_rfl
@[simp] theorem ty170 : tyOk Tryz.prog 170 = true := by kernel_rfl
@[simp] theorem ce170 : Tryz.prog.cellsOf 170 = 16 := by kernel_rfl
@[simp] theorem ag170 : aggT Tryz.prog 170 = true := by kernel_rfl
@[simp] theorem by170 : Tryz.prog.bytesOf 170 = 192 := by kernel_rfl
@[simp] theorem un170 : (Tryz.prog.underlying 170).isSome = true := by kernel_rfl
@[simp] theorem zr170 : zrow Tryz.prog 12 170 = some [.d (.int .i64 0), .d (.int .i64 0), .d (.int .i64 0), .nil 1, .nil 1, .d (.int .i64 0), .d (.int .i64 0), .d (.int .i64 0), .d (.int .i64 0), .d (.int .i64 0), .d (.int .i64 0), .d (.int .i64 0), .d (.int .i64 0), .d (.int .i64 0), .nil 3, .nil 5] := by kernel_rfl
@[simp] theorem ze170 : zeroOk Tryz.prog 170 = true := by kernel_rfl
@[simp] theorem in170 : intT Tryz.prog 170 = none := by kernel_rfl
@[simp] theorem fk170_0 : fieldOk Tryz.prog 170 0 = true := by kernel_rfl
@[simp] theorem ff170_0 : fieldOff Tryz.prog 170 0 = 0 := by kernel_rfl
@[simp] theorem ft170_0 : fieldTy Tryz.prog 170 0 = 3 := by kernel_rfl
@[simp] theorem bk170_0 : bOk Tryz.prog 170 0 = true := by kernel_rfl
@[simp] theorem bf170_0 : bOff Tryz.prog 170 0 = 0 := by kernel_rfl
@[simp] theorem bt170_0 : bTy Tryz.prog 170 0 = 3 := by kernel_rfl
@[simp] theorem fk170_1 : fieldOk Tryz.prog 170 1 = true := by kernel_rfl
@[simp] theorem ff170_1 : fieldOff Tryz.prog 170 1 = 1 := by kernel_rfl
@[simp] theorem ft170_1 : fieldTy Tryz.prog 170 1 = 3 := by kernel_rfl
@[simp] theorem bk170_1 : bOk Tryz.prog 170 1 = true := by kernel_rfl
@[simp] theorem bf170_1 : bOff Tryz.prog 170 1 = 1 := by kernel_rfl
@[simp] theorem bt170_1 : bTy Tryz.prog 170 1 = 3 := by kernel_rfl
@[simp] theorem fk170_2 : fieldOk Tryz.prog 170 2 = true := by kernel_rfl
@[simp] theorem ff170_2 : fieldOff Tryz.prog 170 2 = 2 := by kernel_rfl
@[simp] theorem ft170_2 : fieldTy Tryz.prog 170 2 = 163 := by kernel_rfl
@[simp] theorem bk170_2 : bOk Tryz.prog 170 2 = true := by kernel_rfl
@[simp] theorem bf170_2 : bOff Tryz.prog 170 2 = 2 := by kernel_rfl
@[simp] theorem bt170_2 : bTy Tryz.prog 170 2 = 163 := by kernel_rfl
@[simp] theorem fk170_3 : fieldOk Tryz.prog 170 3 = true := by kernel_rfl
@[simp] theorem ff170_3 : fieldOff Tryz.prog 170 3 = 5 := by kernel_rfl
@[simp] theorem ft170_3 : fieldTy Tryz.prog 170 3 = 164 := by kernel_rfl
@[simp] theorem bk170_3 : bOk Tryz.prog 170 3 = true := by kernel_rfl
@[simp] theorem bf170_3 : bOff Tryz.prog 170 3 = 5 := by kernel_rfl
@[simp] theorem bt170_3 : bTy Tryz.prog 170 3 = 164 := by kernel_rfl
@[simp] theorem fk170_4 : fieldOk Tryz.prog 170 4 = true := by kernel_rfl
@[simp] theorem ff170_4 : fieldOff Tryz.prog 170 4 = 14 := by kernel_rfl
@[simp] theorem ft170_4 : fieldTy Tryz.prog 170 4 = 168 := by kernel_rfl
@[simp] theorem bk170_4 : bOk Tryz.prog 170 4 = true := by kernel_rfl
@[simp] theorem bf170_4 : bOff Tryz.prog 170 4 = 14 := by kernel_rfl
@[simp] theorem bt170_4 : bTy Tryz.prog 170 4 = 168 := by kernel_rfl
@[simp] theorem ty181 : tyOk Tryz.prog 181 = true := by kernel_rfl
@[simp] theorem ce181 : Tryz.prog.cellsOf 181 = 5 := by kernel_rfl
@[simp] theorem ag181 : aggT Tryz.prog 181 = true := by kernel_rfl
@[simp] theorem by181 : Tryz.prog.bytesOf 181 = 40 := by kernel_rfl
@[simp] theorem un181 : (Tryz.prog.underlying 181).isSome = true := by kernel_rfl
@[simp] theorem zr181 : zrow Tryz.prog 12 181 = some [.d (.int .i64 0), .d (.int .i64 0), .d (.int .i64 0), .d (.int .i64 0), .d (.int .i64 0)] := by kernel_rfl
@[simp] theorem ze181 : zeroOk Tryz.prog 181 = true := by kernel_rfl
@[simp] theorem in181 : intT Tryz.prog 181 = none := by kernel_rfl
@[simp] theorem eq181 : eqOk Tryz.prog 181 = true := by kernel_rfl
@[simp] theorem fs181 : fieldTs Tryz.prog 181 = [3, 3, 3, 3, 3] := by kernel_rfl
@[simp] theorem fk181_0 : fieldOk Tryz.prog 181 0 = true := by kernel_rfl
@[simp] theorem ff181_0 : fieldOff Tryz.prog 181 0 = 0 := by kernel_rfl
@[simp] theorem ft181_0 : fieldTy Tryz.prog 181 0 = 3 := by kernel_rfl
@[simp] theorem bk181_0 : bOk Tryz.prog 181 0 = true := by kernel_rfl
@[simp] theorem bf181_0 : bOff Tryz.prog 181 0 = 0 := by kernel_rfl
@[simp] theorem bt181_0 : bTy Tryz.prog 181 0 = 3 := by kernel_rfl
@[simp] theorem fk181_1 : fieldOk Tryz.prog 181 1 = true := by kernel_rfl
@[simp] theorem ff181_1 : fieldOff Tryz.prog 181 1 = 1 := by kernel_rfl
@[simp] theorem ft181_1 : fieldTy Tryz.prog 181 1 = 3 := by kernel_rfl
@[simp] theorem bk181_1 : bOk Tryz.prog 181 1 = true := by kernel_rfl
@[simp] theorem bf181_1 : bOff Tryz.prog 181 1 = 1 := by kernel_rfl
@[simp] theorem bt181_1 : bTy Tryz.prog 181 1 = 3 := by kernel_rfl
@[simp] theorem fk181_2 : fieldOk Tryz.prog 181 2 = true := by kernel_rfl
@[simp] theorem ff181_2 : fieldOff Tryz.prog 181 2 = 2 := by kernel_rfl
@[simp] theorem ft181_2 : fieldTy Tryz.prog 181 2 = 3 := by kernel_rfl
@[simp] theorem bk181_2 : bOk Tryz.prog 181 2 = true := by kernel_rfl
@[simp] theorem bf181_2 : bOff Tryz.prog 181 2 = 2 := by kernel_rfl
@[simp] theorem bt181_2 : bTy Tryz.prog 181 2 = 3 := by kernel_rfl
@[simp] theorem fk181_3 : fieldOk Tryz.prog 181 3 = true := by kernel_rfl
@[simp] theorem ff181_3 : fieldOff Tryz.prog 181 3 = 3 := by kernel_rfl
@[simp] theorem ft181_3 : fieldTy Tryz.prog 181 3 = 3 := by kernel_rfl
@[simp] theorem bk181_3 : bOk Tryz.prog 181 3 = true := by kernel_rfl
@[simp] theorem bf181_3 : bOff Tryz.prog 181 3 = 3 := by kernel_rfl
@[simp] theorem bt181_3 : bTy Tryz.prog 181 3 = 3 := by kernel_rfl
@[simp] theorem fk181_4 : fieldOk Tryz.prog 181 4 = true := by kernel_rfl
@[simp] theorem ff181_4 : fieldOff Tryz.prog 181 4 = 4 := by kernel_rfl
@[simp] theorem ft181_4 : fieldTy Tryz.prog 181 4 = 3 := by kernel_rfl
@[simp] theorem bk181_4 : bOk Tryz.prog 181 4 = true := by kernel_rfl
@[simp] theorem bf181_4 : bOff Tryz.prog 181 4 = 4 := by kernel_rfl
@[simp] theorem bt181_4 : bTy Tryz.prog 181 4 = 3 := by kernel_rfl
@[simp] theorem ty187 : tyOk Tryz.prog 187 = true := by kernel_rfl
@[simp] theorem ce187 : Tryz.prog.cellsOf 187 = 1 := by kernel_rfl
@[simp] theorem ag187 : aggT Tryz.prog 187 = false := by kernel_rfl
@[simp] theorem by187 : Tryz.prog.bytesOf 187 = 24 := by kernel_rfl
@[simp] theorem un187 : (Tryz.prog.underlying 187).isSome = true := by kernel_rfl
@[simp] theorem zr187 : zrow Tryz.prog 12 187 = some [.nil 1] := by kernel_rfl
@[simp] theorem ze187 : zeroOk Tryz.prog 187 = true := by kernel_rfl
@[simp] theorem in187 : intT Tryz.prog 187 = none := by kernel_rfl
@[simp] theorem sl187 : sliceT Tryz.prog 187 = true := by kernel_rfl
@[simp] theorem el187 : elemT Tryz.prog 187 = 5 := by kernel_rfl
@[simp] theorem bs187 : byteT Tryz.prog 187 = true := by kernel_rfl
@[simp] theorem st187 : strT Tryz.prog 187 = false := by kernel_rfl
@[simp] theorem ty197 : tyOk Tryz.prog 197 = true := by kernel_rfl
@[simp] theorem ce197 : Tryz.prog.cellsOf 197 = 1 := by kernel_rfl
@[simp] theorem ag197 : aggT Tryz.prog 197 = false := by kernel_rfl
@[simp] theorem by197 : Tryz.prog.bytesOf 197 = 24 := by kernel_rfl
@[simp] theorem un197 : (Tryz.prog.underlying 197).isSome = true := by kernel_rfl
@[simp] theorem zr197 : zrow Tryz.prog 12 197 = some [.nil 2] := by kernel_rfl
@[simp] theorem ze197 : zeroOk Tryz.prog 197 = true := by kernel_rfl
@[simp] theorem in197 : intT Tryz.prog 197 = none := by kernel_rfl
@[simp] theorem sl197 : sliceT Tryz.prog 197 = true := by kernel_rfl
@[simp] theorem el197 : elemT Tryz.prog 197 = 140 := by kernel_rfl
@[simp] theorem bs197 : byteT Tryz.prog 197 = false := by kernel_rfl
@[simp] theorem st197 : strT Tryz.prog 197 = false := by kernel_rfl
@[simp] theorem ty203 : tyOk Tryz.prog 203 = true := by kernel_rfl
@[simp] theorem ce203 : Tryz.prog.cellsOf 203 = 2 := by kernel_rfl
@[simp] theorem ag203 : aggT Tryz.prog 203 = true := by kernel_rfl
@[simp] theorem by203 : Tryz.prog.bytesOf 203 = 16 := by kernel_rfl
@[simp] theorem un203 : (Tryz.prog.underlying 203).isSome = true := by kernel_rfl
@[simp] theorem zr203 : zrow Tryz.prog 12 203 = some [.d (.int .i64 0), .d (.bool false)] := by kernel_rfl
@[simp] theorem ze203 : zeroOk Tryz.prog 203 = true := by kernel_rfl
@[simp] theorem in203 : intT Tryz.prog 203 = none := by kernel_rfl
@[simp] theorem eq203 : eqOk Tryz.prog 203 = true := by kernel_rfl
@[simp] theorem fs203 : fieldTs Tryz.prog 203 = [3, 4] := by kernel_rfl
@[simp] theorem fk203_0 : fieldOk Tryz.prog 203 0 = true := by kernel_rfl
@[simp] theorem ff203_0 : fieldOff Tryz.prog 203 0 = 0 := by kernel_rfl
@[simp] theorem ft203_0 : fieldTy Tryz.prog 203 0 = 3 := by kernel_rfl
@[simp] theorem bk203_0 : bOk Tryz.prog 203 0 = true := by kernel_rfl
@[simp] theorem bf203_0 : bOff Tryz.prog 203 0 = 0 := by kernel_rfl
@[simp] theorem bt203_0 : bTy Tryz.prog 203 0 = 3 := by kernel_rfl
@[simp] theorem fk203_1 : fieldOk Tryz.prog 203 1 = true := by kernel_rfl
@[simp] theorem ff203_1 : fieldOff Tryz.prog 203 1 = 1 := by kernel_rfl
@[simp] theorem ft203_1 : fieldTy Tryz.prog 203 1 = 4 := by kernel_rfl
@[simp] theorem bk203_1 : bOk Tryz.prog 203 1 = true := by kernel_rfl
@[simp] theorem bf203_1 : bOff Tryz.prog 203 1 = 1 := by kernel_rfl
@[simp] theorem bt203_1 : bTy Tryz.prog 203 1 = 4 := by kernel_rfl
@[simp] theorem ty223 : tyOk Tryz.prog 223 = true := by kernel_rfl
@[simp] theorem ce223 : Tryz.prog.cellsOf 223 = 3 := by kernel_rfl
@[simp] theorem ag223 : aggT Tryz.prog 223 = true := by kernel_rfl
@[simp] theorem by223 : Tryz.prog.bytesOf 223 = 40 := by kernel_rfl
@[simp] theorem un223 : (Tryz.prog.underlying 223).isSome = true := by kernel_rfl
@[simp] theorem zr223 : zrow Tryz.prog 12 223 = some [.d (.int .i64 0), .nil 1, .d (.int .i64 0)] := by kernel_rfl
@[simp] theorem ze223 : zeroOk Tryz.prog 223 = true := by kernel_rfl
@[simp] theorem in223 : intT Tryz.prog 223 = none := by kernel_rfl
@[simp] theorem fk223_0 : fieldOk Tryz.prog 223 0 = true := by kernel_rfl
@[simp] theorem ff223_0 : fieldOff Tryz.prog 223 0 = 0 := by kernel_rfl
@[simp] theorem ft223_0 : fieldTy Tryz.prog 223 0 = 3 := by kernel_rfl
@[simp] theorem bk223_0 : bOk Tryz.prog 223 0 = true := by kernel_rfl
@[simp] theorem bf223_0 : bOff Tryz.prog 223 0 = 0 := by kernel_rfl
@[simp] theorem bt223_0 : bTy Tryz.prog 223 0 = 3 := by kernel_rfl
@[simp] theorem fk223_1 : fieldOk Tryz.prog 223 1 = true := by kernel_rfl
@[simp] theorem ff223_1 : fieldOff Tryz.prog 223 1 = 1 := by kernel_rfl
@[simp] theorem ft223_1 : fieldTy Tryz.prog 223 1 = 28 := by kernel_rfl
@[simp] theorem bk223_1 : bOk Tryz.prog 223 1 = true := by kernel_rfl
@[simp] theorem bf223_1 : bOff Tryz.prog 223 1 = 1 := by kernel_rfl
@[simp] theorem bt223_1 : bTy Tryz.prog 223 1 = 28 := by kernel_rfl
@[simp] theorem fk223_2 : fieldOk Tryz.prog 223 2 = true := by kernel_rfl
@[simp] theorem ff223_2 : fieldOff Tryz.prog 223 2 = 2 := by kernel_rfl
@[simp] theorem ft223_2 : fieldTy Tryz.prog 223 2 = 3 := by kernel_rfl
@[simp] theorem bk223_2 : bOk Tryz.prog 223 2 = true := by kernel_rfl
@[simp] theorem bf223_2 : bOff Tryz.prog 223 2 = 2 := by kernel_rfl
@[simp] theorem bt223_2 : bTy Tryz.prog 223 2 = 3 := by kernel_rfl
@[simp] theorem ty225 : tyOk Tryz.prog 225 = true := by kernel_rfl
@[simp] theorem ce225 : Tryz.prog.cellsOf 225 = 1 := by kernel_rfl
@[simp] theorem ag225 : aggT Tryz.prog 225 = false := by kernel_rfl
@[simp] theorem by225 : Tryz.prog.bytesOf 225 = 24 := by kernel_rfl
@[simp] theorem un225 : (Tryz.prog.underlying 225).isSome = true := by kernel_rfl
@[simp] theorem zr225 : zrow Tryz.prog 12 225 = some [.nil 2] := by kernel_rfl
@[simp] theorem ze225 : zeroOk Tryz.prog 225 = true := by kernel_rfl
@[simp] theorem in225 : intT Tryz.prog 225 = none := by kernel_rfl
@[simp] theorem sl225 : sliceT Tryz.prog 225 = true := by kernel_rfl
@[simp] theorem el225 : elemT Tryz.prog 225 = 240 := by kernel_rfl
@[simp] theorem bs225 : byteT Tryz.prog 225 = false := by kernel_rfl
@[simp] theorem st225 : strT Tryz.prog 225 = false := by kernel_rfl
@[simp] theorem ty226 : tyOk Tryz.prog 226 = true := by kernel_rfl
@[simp] theorem ce226 : Tryz.prog.cellsOf 226 = 1 := by kernel_rfl
@[simp] theorem ag226 : aggT Tryz.prog 226 = false := by kernel_rfl
@[simp] theorem by226 : Tryz.prog.bytesOf 226 = 24 := by kernel_rfl
@[simp] theorem un226 : (Tryz.prog.underlying 226).isSome = true := by kernel_rfl
@[simp] theorem zr226 : zrow Tryz.prog 12 226 = some [.nil 5] := by kernel_rfl
@[simp] theorem ze226 : zeroOk Tryz.prog 226 = true := by kernel_rfl
@[simp] theorem in226 : intT Tryz.prog 226 = none := by kernel_rfl
@[simp] theorem sl226 : sliceT Tryz.prog 226 = true := by kernel_rfl
@[simp] theorem el226 : elemT Tryz.prog 226 = 242 := by kernel_rfl
@[simp] theorem bs226 : byteT Tryz.prog 226 = false := by kernel_rfl
@[simp] theorem st226 : strT Tryz.prog 226 = false := by kernel_rfl
@[simp] theorem ty228 : tyOk Tryz.prog 228 = true := by kernel_rfl
@[simp] theorem ce228 : Tryz.prog.cellsOf 228 = 5 := by kernel_rfl
@[simp] theorem ag228 : aggT Tryz.prog 228 = true := by kernel_rfl
@[simp] theorem by228 : Tryz.prog.bytesOf 228 = 72 := by kernel_rfl
@[simp] theorem un228 : (Tryz.prog.underlying 228).isSome = true := by kernel_rfl
@[simp] theorem zr228 : zrow Tryz.prog 12 228 = some [.d (.int .i64 0), .d (.int .i64 0), .d (.int .i64 0), .nil 2, .nil 5] := by kernel_rfl
@[simp] theorem ze228 : zeroOk Tryz.prog 228 = true := by kernel_rfl
@[simp] theorem in228 : intT Tryz.prog 228 = none := by kernel_rfl
@[simp] theorem fk228_0 : fieldOk Tryz.prog 228 0 = true := by kernel_rfl
@[simp] theorem ff228_0 : fieldOff Tryz.prog 228 0 = 0 := by kernel_rfl
@[simp] theorem ft228_0 : fieldTy Tryz.prog 228 0 = 3 := by kernel_rfl
@[simp] theorem bk228_0 : bOk Tryz.prog 228 0 = true := by kernel_rfl
@[simp] theorem bf228_0 : bOff Tryz.prog 228 0 = 0 := by kernel_rfl
@[simp] theorem bt228_0 : bTy Tryz.prog 228 0 = 3 := by kernel_rfl
@[simp] theorem fk228_1 : fieldOk Tryz.prog 228 1 = true := by kernel_rfl
@[simp] theorem ff228_1 : fieldOff Tryz.prog 228 1 = 1 := by kernel_rfl
@[simp] theorem ft228_1 : fieldTy Tryz.prog 228 1 = 3 := by kernel_rfl
@[simp] theorem bk228_1 : bOk Tryz.prog 228 1 = true := by kernel_rfl
@[simp] theorem bf228_1 : bOff Tryz.prog 228 1 = 1 := by kernel_rfl
@[simp] theorem bt228_1 : bTy Tryz.prog 228 1 = 3 := by kernel_rfl
@[simp] theorem fk228_2 : fieldOk Tryz.prog 228 2 = true := by kernel_rfl
@[simp] theorem ff228_2 : fieldOff Tryz.prog 228 2 = 2 := by kernel_rfl
@[simp] theorem ft228_2 : fieldTy Tryz.prog 228 2 = 3 := by kernel_rfl
@[simp] theorem bk228_2 : bOk Tryz.prog 228 2 = true := by kernel_rfl
@[simp] theorem bf228_2 : bOff Tryz.prog 228 2 = 2 := by kernel_rfl
@[simp] theorem bt228_2 : bTy Tryz.prog 228 2 = 3 := by kernel_rfl
@[simp] theorem fk228_3 : fieldOk Tryz.prog 228 3 = true := by kernel_rfl
@[simp] theorem ff228_3 : fieldOff Tryz.prog 228 3 = 3 := by kernel_rfl
@[simp] theorem ft228_3 : fieldTy Tryz.prog 228 3 = 225 := by kernel_rfl
@[simp] theorem bk228_3 : bOk Tryz.prog 228 3 = true := by kernel_rfl
@[simp] theorem bf228_3 : bOff Tryz.prog 228 3 = 3 := by kernel_rfl
@[simp] theorem bt228_3 : bTy Tryz.prog 228 3 = 225 := by kernel_rfl
@[simp] theorem fk228_4 : fieldOk Tryz.prog 228 4 = true := by kernel_rfl
@[simp] theorem ff228_4 : fieldOff Tryz.prog 228 4 = 4 := by kernel_rfl
@[simp] theorem ft228_4 : fieldTy Tryz.prog 228 4 = 226 := by kernel_rfl
@[simp] theorem bk228_4 : bOk Tryz.prog 228 4 = true := by kernel_rfl
@[simp] theorem bf228_4 : bOff Tryz.prog 228 4 = 4 := by kernel_rfl
@[simp] theorem bt228_4 : bTy Tryz.prog 228 4 = 226 := by kernel_rfl
@[simp] theorem ty240 : tyOk Tryz.prog 240 = true := by kernel_rfl
@[simp] theorem ce240 : Tryz.prog.cellsOf 240 = 2 := by kernel_rfl
@[simp] theorem ag240 : aggT Tryz.prog 240 = true := by kernel_rfl
@[simp] theorem by240 : Tryz.prog.bytesOf 240 = 16 := by kernel_rfl
@[simp] theorem un240 : (Tryz.prog.underlying 240).isSome = true := by kernel_rfl
@[simp] theorem zr240 : zrow Tryz.prog 12 240 = some [.d (.int .i64 0), .d (.bool false)] := by kernel_rfl
@[simp] theorem ze240 : zeroOk Tryz.prog 240 = true := by kernel_rfl
@[simp] theorem in240 : intT Tryz.prog 240 = none := by kernel_rfl
@[simp] theorem eq240 : eqOk Tryz.prog 240 = true := by kernel_rfl
@[simp] theorem fs240 : fieldTs Tryz.prog 240 = [3, 4] := by kernel_rfl
@[simp] theorem fk240_0 : fieldOk Tryz.prog 240 0 = true := by kernel_rfl
@[simp] theorem ff240_0 : fieldOff Tryz.prog 240 0 = 0 := by kernel_rfl
@[simp] theorem ft240_0 : fieldTy Tryz.prog 240 0 = 3 := by kernel_rfl
@[simp] theorem bk240_0 : bOk Tryz.prog 240 0 = true := by kernel_rfl
@[simp] theorem bf240_0 : bOff Tryz.prog 240 0 = 0 := by kernel_rfl
@[simp] theorem bt240_0 : bTy Tryz.prog 240 0 = 3 := by kernel_rfl
@[simp] theorem fk240_1 : fieldOk Tryz.prog 240 1 = true := by kernel_rfl
@[simp] theorem ff240_1 : fieldOff Tryz.prog 240 1 = 1 := by kernel_rfl
@[simp] theorem ft240_1 : fieldTy Tryz.prog 240 1 = 4 := by kernel_rfl
@[simp] theorem bk240_1 : bOk Tryz.prog 240 1 = true := by kernel_rfl
@[simp] theorem bf240_1 : bOff Tryz.prog 240 1 = 1 := by kernel_rfl
@[simp] theorem bt240_1 : bTy Tryz.prog 240 1 = 4 := by kernel_rfl
@[simp] theorem ty242 : tyOk Tryz.prog 242 = true := by kernel_rfl
@[simp] theorem ce242 : Tryz.prog.cellsOf 242 = 5 := by kernel_rfl
@[simp] theorem ag242 : aggT Tryz.prog 242 = true := by kernel_rfl
@[simp] theorem by242 : Tryz.prog.bytesOf 242 = 40 := by kernel_rfl
@[simp] theorem un242 : (Tryz.prog.underlying 242).isSome = true := by kernel_rfl
@[simp] theorem zr242 : zrow Tryz.prog 12 242 = some [.d (.int .i64 0), .d (.int .i64 0), .d (.int .i64 0), .d (.int .i64 0), .d (.int .i64 0)] := by kernel_rfl
@[simp] theorem ze242 : zeroOk Tryz.prog 242 = true := by kernel_rfl
@[simp] theorem in242 : intT Tryz.prog 242 = none := by kernel_rfl
@[simp] theorem eq242 : eqOk Tryz.prog 242 = true := by kernel_rfl
@[simp] theorem fs242 : fieldTs Tryz.prog 242 = [3, 3, 3, 3, 3] := by kernel_rfl
@[simp] theorem fk242_0 : fieldOk Tryz.prog 242 0 = true := by kernel_rfl
@[simp] theorem ff242_0 : fieldOff Tryz.prog 242 0 = 0 := by kernel_rfl
@[simp] theorem ft242_0 : fieldTy Tryz.prog 242 0 = 3 := by kernel_rfl
@[simp] theorem bk242_0 : bOk Tryz.prog 242 0 = true := by kernel_rfl
@[simp] theorem bf242_0 : bOff Tryz.prog 242 0 = 0 := by kernel_rfl
@[simp] theorem bt242_0 : bTy Tryz.prog 242 0 = 3 := by kernel_rfl
@[simp] theorem fk242_1 : fieldOk Tryz.prog 242 1 = true := by kernel_rfl
@[simp] theorem ff242_1 : fieldOff Tryz.prog 242 1 = 1 := by kernel_rfl
@[simp] theorem ft242_1 : fieldTy Tryz.prog 242 1 = 3 := by kernel_rfl
@[simp] theorem bk242_1 : bOk Tryz.prog 242 1 = true := by kernel_rfl
@[simp] theorem bf242_1 : bOff Tryz.prog 242 1 = 1 := by kernel_rfl
@[simp] theorem bt242_1 : bTy Tryz.prog 242 1 = 3 := by kernel_rfl
@[simp] theorem fk242_2 : fieldOk Tryz.prog 242 2 = true := by kernel_rfl
@[simp] theorem ff242_2 : fieldOff Tryz.prog 242 2 = 2 := by kernel_rfl
@[simp] theorem ft242_2 : fieldTy Tryz.prog 242 2 = 3 := by kernel_rfl
@[simp] theorem bk242_2 : bOk Tryz.prog 242 2 = true := by kernel_rfl
@[simp] theorem bf242_2 : bOff Tryz.prog 242 2 = 2 := by kernel_rfl
@[simp] theorem bt242_2 : bTy Tryz.prog 242 2 = 3 := by kernel_rfl
@[simp] theorem fk242_3 : fieldOk Tryz.prog 242 3 = true := by kernel_rfl
@[simp] theorem ff242_3 : fieldOff Tryz.prog 242 3 = 3 := by kernel_rfl
@[simp] theorem ft242_3 : fieldTy Tryz.prog 242 3 = 3 := by kernel_rfl
@[simp] theorem bk242_3 : bOk Tryz.prog 242 3 = true := by kernel_rfl
@[simp] theorem bf242_3 : bOff Tryz.prog 242 3 = 3 := by kernel_rfl
@[simp] theorem bt242_3 : bTy Tryz.prog 242 3 = 3 := by kernel_rfl
@[simp] theorem fk242_4 : fieldOk Tryz.prog 242 4 = true := by kernel_rfl
@[simp] theorem ff242_4 : fieldOff Tryz.prog 242 4 = 4 := by kernel_rfl
@[simp] theorem ft242_4 : fieldTy Tryz.prog 242 4 = 3 := by kernel_rfl
@[simp] theorem bk242_4 : bOk Tryz.prog 242 4 = true := by kernel_rfl
@[simp] theorem bf242_4 : bOff Tryz.prog 242 4 = 4 := by kernel_rfl
@[simp] theorem bt242_4 : bTy Tryz.prog 242 4 = 3 := by kernel_rfl
@[simp] theorem ty254 : tyOk Tryz.prog 254 = true := by kernel_rfl
@[simp] theorem ce254 : Tryz.prog.cellsOf 254 = 1 := by kernel_rfl
@[simp] theorem ag254 : aggT Tryz.prog 254 = false := by kernel_rfl
@[simp] theorem by254 : Tryz.prog.bytesOf 254 = 1 := by kernel_rfl
@[simp] theorem un254 : (Tryz.prog.underlying 254).isSome = true := by kernel_rfl
@[simp] theorem zr254 : zrow Tryz.prog 12 254 = some [.d (.int .u8 0)] := by kernel_rfl
@[simp] theorem ze254 : zeroOk Tryz.prog 254 = true := by kernel_rfl
@[simp] theorem in254 : intT Tryz.prog 254 = some .u8 := by kernel_rfl
end Go.Proofs.YtdbemnnipjknfaaGreat
