/- The facts of the plain types of the program, by evaluation. No condition. -/
import Derived.Test.YtllfgbhplfhdkaaGreatVe
import Derived.Test.YtllfgbhplfhdkaaGreatProg
namespace Go.Proofs.YtllfgbhplfhdkaaGreat
open Go.Vm
@[simp] theorem ty2 : tyOk Tryz.prog 2 = true := by kernel_rfl
@[simp] theorem ce2 : Tryz.prog.cellsOf 2 = 1 := by kernel_rfl
@[simp] theorem ag2 : aggT Tryz.prog 2 = false := by kernel_rfl
@[simp] theorem by2 : Tryz.prog.bytesOf 2 = 8 := by kernel_rfl
@[simp] theorem un2 : (Tryz.prog.underlying 2).isSome = true := by kernel_rfl
@[simp] theorem zr2 : zrow Tryz.prog 12 2 = some [.d (.int .i64 0)] := by kernel_rfl
@[simp] theorem ze2 : zeroOk Tryz.prog 2 = true := by kernel_rfl
@[simp] theorem in2 : intT Tryz.prog 2 = some .i64 := by kernel_rfl
@[simp] theorem ty3 : tyOk Tryz.prog 3 = true := by kernel_rfl
@[simp] theorem ce3 : Tryz.prog.cellsOf 3 = 1 := by kernel_rfl
@[simp] theorem ag3 : aggT Tryz.prog 3 = false := by kernel_rfl
@[simp] theorem by3 : Tryz.prog.bytesOf 3 = 8 := by kernel_rfl
@[simp] theorem un3 : (Tryz.prog.underlying 3).isSome = true := by kernel_rfl
@[simp] theorem zr3 : zrow Tryz.prog 12 3 = some [.d (.int .i64 0)] := by kernel_rfl
@[simp] theorem ze3 : zeroOk Tryz.prog 3 = true := by kernel_rfl
@[simp] theorem in3 : intT Tryz.prog 3 = some .i64 := by kernel_rfl
@[simp] theorem ty4 : tyOk Tryz.prog 4 = true := by kernel_rfl
@[simp] theorem ce4 : Tryz.prog.cellsOf 4 = 1 := by kernel_rfl
@[simp] theorem ag4 : aggT Tryz.prog 4 = false := by kernel_rfl
@[simp] theorem by4 : Tryz.prog.bytesOf 4 = 1 := by kernel_rfl
@[simp] theorem un4 : (Tryz.prog.underlying 4).isSome = true := by kernel_rfl
@[simp] theorem zr4 : zrow Tryz.prog 12 4 = some [.d (.bool false)] := by kernel_rfl
@[simp] theorem ze4 : zeroOk Tryz.prog 4 = true := by kernel_rfl
@[simp] theorem in4 : intT Tryz.prog 4 = none := by kernel_rfl
@[simp] theorem bo4 : boolT Tryz.prog 4 = true := by kernel_rfl
@[simp] theorem ty5 : tyOk Tryz.prog 5 = true := by kernel_rfl
@[simp] theorem ce5 : Tryz.prog.cellsOf 5 = 1 := by kernel_rfl
@[simp] theorem ag5 : aggT Tryz.prog 5 = false := by kernel_rfl
@[simp] theorem by5 : Tryz.prog.bytesOf 5 = 1 := by kernel_rfl
@[simp] theorem un5 : (Tryz.prog.underlying 5).isSome = true := by kernel_rfl
@[simp] theorem zr5 : zrow Tryz.prog 12 5 = some [.d (.int .u8 0)] := by kernel_rfl
@[simp] theorem ze5 : zeroOk Tryz.prog 5 = true := by kernel_rfl
@[simp] theorem in5 : intT Tryz.prog 5 = some .u8 := by kernel_rfl
@[simp] theorem ty6 : tyOk Tryz.prog 6 = true := by kernel_rfl
@[simp] theorem ce6 : Tryz.prog.cellsOf 6 = 1 := by kernel_rfl
@[simp] theorem ag6 : aggT Tryz.prog 6 = false := by kernel_rfl
@[simp] theorem by6 : Tryz.prog.bytesOf 6 = 1 := by kernel_rfl
@[simp] theorem un6 : (Tryz.prog.underlying 6).isSome = true := by kernel_rfl
@[simp] theorem zr6 : zrow Tryz.prog 12 6 = some [.d (.int .u8 0)] := by kernel_rfl
@[simp] theorem ze6 : zeroOk Tryz.prog 6 = true := by kernel_rfl
@[simp] theorem in6 : intT Tryz.prog 6 = some .u8 := by kernel_rfl
@[simp] theorem ty8 : tyOk Tryz.prog 8 = true := by kernel_rfl
@[simp] theorem ce8 : Tryz.prog.cellsOf 8 = 4 := by kernel_rfl
@[simp] theorem ag8 : aggT Tryz.prog 8 = true := by kernel_rfl
@[simp] theorem by8 : Tryz.prog.bytesOf 8 = 24 := by kernel_rfl
@[simp] theorem un8 : (Tryz.prog.underlying 8).isSome = true := by kernel_rfl
@[simp] theorem zr8 : zrow Tryz.prog 12 8 = some [.d (.int .i64 0), .d (.int .i64 0), .d (.bool false), .d (.int .u8 0)] := by kernel_rfl
@[simp] theorem ze8 : zeroOk Tryz.prog 8 = true := by kernel_rfl
@[simp] theorem in8 : intT Tryz.prog 8 = none := by kernel_rfl
@[simp] theorem fk8_0 : fieldOk Tryz.prog 8 0 = true := by kernel_rfl
@[simp] theorem ff8_0 : fieldOff Tryz.prog 8 0 = 0 := by kernel_rfl
@[simp] theorem ft8_0 : fieldTy Tryz.prog 8 0 = 2 := by kernel_rfl
@[simp] theorem bk8_0 : bOk Tryz.prog 8 0 = true := by kernel_rfl
@[simp] theorem bf8_0 : bOff Tryz.prog 8 0 = 0 := by kernel_rfl
@[simp] theorem bt8_0 : bTy Tryz.prog 8 0 = 2 := by kernel_rfl
@[simp] theorem fk8_1 : fieldOk Tryz.prog 8 1 = true := by kernel_rfl
@[simp] theorem ff8_1 : fieldOff Tryz.prog 8 1 = 1 := by kernel_rfl
@[simp] theorem ft8_1 : fieldTy Tryz.prog 8 1 = 3 := by kernel_rfl
@[simp] theorem bk8_1 : bOk Tryz.prog 8 1 = true := by kernel_rfl
@[simp] theorem bf8_1 : bOff Tryz.prog 8 1 = 1 := by kernel_rfl
@[simp] theorem bt8_1 : bTy Tryz.prog 8 1 = 3 := by kernel_rfl
@[simp] theorem fk8_2 : fieldOk Tryz.prog 8 2 = true := by kernel_rfl
@[simp] theorem ff8_2 : fieldOff Tryz.prog 8 2 = 2 := by kernel_rfl
@[simp] theorem ft8_2 : fieldTy Tryz.prog 8 2 = 4 := by kernel_rfl
@[simp] theorem bk8_2 : bOk Tryz.prog 8 2 = true := by kernel_rfl
@[simp] theorem bf8_2 : bOff Tryz.prog 8 2 = 2 := by kernel_rfl
@[simp] theorem bt8_2 : bTy Tryz.prog 8 2 = 4 := by kernel_rfl
@[simp] theorem fk8_3 : fieldOk Tryz.prog 8 3 = true := by kernel_rfl
@[simp] theorem ff8_3 : fieldOff Tryz.prog 8 3 = 3 := by kernel_rfl
@[simp] theorem ft8_3 : fieldTy Tryz.prog 8 3 = 6 := by kernel_rfl
@[simp] theorem bk8_3 : bOk Tryz.prog 8 3 = true := by kernel_rfl
@[simp] theorem bf8_3 : bOff Tryz.prog 8 3 = 3 := by kernel_rfl
@[simp] theorem bt8_3 : bTy Tryz.prog 8 3 = 6 := by kernel_rfl
@[simp] theorem ty9 : tyOk Tryz.prog 9 = true := by kernel_rfl
@[simp] theorem ce9 : Tryz.prog.cellsOf 9 = 1 := by kernel_rfl
@[simp] theorem ag9 : aggT Tryz.prog 9 = false := by kernel_rfl
@[simp] theorem by9 : Tryz.prog.bytesOf 9 = 16 := by kernel_rfl
@[simp] theorem un9 : (Tryz.prog.underlying 9).isSome = true := by kernel_rfl
@[simp] theorem zr9 : zrow Tryz.prog 12 9 = some [.d (.str ⟨#[]⟩)] := by kernel_rfl
@[simp] theorem ze9 : zeroOk Tryz.prog 9 = true := by kernel_rfl
@[simp] theorem in9 : intT Tryz.prog 9 = none := by kernel_rfl
@[simp] theorem st9 : strT Tryz.prog 9 = true := by kernel_rfl
@[simp] theorem ty10 : tyOk Tryz.prog 10 = true := by kernel_rfl
@[simp] theorem ce10 : Tryz.prog.cellsOf 10 = 1 := by kernel_rfl
@[simp] theorem ag10 : aggT Tryz.prog 10 = false := by kernel_rfl
@[simp] theorem by10 : Tryz.prog.bytesOf 10 = 16 := by kernel_rfl
@[simp] theorem un10 : (Tryz.prog.underlying 10).isSome = true := by kernel_rfl
@[simp] theorem zr10 : zrow Tryz.prog 12 10 = some [.d (.str ⟨#[]⟩)] := by kernel_rfl
@[simp] theorem ze10 : zeroOk Tryz.prog 10 = true := by kernel_rfl
@[simp] theorem in10 : intT Tryz.prog 10 = none := by kernel_rfl
@[simp] theorem st10 : strT Tryz.prog 10 = true := by kernel_rfl
@[simp] theorem ty11 : tyOk Tryz.prog 11 = true := by kernel_rfl
@[simp] theorem ce11 : Tryz.prog.cellsOf 11 = 1 := by kernel_rfl
@[simp] theorem ag11 : aggT Tryz.prog 11 = false := by kernel_rfl
@[simp] theorem by11 : Tryz.prog.bytesOf 11 = 16 := by kernel_rfl
@[simp] theorem un11 : (Tryz.prog.underlying 11).isSome = true := by kernel_rfl
@[simp] theorem zr11 : zrow Tryz.prog 12 11 = some [.d (.str ⟨#[]⟩)] := by kernel_rfl
@[simp] theorem ze11 : zeroOk Tryz.prog 11 = true := by kernel_rfl
@[simp] theorem in11 : intT Tryz.prog 11 = none := by kernel_rfl
@[simp] theorem st11 : strT Tryz.prog 11 = true := by kernel_rfl
@[simp] theorem ty12 : tyOk Tryz.prog 12 = true := by kernel_rfl
@[simp] theorem ce12 : Tryz.prog.cellsOf 12 = 1 := by kernel_rfl
@[simp] theorem ag12 : aggT Tryz.prog 12 = false := by kernel_rfl
@[simp] theorem by12 : Tryz.prog.bytesOf 12 = 8 := by kernel_rfl
@[simp] theorem un12 : (Tryz.prog.underlying 12).isSome = true := by kernel_rfl
@[simp] theorem zr12 : zrow Tryz.prog 12 12 = some [.d (.int .u64 0)] := by kernel_rfl
@[simp] theorem ze12 : zeroOk Tryz.prog 12 = true := by kernel_rfl
@[simp] theorem in12 : intT Tryz.prog 12 = some .u64 := by kernel_rfl
@[simp] theorem ty14 : tyOk Tryz.prog 14 = true := by kernel_rfl
@[simp] theorem ce14 : Tryz.prog.cellsOf 14 = 2 := by kernel_rfl
@[simp] theorem ag14 : aggT Tryz.prog 14 = true := by kernel_rfl
@[simp] theorem by14 : Tryz.prog.bytesOf 14 = 24 := by kernel_rfl
@[simp] theorem un14 : (Tryz.prog.underlying 14).isSome = true := by kernel_rfl
@[simp] theorem zr14 : zrow Tryz.prog 12 14 = some [.d (.str ⟨#[]⟩), .d (.int .u64 0)] := by kernel_rfl
@[simp] theorem ze14 : zeroOk Tryz.prog 14 = true := by kernel_rfl
@[simp] theorem in14 : intT Tryz.prog 14 = none := by kernel_rfl
@[simp] theorem fk14_0 : fieldOk Tryz.prog 14 0 = true := by kernel_rfl
@[simp] theorem ff14_0 : fieldOff Tryz.prog 14 0 = 0 := by kernel_rfl
@[simp] theorem ft14_0 : fieldTy Tryz.prog 14 0 = 9 := by kernel_rfl
@[simp] theorem bk14_0 : bOk Tryz.prog 14 0 = true := by kernel_rfl
@[simp] theorem bf14_0 : bOff Tryz.prog 14 0 = 0 := by kernel_rfl
@[simp] theorem bt14_0 : bTy Tryz.prog 14 0 = 9 := by kernel_rfl
@[simp] theorem fk14_1 : fieldOk Tryz.prog 14 1 = true := by kernel_rfl
@[simp] theorem ff14_1 : fieldOff Tryz.prog 14 1 = 1 := by kernel_rfl
@[simp] theorem ft14_1 : fieldTy Tryz.prog 14 1 = 12 := by kernel_rfl
@[simp] theorem bk14_1 : bOk Tryz.prog 14 1 = true := by kernel_rfl
@[simp] theorem bf14_1 : bOff Tryz.prog 14 1 = 1 := by kernel_rfl
@[simp] theorem bt14_1 : bTy Tryz.prog 14 1 = 12 := by kernel_rfl
@[simp] theorem ty22 : tyOk Tryz.prog 22 = true := by kernel_rfl
@[simp] theorem ce22 : Tryz.prog.cellsOf 22 = 1 := by kernel_rfl
@[simp] theorem ag22 : aggT Tryz.prog 22 = false := by kernel_rfl
@[simp] theorem by22 : Tryz.prog.bytesOf 22 = 24 := by kernel_rfl
@[simp] theorem un22 : (Tryz.prog.underlying 22).isSome = true := by kernel_rfl
@[simp] theorem zr22 : zrow Tryz.prog 12 22 = some [.nil 5] := by kernel_rfl
@[simp] theorem ze22 : zeroOk Tryz.prog 22 = true := by kernel_rfl
@[simp] theorem in22 : intT Tryz.prog 22 = none := by kernel_rfl
@[simp] theorem sl22 : sliceT Tryz.prog 22 = true := by kernel_rfl
@[simp] theorem el22 : elemT Tryz.prog 22 = 201 := by kernel_rfl
@[simp] theorem bs22 : byteT Tryz.prog 22 = false := by kernel_rfl
@[simp] theorem st22 : strT Tryz.prog 22 = false := by kernel_rfl
@[simp] theorem ty23 : tyOk Tryz.prog 23 = true := by kernel_rfl
@[simp] theorem ce23 : Tryz.prog.cellsOf 23 = 1 := by kernel_rfl
@[simp] theorem ag23 : aggT Tryz.prog 23 = false := by kernel_rfl
@[simp] theorem by23 : Tryz.prog.bytesOf 23 = 24 := by kernel_rfl
@[simp] theorem un23 : (Tryz.prog.underlying 23).isSome = true := by kernel_rfl
@[simp] theorem zr23 : zrow Tryz.prog 12 23 = some [.nil 3] := by kernel_rfl
@[simp] theorem ze23 : zeroOk Tryz.prog 23 = true := by kernel_rfl
@[simp] theorem in23 : intT Tryz.prog 23 = none := by kernel_rfl
@[simp] theorem sl23 : sliceT Tryz.prog 23 = true := by kernel_rfl
@[simp] theorem el23 : elemT Tryz.prog 23 = 203 := by kernel_rfl
@[simp] theorem bs23 : byteT Tryz.prog 23 = false := by kernel_rfl
@[simp] theorem st23 : strT Tryz.prog 23 = false := by kernel_rfl
@[simp] theorem ty24 : tyOk Tryz.prog 24 = true := by kernel_rfl
@[simp] theorem ce24 : Tryz.prog.cellsOf 24 = 1 := by kernel_rfl
@[simp] theorem ag24 : aggT Tryz.prog 24 = false := by kernel_rfl
@[simp] theorem by24 : Tryz.prog.bytesOf 24 = 24 := by kernel_rfl
@[simp] theorem un24 : (Tryz.prog.underlying 24).isSome = true := by kernel_rfl
@[simp] theorem zr24 : zrow Tryz.prog 12 24 = some [.nil 4] := by kernel_rfl
@[simp] theorem ze24 : zeroOk Tryz.prog 24 = true := by kernel_rfl
@[simp] theorem in24 : intT Tryz.prog 24 = none := by kernel_rfl
@[simp] theorem sl24 : sliceT Tryz.prog 24 = true := by kernel_rfl
@[simp] theorem el24 : elemT Tryz.prog 24 = 205 := by kernel_rfl
@[simp] theorem bs24 : byteT Tryz.prog 24 = false := by kernel_rfl
@[simp] theorem st24 : strT Tryz.prog 24 = false := by kernel_rfl
@[simp] theorem ty26 : tyOk Tryz.prog 26 = true := by kernel_rfl
@[simp] theorem ce26 : Tryz.prog.cellsOf 26 = 5 := by kernel_rfl
@[simp] theorem ag26 : aggT Tryz.prog 26 = true := by kernel_rfl
@[simp] theorem by26 : Tryz.prog.bytesOf 26 = 88 := by kernel_rfl
@[simp] theorem un26 : (Tryz.prog.underlying 26).isSome = true := by kernel_rfl
@[simp] theorem zr26 : zrow Tryz.prog 12 26 = some [.nil 5, .nil 3, .nil 4, .d (.int .i64 0), .d (.int .i64 0)] := by kernel_rfl
@[simp] theorem ze26 : zeroOk Tryz.prog 26 = true := by kernel_rfl
@[simp] theorem in26 : intT Tryz.prog 26 = none := by kernel_rfl
@[simp] theorem fk26_0 : fieldOk Tryz.prog 26 0 = true := by kernel_rfl
@[simp] theorem ff26_0 : fieldOff Tryz.prog 26 0 = 0 := by kernel_rfl
@[simp] theorem ft26_0 : fieldTy Tryz.prog 26 0 = 22 := by kernel_rfl
@[simp] theorem bk26_0 : bOk Tryz.prog 26 0 = true := by kernel_rfl
@[simp] theorem bf26_0 : bOff Tryz.prog 26 0 = 0 := by kernel_rfl
@[simp] theorem bt26_0 : bTy Tryz.prog 26 0 = 22 := by kernel_rfl
@[simp] theorem fk26_1 : fieldOk Tryz.prog 26 1 = true := by kernel_rfl
@[simp] theorem ff26_1 : fieldOff Tryz.prog 26 1 = 1 := by kernel_rfl
@[simp] theorem ft26_1 : fieldTy Tryz.prog 26 1 = 23 := by kernel_rfl
@[simp] theorem bk26_1 : bOk Tryz.prog 26 1 = true := by kernel_rfl
@[simp] theorem bf26_1 : bOff Tryz.prog 26 1 = 1 := by kernel_rfl
@[simp] theorem bt26_1 : bTy Tryz.prog 26 1 = 23 := by kernel_rfl
@[simp] theorem fk26_2 : fieldOk Tryz.prog 26 2 = true := by kernel_rfl
@[simp] theorem ff26_2 : fieldOff Tryz.prog 26 2 = 2 := by kernel_rfl
@[simp] theorem ft26_2 : fieldTy Tryz.prog 26 2 = 24 := by kernel_rfl
@[simp] theorem bk26_2 : bOk Tryz.prog 26 2 = true := by kernel_rfl
@[simp] theorem bf26_2 : bOff Tryz.prog 26 2 = 2 := by kernel_rfl
@[simp] theorem bt26_2 : bTy Tryz.prog 26 2 = 24 := by kernel_rfl
@[simp] theorem fk26_3 : fieldOk Tryz.prog 26 3 = true := by kernel_rfl
@[simp] theorem ff26_3 : fieldOff Tryz.prog 26 3 = 3 := by kernel_rfl
@[simp] theorem ft26_3 : fieldTy Tryz.prog 26 3 = 3 := by kernel_rfl
@[simp] theorem bk26_3 : bOk Tryz.prog 26 3 = true := by kernel_rfl
@[simp] theorem bf26_3 : bOff Tryz.prog 26 3 = 3 := by kernel_rfl
@[simp] theorem bt26_3 : bTy Tryz.prog 26 3 = 3 := by kernel_rfl
@[simp] theorem fk26_4 : fieldOk Tryz.prog 26 4 = true := by kernel_rfl
@[simp] theorem ff26_4 : fieldOff Tryz.prog 26 4 = 4 := by kernel_rfl
@[simp] theorem ft26_4 : fieldTy Tryz.prog 26 4 = 3 := by kernel_rfl
@[simp] theorem bk26_4 : bOk Tryz.prog 26 4 = true := by kernel_rfl
@[simp] theorem bf26_4 : bOff Tryz.prog 26 4 = 4 := by kernel_rfl
@[simp] theorem bt26_4 : bTy Tryz.prog 26 4 = 3 := by kernel_rfl
@[simp] theorem ty27 : tyOk Tryz.prog 27 = true := by kernel_rfl
@[simp] theorem ce27 : Tryz.prog.cellsOf 27 = 1 := by kernel_rfl
@[simp] theorem ag27 : aggT Tryz.prog 27 = false := by kernel_rfl
@[simp] theorem by27 : Tryz.prog.bytesOf 27 = 24 := by kernel_rfl
@[simp] theorem un27 : (Tryz.prog.underlying 27).isSome = true := by kernel_rfl
@[simp] theorem zr27 : zrow Tryz.prog 12 27 = some [.nil 7] := by kernel_rfl
@[simp] theorem ze27 : zeroOk Tryz.prog 27 = true := by kernel_rfl
@[simp] theorem in27 : intT Tryz.prog 27 = none := by kernel_rfl
@[simp] theorem sl27 : sliceT Tryz.prog 27 = true := by kernel_rfl
@[simp] theorem el27 : elemT Tryz.prog 27 = 155 := by kernel_rfl
@[simp] theorem bs27 : byteT Tryz.prog 27 = false := by kernel_rfl
@[simp] theorem st27 : strT Tryz.prog 27 = false := by kernel_rfl
@[simp] theorem ty28 : tyOk Tryz.prog 28 = true := by kernel_rfl
@[simp] theorem ce28 : Tryz.prog.cellsOf 28 = 1 := by kernel_rfl
@[simp] theorem ag28 : aggT Tryz.prog 28 = false := by kernel_rfl
@[simp] theorem by28 : Tryz.prog.bytesOf 28 = 24 := by kernel_rfl
@[simp] theorem un28 : (Tryz.prog.underlying 28).isSome = true := by kernel_rfl
@[simp] theorem zr28 : zrow Tryz.prog 12 28 = some [.nil 1] := by kernel_rfl
@[simp] theorem ze28 : zeroOk Tryz.prog 28 = true := by kernel_rfl
@[simp] theorem in28 : intT Tryz.prog 28 = none := by kernel_rfl
@[simp] theorem sl28 : sliceT Tryz.prog 28 = true := by kernel_rfl
@[simp] theorem el28 : elemT Tryz.prog 28 = 3 := by kernel_rfl
@[simp] theorem bs28 : byteT Tryz.prog 28 = false := by kernel_rfl
@[simp] theorem st28 : strT Tryz.prog 28 = false := by kernel_rfl
@[simp] theorem ty29 : tyOk Tryz.prog 29 = true := by kernel_rfl
@[simp] theorem ce29 : Tryz.prog.cellsOf 29 = 1 := by kernel_rfl
@[simp] theorem ag29 : aggT Tryz.prog 29 = false := by kernel_rfl
@[simp] theorem by29 : Tryz.prog.bytesOf 29 = 24 := by kernel_rfl
@[simp] theorem un29 : (Tryz.prog.underlying 29).isSome = true := by kernel_rfl
@[simp] theorem zr29 : zrow Tryz.prog 12 29 = some [.nil 2] := by kernel_rfl
@[simp] theorem ze29 : zeroOk Tryz.prog 29 = true := by kernel_rfl
@[simp] theorem in29 : intT Tryz.prog 29 = none := by kernel_rfl
@[simp] theorem sl29 : sliceT Tryz.prog 29 = true := by kernel_rfl
@[simp] theorem el29 : elemT Tryz.prog 29 = 150 := by kernel_rfl
@[simp] theorem bs29 : byteT Tryz.prog 29 = false := by kernel_rfl
@[simp] theorem st29 : strT Tryz.prog 29 = false := by kernel_rfl
@[simp] theorem ty31 : tyOk Tryz.prog 31 = true := by kernel_rfl
@[simp] theorem ce31 : Tryz.prog.cellsOf 31 = 12 := by kernel_rfl
@[simp] theorem ag31 : aggT Tryz.prog 31 = true := by kernel_rfl
@[simp] theorem by31 : Tryz.prog.bytesOf 31 = 240 := by kernel_rfl
@[simp] theorem un31 : (Tryz.prog.underlying 31).isSome = true := by kernel_rfl
@[simp] theorem zr31 : zrow Tryz.prog 12 31 = some [.nil 5, .nil 3, .nil 4, .d (.int .i64 0), .d (.int .i64 0), .nil 7, .nil 1, .nil 2, .nil 1, .nil 1, .d (.int .i64 0), .nil 1] := by kernel_rfl
@[simp] theorem ze31 : zeroOk Tryz.prog 31 = true := by kernel_rfl
@[simp] theorem in31 : intT Tryz.prog 31 = none := by kernel_rfl
@[simp] theorem fk31_0 : fieldOk Tryz.prog 31 0 = true := by kernel_rfl
@[simp] theorem ff31_0 : fieldOff Tryz.prog 31 0 = 0 := by kernel_rfl
@[simp] theorem ft31_0 : fieldTy Tryz.prog 31 0 = 26 := by kernel_rfl
@[simp] theorem bk31_0 : bOk Tryz.prog 31 0 = true := by kernel_rfl
@[simp] theorem bf31_0 : bOff Tryz.prog 31 0 = 0 := by kernel_rfl
@[simp] theorem bt31_0 : bTy Tryz.prog 31 0 = 26 := by kernel_rfl
@[simp] theorem fk31_1 : fieldOk Tryz.prog 31 1 = true := by kernel_rfl
@[simp] theorem ff31_1 : fieldOff Tryz.prog 31 1 = 5 := by kernel_rfl
@[simp] theorem ft31_1 : fieldTy Tryz.prog 31 1 = 27 := by kernel_rfl
@[simp] theorem bk31_1 : bOk Tryz.prog 31 1 = true := by kernel_rfl
@[simp] theorem bf31_1 : bOff Tryz.prog 31 1 = 5 := by kernel_rfl
@[simp] theorem bt31_1 : bTy Tryz.prog 31 1 = 27 := by kernel_rfl
@[simp] theorem fk31_2 : fieldOk Tryz.prog 31 2 = true := by kernel_rfl
@[simp] theorem ff31_2 : fieldOff Tryz.prog 31 2 = 6 := by kernel_rfl
@[simp] theorem ft31_2 : fieldTy Tryz.prog 31 2 = 28 := by kernel_rfl
@[simp] theorem bk31_2 : bOk Tryz.prog 31 2 = true := by kernel_rfl
@[simp] theorem bf31_2 : bOff Tryz.prog 31 2 = 6 := by kernel_rfl
@[simp] theorem bt31_2 : bTy Tryz.prog 31 2 = 28 := by kernel_rfl
@[simp] theorem fk31_3 : fieldOk Tryz.prog 31 3 = true := by kernel_rfl
@[simp] theorem ff31_3 : fieldOff Tryz.prog 31 3 = 7 := by kernel_rfl
@[simp] theorem ft31_3 : fieldTy Tryz.prog 31 3 = 29 := by kernel_rfl
@[simp] theorem bk31_3 : bOk Tryz.prog 31 3 = true := by kernel_rfl
@[simp] theorem bf31_3 : bOff Tryz.prog 31 3 = 7 := by kernel_rfl
@[simp] theorem bt31_3 : bTy Tryz.prog 31 3 = 29 := by kernel_rfl
@[simp] theorem fk31_4 : fieldOk Tryz.prog 31 4 = true := by kernel_rfl
@[simp] theorem ff31_4 : fieldOff Tryz.prog 31 4 = 8 := by kernel_rfl
@[simp] theorem ft31_4 : fieldTy Tryz.prog 31 4 = 28 := by kernel_rfl
@[simp] theorem bk31_4 : bOk Tryz.prog 31 4 = true := by kernel_rfl
@[simp] theorem bf31_4 : bOff Tryz.prog 31 4 = 8 := by kernel_rfl
@[simp] theorem bt31_4 : bTy Tryz.prog 31 4 = 28 := by kernel_rfl
@[simp] theorem fk31_5 : fieldOk Tryz.prog 31 5 = true := by kernel_rfl
@[simp] theorem ff31_5 : fieldOff Tryz.prog 31 5 = 9 := by kernel_rfl
@[simp] theorem ft31_5 : fieldTy Tryz.prog 31 5 = 28 := by kernel_rfl
@[simp] theorem bk31_5 : bOk Tryz.prog 31 5 = true := by kernel_rfl
@[simp] theorem bf31_5 : bOff Tryz.prog 31 5 = 9 := by kernel_rfl
@[simp] theorem bt31_5 : bTy Tryz.prog 31 5 = 28 := by kernel_rfl
@[simp] theorem fk31_6 : fieldOk Tryz.prog 31 6 = true := by kernel_rfl
@[simp] theorem ff31_6 : fieldOff Tryz.prog 31 6 = 10 := by kernel_rfl
@[simp] theorem ft31_6 : fieldTy Tryz.prog 31 6 = 3 := by kernel_rfl
@[simp] theorem bk31_6 : bOk Tryz.prog 31 6 = true := by kernel_rfl
@[simp] theorem bf31_6 : bOff Tryz.prog 31 6 = 10 := by kernel_rfl
@[simp] theorem bt31_6 : bTy Tryz.prog 31 6 = 3 := by kernel_rfl
@[simp] theorem fk31_7 : fieldOk Tryz.prog 31 7 = true := by kernel_rfl
@[simp] theorem ff31_7 : fieldOff Tryz.prog 31 7 = 11 := by kernel_rfl
@[simp] theorem ft31_7 : fieldTy Tryz.prog 31 7 = 28 := by kernel_rfl
@[simp] theorem bk31_7 : bOk Tryz.prog 31 7 = true := by kernel_rfl
@[simp] theorem bf31_7 : bOff Tryz.prog 31 7 = 11 := by kernel_rfl
@[simp] theorem bt31_7 : bTy Tryz.prog 31 7 = 28 := by kernel_rfl
@[simp] theorem ty34 : tyOk Tryz.prog 34 = true := by kernel_rfl
@[simp] theorem ce34 : Tryz.prog.cellsOf 34 = 1 := by kernel_rfl
@[simp] theorem ag34 : aggT Tryz.prog 34 = false := by kernel_rfl
@[simp] theorem by34 : Tryz.prog.bytesOf 34 = 24 := by kernel_rfl
@[simp] theorem un34 : (Tryz.prog.underlying 34).isSome = true := by kernel_rfl
@[simp] theorem zr34 : zrow Tryz.prog 12 34 = some [.nil 5] := by kernel_rfl
@[simp] theorem ze34 : zeroOk Tryz.prog 34 = true := by kernel_rfl
@[simp] theorem in34 : intT Tryz.prog 34 = none := by kernel_rfl
@[simp] theorem sl34 : sliceT Tryz.prog 34 = true := by kernel_rfl
@[simp] theorem el34 : elemT Tryz.prog 34 = 117 := by kernel_rfl
@[simp] theorem bs34 : byteT Tryz.prog 34 = false := by kernel_rfl
@[simp] theorem st34 : strT Tryz.prog 34 = false := by kernel_rfl
@[simp] theorem ty35 : tyOk Tryz.prog 35 = true := by kernel_rfl
@[simp] theorem ce35 : Tryz.prog.cellsOf 35 = 1 := by kernel_rfl
@[simp] theorem ag35 : aggT Tryz.prog 35 = false := by kernel_rfl
@[simp] theorem by35 : Tryz.prog.bytesOf 35 = 24 := by kernel_rfl
@[simp] theorem un35 : (Tryz.prog.underlying 35).isSome = true := by kernel_rfl
@[simp] theorem zr35 : zrow Tryz.prog 12 35 = some [.nil 3] := by kernel_rfl
@[simp] theorem ze35 : zeroOk Tryz.prog 35 = true := by kernel_rfl
@[simp] theorem in35 : intT Tryz.prog 35 = none := by kernel_rfl
@[simp] theorem sl35 : sliceT Tryz.prog 35 = true := by kernel_rfl
@[simp] theorem el35 : elemT Tryz.prog 35 = 75 := by kernel_rfl
@[simp] theorem bs35 : byteT Tryz.prog 35 = false := by kernel_rfl
@[simp] theorem st35 : strT Tryz.prog 35 = false := by kernel_rfl
@[simp] theorem ty36 : tyOk Tryz.prog 36 = true := by kernel_rfl
@[simp] theorem ce36 : Tryz.prog.cellsOf 36 = 1 := by kernel_rfl
@[simp] theorem ag36 : aggT Tryz.prog 36 = false := by kernel_rfl
@[simp] theorem by36 : Tryz.prog.bytesOf 36 = 24 := by kernel_rfl
@[simp] theorem un36 : (Tryz.prog.underlying 36).isSome = true := by kernel_rfl
@[simp] theorem zr36 : zrow Tryz.prog 12 36 = some [.nil 4] := by kernel_rfl
@[simp] theorem ze36 : zeroOk Tryz.prog 36 = true := by kernel_rfl
@[simp] theorem in36 : intT Tryz.prog 36 = none := by kernel_rfl
@[simp] theorem sl36 : sliceT Tryz.prog 36 = true := by kernel_rfl
@[simp] theorem el36 : elemT Tryz.prog 36 = 181 := by kernel_rfl
@[simp] theorem bs36 : byteT Tryz.prog 36 = false := by kernel_rfl
@[simp] theorem st36 : strT Tryz.prog 36 = false := by kernel_rfl
@[simp] theorem ty38 : tyOk Tryz.prog 38 = true := by kernel_rfl
@[simp] theorem ce38 : Tryz.prog.cellsOf 38 = 5 := by kernel_rfl
@[simp] theorem ag38 : aggT Tryz.prog 38 = true := by kernel_rfl
@[simp] theorem by38 : Tryz.prog.bytesOf 38 = 88 := by kernel_rfl
@[simp] theorem un38 : (Tryz.prog.underlying 38).isSome = true := by kernel_rfl
@[simp] theorem zr38 : zrow Tryz.prog 12 38 = some [.nil 5, .nil 3, .nil 4, .d (.int .i64 0), .d (.int .i64 0)] := by kernel_rfl
@[simp] theorem ze38 : zeroOk Tryz.prog 38 = true := by kernel_rfl
@[simp] theorem in38 : intT Tryz.prog 38 = none := by kernel_rfl
@[simp] theorem fk38_0 : fieldOk Tryz.prog 38 0 = true := by kernel_rfl
@[simp] theorem ff38_0 : fieldOff Tryz.prog 38 0 = 0 := by kernel_rfl
@[simp] theorem ft38_0 : fieldTy Tryz.prog 38 0 = 34 := by kernel_rfl
@[simp] theorem bk38_0 : bOk Tryz.prog 38 0 = true := by kernel_rfl
@[simp] theorem bf38_0 : bOff Tryz.prog 38 0 = 0 := by kernel_rfl
@[simp] theorem bt38_0 : bTy Tryz.prog 38 0 = 34 := by kernel_rfl
@[simp] theorem fk38_1 : fieldOk Tryz.prog 38 1 = true := by kernel_rfl
@[simp] theorem ff38_1 : fieldOff Tryz.prog 38 1 = 1 := by kernel_rfl
@[simp] theorem ft38_1 : fieldTy Tryz.prog 38 1 = 35 := by kernel_rfl
@[simp] theorem bk38_1 : bOk Tryz.prog 38 1 = true := by kernel_rfl
@[simp] theorem bf38_1 : bOff Tryz.prog 38 1 = 1 := by kernel_rfl
@[simp] theorem bt38_1 : bTy Tryz.prog 38 1 = 35 := by kernel_rfl
@[simp] theorem fk38_2 : fieldOk Tryz.prog 38 2 = true := by kernel_rfl
@[simp] theorem ff38_2 : fieldOff Tryz.prog 38 2 = 2 := by kernel_rfl
@[simp] theorem ft38_2 : fieldTy Tryz.prog 38 2 = 36 := by kernel_rfl
@[simp] theorem bk38_2 : bOk Tryz.prog 38 2 = true := by kernel_rfl
@[simp] theorem bf38_2 : bOff Tryz.prog 38 2 = 2 := by kernel_rfl
@[simp] theorem bt38_2 : bTy Tryz.prog 38 2 = 36 := by kernel_rfl
@[simp] theorem fk38_3 : fieldOk Tryz.prog 38 3 = true := by kernel_rfl
@[simp] theorem ff38_3 : fieldOff Tryz.prog 38 3 = 3 := by kernel_rfl
@[simp] theorem ft38_3 : fieldTy Tryz.prog 38 3 = 3 := by kernel_rfl
@[simp] theorem bk38_3 : bOk Tryz.prog 38 3 = true := by kernel_rfl
@[simp] theorem bf38_3 : bOff Tryz.prog 38 3 = 3 := by kernel_rfl
@[simp] theorem bt38_3 : bTy Tryz.prog 38 3 = 3 := by kernel_rfl
@[simp] theorem fk38_4 : fieldOk Tryz.prog 38 4 = true := by kernel_rfl
@[simp] theorem ff38_4 : fieldOff Tryz.prog 38 4 = 4 := by kernel_rfl
@[simp] theorem ft38_4 : fieldTy Tryz.prog 38 4 = 3 := by kernel_rfl
@[simp] theorem bk38_4 : bOk Tryz.prog 38 4 = true := by kernel_rfl
@[simp] theorem bf38_4 : bOff Tryz.prog 38 4 = 4 := by kernel_rfl
@[simp] theorem bt38_4 : bTy Tryz.prog 38 4 = 3 := by kernel_rfl
@[simp] theorem ty39 : tyOk Tryz.prog 39 = true := by kernel_rfl
@[simp] theorem ce39 : Tryz.prog.cellsOf 39 = 1 := by kernel_rfl
@[simp] theorem ag39 : aggT Tryz.prog 39 = false := by kernel_rfl
@[simp] theorem by39 : Tryz.prog.bytesOf 39 = 24 := by kernel_rfl
@[simp] theorem un39 : (Tryz.prog.underlying 39).isSome = true := by kernel_rfl
@[simp] theorem zr39 : zrow Tryz.prog 12 39 = some [.nil 7] := by kernel_rfl
@[simp] theorem ze39 : zeroOk Tryz.prog 39 = true := by kernel_rfl
@[simp] theorem in39 : intT Tryz.prog 39 = none := by kernel_rfl
@[simp] theorem sl39 : sliceT Tryz.prog 39 = true := by kernel_rfl
@[simp] theorem el39 : elemT Tryz.prog 39 = 106 := by kernel_rfl
@[simp] theorem bs39 : byteT Tryz.prog 39 = false := by kernel_rfl
@[simp] theorem st39 : strT Tryz.prog 39 = false := by kernel_rfl
@[simp] theorem ty40 : tyOk Tryz.prog 40 = true := by kernel_rfl
@[simp] theorem ce40 : Tryz.prog.cellsOf 40 = 1 := by kernel_rfl
@[simp] theorem ag40 : aggT Tryz.prog 40 = false := by kernel_rfl
@[simp] theorem by40 : Tryz.prog.bytesOf 40 = 24 := by kernel_rfl
@[simp] theorem un40 : (Tryz.prog.underlying 40).isSome = true := by kernel_rfl
@[simp] theorem zr40 : zrow Tryz.prog 12 40 = some [.nil 2] := by kernel_rfl
@[simp] theorem ze40 : zeroOk Tryz.prog 40 = true := by kernel_rfl
@[simp] theorem in40 : intT Tryz.prog 40 = none := by kernel_rfl
@[simp] theorem sl40 : sliceT Tryz.prog 40 = true := by kernel_rfl
@[simp] theorem el40 : elemT Tryz.prog 40 = 92 := by kernel_rfl
@[simp] theorem bs40 : byteT Tryz.prog 40 = false := by kernel_rfl
@[simp] theorem st40 : strT Tryz.prog 40 = false := by kernel_rfl
@[simp] theorem ty42 : tyOk Tryz.prog 42 = true := by kernel_rfl
@[simp] theorem ce42 : Tryz.prog.cellsOf 42 = 12 := by kernel_rfl
@[simp] theorem ag42 : aggT Tryz.prog 42 = true := by kernel_rfl
@[simp] theorem by42 : Tryz.prog.bytesOf 42 = 240 := by kernel_rfl
@[simp] theorem un42 : (Tryz.prog.underlying 42).isSome = true := by kernel_rfl
@[simp] theorem zr42 : zrow Tryz.prog 12 42 = some [.nil 5, .nil 3, .nil 4, .d (.int .i64 0), .d (.int .i64 0), .nil 7, .nil 1, .nil 2, .nil 1, .nil 1, .d (.int .i64 0), .nil 1] := by kernel_rfl
@[simp] theorem ze42 : zeroOk Tryz.prog 42 = true := by kernel_rfl
@[simp] theorem in42 : intT Tryz.prog 42 = none := by kernel_rfl
@[simp] theorem fk42_0 : fieldOk Tryz.prog 42 0 = true := by kernel_rfl
@[simp] theorem ff42_0 : fieldOff Tryz.prog 42 0 = 0 := by kernel_rfl
@[simp] theorem ft42_0 : fieldTy Tryz.prog 42 0 = 38 := by kernel_rfl
@[simp] theorem bk42_0 : bOk Tryz.prog 42 0 = true := by kernel_rfl
@[simp] theorem bf42_0 : bOff Tryz.prog 42 0 = 0 := by kernel_rfl
@[simp] theorem bt42_0 : bTy Tryz.prog 42 0 = 38 := by kernel_rfl
@[simp] theorem fk42_1 : fieldOk Tryz.prog 42 1 = true := by kernel_rfl
@[simp] theorem ff42_1 : fieldOff Tryz.prog 42 1 = 5 := by kernel_rfl
@[simp] theorem ft42_1 : fieldTy Tryz.prog 42 1 = 39 := by kernel_rfl
@[simp] theorem bk42_1 : bOk Tryz.prog 42 1 = true := by kernel_rfl
@[simp] theorem bf42_1 : bOff Tryz.prog 42 1 = 5 := by kernel_rfl
@[simp] theorem bt42_1 : bTy Tryz.prog 42 1 = 39 := by kernel_rfl
@[simp] theorem fk42_2 : fieldOk Tryz.prog 42 2 = true := by kernel_rfl
@[simp] theorem ff42_2 : fieldOff Tryz.prog 42 2 = 6 := by kernel_rfl
@[simp] theorem ft42_2 : fieldTy Tryz.prog 42 2 = 28 := by kernel_rfl
@[simp] theorem bk42_2 : bOk Tryz.prog 42 2 = true := by kernel_rfl
@[simp] theorem bf42_2 : bOff Tryz.prog 42 2 = 6 := by kernel_rfl
@[simp] theorem bt42_2 : bTy Tryz.prog 42 2 = 28 := by kernel_rfl
@[simp] theorem fk42_3 : fieldOk Tryz.prog 42 3 = true := by kernel_rfl
@[simp] theorem ff42_3 : fieldOff Tryz.prog 42 3 = 7 := by kernel_rfl
@[simp] theorem ft42_3 : fieldTy Tryz.prog 42 3 = 40 := by kernel_rfl
@[simp] theorem bk42_3 : bOk Tryz.prog 42 3 = true := by kernel_rfl
@[simp] theorem bf42_3 : bOff Tryz.prog 42 3 = 7 := by kernel_rfl
@[simp] theorem bt42_3 : bTy Tryz.prog 42 3 = 40 := by kernel_rfl
@[simp] theorem fk42_4 : fieldOk Tryz.prog 42 4 = true := by kernel_rfl
@[simp] theorem ff42_4 : fieldOff Tryz.prog 42 4 = 8 := by kernel_rfl
@[simp] theorem ft42_4 : fieldTy Tryz.prog 42 4 = 28 := by kernel_rfl
@[simp] theorem bk42_4 : bOk Tryz.prog 42 4 = true := by kernel_rfl
@[simp] theorem bf42_4 : bOff Tryz.prog 42 4 = 8 := by kernel_rfl
@[simp] theorem bt42_4 : bTy Tryz.prog 42 4 = 28 := by kernel_rfl
@[simp] theorem fk42_5 : fieldOk Tryz.prog 42 5 = true := by kernel_rfl
@[simp] theorem ff42_5 : fieldOff Tryz.prog 42 5 = 9 := by kernel_rfl
@[simp] theorem ft42_5 : fieldTy Tryz.prog 42 5 = 28 := by kernel_rfl
@[simp] theorem bk42_5 : bOk Tryz.prog 42 5 = true := by kernel_rfl
@[simp] theorem bf42_5 : bOff Tryz.prog 42 5 = 9 := by kernel_rfl
@[simp] theorem bt42_5 : bTy Tryz.prog 42 5 = 28 := by kernel_rfl
@[simp] theorem fk42_6 : fieldOk Tryz.prog 42 6 = true := by kernel_rfl
@[simp] theorem ff42_6 : fieldOff Tryz.prog 42 6 = 10 := by kernel_rfl
@[simp] theorem ft42_6 : fieldTy Tryz.prog 42 6 = 3 := by kernel_rfl
@[simp] theorem bk42_6 : bOk Tryz.prog 42 6 = true := by kernel_rfl
@[simp] theorem bf42_6 : bOff Tryz.prog 42 6 = 10 := by kernel_rfl
@[simp] theorem bt42_6 : bTy Tryz.prog 42 6 = 3 := by kernel_rfl
@[simp] theorem fk42_7 : fieldOk Tryz.prog 42 7 = true := by kernel_rfl
@[simp] theorem ff42_7 : fieldOff Tryz.prog 42 7 = 11 := by kernel_rfl
@[simp] theorem ft42_7 : fieldTy Tryz.prog 42 7 = 28 := by kernel_rfl
@[simp] theorem bk42_7 : bOk Tryz.prog 42 7 = true := by kernel_rfl
@[simp] theorem bf42_7 : bOff Tryz.prog 42 7 = 11 := by kernel_rfl
@[simp] theorem bt42_7 : bTy Tryz.prog 42 7 = 28 := by kernel_rfl
@[simp] theorem ty54 : tyOk Tryz.prog 54 = true := by kernel_rfl
@[simp] theorem ce54 : Tryz.prog.cellsOf 54 = 1 := by kernel_rfl
@[simp] theorem ag54 : aggT Tryz.prog 54 = false := by kernel_rfl
@[simp] theorem by54 : Tryz.prog.bytesOf 54 = 24 := by kernel_rfl
@[simp] theorem un54 : (Tryz.prog.underlying 54).isSome = true := by kernel_rfl
@[simp] theorem zr54 : zrow Tryz.prog 12 54 = some [.nil 1] := by kernel_rfl
@[simp] theorem ze54 : zeroOk Tryz.prog 54 = true := by kernel_rfl
@[simp] theorem in54 : intT Tryz.prog 54 = none := by kernel_rfl
@[simp] theorem sl54 : sliceT Tryz.prog 54 = true := by kernel_rfl
@[simp] theorem el54 : elemT Tryz.prog 54 = 9 := by kernel_rfl
@[simp] theorem bs54 : byteT Tryz.prog 54 = false := by kernel_rfl
@[simp] theorem st54 : strT Tryz.prog 54 = false := by kernel_rfl
@[simp] theorem ty56 : tyOk Tryz.prog 56 = true := by kernel_rfl
@[simp] theorem ce56 : Tryz.prog.cellsOf 56 = 3 := by kernel_rfl
@[simp] theorem ag56 : aggT Tryz.prog 56 = true := by kernel_rfl
@[simp] theorem by56 : Tryz.prog.bytesOf 56 = 56 := by kernel_rfl
@[simp] theorem un56 : (Tryz.prog.underlying 56).isSome = true := by kernel_rfl
@[simp] theorem zr56 : zrow Tryz.prog 12 56 = some [.d (.int .i64 0), .nil 1, .nil 1] := by kernel_rfl
@[simp] theorem ze56 : zeroOk Tryz.prog 56 = true := by kernel_rfl
@[simp] theorem in56 : intT Tryz.prog 56 = none := by kernel_rfl
@[simp] theorem fk56_0 : fieldOk Tryz.prog 56 0 = true := by kernel_rfl
@[simp] theorem ff56_0 : fieldOff Tryz.prog 56 0 = 0 := by kernel_rfl
@[simp] theorem ft56_0 : fieldTy Tryz.prog 56 0 = 3 := by kernel_rfl
@[simp] theorem bk56_0 : bOk Tryz.prog 56 0 = true := by kernel_rfl
@[simp] theorem bf56_0 : bOff Tryz.prog 56 0 = 0 := by kernel_rfl
@[simp] theorem bt56_0 : bTy Tryz.prog 56 0 = 3 := by kernel_rfl
@[simp] theorem fk56_1 : fieldOk Tryz.prog 56 1 = true := by kernel_rfl
@[simp] theorem ff56_1 : fieldOff Tryz.prog 56 1 = 1 := by kernel_rfl
@[simp] theorem ft56_1 : fieldTy Tryz.prog 56 1 = 54 := by kernel_rfl
@[simp] theorem bk56_1 : bOk Tryz.prog 56 1 = true := by kernel_rfl
@[simp] theorem bf56_1 : bOff Tryz.prog 56 1 = 1 := by kernel_rfl
@[simp] theorem bt56_1 : bTy Tryz.prog 56 1 = 54 := by kernel_rfl
@[simp] theorem fk56_2 : fieldOk Tryz.prog 56 2 = true := by kernel_rfl
@[simp] theorem ff56_2 : fieldOff Tryz.prog 56 2 = 2 := by kernel_rfl
@[simp] theorem ft56_2 : fieldTy Tryz.prog 56 2 = 28 := by kernel_rfl
@[simp] theorem bk56_2 : bOk Tryz.prog 56 2 = true := by kernel_rfl
@[simp] theorem bf56_2 : bOff Tryz.prog 56 2 = 2 := by kernel_rfl
@[simp] theorem bt56_2 : bTy Tryz.prog 56 2 = 28 := by kernel_rfl
@[simp] theorem ty59 : tyOk Tryz.prog 59 = true := by kernel_rfl
@[simp] theorem ce59 : Tryz.prog.cellsOf 59 = 3 := by kernel_rfl
@[simp] theorem ag59 : aggT Tryz.prog 59 = true := by kernel_rfl
@[simp] theorem by59 : Tryz.prog.bytesOf 59 = 56 := by kernel_rfl
@[simp] theorem un59 : (Tryz.prog.underlying 59).isSome = true := by kernel_rfl
@[simp] theorem zr59 : zrow Tryz.prog 12 59 = some [.d (.int .i64 0), .nil 1, .nil 1] := by kernel_rfl
@[simp] theorem ze59 : zeroOk Tryz.prog 59 = true := by kernel_rfl
@[simp] theorem in59 : intT Tryz.prog 59 = none := by kernel_rfl
@[simp] theorem fk59_0 : fieldOk Tryz.prog 59 0 = true := by kernel_rfl
@[simp] theorem ff59_0 : fieldOff Tryz.prog 59 0 = 0 := by kernel_rfl
@[simp] theorem ft59_0 : fieldTy Tryz.prog 59 0 = 3 := by kernel_rfl
@[simp] theorem bk59_0 : bOk Tryz.prog 59 0 = true := by kernel_rfl
@[simp] theorem bf59_0 : bOff Tryz.prog 59 0 = 0 := by kernel_rfl
@[simp] theorem bt59_0 : bTy Tryz.prog 59 0 = 3 := by kernel_rfl
@[simp] theorem fk59_1 : fieldOk Tryz.prog 59 1 = true := by kernel_rfl
@[simp] theorem ff59_1 : fieldOff Tryz.prog 59 1 = 1 := by kernel_rfl
@[simp] theorem ft59_1 : fieldTy Tryz.prog 59 1 = 54 := by kernel_rfl
@[simp] theorem bk59_1 : bOk Tryz.prog 59 1 = true := by kernel_rfl
@[simp] theorem bf59_1 : bOff Tryz.prog 59 1 = 1 := by kernel_rfl
@[simp] theorem bt59_1 : bTy Tryz.prog 59 1 = 54 := by kernel_rfl
@[simp] theorem fk59_2 : fieldOk Tryz.prog 59 2 = true := by kernel_rfl
@[simp] theorem ff59_2 : fieldOff Tryz.prog 59 2 = 2 := by kernel_rfl
@[simp] theorem ft59_2 : fieldTy Tryz.prog 59 2 = 28 := by kernel_rfl
@[simp] theorem bk59_2 : bOk Tryz.prog 59 2 = true := by kernel_rfl
@[simp] theorem bf59_2 : bOff Tryz.prog 59 2 = 2 := by kernel_rfl
@[simp] theorem bt59_2 : bTy Tryz.prog 59 2 = 28 := by kernel_rfl
@[simp] theorem ty75 : tyOk Tryz.prog 75 = true := by kernel_rfl
@[simp] theorem ce75 : Tryz.prog.cellsOf 75 = 3 := by kernel_rfl
@[simp] theorem ag75 : aggT Tryz.prog 75 = true := by kernel_rfl
@[simp] theorem by75 : Tryz.prog.bytesOf 75 = 24 := by kernel_rfl
@[simp] theorem un75 : (Tryz.prog.underlying 75).isSome = true := by kernel_rfl
@[simp] theorem zr75 : zrow Tryz.prog 12 75 = some [.d (.int .i64 0), .d (.int .i64 0), .d (.int .i64 0)] := by kernel_rfl
@[simp] theorem ze75 : zeroOk Tryz.prog 75 = true := by kernel_rfl
@[simp] theorem in75 : intT Tryz.prog 75 = none := by kernel_rfl
@[simp] theorem eq75 : eqOk Tryz.prog 75 = true := by kernel_rfl
@[simp] theorem fs75 : fieldTs Tryz.prog 75 = [3, 3, 3] := by kernel_rfl
@[simp] theorem fk75_0 : fieldOk Tryz.prog 75 0 = true := by kernel_rfl
@[simp] theorem ff75_0 : fieldOff Tryz.prog 75 0 = 0 := by kernel_rfl
@[simp] theorem ft75_0 : fieldTy Tryz.prog 75 0 = 3 := by kernel_rfl
@[simp] theorem bk75_0 : bOk Tryz.prog 75 0 = true := by kernel_rfl
@[simp] theorem bf75_0 : bOff Tryz.prog 75 0 = 0 := by kernel_rfl
@[simp] theorem bt75_0 : bTy Tryz.prog 75 0 = 3 := by kernel_rfl
@[simp] theorem fk75_1 : fieldOk Tryz.prog 75 1 = true := by kernel_rfl
@[simp] theorem ff75_1 : fieldOff Tryz.prog 75 1 = 1 := by kernel_rfl
@[simp] theorem ft75_1 : fieldTy Tryz.prog 75 1 = 3 := by kernel_rfl
@[simp] theorem bk75_1 : bOk Tryz.prog 75 1 = true := by kernel_rfl
@[simp] theorem bf75_1 : bOff Tryz.prog 75 1 = 1 := by kernel_rfl
@[simp] theorem bt75_1 : bTy Tryz.prog 75 1 = 3 := by kernel_rfl
@[simp] theorem fk75_2 : fieldOk Tryz.prog 75 2 = true := by kernel_rfl
@[simp] theorem ff75_2 : fieldOff Tryz.prog 75 2 = 2 := by kernel_rfl
@[simp] theorem ft75_2 : fieldTy Tryz.prog 75 2 = 3 := by kernel_rfl
@[simp] theorem bk75_2 : bOk Tryz.prog 75 2 = true := by kernel_rfl
@[simp] theorem bf75_2 : bOff Tryz.prog 75 2 = 2 := by kernel_rfl
@[simp] theorem bt75_2 : bTy Tryz.prog 75 2 = 3 := by kernel_rfl
@[simp] theorem ty90 : tyOk Tryz.prog 90 = true := by kernel_rfl
@[simp] theorem ce90 : Tryz.prog.cellsOf 90 = 1 := by kernel_rfl
@[simp] theorem ag90 : aggT Tryz.prog 90 = false := by kernel_rfl
@[simp] theorem by90 : Tryz.prog.bytesOf 90 = 24 := by kernel_rfl
@[simp] theorem un90 : (Tryz.prog.underlying 90).isSome = true := by kernel_rfl
@[simp] theorem zr90 : zrow Tryz.prog 12 90 = some [.nil 16] := by kernel_rfl
@[simp] theorem ze90 : zeroOk Tryz.prog 90 = true := by kernel_rfl
@[simp] theorem in90 : intT Tryz.prog 90 = none := by kernel_rfl
@[simp] theorem sl90 : sliceT Tryz.prog 90 = true := by kernel_rfl
@[simp] theorem el90 : elemT Tryz.prog 90 = 104 := by kernel_rfl
@[simp] theorem bs90 : byteT Tryz.prog 90 = false := by kernel_rfl
@[simp] theorem st90 : strT Tryz.prog 90 = false := by kernel_rfl
@[simp] theorem ty92 : tyOk Tryz.prog 92 = true := by kernel_rfl
@[simp] theorem ce92 : Tryz.prog.cellsOf 92 = 2 := by kernel_rfl
@[simp] theorem ag92 : aggT Tryz.prog 92 = true := by kernel_rfl
@[simp] theorem by92 : Tryz.prog.bytesOf 92 = 32 := by kernel_rfl
@[simp] theorem un92 : (Tryz.prog.underlying 92).isSome = true := by kernel_rfl
@[simp] theorem zr92 : zrow Tryz.prog 12 92 = some [.d (.int .i64 0), .nil 16] := by kernel_rfl
@[simp] theorem ze92 : zeroOk Tryz.prog 92 = true := by kernel_rfl
@[simp] theorem in92 : intT Tryz.prog 92 = none := by kernel_rfl
@[simp] theorem fk92_0 : fieldOk Tryz.prog 92 0 = true := by kernel_rfl
@[simp] theorem ff92_0 : fieldOff Tryz.prog 92 0 = 0 := by kernel_rfl
@[simp] theorem ft92_0 : fieldTy Tryz.prog 92 0 = 3 := by kernel_rfl
@[simp] theorem bk92_0 : bOk Tryz.prog 92 0 = true := by kernel_rfl
@[simp] theorem bf92_0 : bOff Tryz.prog 92 0 = 0 := by kernel_rfl
@[simp] theorem bt92_0 : bTy Tryz.prog 92 0 = 3 := by kernel_rfl
@[simp] theorem fk92_1 : fieldOk Tryz.prog 92 1 = true := by kernel_rfl
@[simp] theorem ff92_1 : fieldOff Tryz.prog 92 1 = 1 := by kernel_rfl
@[simp] theorem ft92_1 : fieldTy Tryz.prog 92 1 = 90 := by kernel_rfl
@[simp] theorem bk92_1 : bOk Tryz.prog 92 1 = true := by kernel_rfl
@[simp] theorem bf92_1 : bOff Tryz.prog 92 1 = 1 := by kernel_rfl
@[simp] theorem bt92_1 : bTy Tryz.prog 92 1 = 90 := by kernel_rfl
@[simp] theorem ty97 : tyOk Tryz.prog 97 = true := by kernel_rfl
@[simp] theorem ce97 : Tryz.prog.cellsOf 97 = 1 := by kernel_rfl
@[simp] theorem ag97 : aggT Tryz.prog 97 = false := by kernel_rfl
@[simp] theorem by97 : Tryz.prog.bytesOf 97 = 24 := by kernel_rfl
@[simp] theorem un97 : (Tryz.prog.underlying 97).isSome = true := by kernel_rfl
@[simp] theorem zr97 : zrow Tryz.prog 12 97 = some [.nil 3] := by kernel_rfl
@[simp] theorem ze97 : zeroOk Tryz.prog 97 = true := by kernel_rfl
@[simp] theorem in97 : intT Tryz.prog 97 = none := by kernel_rfl
@[simp] theorem sl97 : sliceT Tryz.prog 97 = true := by kernel_rfl
@[simp] theorem el97 : elemT Tryz.prog 97 = 110 := by kernel_rfl
@[simp] theorem bs97 : byteT Tryz.prog 97 = false := by kernel_rfl
@[simp] theorem st97 : strT Tryz.prog 97 = false := by kernel_rfl
@[simp] theorem ty98 : tyOk Tryz.prog 98 = true := by kernel_rfl
@[simp] theorem ce98 : Tryz.prog.cellsOf 98 = 1 := by kernel_rfl
@[simp] theorem ag98 : aggT Tryz.prog 98 = false := by kernel_rfl
@[simp] theorem by98 : Tryz.prog.bytesOf 98 = 24 := by kernel_rfl
@[simp] theorem un98 : (Tryz.prog.underlying 98).isSome = true := by kernel_rfl
@[simp] theorem zr98 : zrow Tryz.prog 12 98 = some [.nil 5] := by kernel_rfl
@[simp] theorem ze98 : zeroOk Tryz.prog 98 = true := by kernel_rfl
@[simp] theorem in98 : intT Tryz.prog 98 = none := by kernel_rfl
@[simp] theorem sl98 : sliceT Tryz.prog 98 = true := by kernel_rfl
@[simp] theorem el98 : elemT Tryz.prog 98 = 196 := by kernel_rfl
@[simp] theorem bs98 : byteT Tryz.prog 98 = false := by kernel_rfl
@[simp] theorem st98 : strT Tryz.prog 98 = false := by kernel_rfl
@[simp] theorem ty100 : tyOk Tryz.prog 100 = true := by kernel_rfl
@[simp] theorem ce100 : Tryz.prog.cellsOf 100 = 2 := by kernel_rfl
@[simp] theorem ag100 : aggT Tryz.prog 100 = true := by kernel_rfl
@[simp] theorem by100 : Tryz.prog.bytesOf 100 = 48 := by kernel_rfl
@[simp] theorem un100 : (Tryz.prog.underlying 100).isSome = true := by kernel_rfl
@[simp] theorem zr100 : zrow Tryz.prog 12 100 = some [.nil 3, .nil 5] := by kernel_rfl
@[simp] theorem ze100 : zeroOk Tryz.prog 100 = true := by kernel_rfl
@[simp] theorem in100 : intT Tryz.prog 100 = none := by kernel_rfl
@[simp] theorem fk100_0 : fieldOk Tryz.prog 100 0 = true := by kernel_rfl
@[simp] theorem ff100_0 : fieldOff Tryz.prog 100 0 = 0 := by kernel_rfl
@[simp] theorem ft100_0 : fieldTy Tryz.prog 100 0 = 97 := by kernel_rfl
@[simp] theorem bk100_0 : bOk Tryz.prog 100 0 = true := by kernel_rfl
@[simp] theorem bf100_0 : bOff Tryz.prog 100 0 = 0 := by kernel_rfl
@[simp] theorem bt100_0 : bTy Tryz.prog 100 0 = 97 := by kernel_rfl
@[simp] theorem fk100_1 : fieldOk Tryz.prog 100 1 = true := by kernel_rfl
@[simp] theorem ff100_1 : fieldOff Tryz.prog 100 1 = 1 := by kernel_rfl
@[simp] theorem ft100_1 : fieldTy Tryz.prog 100 1 = 98 := by kernel_rfl
@[simp] theorem bk100_1 : bOk Tryz.prog 100 1 = true := by kernel_rfl
@[simp] theorem bf100_1 : bOff Tryz.prog 100 1 = 1 := by kernel_rfl
@[simp] theorem bt100_1 : bTy Tryz.prog 100 1 = 98 := by kernel_rfl
@[simp] theorem ty102 : tyOk Tryz.prog 102 = true := by kernel_rfl
@[simp] theorem ce102 : Tryz.prog.cellsOf 102 = 9 := by kernel_rfl
@[simp] theorem ag102 : aggT Tryz.prog 102 = true := by kernel_rfl
@[simp] theorem by102 : Tryz.prog.bytesOf 102 = 72 := by kernel_rfl
@[simp] theorem un102 : (Tryz.prog.underlying 102).isSome = true := by kernel_rfl
@[simp] theorem zr102 : zrow Tryz.prog 12 102 = some [.d (.int .i64 0), .d (.int .i64 0), .d (.int .i64 0), .d (.int .i64 0), .d (.int .i64 0), .d (.int .i64 0), .d (.int .i64 0), .d (.int .i64 0), .d (.int .i64 0)] := by kernel_rfl
@[simp] theorem ze102 : zeroOk Tryz.prog 102 = true := by kernel_rfl
@[simp] theorem in102 : intT Tryz.prog 102 = none := by kernel_rfl
@[simp] theorem eq102 : eqOk Tryz.prog 102 = true := by kernel_rfl
@[simp] theorem fs102 : fieldTs Tryz.prog 102 = [3, 3, 3, 3, 3, 3, 3, 3, 3] := by kernel_rfl
@[simp] theorem fk102_0 : fieldOk Tryz.prog 102 0 = true := by kernel_rfl
@[simp] theorem ff102_0 : fieldOff Tryz.prog 102 0 = 0 := by kernel_rfl
@[simp] theorem ft102_0 : fieldTy Tryz.prog 102 0 = 3 := by kernel_rfl
@[simp] theorem bk102_0 : bOk Tryz.prog 102 0 = true := by kernel_rfl
@[simp] theorem bf102_0 : bOff Tryz.prog 102 0 = 0 := by kernel_rfl
@[simp] theorem bt102_0 : bTy Tryz.prog 102 0 = 3 := by kernel_rfl
@[simp] theorem fk102_1 : fieldOk Tryz.prog 102 1 = true := by kernel_rfl
@[simp] theorem ff102_1 : fieldOff Tryz.prog 102 1 = 1 := by kernel_rfl
@[simp] theorem ft102_1 : fieldTy Tryz.prog 102 1 = 3 := by kernel_rfl
@[simp] theorem bk102_1 : bOk Tryz.prog 102 1 = true := by kernel_rfl
@[simp] theorem bf102_1 : bOff Tryz.prog 102 1 = 1 := by kernel_rfl
@[simp] theorem bt102_1 : bTy Tryz.prog 102 1 = 3 := by kernel_rfl
@[simp] theorem fk102_2 : fieldOk Tryz.prog 102 2 = true := by kernel_rfl
@[simp] theorem ff102_2 : fieldOff Tryz.prog 102 2 = 2 := by kernel_rfl
@[simp] theorem ft102_2 : fieldTy Tryz.prog 102 2 = 3 := by kernel_rfl
@[simp] theorem bk102_2 : bOk Tryz.prog 102 2 = true := by kernel_rfl
@[simp] theorem bf102_2 : bOff Tryz.prog 102 2 = 2 := by kernel_rfl
@[simp] theorem bt102_2 : bTy Tryz.prog 102 2 = 3 := by kernel_rfl
@[simp] theorem fk102_3 : fieldOk Tryz.prog 102 3 = true := by kernel_rfl
@[simp] theorem ff102_3 : fieldOff Tryz.prog 102 3 = 3 := by kernel_rfl
@[simp] theorem ft102_3 : fieldTy Tryz.prog 102 3 = 3 := by kernel_rfl
@[simp] theorem bk102_3 : bOk Tryz.prog 102 3 = true := by kernel_rfl
@[simp] theorem bf102_3 : bOff Tryz.prog 102 3 = 3 := by kernel_rfl
@[simp] theorem bt102_3 : bTy Tryz.prog 102 3 = 3 := by kernel_rfl
@[simp] theorem fk102_4 : fieldOk Tryz.prog 102 4 = true := by kernel_rfl
@[simp] theorem ff102_4 : fieldOff Tryz.prog 102 4 = 4 := by kernel_rfl
@[simp] theorem ft102_4 : fieldTy Tryz.prog 102 4 = 3 := by kernel_rfl
@[simp] theorem bk102_4 : bOk Tryz.prog 102 4 = true := by kernel_rfl
@[simp] theorem bf102_4 : bOff Tryz.prog 102 4 = 4 := by kernel_rfl
@[simp] theorem bt102_4 : bTy Tryz.prog 102 4 = 3 := by kernel_rfl
@[simp] theorem fk102_5 : fieldOk Tryz.prog 102 5 = true := by kernel_rfl
@[simp] theorem ff102_5 : fieldOff Tryz.prog 102 5 = 5 := by kernel_rfl
@[simp] theorem ft102_5 : fieldTy Tryz.prog 102 5 = 3 := by kernel_rfl
@[simp] theorem bk102_5 : bOk Tryz.prog 102 5 = true := by kernel_rfl
@[simp] theorem bf102_5 : bOff Tryz.prog 102 5 = 5 := by kernel_rfl
@[simp] theorem bt102_5 : bTy Tryz.prog 102 5 = 3 := by kernel_rfl
@[simp] theorem fk102_6 : fieldOk Tryz.prog 102 6 = true := by kernel_rfl
@[simp] theorem ff102_6 : fieldOff Tryz.prog 102 6 = 6 := by kernel_rfl
@[simp] theorem ft102_6 : fieldTy Tryz.prog 102 6 = 3 := by kernel_rfl
@[simp] theorem bk102_6 : bOk Tryz.prog 102 6 = true := by kernel_rfl
@[simp] theorem bf102_6 : bOff Tryz.prog 102 6 = 6 := by kernel_rfl
@[simp] theorem bt102_6 : bTy Tryz.prog 102 6 = 3 := by kernel_rfl
@[simp] theorem fk102_7 : fieldOk Tryz.prog 102 7 = true := by kernel_rfl
@[simp] theorem ff102_7 : fieldOff Tryz.prog 102 7 = 7 := by kernel_rfl
@[simp] theorem ft102_7 : fieldTy Tryz.prog 102 7 = 3 := by kernel_rfl
@[simp] theorem bk102_7 : bOk Tryz.prog 102 7 = true := by kernel_rfl
@[simp] theorem bf102_7 : bOff Tryz.prog 102 7 = 7 := by kernel_rfl
@[simp] theorem bt102_7 : bTy Tryz.prog 102 7 = 3 := by kernel_rfl
@[simp] theorem fk102_8 : fieldOk Tryz.prog 102 8 = true := by kernel_rfl
@[simp] theorem ff102_8 : fieldOff Tryz.prog 102 8 = 8 := by kernel_rfl
@[simp] theorem ft102_8 : fieldTy Tryz.prog 102 8 = 3 := by kernel_rfl
@[simp] theorem bk102_8 : bOk Tryz.prog 102 8 = true := by kernel_rfl
@[simp] theorem bf102_8 : bOff Tryz.prog 102 8 = 8 := by kernel_rfl
@[simp] theorem bt102_8 : bTy Tryz.prog 102 8 = 3 := by kernel_rfl
@[simp] theorem ty104 : tyOk Tryz.prog 104 = true := by kernel_rfl
@[simp] theorem ce104 : Tryz.prog.cellsOf 104 = 16 := by kernel_rfl
@[simp] theorem ag104 : aggT Tryz.prog 104 = true := by kernel_rfl
@[simp] theorem by104 : Tryz.prog.bytesOf 104 = 192 := by kernel_rfl
@[simp] theorem un104 : (Tryz.prog.underlying 104).isSome = true := by kernel_rfl
@[simp] theorem zr104 : zrow Tryz.prog 12 104 = some [.d (.int .i64 0), .d (.int .i64 0), .d (.int .i64 0), .nil 1, .nil 1, .d (.int .i64 0), .d (.int .i64 0), .d (.int .i64 0), .d (.int .i64 0), .d (.int .i64 0), .d (.int .i64 0), .d (.int .i64 0), .d (.int .i64 0), .d (.int .i64 0), .nil 3, .nil 5] := by kernel_rfl
@[simp] theorem ze104 : zeroOk Tryz.prog 104 = true := by kernel_rfl
@[simp] theorem in104 : intT Tryz.prog 104 = none := by kernel_rfl
@[simp] theorem fk104_0 : fieldOk Tryz.prog 104 0 = true := by kernel_rfl
@[simp] theorem ff104_0 : fieldOff Tryz.prog 104 0 = 0 := by kernel_rfl
@[simp] theorem ft104_0 : fieldTy Tryz.prog 104 0 = 3 := by kernel_rfl
@[simp] theorem bk104_0 : bOk Tryz.prog 104 0 = true := by kernel_rfl
@[simp] theorem bf104_0 : bOff Tryz.prog 104 0 = 0 := by kernel_rfl
@[simp] theorem bt104_0 : bTy Tryz.prog 104 0 = 3 := by kernel_rfl
@[simp] theorem fk104_1 : fieldOk Tryz.prog 104 1 = true := by kernel_rfl
@[simp] theorem ff104_1 : fieldOff Tryz.prog 104 1 = 1 := by kernel_rfl
@[simp] theorem ft104_1 : fieldTy Tryz.prog 104 1 = 3 := by kernel_rfl
@[simp] theorem bk104_1 : bOk Tryz.prog 104 1 = true := by kernel_rfl
@[simp] theorem bf104_1 : bOff Tryz.prog 104 1 = 1 := by kernel_rfl
@[simp] theorem bt104_1 : bTy Tryz.prog 104 1 = 3 := by kernel_rfl
@[simp] theorem fk104_2 : fieldOk Tryz.prog 104 2 = true := by kernel_rfl
@[simp] theorem ff104_2 : fieldOff Tryz.prog 104 2 = 2 := by kernel_rfl
@[simp] theorem ft104_2 : fieldTy Tryz.prog 104 2 = 59 := by kernel_rfl
@[simp] theorem bk104_2 : bOk Tryz.prog 104 2 = true := by kernel_rfl
@[simp] theorem bf104_2 : bOff Tryz.prog 104 2 = 2 := by kernel_rfl
@[simp] theorem bt104_2 : bTy Tryz.prog 104 2 = 59 := by kernel_rfl
@[simp] theorem fk104_3 : fieldOk Tryz.prog 104 3 = true := by kernel_rfl
@[simp] theorem ff104_3 : fieldOff Tryz.prog 104 3 = 5 := by kernel_rfl
@[simp] theorem ft104_3 : fieldTy Tryz.prog 104 3 = 102 := by kernel_rfl
@[simp] theorem bk104_3 : bOk Tryz.prog 104 3 = true := by kernel_rfl
@[simp] theorem bf104_3 : bOff Tryz.prog 104 3 = 5 := by kernel_rfl
@[simp] theorem bt104_3 : bTy Tryz.prog 104 3 = 102 := by kernel_rfl
@[simp] theorem fk104_4 : fieldOk Tryz.prog 104 4 = true := by kernel_rfl
@[simp] theorem ff104_4 : fieldOff Tryz.prog 104 4 = 14 := by kernel_rfl
@[simp] theorem ft104_4 : fieldTy Tryz.prog 104 4 = 100 := by kernel_rfl
@[simp] theorem bk104_4 : bOk Tryz.prog 104 4 = true := by kernel_rfl
@[simp] theorem bf104_4 : bOff Tryz.prog 104 4 = 14 := by kernel_rfl
@[simp] theorem bt104_4 : bTy Tryz.prog 104 4 = 100 := by kernel_rfl
@[simp] theorem ty106 : tyOk Tryz.prog 106 = true := by kernel_rfl
@[simp] theorem ce106 : Tryz.prog.cellsOf 106 = 7 := by kernel_rfl
@[simp] theorem ag106 : aggT Tryz.prog 106 = true := by kernel_rfl
@[simp] theorem by106 : Tryz.prog.bytesOf 106 = 56 := by kernel_rfl
@[simp] theorem un106 : (Tryz.prog.underlying 106).isSome = true := by kernel_rfl
@[simp] theorem zr106 : zrow Tryz.prog 12 106 = some [.d (.int .i64 0), .d (.int .i64 0), .d (.int .i64 0), .d (.int .i64 0), .d (.int .i64 0), .d (.int .i64 0), .d (.int .i64 0)] := by kernel_rfl
@[simp] theorem ze106 : zeroOk Tryz.prog 106 = true := by kernel_rfl
@[simp] theorem in106 : intT Tryz.prog 106 = none := by kernel_rfl
@[simp] theorem eq106 : eqOk Tryz.prog 106 = true := by kernel_rfl
@[simp] theorem fs106 : fieldTs Tryz.prog 106 = [3, 3, 3, 3, 3, 3, 3] := by kernel_rfl
@[simp] theorem fk106_0 : fieldOk Tryz.prog 106 0 = true := by kernel_rfl
@[simp] theorem ff106_0 : fieldOff Tryz.prog 106 0 = 0 := by kernel_rfl
@[simp] theorem ft106_0 : fieldTy Tryz.prog 106 0 = 3 := by kernel_rfl
@[simp] theorem bk106_0 : bOk Tryz.prog 106 0 = true := by kernel_rfl
@[simp] theorem bf106_0 : bOff Tryz.prog 106 0 = 0 := by kernel_rfl
@[simp] theorem bt106_0 : bTy Tryz.prog 106 0 = 3 := by kernel_rfl
@[simp] theorem fk106_1 : fieldOk Tryz.prog 106 1 = true := by kernel_rfl
@[simp] theorem ff106_1 : fieldOff Tryz.prog 106 1 = 1 := by kernel_rfl
@[simp] theorem ft106_1 : fieldTy Tryz.prog 106 1 = 3 := by kernel_rfl
@[simp] theorem bk106_1 : bOk Tryz.prog 106 1 = true := by kernel_rfl
@[simp] theorem bf106_1 : bOff Tryz.prog 106 1 = 1 := by kernel_rfl
@[simp] theorem bt106_1 : bTy Tryz.prog 106 1 = 3 := by kernel_rfl
@[simp] theorem fk106_2 : fieldOk Tryz.prog 106 2 = true := by kernel_rfl
@[simp] theorem ff106_2 : fieldOff Tryz.prog 106 2 = 2 := by kernel_rfl
@[simp] theorem ft106_2 : fieldTy Tryz.prog 106 2 = 3 := by kernel_rfl
@[simp] theorem bk106_2 : bOk Tryz.prog 106 2 = true := by kernel_rfl
@[simp] theorem bf106_2 : bOff Tryz.prog 106 2 = 2 := by kernel_rfl
@[simp] theorem bt106_2 : bTy Tryz.prog 106 2 = 3 := by kernel_rfl
@[simp] theorem fk106_3 : fieldOk Tryz.prog 106 3 = true := by kernel_rfl
@[simp] theorem ff106_3 : fieldOff Tryz.prog 106 3 = 3 := by kernel_rfl
@[simp] theorem ft106_3 : fieldTy Tryz.prog 106 3 = 3 := by kernel_rfl
@[simp] theorem bk106_3 : bOk Tryz.prog 106 3 = true := by kernel_rfl
@[simp] theorem bf106_3 : bOff Tryz.prog 106 3 = 3 := by kernel_rfl
@[simp] theorem bt106_3 : bTy Tryz.prog 106 3 = 3 := by kernel_rfl
@[simp] theorem fk106_4 : fieldOk Tryz.prog 106 4 = true := by kernel_rfl
@[simp] theorem ff106_4 : fieldOff Tryz.prog 106 4 = 4 := by kernel_rfl
@[simp] theorem ft106_4 : fieldTy Tryz.prog 106 4 = 3 := by kernel_rfl
@[simp] theorem bk106_4 : bOk Tryz.prog 106 4 = true := by kernel_rfl
@[simp] theorem bf106_4 : bOff Tryz.prog 106 4 = 4 := by kernel_rfl
@[simp] theorem bt106_4 : bTy Tryz.prog 106 4 = 3 := by kernel_rfl
@[simp] theorem fk106_5 : fieldOk Tryz.prog 106 5 = true := by kernel_rfl
@[simp] theorem ff106_5 : fieldOff Tryz.prog 106 5 = 5 := by kernel_rfl
@[simp] theorem ft106_5 : fieldTy Tryz.prog 106 5 = 3 := by kernel_rfl
@[simp] theorem bk106_5 : bOk Tryz.prog 106 5 = true := by kernel_rfl
@[simp] theorem bf106_5 : bOff Tryz.prog 106 5 = 5 := by kernel_rfl
@[simp] theorem bt106_5 : bTy Tryz.prog 106 5 = 3 := by kernel_rfl
@[simp] theorem fk106_6 : fieldOk Tryz.prog 106 6 = true := by kernel_rfl
@[simp] theorem ff106_6 : fieldOff Tryz.prog 106 6 = 6 := by kernel_rfl
@[simp] theorem ft106_6 : fieldTy Tryz.prog 106 6 = 3 := by kernel_rfl
@[simp] theorem bk106_6 : bOk Tryz.prog 106 6 = true := by kernel_rfl
@[simp] theorem bf106_6 : bOff Tryz.prog 106 6 = 6 := by kernel_rfl
@[simp] theorem bt106_6 : bTy Tryz.prog 106 6 = 3 := by kernel_rfl
@[simp] theorem ty109 : tyOk Tryz.prog 109 = true := by kernel_rfl
@[simp] theorem ce109 : Tryz.prog.cellsOf 109 = 3 := by kernel_rfl
@[simp] theorem ag109 : aggT Tryz.prog 109 = true := by kernel_rfl
@[simp] theorem by109 : Tryz.prog.bytesOf 109 = 40 := by kernel_rfl
@[simp] theorem un109 : (Tryz.prog.underlying 109).isSome = true := by kernel_rfl
@[simp] theorem zr109 : zrow Tryz.prog 12 109 = some [.d (.int .i64 0), .nil 1, .d (.int .i64 0)] := by kernel_rfl
@[simp] theorem ze109 : zeroOk Tryz.prog 109 = true := by kernel_rfl
@[simp] theorem in109 : intT Tryz.prog 109 = none := by kernel_rfl
@[simp] theorem fk109_0 : fieldOk Tryz.prog 109 0 = true := by kernel_rfl
@[simp] theorem ff109_0 : fieldOff Tryz.prog 109 0 = 0 := by kernel_rfl
@[simp] theorem ft109_0 : fieldTy Tryz.prog 109 0 = 3 := by kernel_rfl
@[simp] theorem bk109_0 : bOk Tryz.prog 109 0 = true := by kernel_rfl
@[simp] theorem bf109_0 : bOff Tryz.prog 109 0 = 0 := by kernel_rfl
@[simp] theorem bt109_0 : bTy Tryz.prog 109 0 = 3 := by kernel_rfl
@[simp] theorem fk109_1 : fieldOk Tryz.prog 109 1 = true := by kernel_rfl
@[simp] theorem ff109_1 : fieldOff Tryz.prog 109 1 = 1 := by kernel_rfl
@[simp] theorem ft109_1 : fieldTy Tryz.prog 109 1 = 28 := by kernel_rfl
@[simp] theorem bk109_1 : bOk Tryz.prog 109 1 = true := by kernel_rfl
@[simp] theorem bf109_1 : bOff Tryz.prog 109 1 = 1 := by kernel_rfl
@[simp] theorem bt109_1 : bTy Tryz.prog 109 1 = 28 := by kernel_rfl
@[simp] theorem fk109_2 : fieldOk Tryz.prog 109 2 = true := by kernel_rfl
@[simp] theorem ff109_2 : fieldOff Tryz.prog 109 2 = 2 := by kernel_rfl
@[simp] theorem ft109_2 : fieldTy Tryz.prog 109 2 = 3 := by kernel_rfl
@[simp] theorem bk109_2 : bOk Tryz.prog 109 2 = true := by kernel_rfl
@[simp] theorem bf109_2 : bOff Tryz.prog 109 2 = 2 := by kernel_rfl
@[simp] theorem bt109_2 : bTy Tryz.prog 109 2 = 3 := by kernel_rfl
@[simp] theorem ty110 : tyOk Tryz.prog 110 = true := by kernel_rfl
@[simp] theorem ce110 : Tryz.prog.cellsOf 110 = 3 := by kernel_rfl
@[simp] theorem ag110 : aggT Tryz.prog 110 = true := by kernel_rfl
@[simp] theorem by110 : Tryz.prog.bytesOf 110 = 40 := by kernel_rfl
@[simp] theorem un110 : (Tryz.prog.underlying 110).isSome = true := by kernel_rfl
@[simp] theorem zr110 : zrow Tryz.prog 12 110 = some [.d (.int .i64 0), .nil 1, .d (.int .i64 0)] := by kernel_rfl
@[simp] theorem ze110 : zeroOk Tryz.prog 110 = true := by kernel_rfl
@[simp] theorem in110 : intT Tryz.prog 110 = none := by kernel_rfl
@[simp] theorem fk110_0 : fieldOk Tryz.prog 110 0 = true := by kernel_rfl
@[simp] theorem ff110_0 : fieldOff Tryz.prog 110 0 = 0 := by kernel_rfl
@[simp] theorem ft110_0 : fieldTy Tryz.prog 110 0 = 3 := by kernel_rfl
@[simp] theorem bk110_0 : bOk Tryz.prog 110 0 = true := by kernel_rfl
@[simp] theorem bf110_0 : bOff Tryz.prog 110 0 = 0 := by kernel_rfl
@[simp] theorem bt110_0 : bTy Tryz.prog 110 0 = 3 := by kernel_rfl
@[simp] theorem fk110_1 : fieldOk Tryz.prog 110 1 = true := by kernel_rfl
@[simp] theorem ff110_1 : fieldOff Tryz.prog 110 1 = 1 := by kernel_rfl
@[simp] theorem ft110_1 : fieldTy Tryz.prog 110 1 = 28 := by kernel_rfl
@[simp] theorem bk110_1 : bOk Tryz.prog 110 1 = true := by kernel_rfl
@[simp] theorem bf110_1 : bOff Tryz.prog 110 1 = 1 := by kernel_rfl
@[simp] theorem bt110_1 : bTy Tryz.prog 110 1 = 28 := by kernel_rfl
@[simp] theorem fk110_2 : fieldOk Tryz.prog 110 2 = true := by kernel_rfl
@[simp] theorem ff110_2 : fieldOff Tryz.prog 110 2 = 2 := by kernel_rfl
@[simp] theorem ft110_2 : fieldTy Tryz.prog 110 2 = 3 := by kernel_rfl
@[simp] theorem bk110_2 : bOk Tryz.prog 110 2 = true := by kernel_rfl
@[simp] theorem bf110_2 : bOff Tryz.prog 110 2 = 2 := by kernel_rfl
@[simp] theorem bt110_2 : bTy Tryz.prog 110 2 = 3 := by kernel_rfl
@[simp] theorem ty113 : tyOk Tryz.prog 113 = true := by kernel_rfl
@[simp] theorem ce113 : Tryz.prog.cellsOf 113 = 5 := by kernel_rfl
@[simp] theorem ag113 : aggT Tryz.prog 113 = true := by kernel_rfl
@[simp] theorem by113 : Tryz.prog.bytesOf 113 = 40 := by kernel_rfl
@[simp] theorem un113 : (Tryz.prog.underlying 113).isSome = true := by kernel_rfl
@[simp] theorem zr113 : zrow Tryz.prog 12 113 = some [.d (.int .i64 0), .d (.int .i64 0), .d (.int .i64 0), .d (.int .i64 0), .d (.int .i64 0)] := by kernel_rfl
@[simp] theorem ze113 : zeroOk Tryz.prog 113 = true := by kernel_rfl
@[simp] theorem in113 : intT Tryz.prog 113 = none := by kernel_rfl
@[simp] theorem eq113 : eqOk Tryz.prog 113 = true := by kernel_rfl
@[simp] theorem fs113 : fieldTs Tryz.prog 113 = [3, 3, 3, 3, 3] := by kernel_rfl
@[simp] theorem fk113_0 : fieldOk Tryz.prog 113 0 = true := by kernel_rfl
@[simp] theorem ff113_0 : fieldOff Tryz.prog 113 0 = 0 := by kernel_rfl
@[simp] theorem ft113_0 : fieldTy Tryz.prog 113 0 = 3 := by kernel_rfl
@[simp] theorem bk113_0 : bOk Tryz.prog 113 0 = true := by kernel_rfl
@[simp] theorem bf113_0 : bOff Tryz.prog 113 0 = 0 := by kernel_rfl
@[simp] theorem bt113_0 : bTy Tryz.prog 113 0 = 3 := by kernel_rfl
@[simp] theorem fk113_1 : fieldOk Tryz.prog 113 1 = true := by kernel_rfl
@[simp] theorem ff113_1 : fieldOff Tryz.prog 113 1 = 1 := by kernel_rfl
@[simp] theorem ft113_1 : fieldTy Tryz.prog 113 1 = 3 := by kernel_rfl
@[simp] theorem bk113_1 : bOk Tryz.prog 113 1 = true := by kernel_rfl
@[simp] theorem bf113_1 : bOff Tryz.prog 113 1 = 1 := by kernel_rfl
@[simp] theorem bt113_1 : bTy Tryz.prog 113 1 = 3 := by kernel_rfl
@[simp] theorem fk113_2 : fieldOk Tryz.prog 113 2 = true := by kernel_rfl
@[simp] theorem ff113_2 : fieldOff Tryz.prog 113 2 = 2 := by kernel_rfl
@[simp] theorem ft113_2 : fieldTy Tryz.prog 113 2 = 3 := by kernel_rfl
@[simp] theorem bk113_2 : bOk Tryz.prog 113 2 = true := by kernel_rfl
@[simp] theorem bf113_2 : bOff Tryz.prog 113 2 = 2 := by kernel_rfl
@[simp] theorem bt113_2 : bTy Tryz.prog 113 2 = 3 := by kernel_rfl
@[simp] theorem fk113_3 : fieldOk Tryz.prog 113 3 = true := by kernel_rfl
@[simp] theorem ff113_3 : fieldOff Tryz.prog 113 3 = 3 := by kernel_rfl
@[simp] theorem ft113_3 : fieldTy Tryz.prog 113 3 = 3 := by kernel_rfl
@[simp] theorem bk113_3 : bOk Tryz.prog 113 3 = true := by kernel_rfl
@[simp] theorem bf113_3 : bOff Tryz.prog 113 3 = 3 := by kernel_rfl
@[simp] theorem bt113_3 : bTy Tryz.prog 113 3 = 3 := by kernel_rfl
@[simp] theorem fk113_4 : fieldOk Tryz.prog 113 4 = true := by kernel_rfl
@[simp] theorem ff113_4 : fieldOff Tryz.prog 113 4 = 4 := by kernel_rfl
@[simp] theorem ft113_4 : fieldTy Tryz.prog 113 4 = 3 := by kernel_rfl
@[simp] theorem bk113_4 : bOk Tryz.prog 113 4 = true := by kernel_rfl
@[simp] theorem bf113_4 : bOff Tryz.prog 113 4 = 4 := by kernel_rfl
@[simp] theorem bt113_4 : bTy Tryz.prog 113 4 = 3 := by kernel_rfl
@[simp] theorem ty117 : tyOk Tryz.prog 117 = true := by kernel_rfl
@[simp] theorem ce117 : Tryz.prog.cellsOf 117 = 5 := by kernel_rfl
@[simp] theorem ag117 : aggT Tryz.prog 117 = true := by kernel_rfl
@[simp] theorem by117 : Tryz.prog.bytesOf 117 = 40 := by kernel_rfl
@[simp] theorem un117 : (Tryz.prog.underlying 117).isSome = true := by kernel_rfl
@[simp] theorem zr117 : zrow Tryz.prog 12 117 = some [.d (.int .i64 0), .d (.int .i64 0), .d (.int .i64 0), .d (.int .i64 0), .d (.int .i64 0)] := by kernel_rfl
@[simp] theorem ze117 : zeroOk Tryz.prog 117 = true := by kernel_rfl
@[simp] theorem in117 : intT Tryz.prog 117 = none := by kernel_rfl
@[simp] theorem eq117 : eqOk Tryz.prog 117 = true := by kernel_rfl
@[simp] theorem fs117 : fieldTs Tryz.prog 117 = [3, 3, 3, 3, 3] := by kernel_rfl
@[simp] theorem fk117_0 : fieldOk Tryz.prog 117 0 = true := by kernel_rfl
@[simp] theorem ff117_0 : fieldOff Tryz.prog 117 0 = 0 := by kernel_rfl
@[simp] theorem ft117_0 : fieldTy Tryz.prog 117 0 = 3 := by kernel_rfl
@[simp] theorem bk117_0 : bOk Tryz.prog 117 0 = true := by kernel_rfl
@[simp] theorem bf117_0 : bOff Tryz.prog 117 0 = 0 := by kernel_rfl
@[simp] theorem bt117_0 : bTy Tryz.prog 117 0 = 3 := by kernel_rfl
@[simp] theorem fk117_1 : fieldOk Tryz.prog 117 1 = true := by kernel_rfl
@[simp] theorem ff117_1 : fieldOff Tryz.prog 117 1 = 1 := by kernel_rfl
@[simp] theorem ft117_1 : fieldTy Tryz.prog 117 1 = 3 := by kernel_rfl
@[simp] theorem bk117_1 : bOk Tryz.prog 117 1 = true := by kernel_rfl
@[simp] theorem bf117_1 : bOff Tryz.prog 117 1 = 1 := by kernel_rfl
@[simp] theorem bt117_1 : bTy Tryz.prog 117 1 = 3 := by kernel_rfl
@[simp] theorem fk117_2 : fieldOk Tryz.prog 117 2 = true := by kernel_rfl
@[simp] theorem ff117_2 : fieldOff Tryz.prog 117 2 = 2 := by kernel_rfl
@[simp] theorem ft117_2 : fieldTy Tryz.prog 117 2 = 3 := by kernel_rfl
@[simp] theorem bk117_2 : bOk Tryz.prog 117 2 = true := by kernel_rfl
@[simp] theorem bf117_2 : bOff Tryz.prog 117 2 = 2 := by kernel_rfl
@[simp] theorem bt117_2 : bTy Tryz.prog 117 2 = 3 := by kernel_rfl
@[simp] theorem fk117_3 : fieldOk Tryz.prog 117 3 = true := by kernel_rfl
@[simp] theorem ff117_3 : fieldOff Tryz.prog 117 3 = 3 := by kernel_rfl
@[simp] theorem ft117_3 : fieldTy Tryz.prog 117 3 = 3 := by kernel_rfl
@[simp] theorem bk117_3 : bOk Tryz.prog 117 3 = true := by kernel_rfl
@[simp] theorem bf117_3 : bOff Tryz.prog 117 3 = 3 := by kernel_rfl
@[simp] theorem bt117_3 : bTy Tryz.prog 117 3 = 3 := by kernel_rfl
@[simp] theorem fk117_4 : fieldOk Tryz.prog 117 4 = true := by kernel_rfl
@[simp] theorem ff117_4 : fieldOff Tryz.prog 117 4 = 4 := by kernel_rfl
@[simp] theorem ft117_4 : fieldTy Tryz.prog 117 4 = 3 := by kernel_rfl
@[simp] theorem bk117_4 : bOk Tryz.prog 117 4 = true := by kernel_rfl
@[simp] theorem bf117_4 : bOff Tryz.prog 117 4 = 4 := by kernel_rfl
@[simp] theorem bt117_4 : bTy Tryz.prog 117 4 = 3 := by kernel_rfl
@[simp] theorem ty135 : tyOk Tryz.prog 135 = true := by kernel_rfl
@[simp] theorem ce135 : Tryz.prog.cellsOf 135 = 1 := by kernel_rfl
@[simp] theorem ag135 : aggT Tryz.prog 135 = false := by kernel_rfl
@[simp] theorem by135 : Tryz.prog.bytesOf 135 = 24 := by kernel_rfl
@[simp] theorem un135 : (Tryz.prog.underlying 135).isSome = true := by kernel_rfl
@[simp] theorem zr135 : zrow Tryz.prog 12 135 = some [.nil 5] := by kernel_rfl
@[simp] theorem ze135 : zeroOk Tryz.prog 135 = true := by kernel_rfl
@[simp] theorem in135 : intT Tryz.prog 135 = none := by kernel_rfl
@[simp] theorem sl135 : sliceT Tryz.prog 135 = true := by kernel_rfl
@[simp] theorem el135 : elemT Tryz.prog 135 = 139 := by kernel_rfl
@[simp] theorem bs135 : byteT Tryz.prog 135 = false := by kernel_rfl
@[simp] theorem st135 : strT Tryz.prog 135 = false := by kernel_rfl
@[simp] theorem ty139 : tyOk Tryz.prog 139 = true := by kernel_rfl
@[simp] theorem ce139 : Tryz.prog.cellsOf 139 = 5 := by kernel_rfl
@[simp] theorem ag139 : aggT Tryz.prog 139 = true := by kernel_rfl
@[simp] theorem by139 : Tryz.prog.bytesOf 139 = 40 := by kernel_rfl
@[simp] theorem un139 : (Tryz.prog.underlying 139).isSome = true := by kernel_rfl
@[simp] theorem zr139 : zrow Tryz.prog 12 139 = some [.d (.int .i64 0), .d (.int .i64 0), .d (.int .i64 0), .d (.int .i64 0), .d (.int .i64 0)] := by kernel_rfl
@[simp] theorem ze139 : zeroOk Tryz.prog 139 = true := by kernel_rfl
@[simp] theorem in139 : intT Tryz.prog 139 = none := by kernel_rfl
@[simp] theorem eq139 : eqOk Tryz.prog 139 = true := by kernel_rfl
@[simp] theorem fs139 : fieldTs Tryz.prog 139 = [3, 3, 3, 3, 3] := by kernel_rfl
@[simp] theorem fk139_0 : fieldOk Tryz.prog 139 0 = true := by kernel_rfl
@[simp] theorem ff139_0 : fieldOff Tryz.prog 139 0 = 0 := by kernel_rfl
@[simp] theorem ft139_0 : fieldTy Tryz.prog 139 0 = 3 := by kernel_rfl
@[simp] theorem bk139_0 : bOk Tryz.prog 139 0 = true := by kernel_rfl
@[simp] theorem bf139_0 : bOff Tryz.prog 139 0 = 0 := by kernel_rfl
@[simp] theorem bt139_0 : bTy Tryz.prog 139 0 = 3 := by kernel_rfl
@[simp] theorem fk139_1 : fieldOk Tryz.prog 139 1 = true := by kernel_rfl
@[simp] theorem ff139_1 : fieldOff Tryz.prog 139 1 = 1 := by kernel_rfl
@[simp] theorem ft139_1 : fieldTy Tryz.prog 139 1 = 3 := by kernel_rfl
@[simp] theorem bk139_1 : bOk Tryz.prog 139 1 = true := by kernel_rfl
@[simp] theorem bf139_1 : bOff Tryz.prog 139 1 = 1 := by kernel_rfl
@[simp] theorem bt139_1 : bTy Tryz.prog 139 1 = 3 := by kernel_rfl
@[simp] theorem fk139_2 : fieldOk Tryz.prog 139 2 = true := by kernel_rfl
@[simp] theorem ff139_2 : fieldOff Tryz.prog 139 2 = 2 := by kernel_rfl
@[simp] theorem ft139_2 : fieldTy Tryz.prog 139 2 = 3 := by kernel_rfl
@[simp] theorem bk139_2 : bOk Tryz.prog 139 2 = true := by kernel_rfl
@[simp] theorem bf139_2 : bOff Tryz.prog 139 2 = 2 := by kernel_rfl
@[simp] theorem bt139_2 : bTy Tryz.prog 139 2 = 3 := by kernel_rfl
@[simp] theorem fk139_3 : fieldOk Tryz.prog 139 3 = true := by kernel_rfl
@[simp] theorem ff139_3 : fieldOff Tryz.prog 139 3 = 3 := by kernel_rfl
@[simp] theorem ft139_3 : fieldTy Tryz.prog 139 3 = 3 := by kernel_rfl
@[simp] theorem bk139_3 : bOk Tryz.prog 139 3 = true := by kernel_rfl
@[simp] theorem bf139_3 : bOff Tryz.prog 139 3 = 3 := by kernel_rfl
@[simp] theorem bt139_3 : bTy Tryz.prog 139 3 = 3 := by kernel_rfl
@[simp] theorem fk139_4 : fieldOk Tryz.prog 139 4 = true := by kernel_rfl
@[simp] theorem ff139_4 : fieldOff Tryz.prog 139 4 = 4 := by kernel_rfl
@[simp] theorem ft139_4 : fieldTy Tryz.prog 139 4 = 3 := by kernel_rfl
@[simp] theorem bk139_4 : bOk Tryz.prog 139 4 = true := by kernel_rfl
@[simp] theorem bf139_4 : bOff Tryz.prog 139 4 = 4 := by kernel_rfl
@[simp] theorem bt139_4 : bTy Tryz.prog 139 4 = 3 := by kernel_rfl
@[simp] theorem ty148 : tyOk Tryz.prog 148 = true := by kernel_rfl
@[simp] theorem ce148 : Tryz.prog.cellsOf 148 = 1 := by kernel_rfl
@[simp] theorem ag148 : aggT Tryz.prog 148 = false := by kernel_rfl
@[simp] theorem by148 : Tryz.prog.bytesOf 148 = 24 := by kernel_rfl
@[simp] theorem un148 : (Tryz.prog.underlying 148).isSome = true := by kernel_rfl
@[simp] theorem zr148 : zrow Tryz.prog 12 148 = some [.nil 16] := by kernel_rfl
@[simp] theorem ze148 : zeroOk Tryz.prog 148 = true := by kernel_rfl
@[simp] theorem in148 : intT Tryz.prog 148 = none := by kernel_rfl
@[simp] theorem sl148 : sliceT Tryz.prog 148 = true := by kernel_rfl
@[simp] theorem el148 : elemT Tryz.prog 148 = 239 := by kernel_rfl
@[simp] theorem bs148 : byteT Tryz.prog 148 = false := by kernel_rfl
@[simp] theorem st148 : strT Tryz.prog 148 = false := by kernel_rfl
@[simp] theorem ty150 : tyOk Tryz.prog 150 = true := by kernel_rfl
@[simp] theorem ce150 : Tryz.prog.cellsOf 150 = 2 := by kernel_rfl
@[simp] theorem ag150 : aggT Tryz.prog 150 = true := by kernel_rfl
@[simp] theorem by150 : Tryz.prog.bytesOf 150 = 32 := by kernel_rfl
@[simp] theorem un150 : (Tryz.prog.underlying 150).isSome = true := by kernel_rfl
@[simp] theorem zr150 : zrow Tryz.prog 12 150 = some [.d (.int .i64 0), .nil 16] := by kernel_rfl
@[simp] theorem ze150 : zeroOk Tryz.prog 150 = true := by kernel_rfl
@[simp] theorem in150 : intT Tryz.prog 150 = none := by kernel_rfl
@[simp] theorem fk150_0 : fieldOk Tryz.prog 150 0 = true := by kernel_rfl
@[simp] theorem ff150_0 : fieldOff Tryz.prog 150 0 = 0 := by kernel_rfl
@[simp] theorem ft150_0 : fieldTy Tryz.prog 150 0 = 3 := by kernel_rfl
@[simp] theorem bk150_0 : bOk Tryz.prog 150 0 = true := by kernel_rfl
@[simp] theorem bf150_0 : bOff Tryz.prog 150 0 = 0 := by kernel_rfl
@[simp] theorem bt150_0 : bTy Tryz.prog 150 0 = 3 := by kernel_rfl
@[simp] theorem fk150_1 : fieldOk Tryz.prog 150 1 = true := by kernel_rfl
@[simp] theorem ff150_1 : fieldOff Tryz.prog 150 1 = 1 := by kernel_rfl
@[simp] theorem ft150_1 : fieldTy Tryz.prog 150 1 = 148 := by kernel_rfl
@[simp] theorem bk150_1 : bOk Tryz.prog 150 1 = true := by kernel_rfl
@[simp] theorem bf150_1 : bOff Tryz.prog 150 1 = 1 := by kernel_rfl
@[simp] theorem bt150_1 : bTy Tryz.prog 150 1 = 148 := by kernel_rfl
@[simp] theorem ty155 : tyOk Tryz.prog 155 = true := by kernel_rfl
@[simp] theorem ce155 : Tryz.prog.cellsOf 155 = 7 := by kernel_rfl
@[simp] theorem ag155 : aggT Tryz.prog 155 = true := by kernel_rfl
@[simp] theorem by155 : Tryz.prog.bytesOf 155 = 56 := by kernel_rfl
@[simp] theorem un155 : (Tryz.prog.underlying 155).isSome = true := by kernel_rfl
@[simp] theorem zr155 : zrow Tryz.prog 12 155 = some [.d (.int .i64 0), .d (.int .i64 0), .d (.int .i64 0), .d (.int .i64 0), .d (.int .i64 0), .d (.int .i64 0), .d (.int .i64 0)] := by kernel_rfl
@[simp] theorem ze155 : zeroOk Tryz.prog 155 = true := by kernel_rfl
@[simp] theorem in155 : intT Tryz.prog 155 = none := by kernel_rfl
@[simp] theorem eq155 : eqOk Tryz.prog 155 = true := by kernel_rfl
@[simp] theorem fs155 : fieldTs Tryz.prog 155 = [3, 3, 3, 3, 3, 3, 3] := by kernel_rfl
@[simp] theorem fk155_0 : fieldOk Tryz.prog 155 0 = true := by kernel_rfl
@[simp] theorem ff155_0 : fieldOff Tryz.prog 155 0 = 0 := by kernel_rfl
@[simp] theorem ft155_0 : fieldTy Tryz.prog 155 0 = 3 := by kernel_rfl
@[simp] theorem bk155_0 : bOk Tryz.prog 155 0 = true := by kernel_rfl
@[simp] theorem bf155_0 : bOff Tryz.prog 155 0 = 0 := by kernel_rfl
@[simp] theorem bt155_0 : bTy Tryz.prog 155 0 = 3 := by kernel_rfl
@[simp] theorem fk155_1 : fieldOk Tryz.prog 155 1 = true := by kernel_rfl
@[simp] theorem ff155_1 : fieldOff Tryz.prog 155 1 = 1 := by kernel_rfl
@[simp] theorem ft155_1 : fieldTy Tryz.prog 155 1 = 3 := by kernel_rfl
@[simp] theorem bk155_1 : bOk Tryz.prog 155 1 = true := by kernel_rfl
@[simp] theorem bf155_1 : bOff Tryz.prog 155 1 = 1 := by kernel_rfl
@[simp] theorem bt155_1 : bTy Tryz.prog 155 1 = 3 := by kernel_rfl
@[simp] theorem fk155_2 : fieldOk Tryz.prog 155 2 = true := by kernel_rfl
@[simp] theorem ff155_2 : fieldOff Tryz.prog 155 2 = 2 := by kernel_rfl
@[simp] theorem ft155_2 : fieldTy Tryz.prog 155 2 = 3 := by kernel_rfl
@[simp] theorem bk155_2 : bOk Tryz.prog 155 2 = true := by kernel_rfl
@[simp] theorem bf155_2 : bOff Tryz.prog 155 2 = 2 := by kernel_rfl
@[simp] theorem bt155_2 : bTy Tryz.prog 155 2 = 3 := by kernel_rfl
@[simp] theorem fk155_3 : fieldOk Tryz.prog 155 3 = true := by kernel_rfl
@[simp] theorem ff155_3 : fieldOff Tryz.prog 155 3 = 3 := by kernel_rfl
@[simp] theorem ft155_3 : fieldTy Tryz.prog 155 3 = 3 := by kernel_rfl
@[simp] theorem bk155_3 : bOk Tryz.prog 155 3 = true := by kernel_rfl
@[simp] theorem bf155_3 : bOff Tryz.prog 155 3 = 3 := by kernel_rfl
@[simp] theorem bt155_3 : bTy Tryz.prog 155 3 = 3 := by kernel_rfl
@[simp] theorem fk155_4 : fieldOk Tryz.prog 155 4 = true := by kernel_rfl
@[simp] theorem ff155_4 : fieldOff Tryz.prog 155 4 = 4 := by kernel_rfl
@[simp] theorem ft155_4 : fieldTy Tryz.prog 155 4 = 3 := by kernel_rfl
@[simp] theorem bk155_4 : bOk Tryz.prog 155 4 = true := by kernel_rfl
@[simp] theorem bf155_4 : bOff Tryz.prog 155 4 = 4 := by kernel_rfl
@[simp] theorem bt155_4 : bTy Tryz.prog 155 4 = 3 := by kernel_rfl
@[simp] theorem fk155_5 : fieldOk Tryz.prog 155 5 = true := by kernel_rfl
@[simp] theorem ff155_5 : fieldOff Tryz.prog 155 5 = 5 := by kernel_rfl
@[simp] theorem ft155_5 : fieldTy Tryz.prog 155 5 = 3 := by kernel_rfl
@[simp] theorem bk155_5 : bOk Tryz.prog 155 5 = true := by kernel_rfl
@[simp] theorem bf155_5 : bOff Tryz.prog 155 5 = 5 := by kernel_rfl
@[simp] theorem bt155_5 : bTy Tryz.prog 155 5 = 3 := by kernel_rfl
@[simp] theorem fk155_6 : fieldOk Tryz.prog 155 6 = true := by kernel_rfl
@[simp] theorem ff155_6 : fieldOff Tryz.prog 155 6 = 6 := by kernel_rfl
@[simp] theorem ft155_6 : fieldTy Tryz.prog 155 6 = 3 := by kernel_rfl
@[simp] theorem bk155_6 : bOk Tryz.prog 155 6 = true := by kernel_rfl
@[simp] theorem bf155_6 : bOff Tryz.prog 155 6 = 6 := by kernel_rfl
@[simp] theorem bt155_6 : bTy Tryz.prog 155 6 = 3 := by kernel_rfl
@[simp] theorem ty181 : tyOk Tryz.prog 181 = true := by kernel_rfl
@[simp] theorem ce181 : Tryz.prog.cellsOf 181 = 4 := by kernel_rfl
@[simp] theorem ag181 : aggT Tryz.prog 181 = true := by kernel_rfl
@[simp] theorem by181 : Tryz.prog.bytesOf 181 = 32 := by kernel_rfl
@[simp] theorem un181 : (Tryz.prog.underlying 181).isSome = true := by kernel_rfl
@[simp] theorem zr181 : zrow Tryz.prog 12 181 = some [.d (.int .i64 0), .d (.int .i64 0), .d (.int .i64 0), .d (.int .i64 0)] := by kernel_rfl
@[simp] theorem ze181 : zeroOk Tryz.prog 181 = true := by kernel_rfl
@[simp] theorem in181 : intT Tryz.prog 181 = none := by kernel_rfl
@[simp] theorem eq181 : eqOk Tryz.prog 181 = true := by kernel_rfl
@[simp] theorem fs181 : fieldTs Tryz.prog 181 = [3, 3, 3, 3] := by kernel_rfl
@[simp] theorem fk181_0 : fieldOk Tryz.prog 181 0 = true := by kernel_rfl
@[simp] theorem ff181_0 : fieldOff Tryz.prog 181 0 = 0 := by kernel_rfl
@[simp] theorem ft181_0 : fieldTy Tryz.prog 181 0 = 3 := by kernel_rfl
@[simp] theorem bk181_0 : bOk Tryz.prog 181 0 = true := by kernel_rfl
@[simp] theorem bf181_0 : bOff Tryz.prog 181 0 = 0 := by kernel_rfl
@[simp] theorem bt181_0 : bTy Tryz.prog 181 0 = 3 := by kernel_rfl
@[simp] theorem fk181_1 : fieldOk Tryz.prog 181 1 = true := by kernel_rfl
@[simp] theorem ff181_1 : fieldOff Tryz.prog 181 1 = 1 := by kernel_rfl
@[simp] theorem ft181_1 : fieldTy Tryz.prog 181 1 = 3 := by kernel_rfl
@[simp] theorem bk181_1 : bOk Tryz.prog 181 1 = true := by kernel_rfl
@[simp] theorem bf181_1 : bOff Tryz.prog 181 1 = 1 := by kernel_rfl
@[simp] theorem bt181_1 : bTy Tryz.prog 181 1 = 3 := by kernel_rfl
@[simp] theorem fk181_2 : fieldOk Tryz.prog 181 2 = true := by kernel_rfl
@[simp] theorem ff181_2 : fieldOff Tryz.prog 181 2 = 2 := by kernel_rfl
@[simp] theorem ft181_2 : fieldTy Tryz.prog 181 2 = 3 := by kernel_rfl
@[simp] theorem bk181_2 : bOk Tryz.prog 181 2 = true := by kernel_rfl
@[simp] theorem bf181_2 : bOff Tryz.prog 181 2 = 2 := by kernel_rfl
@[simp] theorem bt181_2 : bTy Tryz.prog 181 2 = 3 := by kernel_rfl
@[simp] theorem fk181_3 : fieldOk Tryz.prog 181 3 = true := by kernel_rfl
@[simp] theorem ff181_3 : fieldOff Tryz.prog 181 3 = 3 := by kernel_rfl
@[simp] theorem ft181_3 : fieldTy Tryz.prog 181 3 = 3 := by kernel_rfl
@[simp] theorem bk181_3 : bOk Tryz.prog 181 3 = true := by kernel_rfl
@[simp] theorem bf181_3 : bOff Tryz.prog 181 3 = 3 := by kernel_rfl
@[simp] theorem bt181_3 : bTy Tryz.prog 181 3 = 3 := by kernel_rfl
@[simp] theorem ty183 : tyOk Tryz.prog 183 = true := by kernel_rfl
@[simp] theorem ce183 : Tryz.prog.cellsOf 183 = 4 := by kernel_rfl
@[simp] theorem ag183 : aggT Tryz.prog 183 = true := by kernel_rfl
@[simp] theorem by183 : Tryz.prog.bytesOf 183 = 48 := by kernel_rfl
@[simp] theorem un183 : (Tryz.prog.underlying 183).isSome = true := by kernel_rfl
@[simp] theorem zr183 : zrow Tryz.prog 12 183 = some [.d (.int .i64 0), .d (.int .i64 0), .nil 16, .d (.int .i64 0)] := by kernel_rfl
@[simp] theorem ze183 : zeroOk Tryz.prog 183 = true := by kernel_rfl
@[simp] theorem in183 : intT Tryz.prog 183 = none := by kernel_rfl
@[simp] theorem fk183_0 : fieldOk Tryz.prog 183 0 = true := by kernel_rfl
@[simp] theorem ff183_0 : fieldOff Tryz.prog 183 0 = 0 := by kernel_rfl
@[simp] theorem ft183_0 : fieldTy Tryz.prog 183 0 = 3 := by kernel_rfl
@[simp] theorem bk183_0 : bOk Tryz.prog 183 0 = true := by kernel_rfl
@[simp] theorem bf183_0 : bOff Tryz.prog 183 0 = 0 := by kernel_rfl
@[simp] theorem bt183_0 : bTy Tryz.prog 183 0 = 3 := by kernel_rfl
@[simp] theorem fk183_1 : fieldOk Tryz.prog 183 1 = true := by kernel_rfl
@[simp] theorem ff183_1 : fieldOff Tryz.prog 183 1 = 1 := by kernel_rfl
@[simp] theorem ft183_1 : fieldTy Tryz.prog 183 1 = 3 := by kernel_rfl
@[simp] theorem bk183_1 : bOk Tryz.prog 183 1 = true := by kernel_rfl
@[simp] theorem bf183_1 : bOff Tryz.prog 183 1 = 1 := by kernel_rfl
@[simp] theorem bt183_1 : bTy Tryz.prog 183 1 = 3 := by kernel_rfl
@[simp] theorem fk183_2 : fieldOk Tryz.prog 183 2 = true := by kernel_rfl
@[simp] theorem ff183_2 : fieldOff Tryz.prog 183 2 = 2 := by kernel_rfl
@[simp] theorem ft183_2 : fieldTy Tryz.prog 183 2 = 90 := by kernel_rfl
@[simp] theorem bk183_2 : bOk Tryz.prog 183 2 = true := by kernel_rfl
@[simp] theorem bf183_2 : bOff Tryz.prog 183 2 = 2 := by kernel_rfl
@[simp] theorem bt183_2 : bTy Tryz.prog 183 2 = 90 := by kernel_rfl
@[simp] theorem fk183_3 : fieldOk Tryz.prog 183 3 = true := by kernel_rfl
@[simp] theorem ff183_3 : fieldOff Tryz.prog 183 3 = 3 := by kernel_rfl
@[simp] theorem ft183_3 : fieldTy Tryz.prog 183 3 = 3 := by kernel_rfl
@[simp] theorem bk183_3 : bOk Tryz.prog 183 3 = true := by kernel_rfl
@[simp] theorem bf183_3 : bOff Tryz.prog 183 3 = 3 := by kernel_rfl
@[simp] theorem bt183_3 : bTy Tryz.prog 183 3 = 3 := by kernel_rfl
@[simp] theorem ty193 : tyOk Tryz.prog 193 = true := by kernel_rfl
@[simp] theorem ce193 : Tryz.prog.cellsOf 193 = 1 := by kernel_rfl
@[simp] theorem ag193 : aggT Tryz.prog 193 = false := by kernel_rfl
@[simp] theorem by193 : Tryz.prog.bytesOf 193 = 24 := by kernel_rfl
@[simp] theorem un193 : (Tryz.prog.underlying 193).isSome = true := by kernel_rfl
@[simp] theorem zr193 : zrow Tryz.prog 12 193 = some [.nil 2] := by kernel_rfl
@[simp] theorem ze193 : zeroOk Tryz.prog 193 = true := by kernel_rfl
@[simp] theorem in193 : intT Tryz.prog 193 = none := by kernel_rfl
@[simp] theorem sl193 : sliceT Tryz.prog 193 = true := by kernel_rfl
@[simp] theorem el193 : elemT Tryz.prog 193 = 230 := by kernel_rfl
@[simp] theorem bs193 : byteT Tryz.prog 193 = false := by kernel_rfl
@[simp] theorem st193 : strT Tryz.prog 193 = false := by kernel_rfl
@[simp] theorem ty196 : tyOk Tryz.prog 196 = true := by kernel_rfl
@[simp] theorem ce196 : Tryz.prog.cellsOf 196 = 5 := by kernel_rfl
@[simp] theorem ag196 : aggT Tryz.prog 196 = true := by kernel_rfl
@[simp] theorem by196 : Tryz.prog.bytesOf 196 = 72 := by kernel_rfl
@[simp] theorem un196 : (Tryz.prog.underlying 196).isSome = true := by kernel_rfl
@[simp] theorem zr196 : zrow Tryz.prog 12 196 = some [.d (.int .i64 0), .d (.int .i64 0), .d (.int .i64 0), .nil 2, .nil 5] := by kernel_rfl
@[simp] theorem ze196 : zeroOk Tryz.prog 196 = true := by kernel_rfl
@[simp] theorem in196 : intT Tryz.prog 196 = none := by kernel_rfl
@[simp] theorem fk196_0 : fieldOk Tryz.prog 196 0 = true := by kernel_rfl
@[simp] theorem ff196_0 : fieldOff Tryz.prog 196 0 = 0 := by kernel_rfl
@[simp] theorem ft196_0 : fieldTy Tryz.prog 196 0 = 3 := by kernel_rfl
@[simp] theorem bk196_0 : bOk Tryz.prog 196 0 = true := by kernel_rfl
@[simp] theorem bf196_0 : bOff Tryz.prog 196 0 = 0 := by kernel_rfl
@[simp] theorem bt196_0 : bTy Tryz.prog 196 0 = 3 := by kernel_rfl
@[simp] theorem fk196_1 : fieldOk Tryz.prog 196 1 = true := by kernel_rfl
@[simp] theorem ff196_1 : fieldOff Tryz.prog 196 1 = 1 := by kernel_rfl
@[simp] theorem ft196_1 : fieldTy Tryz.prog 196 1 = 3 := by kernel_rfl
@[simp] theorem bk196_1 : bOk Tryz.prog 196 1 = true := by kernel_rfl
@[simp] theorem bf196_1 : bOff Tryz.prog 196 1 = 1 := by kernel_rfl
@[simp] theorem bt196_1 : bTy Tryz.prog 196 1 = 3 := by kernel_rfl
@[simp] theorem fk196_2 : fieldOk Tryz.prog 196 2 = true := by kernel_rfl
@[simp] theorem ff196_2 : fieldOff Tryz.prog 196 2 = 2 := by kernel_rfl
@[simp] theorem ft196_2 : fieldTy Tryz.prog 196 2 = 3 := by kernel_rfl
@[simp] theorem bk196_2 : bOk Tryz.prog 196 2 = true := by kernel_rfl
@[simp] theorem bf196_2 : bOff Tryz.prog 196 2 = 2 := by kernel_rfl
@[simp] theorem bt196_2 : bTy Tryz.prog 196 2 = 3 := by kernel_rfl
@[simp] theorem fk196_3 : fieldOk Tryz.prog 196 3 = true := by kernel_rfl
@[simp] theorem ff196_3 : fieldOff Tryz.prog 196 3 = 3 := by kernel_rfl
@[simp] theorem ft196_3 : fieldTy Tryz.prog 196 3 = 193 := by kernel_rfl
@[simp] theorem bk196_3 : bOk Tryz.prog 196 3 = true := by kernel_rfl
@[simp] theorem bf196_3 : bOff Tryz.prog 196 3 = 3 := by kernel_rfl
@[simp] theorem bt196_3 : bTy Tryz.prog 196 3 = 193 := by kernel_rfl
@[simp] theorem fk196_4 : fieldOk Tryz.prog 196 4 = true := by kernel_rfl
@[simp] theorem ff196_4 : fieldOff Tryz.prog 196 4 = 4 := by kernel_rfl
@[simp] theorem ft196_4 : fieldTy Tryz.prog 196 4 = 135 := by kernel_rfl
@[simp] theorem bk196_4 : bOk Tryz.prog 196 4 = true := by kernel_rfl
@[simp] theorem bf196_4 : bOff Tryz.prog 196 4 = 4 := by kernel_rfl
@[simp] theorem bt196_4 : bTy Tryz.prog 196 4 = 135 := by kernel_rfl
@[simp] theorem ty201 : tyOk Tryz.prog 201 = true := by kernel_rfl
@[simp] theorem ce201 : Tryz.prog.cellsOf 201 = 5 := by kernel_rfl
@[simp] theorem ag201 : aggT Tryz.prog 201 = true := by kernel_rfl
@[simp] theorem by201 : Tryz.prog.bytesOf 201 = 40 := by kernel_rfl
@[simp] theorem un201 : (Tryz.prog.underlying 201).isSome = true := by kernel_rfl
@[simp] theorem zr201 : zrow Tryz.prog 12 201 = some [.d (.int .i64 0), .d (.int .i64 0), .d (.int .i64 0), .d (.int .i64 0), .d (.int .i64 0)] := by kernel_rfl
@[simp] theorem ze201 : zeroOk Tryz.prog 201 = true := by kernel_rfl
@[simp] theorem in201 : intT Tryz.prog 201 = none := by kernel_rfl
@[simp] theorem eq201 : eqOk Tryz.prog 201 = true := by kernel_rfl
@[simp] theorem fs201 : fieldTs Tryz.prog 201 = [3, 3, 3, 3, 3] := by kernel_rfl
@[simp] theorem fk201_0 : fieldOk Tryz.prog 201 0 = true := by kernel_rfl
@[simp] theorem ff201_0 : fieldOff Tryz.prog 201 0 = 0 := by kernel_rfl
@[simp] theorem ft201_0 : fieldTy Tryz.prog 201 0 = 3 := by kernel_rfl
@[simp] theorem bk201_0 : bOk Tryz.prog 201 0 = true := by kernel_rfl
@[simp] theorem bf201_0 : bOff Tryz.prog 201 0 = 0 := by kernel_rfl
@[simp] theorem bt201_0 : bTy Tryz.prog 201 0 = 3 := by kernel_rfl
@[simp] theorem fk201_1 : fieldOk Tryz.prog 201 1 = true := by kernel_rfl
@[simp] theorem ff201_1 : fieldOff Tryz.prog 201 1 = 1 := by kernel_rfl
@[simp] theorem ft201_1 : fieldTy Tryz.prog 201 1 = 3 := by kernel_rfl
@[simp] theorem bk201_1 : bOk Tryz.prog 201 1 = true := by kernel_rfl
@[simp] theorem bf201_1 : bOff Tryz.prog 201 1 = 1 := by kernel_rfl
@[simp] theorem bt201_1 : bTy Tryz.prog 201 1 = 3 := by kernel_rfl
@[simp] theorem fk201_2 : fieldOk Tryz.prog 201 2 = true := by kernel_rfl
@[simp] theorem ff201_2 : fieldOff Tryz.prog 201 2 = 2 := by kernel_rfl
@[simp] theorem ft201_2 : fieldTy Tryz.prog 201 2 = 3 := by kernel_rfl
@[simp] theorem bk201_2 : bOk Tryz.prog 201 2 = true := by kernel_rfl
@[simp] theorem bf201_2 : bOff Tryz.prog 201 2 = 2 := by kernel_rfl
@[simp] theorem bt201_2 : bTy Tryz.prog 201 2 = 3 := by kernel_rfl
@[simp] theorem fk201_3 : fieldOk Tryz.prog 201 3 = true := by kernel_rfl
@[simp] theorem ff201_3 : fieldOff Tryz.prog 201 3 = 3 := by kernel_rfl
@[simp] theorem ft201_3 : fieldTy Tryz.prog 201 3 = 3 := by kernel_rfl
@[simp] theorem bk201_3 : bOk Tryz.prog 201 3 = true := by kernel_rfl
@[simp] theorem bf201_3 : bOff Tryz.prog 201 3 = 3 := by kernel_rfl
@[simp] theorem bt201_3 : bTy Tryz.prog 201 3 = 3 := by kernel_rfl
@[simp] theorem fk201_4 : fieldOk Tryz.prog 201 4 = true := by kernel_rfl
@[simp] theorem ff201_4 : fieldOff Tryz.prog 201 4 = 4 := by kernel_rfl
@[simp] theorem ft201_4 : fieldTy Tryz.prog 201 4 = 3 := by kernel_rfl
@[simp] theorem bk201_4 : bOk Tryz.prog 201 4 = true := by kernel_rfl
@[simp] theorem bf201_4 : bOff Tryz.prog 201 4 = 4 := by kernel_rfl
@[simp] theorem bt201_4 : bTy Tryz.prog 201 4 = 3 := by kernel_rfl
@[simp] theorem ty203 : tyOk Tryz.prog 203 = true := by kernel_rfl
@[simp] theorem ce203 : Tryz.prog.cellsOf 203 = 3 := by kernel_rfl
@[simp] theorem ag203 : aggT Tryz.prog 203 = true := by kernel_rfl
@[simp] theorem by203 : Tryz.prog.bytesOf 203 = 24 := by kernel_rfl
@[simp] theorem un203 : (Tryz.prog.underlying 203).isSome = true := by kernel_rfl
@[simp] theorem zr203 : zrow Tryz.prog 12 203 = some [.d (.int .i64 0), .d (.int .i64 0), .d (.int .i64 0)] := by kernel_rfl
@[simp] theorem ze203 : zeroOk Tryz.prog 203 = true := by kernel_rfl
@[simp] theorem in203 : intT Tryz.prog 203 = none := by kernel_rfl
@[simp] theorem eq203 : eqOk Tryz.prog 203 = true := by kernel_rfl
@[simp] theorem fs203 : fieldTs Tryz.prog 203 = [3, 3, 3] := by kernel_rfl
@[simp] theorem fk203_0 : fieldOk Tryz.prog 203 0 = true := by kernel_rfl
@[simp] theorem ff203_0 : fieldOff Tryz.prog 203 0 = 0 := by kernel_rfl
@[simp] theorem ft203_0 : fieldTy Tryz.prog 203 0 = 3 := by kernel_rfl
@[simp] theorem bk203_0 : bOk Tryz.prog 203 0 = true := by kernel_rfl
@[simp] theorem bf203_0 : bOff Tryz.prog 203 0 = 0 := by kernel_rfl
@[simp] theorem bt203_0 : bTy Tryz.prog 203 0 = 3 := by kernel_rfl
@[simp] theorem fk203_1 : fieldOk Tryz.prog 203 1 = true := by kernel_rfl
@[simp] theorem ff203_1 : fieldOff Tryz.prog 203 1 = 1 := by kernel_rfl
@[simp] theorem ft203_1 : fieldTy Tryz.prog 203 1 = 3 := by kernel_rfl
@[simp] theorem bk203_1 : bOk Tryz.prog 203 1 = true := by kernel_rfl
@[simp] theorem bf203_1 : bOff Tryz.prog 203 1 = 1 := by kernel_rfl
@[simp] theorem bt203_1 : bTy Tryz.prog 203 1 = 3 := by kernel_rfl
@[simp] theorem fk203_2 : fieldOk Tryz.prog 203 2 = true := by kernel_rfl
@[simp] theorem ff203_2 : fieldOff Tryz.prog 203 2 = 2 := by kernel_rfl
@[simp] theorem ft203_2 : fieldTy Tryz.prog 203 2 = 3 := by kernel_rfl
@[simp] theorem bk203_2 : bOk Tryz.prog 203 2 = true := by kernel_rfl
@[simp] theorem bf203_2 : bOff Tryz.prog 203 2 = 2 := by kernel_rfl
@[simp] theorem bt203_2 : bTy Tryz.prog 203 2 = 3 := by kernel_rfl
@[simp] theorem ty205 : tyOk Tryz.prog 205 = true := by kernel_rfl
@[simp] theorem ce205 : Tryz.prog.cellsOf 205 = 4 := by kernel_rfl
@[simp] theorem ag205 : aggT Tryz.prog 205 = true := by kernel_rfl
@[simp] theorem by205 : Tryz.prog.bytesOf 205 = 32 := by kernel_rfl
@[simp] theorem un205 : (Tryz.prog.underlying 205).isSome = true := by kernel_rfl
@[simp] theorem zr205 : zrow Tryz.prog 12 205 = some [.d (.int .i64 0), .d (.int .i64 0), .d (.int .i64 0), .d (.int .i64 0)] := by kernel_rfl
@[simp] theorem ze205 : zeroOk Tryz.prog 205 = true := by kernel_rfl
@[simp] theorem in205 : intT Tryz.prog 205 = none := by kernel_rfl
@[simp] theorem eq205 : eqOk Tryz.prog 205 = true := by kernel_rfl
@[simp] theorem fs205 : fieldTs Tryz.prog 205 = [3, 3, 3, 3] := by kernel_rfl
@[simp] theorem fk205_0 : fieldOk Tryz.prog 205 0 = true := by kernel_rfl
@[simp] theorem ff205_0 : fieldOff Tryz.prog 205 0 = 0 := by kernel_rfl
@[simp] theorem ft205_0 : fieldTy Tryz.prog 205 0 = 3 := by kernel_rfl
@[simp] theorem bk205_0 : bOk Tryz.prog 205 0 = true := by kernel_rfl
@[simp] theorem bf205_0 : bOff Tryz.prog 205 0 = 0 := by kernel_rfl
@[simp] theorem bt205_0 : bTy Tryz.prog 205 0 = 3 := by kernel_rfl
@[simp] theorem fk205_1 : fieldOk Tryz.prog 205 1 = true := by kernel_rfl
@[simp] theorem ff205_1 : fieldOff Tryz.prog 205 1 = 1 := by kernel_rfl
@[simp] theorem ft205_1 : fieldTy Tryz.prog 205 1 = 3 := by kernel_rfl
@[simp] theorem bk205_1 : bOk Tryz.prog 205 1 = true := by kernel_rfl
@[simp] theorem bf205_1 : bOff Tryz.prog 205 1 = 1 := by kernel_rfl
@[simp] theorem bt205_1 : bTy Tryz.prog 205 1 = 3 := by kernel_rfl
@[simp] theorem fk205_2 : fieldOk Tryz.prog 205 2 = true := by kernel_rfl
@[simp] theorem ff205_2 : fieldOff Tryz.prog 205 2 = 2 := by kernel_rfl
@[simp] theorem ft205_2 : fieldTy Tryz.prog 205 2 = 3 := by kernel_rfl
@[simp] theorem bk205_2 : bOk Tryz.prog 205 2 = true := by kernel_rfl
@[simp] theorem bf205_2 : bOff Tryz.prog 205 2 = 2 := by kernel_rfl
@[simp] theorem bt205_2 : bTy Tryz.prog 205 2 = 3 := by kernel_rfl
@[simp] theorem fk205_3 : fieldOk Tryz.prog 205 3 = true := by kernel_rfl
@[simp] theorem ff205_3 : fieldOff Tryz.prog 205 3 = 3 := by kernel_rfl
@[simp] theorem ft205_3 : fieldTy Tryz.prog 205 3 = 3 := by kernel_rfl
@[simp] theorem bk205_3 : bOk Tryz.prog 205 3 = true := by kernel_rfl
@[simp] theorem bf205_3 : bOff Tryz.prog 205 3 = 3 := by kernel_rfl
@[simp] theorem bt205_3 : bTy Tryz.prog 205 3 = 3 := by kernel_rfl
@[simp] theorem ty222 : tyOk Tryz.prog 222 = true := by kernel_rfl
@[simp] theorem ce222 : Tryz.prog.cellsOf 222 = 1 := by kernel_rfl
@[simp] theorem ag222 : aggT Tryz.prog 222 = false := by kernel_rfl
@[simp] theorem by222 : Tryz.prog.bytesOf 222 = 24 := by kernel_rfl
@[simp] theorem un222 : (Tryz.prog.underlying 222).isSome = true := by kernel_rfl
@[simp] theorem zr222 : zrow Tryz.prog 12 222 = some [.nil 1] := by kernel_rfl
@[simp] theorem ze222 : zeroOk Tryz.prog 222 = true := by kernel_rfl
@[simp] theorem in222 : intT Tryz.prog 222 = none := by kernel_rfl
@[simp] theorem sl222 : sliceT Tryz.prog 222 = true := by kernel_rfl
@[simp] theorem el222 : elemT Tryz.prog 222 = 5 := by kernel_rfl
@[simp] theorem bs222 : byteT Tryz.prog 222 = true := by kernel_rfl
@[simp] theorem st222 : strT Tryz.prog 222 = false := by kernel_rfl
@[simp] theorem ty230 : tyOk Tryz.prog 230 = true := by kernel_rfl
@[simp] theorem ce230 : Tryz.prog.cellsOf 230 = 2 := by kernel_rfl
@[simp] theorem ag230 : aggT Tryz.prog 230 = true := by kernel_rfl
@[simp] theorem by230 : Tryz.prog.bytesOf 230 = 16 := by kernel_rfl
@[simp] theorem un230 : (Tryz.prog.underlying 230).isSome = true := by kernel_rfl
@[simp] theorem zr230 : zrow Tryz.prog 12 230 = some [.d (.int .i64 0), .d (.bool false)] := by kernel_rfl
@[simp] theorem ze230 : zeroOk Tryz.prog 230 = true := by kernel_rfl
@[simp] theorem in230 : intT Tryz.prog 230 = none := by kernel_rfl
@[simp] theorem eq230 : eqOk Tryz.prog 230 = true := by kernel_rfl
@[simp] theorem fs230 : fieldTs Tryz.prog 230 = [3, 4] := by kernel_rfl
@[simp] theorem fk230_0 : fieldOk Tryz.prog 230 0 = true := by kernel_rfl
@[simp] theorem ff230_0 : fieldOff Tryz.prog 230 0 = 0 := by kernel_rfl
@[simp] theorem ft230_0 : fieldTy Tryz.prog 230 0 = 3 := by kernel_rfl
@[simp] theorem bk230_0 : bOk Tryz.prog 230 0 = true := by kernel_rfl
@[simp] theorem bf230_0 : bOff Tryz.prog 230 0 = 0 := by kernel_rfl
@[simp] theorem bt230_0 : bTy Tryz.prog 230 0 = 3 := by kernel_rfl
@[simp] theorem fk230_1 : fieldOk Tryz.prog 230 1 = true := by kernel_rfl
@[simp] theorem ff230_1 : fieldOff Tryz.prog 230 1 = 1 := by kernel_rfl
@[simp] theorem ft230_1 : fieldTy Tryz.prog 230 1 = 4 := by kernel_rfl
@[simp] theorem bk230_1 : bOk Tryz.prog 230 1 = true := by kernel_rfl
@[simp] theorem bf230_1 : bOff Tryz.prog 230 1 = 1 := by kernel_rfl
@[simp] theorem bt230_1 : bTy Tryz.prog 230 1 = 4 := by kernel_rfl
@[simp] theorem ty233 : tyOk Tryz.prog 233 = true := by kernel_rfl
@[simp] theorem ce233 : Tryz.prog.cellsOf 233 = 9 := by kernel_rfl
@[simp] theorem ag233 : aggT Tryz.prog 233 = true := by kernel_rfl
@[simp] theorem by233 : Tryz.prog.bytesOf 233 = 72 := by kernel_rfl
@[simp] theorem un233 : (Tryz.prog.underlying 233).isSome = true := by kernel_rfl
@[simp] theorem zr233 : zrow Tryz.prog 12 233 = some [.d (.int .i64 0), .d (.int .i64 0), .d (.int .i64 0), .d (.int .i64 0), .d (.int .i64 0), .d (.int .i64 0), .d (.int .i64 0), .d (.int .i64 0), .d (.int .i64 0)] := by kernel_rfl
@[simp] theorem ze233 : zeroOk Tryz.prog 233 = true := by kernel_rfl
@[simp] theorem in233 : intT Tryz.prog 233 = none := by kernel_rfl
@[simp] theorem eq233 : eqOk Tryz.prog 233 = true := by kernel_rfl
@[simp] theorem fs233 : fieldTs Tryz.prog 233 = [3, 3, 3, 3, 3, 3, 3, 3, 3] := by kernel_rfl
@[simp] theorem fk233_0 : fieldOk Tryz.prog 233 0 = true := by kernel_rfl
@[simp] theorem ff233_0 : fieldOff Tryz.prog 233 0 = 0 := by kernel_rfl
@[simp] theorem ft233_0 : fieldTy Tryz.prog 233 0 = 3 := by kernel_rfl
@[simp] theorem bk233_0 : bOk Tryz.prog 233 0 = true := by kernel_rfl
@[simp] theorem bf233_0 : bOff Tryz.prog 233 0 = 0 := by kernel_rfl
@[simp] theorem bt233_0 : bTy Tryz.prog 233 0 = 3 := by kernel_rfl
@[simp] theorem fk233_1 : fieldOk Tryz.prog 233 1 = true := by kernel_rfl
@[simp] theorem ff233_1 : fieldOff Tryz.prog 233 1 = 1 := by kernel_rfl
@[simp] theorem ft233_1 : fieldTy Tryz.prog 233 1 = 3 := by kernel_rfl
@[simp] theorem bk233_1 : bOk Tryz.prog 233 1 = true := by kernel_rfl
@[simp] theorem bf233_1 : bOff Tryz.prog 233 1 = 1 := by kernel_rfl
@[simp] theorem bt233_1 : bTy Tryz.prog 233 1 = 3 := by kernel_rfl
@[simp] theorem fk233_2 : fieldOk Tryz.prog 233 2 = true := by kernel_rfl
@[simp] theorem ff233_2 : fieldOff Tryz.prog 233 2 = 2 := by kernel_rfl
@[simp] theorem ft233_2 : fieldTy Tryz.prog 233 2 = 3 := by kernel_rfl
@[simp] theorem bk233_2 : bOk Tryz.prog 233 2 = true := by kernel_rfl
@[simp] theorem bf233_2 : bOff Tryz.prog 233 2 = 2 := by kernel_rfl
@[simp] theorem bt233_2 : bTy Tryz.prog 233 2 = 3 := by kernel_rfl
@[simp] theorem fk233_3 : fieldOk Tryz.prog 233 3 = true := by kernel_rfl
@[simp] theorem ff233_3 : fieldOff Tryz.prog 233 3 = 3 := by kernel_rfl
@[simp] theorem ft233_3 : fieldTy Tryz.prog 233 3 = 3 := by kernel_rfl
@[simp] theorem bk233_3 : bOk Tryz.prog 233 3 = true := by kernel_rfl
@[simp] theorem bf233_3 : bOff Tryz.prog 233 3 = 3 := by kernel_rfl
@[simp] theorem bt233_3 : bTy Tryz.prog 233 3 = 3 := by kernel_rfl
@[simp] theorem fk233_4 : fieldOk Tryz.prog 233 4 = true := by kernel_rfl
@[simp] theorem ff233_4 : fieldOff Tryz.prog 233 4 = 4 := by kernel_rfl
@[simp] theorem ft233_4 : fieldTy Tryz.prog 233 4 = 3 := by kernel_rfl
@[simp] theorem bk233_4 : bOk Tryz.prog 233 4 = true := by kernel_rfl
@[simp] theorem bf233_4 : bOff Tryz.prog 233 4 = 4 := by kernel_rfl
@[simp] theorem bt233_4 : bTy Tryz.prog 233 4 = 3 := by kernel_rfl
@[simp] theorem fk233_5 : fieldOk Tryz.prog 233 5 = true := by kernel_rfl
@[simp] theorem ff233_5 : fieldOff Tryz.prog 233 5 = 5 := by kernel_rfl
@[simp] theorem ft233_5 : fieldTy Tryz.prog 233 5 = 3 := by kernel_rfl
@[simp] theorem bk233_5 : bOk Tryz.prog 233 5 = true := by kernel_rfl
@[simp] theorem bf233_5 : bOff Tryz.prog 233 5 = 5 := by kernel_rfl
@[simp] theorem bt233_5 : bTy Tryz.prog 233 5 = 3 := by kernel_rfl
@[simp] theorem fk233_6 : fieldOk Tryz.prog 233 6 = true := by kernel_rfl
@[simp] theorem ff233_6 : fieldOff Tryz.prog 233 6 = 6 := by kernel_rfl
@[simp] theorem ft233_6 : fieldTy Tryz.prog 233 6 = 3 := by kernel_rfl
@[simp] theorem bk233_6 : bOk Tryz.prog 233 6 = true := by kernel_rfl
@[simp] theorem bf233_6 : bOff Tryz.prog 233 6 = 6 := by kernel_rfl
@[simp] theorem bt233_6 : bTy Tryz.prog 233 6 = 3 := by kernel_rfl
@[simp] theorem fk233_7 : fieldOk Tryz.prog 233 7 = true := by kernel_rfl
@[simp] theorem ff233_7 : fieldOff Tryz.prog 233 7 = 7 := by kernel_rfl
@[simp] theorem ft233_7 : fieldTy Tryz.prog 233 7 = 3 := by kernel_rfl
@[simp] theorem bk233_7 : bOk Tryz.prog 233 7 = true := by kernel_rfl
@[simp] theorem bf233_7 : bOff Tryz.prog 233 7 = 7 := by kernel_rfl
@[simp] theorem bt233_7 : bTy Tryz.prog 233 7 = 3 := by kernel_rfl
@[simp] theorem fk233_8 : fieldOk Tryz.prog 233 8 = true := by kernel_rfl
@[simp] theorem ff233_8 : fieldOff Tryz.prog 233 8 = 8 := by kernel_rfl
@[simp] theorem ft233_8 : fieldTy Tryz.prog 233 8 = 3 := by kernel_rfl
@[simp] theorem bk233_8 : bOk Tryz.prog 233 8 = true := by kernel_rfl
@[simp] theorem bf233_8 : bOff Tryz.prog 233 8 = 8 := by kernel_rfl
@[simp] theorem bt233_8 : bTy Tryz.prog 233 8 = 3 := by kernel_rfl
@[simp] theorem ty234 : tyOk Tryz.prog 234 = true := by kernel_rfl
@[simp] theorem ce234 : Tryz.prog.cellsOf 234 = 1 := by kernel_rfl
@[simp] theorem ag234 : aggT Tryz.prog 234 = false := by kernel_rfl
@[simp] theorem by234 : Tryz.prog.bytesOf 234 = 24 := by kernel_rfl
@[simp] theorem un234 : (Tryz.prog.underlying 234).isSome = true := by kernel_rfl
@[simp] theorem zr234 : zrow Tryz.prog 12 234 = some [.nil 3] := by kernel_rfl
@[simp] theorem ze234 : zeroOk Tryz.prog 234 = true := by kernel_rfl
@[simp] theorem in234 : intT Tryz.prog 234 = none := by kernel_rfl
@[simp] theorem sl234 : sliceT Tryz.prog 234 = true := by kernel_rfl
@[simp] theorem el234 : elemT Tryz.prog 234 = 269 := by kernel_rfl
@[simp] theorem bs234 : byteT Tryz.prog 234 = false := by kernel_rfl
@[simp] theorem st234 : strT Tryz.prog 234 = false := by kernel_rfl
@[simp] theorem ty235 : tyOk Tryz.prog 235 = true := by kernel_rfl
@[simp] theorem ce235 : Tryz.prog.cellsOf 235 = 1 := by kernel_rfl
@[simp] theorem ag235 : aggT Tryz.prog 235 = false := by kernel_rfl
@[simp] theorem by235 : Tryz.prog.bytesOf 235 = 24 := by kernel_rfl
@[simp] theorem un235 : (Tryz.prog.underlying 235).isSome = true := by kernel_rfl
@[simp] theorem zr235 : zrow Tryz.prog 12 235 = some [.nil 5] := by kernel_rfl
@[simp] theorem ze235 : zeroOk Tryz.prog 235 = true := by kernel_rfl
@[simp] theorem in235 : intT Tryz.prog 235 = none := by kernel_rfl
@[simp] theorem sl235 : sliceT Tryz.prog 235 = true := by kernel_rfl
@[simp] theorem el235 : elemT Tryz.prog 235 = 274 := by kernel_rfl
@[simp] theorem bs235 : byteT Tryz.prog 235 = false := by kernel_rfl
@[simp] theorem st235 : strT Tryz.prog 235 = false := by kernel_rfl
@[simp] theorem ty237 : tyOk Tryz.prog 237 = true := by kernel_rfl
@[simp] theorem ce237 : Tryz.prog.cellsOf 237 = 2 := by kernel_rfl
@[simp] theorem ag237 : aggT Tryz.prog 237 = true := by kernel_rfl
@[simp] theorem by237 : Tryz.prog.bytesOf 237 = 48 := by kernel_rfl
@[simp] theorem un237 : (Tryz.prog.underlying 237).isSome = true := by kernel_rfl
@[simp] theorem zr237 : zrow Tryz.prog 12 237 = some [.nil 3, .nil 5] := by kernel_rfl
@[simp] theorem ze237 : zeroOk Tryz.prog 237 = true := by kernel_rfl
@[simp] theorem in237 : intT Tryz.prog 237 = none := by kernel_rfl
@[simp] theorem fk237_0 : fieldOk Tryz.prog 237 0 = true := by kernel_rfl
@[simp] theorem ff237_0 : fieldOff Tryz.prog 237 0 = 0 := by kernel_rfl
@[simp] theorem ft237_0 : fieldTy Tryz.prog 237 0 = 234 := by kernel_rfl
@[simp] theorem bk237_0 : bOk Tryz.prog 237 0 = true := by kernel_rfl
@[simp] theorem bf237_0 : bOff Tryz.prog 237 0 = 0 := by kernel_rfl
@[simp] theorem bt237_0 : bTy Tryz.prog 237 0 = 234 := by kernel_rfl
@[simp] theorem fk237_1 : fieldOk Tryz.prog 237 1 = true := by kernel_rfl
@[simp] theorem ff237_1 : fieldOff Tryz.prog 237 1 = 1 := by kernel_rfl
@[simp] theorem ft237_1 : fieldTy Tryz.prog 237 1 = 235 := by kernel_rfl
@[simp] theorem bk237_1 : bOk Tryz.prog 237 1 = true := by kernel_rfl
@[simp] theorem bf237_1 : bOff Tryz.prog 237 1 = 1 := by kernel_rfl
@[simp] theorem bt237_1 : bTy Tryz.prog 237 1 = 235 := by kernel_rfl
@[simp] theorem ty239 : tyOk Tryz.prog 239 = true := by kernel_rfl
@[simp] theorem ce239 : Tryz.prog.cellsOf 239 = 16 := by kernel_rfl
@[simp] theorem ag239 : aggT Tryz.prog 239 = true := by kernel_rfl
@[simp] theorem by239 : Tryz.prog.bytesOf 239 = 192 := by kernel_rfl
@[simp] theorem un239 : (Tryz.prog.underlying 239).isSome = true := by kernel_rfl
@[simp] theorem zr239 : zrow Tryz.prog 12 239 = some [.d (.int .i64 0), .d (.int .i64 0), .d (.int .i64 0), .nil 1, .nil 1, .d (.int .i64 0), .d (.int .i64 0), .d (.int .i64 0), .d (.int .i64 0), .d (.int .i64 0), .d (.int .i64 0), .d (.int .i64 0), .d (.int .i64 0), .d (.int .i64 0), .nil 3, .nil 5] := by kernel_rfl
@[simp] theorem ze239 : zeroOk Tryz.prog 239 = true := by kernel_rfl
@[simp] theorem in239 : intT Tryz.prog 239 = none := by kernel_rfl
@[simp] theorem fk239_0 : fieldOk Tryz.prog 239 0 = true := by kernel_rfl
@[simp] theorem ff239_0 : fieldOff Tryz.prog 239 0 = 0 := by kernel_rfl
@[simp] theorem ft239_0 : fieldTy Tryz.prog 239 0 = 3 := by kernel_rfl
@[simp] theorem bk239_0 : bOk Tryz.prog 239 0 = true := by kernel_rfl
@[simp] theorem bf239_0 : bOff Tryz.prog 239 0 = 0 := by kernel_rfl
@[simp] theorem bt239_0 : bTy Tryz.prog 239 0 = 3 := by kernel_rfl
@[simp] theorem fk239_1 : fieldOk Tryz.prog 239 1 = true := by kernel_rfl
@[simp] theorem ff239_1 : fieldOff Tryz.prog 239 1 = 1 := by kernel_rfl
@[simp] theorem ft239_1 : fieldTy Tryz.prog 239 1 = 3 := by kernel_rfl
@[simp] theorem bk239_1 : bOk Tryz.prog 239 1 = true := by kernel_rfl
@[simp] theorem bf239_1 : bOff Tryz.prog 239 1 = 1 := by kernel_rfl
@[simp] theorem bt239_1 : bTy Tryz.prog 239 1 = 3 := by kernel_rfl
@[simp] theorem fk239_2 : fieldOk Tryz.prog 239 2 = true := by kernel_rfl
@[simp] theorem ff239_2 : fieldOff Tryz.prog 239 2 = 2 := by kernel_rfl
@[simp] theorem ft239_2 : fieldTy Tryz.prog 239 2 = 56 := by kernel_rfl
@[simp] theorem bk239_2 : bOk Tryz.prog 239 2 = true := by kernel_rfl
@[simp] theorem bf239_2 : bOff Tryz.prog 239 2 = 2 := by kernel_rfl
@[simp] theorem bt239_2 : bTy Tryz.prog 239 2 = 56 := by kernel_rfl
@[simp] theorem fk239_3 : fieldOk Tryz.prog 239 3 = true := by kernel_rfl
@[simp] theorem ff239_3 : fieldOff Tryz.prog 239 3 = 5 := by kernel_rfl
@[simp] theorem ft239_3 : fieldTy Tryz.prog 239 3 = 233 := by kernel_rfl
@[simp] theorem bk239_3 : bOk Tryz.prog 239 3 = true := by kernel_rfl
@[simp] theorem bf239_3 : bOff Tryz.prog 239 3 = 5 := by kernel_rfl
@[simp] theorem bt239_3 : bTy Tryz.prog 239 3 = 233 := by kernel_rfl
@[simp] theorem fk239_4 : fieldOk Tryz.prog 239 4 = true := by kernel_rfl
@[simp] theorem ff239_4 : fieldOff Tryz.prog 239 4 = 14 := by kernel_rfl
@[simp] theorem ft239_4 : fieldTy Tryz.prog 239 4 = 237 := by kernel_rfl
@[simp] theorem bk239_4 : bOk Tryz.prog 239 4 = true := by kernel_rfl
@[simp] theorem bf239_4 : bOff Tryz.prog 239 4 = 14 := by kernel_rfl
@[simp] theorem bt239_4 : bTy Tryz.prog 239 4 = 237 := by kernel_rfl
@[simp] theorem ty247 : tyOk Tryz.prog 247 = true := by kernel_rfl
@[simp] theorem ce247 : Tryz.prog.cellsOf 247 = 5 := by kernel_rfl
@[simp] theorem ag247 : aggT Tryz.prog 247 = true := by kernel_rfl
@[simp] theorem by247 : Tryz.prog.bytesOf 247 = 40 := by kernel_rfl
@[simp] theorem un247 : (Tryz.prog.underlying 247).isSome = true := by kernel_rfl
@[simp] theorem zr247 : zrow Tryz.prog 12 247 = some [.d (.int .i64 0), .d (.int .i64 0), .d (.int .i64 0), .d (.int .i64 0), .d (.int .i64 0)] := by kernel_rfl
@[simp] theorem ze247 : zeroOk Tryz.prog 247 = true := by kernel_rfl
@[simp] theorem in247 : intT Tryz.prog 247 = none := by kernel_rfl
@[simp] theorem ar247 : arrT Tryz.prog 247 = some 5 := by kernel_rfl
@[simp] theorem el247 : elemT Tryz.prog 247 = 3 := by kernel_rfl
@[simp] theorem bk247_0 : bOk Tryz.prog 247 0 = true := by kernel_rfl
@[simp] theorem bf247_0 : bOff Tryz.prog 247 0 = 0 := by kernel_rfl
@[simp] theorem bt247_0 : bTy Tryz.prog 247 0 = 3 := by kernel_rfl
@[simp] theorem bk247_1 : bOk Tryz.prog 247 1 = true := by kernel_rfl
@[simp] theorem bf247_1 : bOff Tryz.prog 247 1 = 1 := by kernel_rfl
@[simp] theorem bt247_1 : bTy Tryz.prog 247 1 = 3 := by kernel_rfl
@[simp] theorem bk247_2 : bOk Tryz.prog 247 2 = true := by kernel_rfl
@[simp] theorem bf247_2 : bOff Tryz.prog 247 2 = 2 := by kernel_rfl
@[simp] theorem bt247_2 : bTy Tryz.prog 247 2 = 3 := by kernel_rfl
@[simp] theorem bk247_3 : bOk Tryz.prog 247 3 = true := by kernel_rfl
@[simp] theorem bf247_3 : bOff Tryz.prog 247 3 = 3 := by kernel_rfl
@[simp] theorem bt247_3 : bTy Tryz.prog 247 3 = 3 := by kernel_rfl
@[simp] theorem bk247_4 : bOk Tryz.prog 247 4 = true := by kernel_rfl
@[simp] theorem bf247_4 : bOff Tryz.prog 247 4 = 4 := by kernel_rfl
@[simp] theorem bt247_4 : bTy Tryz.prog 247 4 = 3 := by kernel_rfl
@[simp] theorem ty269 : tyOk Tryz.prog 269 = true := by kernel_rfl
@[simp] theorem ce269 : Tryz.prog.cellsOf 269 = 3 := by kernel_rfl
@[simp] theorem ag269 : aggT Tryz.prog 269 = true := by kernel_rfl
@[simp] theorem by269 : Tryz.prog.bytesOf 269 = 40 := by kernel_rfl
@[simp] theorem un269 : (Tryz.prog.underlying 269).isSome = true := by kernel_rfl
@[simp] theorem zr269 : zrow Tryz.prog 12 269 = some [.d (.int .i64 0), .nil 1, .d (.int .i64 0)] := by kernel_rfl
@[simp] theorem ze269 : zeroOk Tryz.prog 269 = true := by kernel_rfl
@[simp] theorem in269 : intT Tryz.prog 269 = none := by kernel_rfl
@[simp] theorem fk269_0 : fieldOk Tryz.prog 269 0 = true := by kernel_rfl
@[simp] theorem ff269_0 : fieldOff Tryz.prog 269 0 = 0 := by kernel_rfl
@[simp] theorem ft269_0 : fieldTy Tryz.prog 269 0 = 3 := by kernel_rfl
@[simp] theorem bk269_0 : bOk Tryz.prog 269 0 = true := by kernel_rfl
@[simp] theorem bf269_0 : bOff Tryz.prog 269 0 = 0 := by kernel_rfl
@[simp] theorem bt269_0 : bTy Tryz.prog 269 0 = 3 := by kernel_rfl
@[simp] theorem fk269_1 : fieldOk Tryz.prog 269 1 = true := by kernel_rfl
@[simp] theorem ff269_1 : fieldOff Tryz.prog 269 1 = 1 := by kernel_rfl
@[simp] theorem ft269_1 : fieldTy Tryz.prog 269 1 = 28 := by kernel_rfl
@[simp] theorem bk269_1 : bOk Tryz.prog 269 1 = true := by kernel_rfl
@[simp] theorem bf269_1 : bOff Tryz.prog 269 1 = 1 := by kernel_rfl
@[simp] theorem bt269_1 : bTy Tryz.prog 269 1 = 28 := by kernel_rfl
@[simp] theorem fk269_2 : fieldOk Tryz.prog 269 2 = true := by kernel_rfl
@[simp] theorem ff269_2 : fieldOff Tryz.prog 269 2 = 2 := by kernel_rfl
@[simp] theorem ft269_2 : fieldTy Tryz.prog 269 2 = 3 := by kernel_rfl
@[simp] theorem bk269_2 : bOk Tryz.prog 269 2 = true := by kernel_rfl
@[simp] theorem bf269_2 : bOff Tryz.prog 269 2 = 2 := by kernel_rfl
@[simp] theorem bt269_2 : bTy Tryz.prog 269 2 = 3 := by kernel_rfl
@[simp] theorem ty271 : tyOk Tryz.prog 271 = true := by kernel_rfl
@[simp] theorem ce271 : Tryz.prog.cellsOf 271 = 1 := by kernel_rfl
@[simp] theorem ag271 : aggT Tryz.prog 271 = false := by kernel_rfl
@[simp] theorem by271 : Tryz.prog.bytesOf 271 = 24 := by kernel_rfl
@[simp] theorem un271 : (Tryz.prog.underlying 271).isSome = true := by kernel_rfl
@[simp] theorem zr271 : zrow Tryz.prog 12 271 = some [.nil 2] := by kernel_rfl
@[simp] theorem ze271 : zeroOk Tryz.prog 271 = true := by kernel_rfl
@[simp] theorem in271 : intT Tryz.prog 271 = none := by kernel_rfl
@[simp] theorem sl271 : sliceT Tryz.prog 271 = true := by kernel_rfl
@[simp] theorem el271 : elemT Tryz.prog 271 = 285 := by kernel_rfl
@[simp] theorem bs271 : byteT Tryz.prog 271 = false := by kernel_rfl
@[simp] theorem st271 : strT Tryz.prog 271 = false := by kernel_rfl
@[simp] theorem ty272 : tyOk Tryz.prog 272 = true := by kernel_rfl
@[simp] theorem ce272 : Tryz.prog.cellsOf 272 = 1 := by kernel_rfl
@[simp] theorem ag272 : aggT Tryz.prog 272 = false := by kernel_rfl
@[simp] theorem by272 : Tryz.prog.bytesOf 272 = 24 := by kernel_rfl
@[simp] theorem un272 : (Tryz.prog.underlying 272).isSome = true := by kernel_rfl
@[simp] theorem zr272 : zrow Tryz.prog 12 272 = some [.nil 5] := by kernel_rfl
@[simp] theorem ze272 : zeroOk Tryz.prog 272 = true := by kernel_rfl
@[simp] theorem in272 : intT Tryz.prog 272 = none := by kernel_rfl
@[simp] theorem sl272 : sliceT Tryz.prog 272 = true := by kernel_rfl
@[simp] theorem el272 : elemT Tryz.prog 272 = 287 := by kernel_rfl
@[simp] theorem bs272 : byteT Tryz.prog 272 = false := by kernel_rfl
@[simp] theorem st272 : strT Tryz.prog 272 = false := by kernel_rfl
@[simp] theorem ty274 : tyOk Tryz.prog 274 = true := by kernel_rfl
@[simp] theorem ce274 : Tryz.prog.cellsOf 274 = 5 := by kernel_rfl
@[simp] theorem ag274 : aggT Tryz.prog 274 = true := by kernel_rfl
@[simp] theorem by274 : Tryz.prog.bytesOf 274 = 72 := by kernel_rfl
@[simp] theorem un274 : (Tryz.prog.underlying 274).isSome = true := by kernel_rfl
@[simp] theorem zr274 : zrow Tryz.prog 12 274 = some [.d (.int .i64 0), .d (.int .i64 0), .d (.int .i64 0), .nil 2, .nil 5] := by kernel_rfl
@[simp] theorem ze274 : zeroOk Tryz.prog 274 = true := by kernel_rfl
@[simp] theorem in274 : intT Tryz.prog 274 = none := by kernel_rfl
@[simp] theorem fk274_0 : fieldOk Tryz.prog 274 0 = true := by kernel_rfl
@[simp] theorem ff274_0 : fieldOff Tryz.prog 274 0 = 0 := by kernel_rfl
@[simp] theorem ft274_0 : fieldTy Tryz.prog 274 0 = 3 := by kernel_rfl
@[simp] theorem bk274_0 : bOk Tryz.prog 274 0 = true := by kernel_rfl
@[simp] theorem bf274_0 : bOff Tryz.prog 274 0 = 0 := by kernel_rfl
@[simp] theorem bt274_0 : bTy Tryz.prog 274 0 = 3 := by kernel_rfl
@[simp] theorem fk274_1 : fieldOk Tryz.prog 274 1 = true := by kernel_rfl
@[simp] theorem ff274_1 : fieldOff Tryz.prog 274 1 = 1 := by kernel_rfl
@[simp] theorem ft274_1 : fieldTy Tryz.prog 274 1 = 3 := by kernel_rfl
@[simp] theorem bk274_1 : bOk Tryz.prog 274 1 = true := by kernel_rfl
@[simp] theorem bf274_1 : bOff Tryz.prog 274 1 = 1 := by kernel_rfl
@[simp] theorem bt274_1 : bTy Tryz.prog 274 1 = 3 := by kernel_rfl
@[simp] theorem fk274_2 : fieldOk Tryz.prog 274 2 = true := by kernel_rfl
@[simp] theorem ff274_2 : fieldOff Tryz.prog 274 2 = 2 := by kernel_rfl
@[simp] theorem ft274_2 : fieldTy Tryz.prog 274 2 = 3 := by kernel_rfl
@[simp] theorem bk274_2 : bOk Tryz.prog 274 2 = true := by kernel_rfl
@[simp] theorem bf274_2 : bOff Tryz.prog 274 2 = 2 := by kernel_rfl
@[simp] theorem bt274_2 : bTy Tryz.prog 274 2 = 3 := by kernel_rfl
@[simp] theorem fk274_3 : fieldOk Tryz.prog 274 3 = true := by kernel_rfl
@[simp] theorem ff274_3 : fieldOff Tryz.prog 274 3 = 3 := by kernel_rfl
@[simp] theorem ft274_3 : fieldTy Tryz.prog 274 3 = 271 := by kernel_rfl
@[simp] theorem bk274_3 : bOk Tryz.prog 274 3 = true := by kernel_rfl
@[simp] theorem bf274_3 : bOff Tryz.prog 274 3 = 3 := by kernel_rfl
@[simp] theorem bt274_3 : bTy Tryz.prog 274 3 = 271 := by kernel_rfl
@[simp] theorem fk274_4 : fieldOk Tryz.prog 274 4 = true := by kernel_rfl
@[simp] theorem ff274_4 : fieldOff Tryz.prog 274 4 = 4 := by kernel_rfl
@[simp] theorem ft274_4 : fieldTy Tryz.prog 274 4 = 272 := by kernel_rfl
@[simp] theorem bk274_4 : bOk Tryz.prog 274 4 = true := by kernel_rfl
@[simp] theorem bf274_4 : bOff Tryz.prog 274 4 = 4 := by kernel_rfl
@[simp] theorem bt274_4 : bTy Tryz.prog 274 4 = 272 := by kernel_rfl
@[simp] theorem ty285 : tyOk Tryz.prog 285 = true := by kernel_rfl
@[simp] theorem ce285 : Tryz.prog.cellsOf 285 = 2 := by kernel_rfl
@[simp] theorem ag285 : aggT Tryz.prog 285 = true := by kernel_rfl
@[simp] theorem by285 : Tryz.prog.bytesOf 285 = 16 := by kernel_rfl
@[simp] theorem un285 : (Tryz.prog.underlying 285).isSome = true := by kernel_rfl
@[simp] theorem zr285 : zrow Tryz.prog 12 285 = some [.d (.int .i64 0), .d (.bool false)] := by kernel_rfl
@[simp] theorem ze285 : zeroOk Tryz.prog 285 = true := by kernel_rfl
@[simp] theorem in285 : intT Tryz.prog 285 = none := by kernel_rfl
@[simp] theorem eq285 : eqOk Tryz.prog 285 = true := by kernel_rfl
@[simp] theorem fs285 : fieldTs Tryz.prog 285 = [3, 4] := by kernel_rfl
@[simp] theorem fk285_0 : fieldOk Tryz.prog 285 0 = true := by kernel_rfl
@[simp] theorem ff285_0 : fieldOff Tryz.prog 285 0 = 0 := by kernel_rfl
@[simp] theorem ft285_0 : fieldTy Tryz.prog 285 0 = 3 := by kernel_rfl
@[simp] theorem bk285_0 : bOk Tryz.prog 285 0 = true := by kernel_rfl
@[simp] theorem bf285_0 : bOff Tryz.prog 285 0 = 0 := by kernel_rfl
@[simp] theorem bt285_0 : bTy Tryz.prog 285 0 = 3 := by kernel_rfl
@[simp] theorem fk285_1 : fieldOk Tryz.prog 285 1 = true := by kernel_rfl
@[simp] theorem ff285_1 : fieldOff Tryz.prog 285 1 = 1 := by kernel_rfl
@[simp] theorem ft285_1 : fieldTy Tryz.prog 285 1 = 4 := by kernel_rfl
@[simp] theorem bk285_1 : bOk Tryz.prog 285 1 = true := by kernel_rfl
@[simp] theorem bf285_1 : bOff Tryz.prog 285 1 = 1 := by kernel_rfl
@[simp] theorem bt285_1 : bTy Tryz.prog 285 1 = 4 := by kernel_rfl
@[simp] theorem ty287 : tyOk Tryz.prog 287 = true := by kernel_rfl
@[simp] theorem ce287 : Tryz.prog.cellsOf 287 = 5 := by kernel_rfl
@[simp] theorem ag287 : aggT Tryz.prog 287 = true := by kernel_rfl
@[simp] theorem by287 : Tryz.prog.bytesOf 287 = 40 := by kernel_rfl
@[simp] theorem un287 : (Tryz.prog.underlying 287).isSome = true := by kernel_rfl
@[simp] theorem zr287 : zrow Tryz.prog 12 287 = some [.d (.int .i64 0), .d (.int .i64 0), .d (.int .i64 0), .d (.int .i64 0), .d (.int .i64 0)] := by kernel_rfl
@[simp] theorem ze287 : zeroOk Tryz.prog 287 = true := by kernel_rfl
@[simp] theorem in287 : intT Tryz.prog 287 = none := by kernel_rfl
@[simp] theorem eq287 : eqOk Tryz.prog 287 = true := by kernel_rfl
@[simp] theorem fs287 : fieldTs Tryz.prog 287 = [3, 3, 3, 3, 3] := by kernel_rfl
@[simp] theorem fk287_0 : fieldOk Tryz.prog 287 0 = true := by kernel_rfl
@[simp] theorem ff287_0 : fieldOff Tryz.prog 287 0 = 0 := by kernel_rfl
@[simp] theorem ft287_0 : fieldTy Tryz.prog 287 0 = 3 := by kernel_rfl
@[simp] theorem bk287_0 : bOk Tryz.prog 287 0 = true := by kernel_rfl
@[simp] theorem bf287_0 : bOff Tryz.prog 287 0 = 0 := by kernel_rfl
@[simp] theorem bt287_0 : bTy Tryz.prog 287 0 = 3 := by kernel_rfl
@[simp] theorem fk287_1 : fieldOk Tryz.prog 287 1 = true := by kernel_rfl
@[simp] theorem ff287_1 : fieldOff Tryz.prog 287 1 = 1 := by kernel_rfl
@[simp] theorem ft287_1 : fieldTy Tryz.prog 287 1 = 3 := by kernel_rfl
@[simp] theorem bk287_1 : bOk Tryz.prog 287 1 = true := by kernel_rfl
@[simp] theorem bf287_1 : bOff Tryz.prog 287 1 = 1 := by kernel_rfl
@[simp] theorem bt287_1 : bTy Tryz.prog 287 1 = 3 := by kernel_rfl
@[simp] theorem fk287_2 : fieldOk Tryz.prog 287 2 = true := by kernel_rfl
@[simp] theorem ff287_2 : fieldOff Tryz.prog 287 2 = 2 := by kernel_rfl
@[simp] theorem ft287_2 : fieldTy Tryz.prog 287 2 = 3 := by kernel_rfl
@[simp] theorem bk287_2 : bOk Tryz.prog 287 2 = true := by kernel_rfl
@[simp] theorem bf287_2 : bOff Tryz.prog 287 2 = 2 := by kernel_rfl
@[simp] theorem bt287_2 : bTy Tryz.prog 287 2 = 3 := by kernel_rfl
@[simp] theorem fk287_3 : fieldOk Tryz.prog 287 3 = true := by kernel_rfl
@[simp] theorem ff287_3 : fieldOff Tryz.prog 287 3 = 3 := by kernel_rfl
@[simp] theorem ft287_3 : fieldTy Tryz.prog 287 3 = 3 := by kernel_rfl
@[simp] theorem bk287_3 : bOk Tryz.prog 287 3 = true := by kernel_rfl
@[simp] theorem bf287_3 : bOff Tryz.prog 287 3 = 3 := by kernel_rfl
@[simp] theorem bt287_3 : bTy Tryz.prog 287 3 = 3 := by kernel_rfl
@[simp] theorem fk287_4 : fieldOk Tryz.prog 287 4 = true := by kernel_rfl
@[simp] theorem ff287_4 : fieldOff Tryz.prog 287 4 = 4 := by kernel_rfl
@[simp] theorem ft287_4 : fieldTy Tryz.prog 287 4 = 3 := by kernel_rfl
@[simp] theorem bk287_4 : bOk Tryz.prog 287 4 = true := by kernel_rfl
@[simp] theorem bf287_4 : bOff Tryz.prog 287 4 = 4 := by kernel_rfl
@[simp] theorem bt287_4 : bTy Tryz.prog 287 4 = 3 := by kernel_rfl
@[simp] theorem ty299 : tyOk Tryz.prog 299 = true := by kernel_rfl
@[simp] theorem ce299 : Tryz.prog.cellsOf 299 = 1 := by kernel_rfl
@[simp] theorem ag299 : aggT Tryz.prog 299 = false := by kernel_rfl
@[simp] theorem by299 : Tryz.prog.bytesOf 299 = 1 := by kernel_rfl
@[simp] theorem un299 : (Tryz.prog.underlying 299).isSome = true := by kernel_rfl
@[simp] theorem zr299 : zrow Tryz.prog 12 299 = some [.d (.int .u8 0)] := by kernel_rfl
@[simp] theorem ze299 : zeroOk Tryz.prog 299 = true := by kernel_rfl
@[simp] theorem in299 : intT Tryz.prog 299 = some .u8 := by kernel_rfl
@[simp] theorem ty309 : tyOk Tryz.prog 309 = true := by kernel_rfl
@[simp] theorem ce309 : Tryz.prog.cellsOf 309 = 2 := by kernel_rfl
@[simp] theorem ag309 : aggT Tryz.prog 309 = true := by kernel_rfl
@[simp] theorem by309 : Tryz.prog.bytesOf 309 = 16 := by kernel_rfl
@[simp] theorem un309 : (Tryz.prog.underlying 309).isSome = true := by kernel_rfl
@[simp] theorem zr309 : zrow Tryz.prog 12 309 = some [.d (.int .i64 0), .d (.int .i64 0)] := by kernel_rfl
@[simp] theorem ze309 : zeroOk Tryz.prog 309 = true := by kernel_rfl
@[simp] theorem in309 : intT Tryz.prog 309 = none := by kernel_rfl
@[simp] theorem eq309 : eqOk Tryz.prog 309 = true := by kernel_rfl
@[simp] theorem fs309 : fieldTs Tryz.prog 309 = [3, 3] := by kernel_rfl
@[simp] theorem fk309_0 : fieldOk Tryz.prog 309 0 = true := by kernel_rfl
@[simp] theorem ff309_0 : fieldOff Tryz.prog 309 0 = 0 := by kernel_rfl
@[simp] theorem ft309_0 : fieldTy Tryz.prog 309 0 = 3 := by kernel_rfl
@[simp] theorem bk309_0 : bOk Tryz.prog 309 0 = true := by kernel_rfl
@[simp] theorem bf309_0 : bOff Tryz.prog 309 0 = 0 := by kernel_rfl
@[simp] theorem bt309_0 : bTy Tryz.prog 309 0 = 3 := by kernel_rfl
@[simp] theorem fk309_1 : fieldOk Tryz.prog 309 1 = true := by kernel_rfl
@[simp] theorem ff309_1 : fieldOff Tryz.prog 309 1 = 1 := by kernel_rfl
@[simp] theorem ft309_1 : fieldTy Tryz.prog 309 1 = 3 := by kernel_rfl
@[simp] theorem bk309_1 : bOk Tryz.prog 309 1 = true := by kernel_rfl
@[simp] theorem bf309_1 : bOff Tryz.prog 309 1 = 1 := by kernel_rfl
@[simp] theorem bt309_1 : bTy Tryz.prog 309 1 = 3 := by kernel_rfl
end Go.Proofs.YtllfgbhplfhdkaaGreat
