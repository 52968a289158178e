/- The facts of the plain types of the program, by evaluation. No condition. -/
import Derived.Test.YtejeomggohkclaaVe
import Derived.Test.YtejeomggohkclaaProg
namespace Go.Proofs.Ytejeomggohkclaa
open Go.Vm
@[simp] theorem ty2 : tyOk Try.prog 2 = true := by kernel_rfl
@[simp] theorem ce2 : Try.prog.cellsOf 2 = 1 := by kernel_rfl
@[simp] theorem ag2 : aggT Try.prog 2 = false := by kernel_rfl
@[simp] theorem by2 : Try.prog.bytesOf 2 = 8 := by kernel_rfl
@[simp] theorem un2 : (Try.prog.underlying 2).isSome = true := by kernel_rfl
@[simp] theorem zr2 : zrow Try.prog 12 2 = some [.d (.int .i64 0)] := by kernel_rfl
@[simp] theorem ze2 : zeroOk Try.prog 2 = true := by kernel_rfl
@[simp] theorem in2 : intT Try.prog 2 = some .i64 := by kernel_rfl
@[simp] theorem ty3 : tyOk Try.prog 3 = true := by kernel_rfl
@[simp] theorem ce3 : Try.prog.cellsOf 3 = 1 := by kernel_rfl
@[simp] theorem ag3 : aggT Try.prog 3 = false := by kernel_rfl
@[simp] theorem by3 : Try.prog.bytesOf 3 = 8 := by kernel_rfl
@[simp] theorem un3 : (Try.prog.underlying 3).isSome = true := by kernel_rfl
@[simp] theorem zr3 : zrow Try.prog 12 3 = some [.d (.int .i64 0)] := by kernel_rfl
@[simp] theorem ze3 : zeroOk Try.prog 3 = true := by kernel_rfl
@[simp] theorem in3 : intT Try.prog 3 = some .i64 := by kernel_rfl
@[simp] theorem ty4 : tyOk Try.prog 4 = true := by kernel_rfl
@[simp] theorem ce4 : Try.prog.cellsOf 4 = 1 := by kernel_rfl
@[simp] theorem ag4 : aggT Try.prog 4 = false := by kernel_rfl
@[simp] theorem by4 : Try.prog.bytesOf 4 = 1 := by kernel_rfl
@[simp] theorem un4 : (Try.prog.underlying 4).isSome = true := by kernel_rfl
@[simp] theorem zr4 : zrow Try.prog 12 4 = some [.d (.bool false)] := by kernel_rfl
@[simp] theorem ze4 : zeroOk Try.prog 4 = true := by kernel_rfl
@[simp] theorem in4 : intT Try.prog 4 = none := by kernel_rfl
@[simp] theorem bo4 : boolT Try.prog 4 = true := by kernel_rfl
@[simp] theorem ty5 : tyOk Try.prog 5 = true := by kernel_rfl
@[simp] theorem ce5 : Try.prog.cellsOf 5 = 1 := by kernel_rfl
@[simp] theorem ag5 : aggT Try.prog 5 = false := by kernel_rfl
@[simp] theorem by5 : Try.prog.bytesOf 5 = 1 := by kernel_rfl
@[simp] theorem un5 : (Try.prog.underlying 5).isSome = true := by kernel_rfl
@[simp] theorem zr5 : zrow Try.prog 12 5 = some [.d (.int .u8 0)] := by kernel_rfl
@[simp] theorem ze5 : zeroOk Try.prog 5 = true := by kernel_rfl
@[simp] theorem in5 : intT Try.prog 5 = some .u8 := by kernel_rfl
@[simp] theorem ty6 : tyOk Try.prog 6 = true := by kernel_rfl
@[simp] theorem ce6 : Try.prog.cellsOf 6 = 1 := by kernel_rfl
@[simp] theorem ag6 : aggT Try.prog 6 = false := by kernel_rfl
@[simp] theorem by6 : Try.prog.bytesOf 6 = 1 := by kernel_rfl
@[simp] theorem un6 : (Try.prog.underlying 6).isSome = true := by kernel_rfl
@[simp] theorem zr6 : zrow Try.prog 12 6 = some [.d (.int .u8 0)] := by kernel_rfl
@[simp] theorem ze6 : zeroOk Try.prog 6 = true := by kernel_rfl
@[simp] theorem in6 : intT Try.prog 6 = some .u8 := by kernel_rfl
@[simp] theorem ty8 : tyOk Try.prog 8 = true := by kernel_rfl
@[simp] theorem ce8 : Try.prog.cellsOf 8 = 4 := by kernel_rfl
@[simp] theorem ag8 : aggT Try.prog 8 = true := by kernel_rfl
@[simp] theorem by8 : Try.prog.bytesOf 8 = 24 := by kernel_rfl
@[simp] theorem un8 : (Try.prog.underlying 8).isSome = true := by kernel_rfl
@[simp] theorem zr8 : zrow Try.prog 12 8 = some [.d (.int .i64 0), .d (.int .i64 0), .d (.bool false), .d (.int .u8 0)] := by kernel_rfl
@[simp] theorem ze8 : zeroOk Try.prog 8 = true := by kernel_rfl
@[simp] theorem in8 : intT Try.prog 8 = none := by kernel_rfl
@[simp] theorem fk8_0 : fieldOk Try.prog 8 0 = true := by kernel_rfl
@[simp] theorem ff8_0 : fieldOff Try.prog 8 0 = 0 := by kernel_rfl
@[simp] theorem ft8_0 : fieldTy Try.prog 8 0 = 2 := by kernel_rfl
@[simp] theorem bk8_0 : bOk Try.prog 8 0 = true := by kernel_rfl
@[simp] theorem bf8_0 : bOff Try.prog 8 0 = 0 := by kernel_rfl
@[simp] theorem bt8_0 : bTy Try.prog 8 0 = 2 := by kernel_rfl
@[simp] theorem fk8_1 : fieldOk Try.prog 8 1 = true := by kernel_rfl
@[simp] theorem ff8_1 : fieldOff Try.prog 8 1 = 1 := by kernel_rfl
@[simp] theorem ft8_1 : fieldTy Try.prog 8 1 = 3 := by kernel_rfl
@[simp] theorem bk8_1 : bOk Try.prog 8 1 = true := by kernel_rfl
@[simp] theorem bf8_1 : bOff Try.prog 8 1 = 1 := by kernel_rfl
@[simp] theorem bt8_1 : bTy Try.prog 8 1 = 3 := by kernel_rfl
@[simp] theorem fk8_2 : fieldOk Try.prog 8 2 = true := by kernel_rfl
@[simp] theorem ff8_2 : fieldOff Try.prog 8 2 = 2 := by kernel_rfl
@[simp] theorem ft8_2 : fieldTy Try.prog 8 2 = 4 := by kernel_rfl
@[simp] theorem bk8_2 : bOk Try.prog 8 2 = true := by kernel_rfl
@[simp] theorem bf8_2 : bOff Try.prog 8 2 = 2 := by kernel_rfl
@[simp] theorem bt8_2 : bTy Try.prog 8 2 = 4 := by kernel_rfl
@[simp] theorem fk8_3 : fieldOk Try.prog 8 3 = true := by kernel_rfl
@[simp] theorem ff8_3 : fieldOff Try.prog 8 3 = 3 := by kernel_rfl
@[simp] theorem ft8_3 : fieldTy Try.prog 8 3 = 6 := by kernel_rfl
@[simp] theorem bk8_3 : bOk Try.prog 8 3 = true := by kernel_rfl
@[simp] theorem bf8_3 : bOff Try.prog 8 3 = 3 := by kernel_rfl
@[simp] theorem bt8_3 : bTy Try.prog 8 3 = 6 := by kernel_rfl
@[simp] theorem ty9 : tyOk Try.prog 9 = true := by kernel_rfl
@[simp] theorem ce9 : Try.prog.cellsOf 9 = 1 := by kernel_rfl
@[simp] theorem ag9 : aggT Try.prog 9 = false := by kernel_rfl
@[simp] theorem by9 : Try.prog.bytesOf 9 = 16 := by kernel_rfl
@[simp] theorem un9 : (Try.prog.underlying 9).isSome = true := by kernel_rfl
@[simp] theorem zr9 : zrow Try.prog 12 9 = some [.d (.str ⟨#[]⟩)] := by kernel_rfl
@[simp] theorem ze9 : zeroOk Try.prog 9 = true := by kernel_rfl
@[simp] theorem in9 : intT Try.prog 9 = none := by kernel_rfl
@[simp] theorem st9 : strT Try.prog 9 = true := by kernel_rfl
@[simp] theorem ty10 : tyOk Try.prog 10 = true := by kernel_rfl
@[simp] theorem ce10 : Try.prog.cellsOf 10 = 1 := by kernel_rfl
@[simp] theorem ag10 : aggT Try.prog 10 = false := by kernel_rfl
@[simp] theorem by10 : Try.prog.bytesOf 10 = 16 := by kernel_rfl
@[simp] theorem un10 : (Try.prog.underlying 10).isSome = true := by kernel_rfl
@[simp] theorem zr10 : zrow Try.prog 12 10 = some [.d (.str ⟨#[]⟩)] := by kernel_rfl
@[simp] theorem ze10 : zeroOk Try.prog 10 = true := by kernel_rfl
@[simp] theorem in10 : intT Try.prog 10 = none := by kernel_rfl
@[simp] theorem st10 : strT Try.prog 10 = true := by kernel_rfl
@[simp] theorem ty11 : tyOk Try.prog 11 = true := by kernel_rfl
@[simp] theorem ce11 : Try.prog.cellsOf 11 = 1 := by kernel_rfl
@[simp] theorem ag11 : aggT Try.prog 11 = false := by kernel_rfl
@[simp] theorem by11 : Try.prog.bytesOf 11 = 16 := by kernel_rfl
@[simp] theorem un11 : (Try.prog.underlying 11).isSome = true := by kernel_rfl
@[simp] theorem zr11 : zrow Try.prog 12 11 = some [.d (.str ⟨#[]⟩)] := by kernel_rfl
@[simp] theorem ze11 : zeroOk Try.prog 11 = true := by kernel_rfl
@[simp] theorem in11 : intT Try.prog 11 = none := by kernel_rfl
@[simp] theorem st11 : strT Try.prog 11 = true := by kernel_rfl
@[simp] theorem ty12 : tyOk Try.prog 12 = true := by kernel_rfl
@[simp] theorem ce12 : Try.prog.cellsOf 12 = 1 := by kernel_rfl
@[simp] theorem ag12 : aggT Try.prog 12 = false := by kernel_rfl
@[simp] theorem by12 : Try.prog.bytesOf 12 = 8 := by kernel_rfl
@[simp] theorem un12 : (Try.prog.underlying 12).isSome = true := by kernel_rfl
@[simp] theorem zr12 : zrow Try.prog 12 12 = some [.d (.int .u64 0)] := by kernel_rfl
@[simp] theorem ze12 : zeroOk Try.prog 12 = true := by kernel_rfl
@[simp] theorem in12 : intT Try.prog 12 = some .u64 := by kernel_rfl
@[simp] theorem ty14 : tyOk Try.prog 14 = true := by kernel_rfl
@[simp] theorem ce14 : Try.prog.cellsOf 14 = 2 := by kernel_rfl
@[simp] theorem ag14 : aggT Try.prog 14 = true := by kernel_rfl
@[simp] theorem by14 : Try.prog.bytesOf 14 = 24 := by kernel_rfl
@[simp] theorem un14 : (Try.prog.underlying 14).isSome = true := by kernel_rfl
@[simp] theorem zr14 : zrow Try.prog 12 14 = some [.d (.str ⟨#[]⟩), .d (.int .u64 0)] := by kernel_rfl
@[simp] theorem ze14 : zeroOk Try.prog 14 = true := by kernel_rfl
@[simp] theorem in14 : intT Try.prog 14 = none := by kernel_rfl
@[simp] theorem fk14_0 : fieldOk Try.prog 14 0 = true := by kernel_rfl
@[simp] theorem ff14_0 : fieldOff Try.prog 14 0 = 0 := by kernel_rfl
@[simp] theorem ft14_0 : fieldTy Try.prog 14 0 = 9 := by kernel_rfl
@[simp] theorem bk14_0 : bOk Try.prog 14 0 = true := by kernel_rfl
@[simp] theorem bf14_0 : bOff Try.prog 14 0 = 0 := by kernel_rfl
@[simp] theorem bt14_0 : bTy Try.prog 14 0 = 9 := by kernel_rfl
@[simp] theorem fk14_1 : fieldOk Try.prog 14 1 = true := by kernel_rfl
@[simp] theorem ff14_1 : fieldOff Try.prog 14 1 = 1 := by kernel_rfl
@[simp] theorem ft14_1 : fieldTy Try.prog 14 1 = 12 := by kernel_rfl
@[simp] theorem bk14_1 : bOk Try.prog 14 1 = true := by kernel_rfl
@[simp] theorem bf14_1 : bOff Try.prog 14 1 = 1 := by kernel_rfl
@[simp] theorem bt14_1 : bTy Try.prog 14 1 = 12 := by kernel_rfl
@[simp] theorem ty22 : tyOk Try.prog 22 = true := by kernel_rfl
@[simp] theorem ce22 : Try.prog.cellsOf 22 = 1 := by kernel_rfl
@[simp] theorem ag22 : aggT Try.prog 22 = false := by kernel_rfl
@[simp] theorem by22 : Try.prog.bytesOf 22 = 24 := by kernel_rfl
@[simp] theorem un22 : (Try.prog.underlying 22).isSome = true := by kernel_rfl
@[simp] theorem zr22 : zrow Try.prog 12 22 = some [.nil 9] := by kernel_rfl
@[simp] theorem ze22 : zeroOk Try.prog 22 = true := by kernel_rfl
@[simp] theorem in22 : intT Try.prog 22 = none := by kernel_rfl
@[simp] theorem sl22 : sliceT Try.prog 22 = true := by kernel_rfl
@[simp] theorem el22 : elemT Try.prog 22 = 122 := by kernel_rfl
@[simp] theorem bs22 : byteT Try.prog 22 = false := by kernel_rfl
@[simp] theorem st22 : strT Try.prog 22 = false := by kernel_rfl
@[simp] theorem ty25 : tyOk Try.prog 25 = true := by kernel_rfl
@[simp] theorem ce25 : Try.prog.cellsOf 25 = 1 := by kernel_rfl
@[simp] theorem ag25 : aggT Try.prog 25 = false := by kernel_rfl
@[simp] theorem by25 : Try.prog.bytesOf 25 = 24 := by kernel_rfl
@[simp] theorem un25 : (Try.prog.underlying 25).isSome = true := by kernel_rfl
@[simp] theorem zr25 : zrow Try.prog 12 25 = some [.nil 9] := by kernel_rfl
@[simp] theorem ze25 : zeroOk Try.prog 25 = true := by kernel_rfl
@[simp] theorem in25 : intT Try.prog 25 = none := by kernel_rfl
@[simp] theorem sl25 : sliceT Try.prog 25 = true := by kernel_rfl
@[simp] theorem el25 : elemT Try.prog 25 = 125 := by kernel_rfl
@[simp] theorem bs25 : byteT Try.prog 25 = false := by kernel_rfl
@[simp] theorem st25 : strT Try.prog 25 = false := by kernel_rfl
@[simp] theorem ty29 : tyOk Try.prog 29 = true := by kernel_rfl
@[simp] theorem ce29 : Try.prog.cellsOf 29 = 1 := by kernel_rfl
@[simp] theorem ag29 : aggT Try.prog 29 = false := by kernel_rfl
@[simp] theorem by29 : Try.prog.bytesOf 29 = 24 := by kernel_rfl
@[simp] theorem un29 : (Try.prog.underlying 29).isSome = true := by kernel_rfl
@[simp] theorem zr29 : zrow Try.prog 12 29 = some [.nil 1] := by kernel_rfl
@[simp] theorem ze29 : zeroOk Try.prog 29 = true := by kernel_rfl
@[simp] theorem in29 : intT Try.prog 29 = none := by kernel_rfl
@[simp] theorem sl29 : sliceT Try.prog 29 = true := by kernel_rfl
@[simp] theorem el29 : elemT Try.prog 29 = 3 := by kernel_rfl
@[simp] theorem bs29 : byteT Try.prog 29 = false := by kernel_rfl
@[simp] theorem st29 : strT Try.prog 29 = false := by kernel_rfl
@[simp] theorem ty30 : tyOk Try.prog 30 = true := by kernel_rfl
@[simp] theorem ce30 : Try.prog.cellsOf 30 = 1 := by kernel_rfl
@[simp] theorem ag30 : aggT Try.prog 30 = false := by kernel_rfl
@[simp] theorem by30 : Try.prog.bytesOf 30 = 24 := by kernel_rfl
@[simp] theorem un30 : (Try.prog.underlying 30).isSome = true := by kernel_rfl
@[simp] theorem zr30 : zrow Try.prog 12 30 = some [.nil 1] := by kernel_rfl
@[simp] theorem ze30 : zeroOk Try.prog 30 = true := by kernel_rfl
@[simp] theorem in30 : intT Try.prog 30 = none := by kernel_rfl
@[simp] theorem sl30 : sliceT Try.prog 30 = true := by kernel_rfl
@[simp] theorem el30 : elemT Try.prog 30 = 4 := by kernel_rfl
@[simp] theorem bs30 : byteT Try.prog 30 = false := by kernel_rfl
@[simp] theorem st30 : strT Try.prog 30 = false := by kernel_rfl
@[simp] theorem ty31 : tyOk Try.prog 31 = true := by kernel_rfl
@[simp] theorem ce31 : Try.prog.cellsOf 31 = 1 := by kernel_rfl
@[simp] theorem ag31 : aggT Try.prog 31 = false := by kernel_rfl
@[simp] theorem by31 : Try.prog.bytesOf 31 = 24 := by kernel_rfl
@[simp] theorem un31 : (Try.prog.underlying 31).isSome = true := by kernel_rfl
@[simp] theorem zr31 : zrow Try.prog 12 31 = some [.nil 1] := by kernel_rfl
@[simp] theorem ze31 : zeroOk Try.prog 31 = true := by kernel_rfl
@[simp] theorem in31 : intT Try.prog 31 = none := by kernel_rfl
@[simp] theorem sl31 : sliceT Try.prog 31 = true := by kernel_rfl
@[simp] theorem el31 : elemT Try.prog 31 = 9 := by kernel_rfl
@[simp] theorem bs31 : byteT Try.prog 31 = false := by kernel_rfl
@[simp] theorem st31 : strT Try.prog 31 = false := by kernel_rfl
@[simp] theorem ty32 : tyOk Try.prog 32 = true := by kernel_rfl
@[simp] theorem ce32 : Try.prog.cellsOf 32 = 1 := by kernel_rfl
@[simp] theorem ag32 : aggT Try.prog 32 = false := by kernel_rfl
@[simp] theorem by32 : Try.prog.bytesOf 32 = 24 := by kernel_rfl
@[simp] theorem un32 : (Try.prog.underlying 32).isSome = true := by kernel_rfl
@[simp] theorem zr32 : zrow Try.prog 12 32 = some [.nil 1] := by kernel_rfl
@[simp] theorem ze32 : zeroOk Try.prog 32 = true := by kernel_rfl
@[simp] theorem in32 : intT Try.prog 32 = none := by kernel_rfl
@[simp] theorem sl32 : sliceT Try.prog 32 = true := by kernel_rfl
@[simp] theorem el32 : elemT Try.prog 32 = 29 := by kernel_rfl
@[simp] theorem bs32 : byteT Try.prog 32 = false := by kernel_rfl
@[simp] theorem st32 : strT Try.prog 32 = false := by kernel_rfl
@[simp] theorem ty34 : tyOk Try.prog 34 = true := by kernel_rfl
@[simp] theorem ce34 : Try.prog.cellsOf 34 = 6 := by kernel_rfl
@[simp] theorem ag34 : aggT Try.prog 34 = true := by kernel_rfl
@[simp] theorem by34 : Try.prog.bytesOf 34 = 128 := by kernel_rfl
@[simp] theorem un34 : (Try.prog.underlying 34).isSome = true := by kernel_rfl
@[simp] theorem zr34 : zrow Try.prog 12 34 = some [.d (.int .i64 0), .nil 1, .nil 1, .nil 1, .nil 1, .nil 1] := by kernel_rfl
@[simp] theorem ze34 : zeroOk Try.prog 34 = true := by kernel_rfl
@[simp] theorem in34 : intT Try.prog 34 = none := by kernel_rfl
@[simp] theorem fk34_0 : fieldOk Try.prog 34 0 = true := by kernel_rfl
@[simp] theorem ff34_0 : fieldOff Try.prog 34 0 = 0 := by kernel_rfl
@[simp] theorem ft34_0 : fieldTy Try.prog 34 0 = 3 := by kernel_rfl
@[simp] theorem bk34_0 : bOk Try.prog 34 0 = true := by kernel_rfl
@[simp] theorem bf34_0 : bOff Try.prog 34 0 = 0 := by kernel_rfl
@[simp] theorem bt34_0 : bTy Try.prog 34 0 = 3 := by kernel_rfl
@[simp] theorem fk34_1 : fieldOk Try.prog 34 1 = true := by kernel_rfl
@[simp] theorem ff34_1 : fieldOff Try.prog 34 1 = 1 := by kernel_rfl
@[simp] theorem ft34_1 : fieldTy Try.prog 34 1 = 29 := by kernel_rfl
@[simp] theorem bk34_1 : bOk Try.prog 34 1 = true := by kernel_rfl
@[simp] theorem bf34_1 : bOff Try.prog 34 1 = 1 := by kernel_rfl
@[simp] theorem bt34_1 : bTy Try.prog 34 1 = 29 := by kernel_rfl
@[simp] theorem fk34_2 : fieldOk Try.prog 34 2 = true := by kernel_rfl
@[simp] theorem ff34_2 : fieldOff Try.prog 34 2 = 2 := by kernel_rfl
@[simp] theorem ft34_2 : fieldTy Try.prog 34 2 = 30 := by kernel_rfl
@[simp] theorem bk34_2 : bOk Try.prog 34 2 = true := by kernel_rfl
@[simp] theorem bf34_2 : bOff Try.prog 34 2 = 2 := by kernel_rfl
@[simp] theorem bt34_2 : bTy Try.prog 34 2 = 30 := by kernel_rfl
@[simp] theorem fk34_3 : fieldOk Try.prog 34 3 = true := by kernel_rfl
@[simp] theorem ff34_3 : fieldOff Try.prog 34 3 = 3 := by kernel_rfl
@[simp] theorem ft34_3 : fieldTy Try.prog 34 3 = 31 := by kernel_rfl
@[simp] theorem bk34_3 : bOk Try.prog 34 3 = true := by kernel_rfl
@[simp] theorem bf34_3 : bOff Try.prog 34 3 = 3 := by kernel_rfl
@[simp] theorem bt34_3 : bTy Try.prog 34 3 = 31 := by kernel_rfl
@[simp] theorem fk34_4 : fieldOk Try.prog 34 4 = true := by kernel_rfl
@[simp] theorem ff34_4 : fieldOff Try.prog 34 4 = 4 := by kernel_rfl
@[simp] theorem ft34_4 : fieldTy Try.prog 34 4 = 29 := by kernel_rfl
@[simp] theorem bk34_4 : bOk Try.prog 34 4 = true := by kernel_rfl
@[simp] theorem bf34_4 : bOff Try.prog 34 4 = 4 := by kernel_rfl
@[simp] theorem bt34_4 : bTy Try.prog 34 4 = 29 := by kernel_rfl
@[simp] theorem fk34_5 : fieldOk Try.prog 34 5 = true := by kernel_rfl
@[simp] theorem ff34_5 : fieldOff Try.prog 34 5 = 5 := by kernel_rfl
@[simp] theorem ft34_5 : fieldTy Try.prog 34 5 = 32 := by kernel_rfl
@[simp] theorem bk34_5 : bOk Try.prog 34 5 = true := by kernel_rfl
@[simp] theorem bf34_5 : bOff Try.prog 34 5 = 5 := by kernel_rfl
@[simp] theorem bt34_5 : bTy Try.prog 34 5 = 32 := by kernel_rfl
@[simp] theorem ty37 : tyOk Try.prog 37 = true := by kernel_rfl
@[simp] theorem ce37 : Try.prog.cellsOf 37 = 6 := by kernel_rfl
@[simp] theorem ag37 : aggT Try.prog 37 = true := by kernel_rfl
@[simp] theorem by37 : Try.prog.bytesOf 37 = 128 := by kernel_rfl
@[simp] theorem un37 : (Try.prog.underlying 37).isSome = true := by kernel_rfl
@[simp] theorem zr37 : zrow Try.prog 12 37 = some [.d (.int .i64 0), .nil 1, .nil 1, .nil 1, .nil 1, .nil 1] := by kernel_rfl
@[simp] theorem ze37 : zeroOk Try.prog 37 = true := by kernel_rfl
@[simp] theorem in37 : intT Try.prog 37 = none := by kernel_rfl
@[simp] theorem fk37_0 : fieldOk Try.prog 37 0 = true := by kernel_rfl
@[simp] theorem ff37_0 : fieldOff Try.prog 37 0 = 0 := by kernel_rfl
@[simp] theorem ft37_0 : fieldTy Try.prog 37 0 = 3 := by kernel_rfl
@[simp] theorem bk37_0 : bOk Try.prog 37 0 = true := by kernel_rfl
@[simp] theorem bf37_0 : bOff Try.prog 37 0 = 0 := by kernel_rfl
@[simp] theorem bt37_0 : bTy Try.prog 37 0 = 3 := by kernel_rfl
@[simp] theorem fk37_1 : fieldOk Try.prog 37 1 = true := by kernel_rfl
@[simp] theorem ff37_1 : fieldOff Try.prog 37 1 = 1 := by kernel_rfl
@[simp] theorem ft37_1 : fieldTy Try.prog 37 1 = 29 := by kernel_rfl
@[simp] theorem bk37_1 : bOk Try.prog 37 1 = true := by kernel_rfl
@[simp] theorem bf37_1 : bOff Try.prog 37 1 = 1 := by kernel_rfl
@[simp] theorem bt37_1 : bTy Try.prog 37 1 = 29 := by kernel_rfl
@[simp] theorem fk37_2 : fieldOk Try.prog 37 2 = true := by kernel_rfl
@[simp] theorem ff37_2 : fieldOff Try.prog 37 2 = 2 := by kernel_rfl
@[simp] theorem ft37_2 : fieldTy Try.prog 37 2 = 30 := by kernel_rfl
@[simp] theorem bk37_2 : bOk Try.prog 37 2 = true := by kernel_rfl
@[simp] theorem bf37_2 : bOff Try.prog 37 2 = 2 := by kernel_rfl
@[simp] theorem bt37_2 : bTy Try.prog 37 2 = 30 := by kernel_rfl
@[simp] theorem fk37_3 : fieldOk Try.prog 37 3 = true := by kernel_rfl
@[simp] theorem ff37_3 : fieldOff Try.prog 37 3 = 3 := by kernel_rfl
@[simp] theorem ft37_3 : fieldTy Try.prog 37 3 = 31 := by kernel_rfl
@[simp] theorem bk37_3 : bOk Try.prog 37 3 = true := by kernel_rfl
@[simp] theorem bf37_3 : bOff Try.prog 37 3 = 3 := by kernel_rfl
@[simp] theorem bt37_3 : bTy Try.prog 37 3 = 31 := by kernel_rfl
@[simp] theorem fk37_4 : fieldOk Try.prog 37 4 = true := by kernel_rfl
@[simp] theorem ff37_4 : fieldOff Try.prog 37 4 = 4 := by kernel_rfl
@[simp] theorem ft37_4 : fieldTy Try.prog 37 4 = 29 := by kernel_rfl
@[simp] theorem bk37_4 : bOk Try.prog 37 4 = true := by kernel_rfl
@[simp] theorem bf37_4 : bOff Try.prog 37 4 = 4 := by kernel_rfl
@[simp] theorem bt37_4 : bTy Try.prog 37 4 = 29 := by kernel_rfl
@[simp] theorem fk37_5 : fieldOk Try.prog 37 5 = true := by kernel_rfl
@[simp] theorem ff37_5 : fieldOff Try.prog 37 5 = 5 := by kernel_rfl
@[simp] theorem ft37_5 : fieldTy Try.prog 37 5 = 32 := by kernel_rfl
@[simp] theorem bk37_5 : bOk Try.prog 37 5 = true := by kernel_rfl
@[simp] theorem bf37_5 : bOff Try.prog 37 5 = 5 := by kernel_rfl
@[simp] theorem bt37_5 : bTy Try.prog 37 5 = 32 := by kernel_rfl
@[simp] theorem ty41 : tyOk Try.prog 41 = true := by kernel_rfl
@[simp] theorem ce41 : Try.prog.cellsOf 41 = 1 := by kernel_rfl
@[simp] theorem ag41 : aggT Try.prog 41 = false := by kernel_rfl
@[simp] theorem by41 : Try.prog.bytesOf 41 = 24 := by kernel_rfl
@[simp] theorem un41 : (Try.prog.underlying 41).isSome = true := by kernel_rfl
@[simp] theorem zr41 : zrow Try.prog 12 41 = some [.nil 5] := by kernel_rfl
@[simp] theorem ze41 : zeroOk Try.prog 41 = true := by kernel_rfl
@[simp] theorem in41 : intT Try.prog 41 = none := by kernel_rfl
@[simp] theorem sl41 : sliceT Try.prog 41 = true := by kernel_rfl
@[simp] theorem el41 : elemT Try.prog 41 = 193 := by kernel_rfl
@[simp] theorem bs41 : byteT Try.prog 41 = false := by kernel_rfl
@[simp] theorem st41 : strT Try.prog 41 = false := by kernel_rfl
@[simp] theorem ty42 : tyOk Try.prog 42 = true := by kernel_rfl
@[simp] theorem ce42 : Try.prog.cellsOf 42 = 1 := by kernel_rfl
@[simp] theorem ag42 : aggT Try.prog 42 = false := by kernel_rfl
@[simp] theorem by42 : Try.prog.bytesOf 42 = 24 := by kernel_rfl
@[simp] theorem un42 : (Try.prog.underlying 42).isSome = true := by kernel_rfl
@[simp] theorem zr42 : zrow Try.prog 12 42 = some [.nil 3] := by kernel_rfl
@[simp] theorem ze42 : zeroOk Try.prog 42 = true := by kernel_rfl
@[simp] theorem in42 : intT Try.prog 42 = none := by kernel_rfl
@[simp] theorem sl42 : sliceT Try.prog 42 = true := by kernel_rfl
@[simp] theorem el42 : elemT Try.prog 42 = 197 := by kernel_rfl
@[simp] theorem bs42 : byteT Try.prog 42 = false := by kernel_rfl
@[simp] theorem st42 : strT Try.prog 42 = false := by kernel_rfl
@[simp] theorem ty43 : tyOk Try.prog 43 = true := by kernel_rfl
@[simp] theorem ce43 : Try.prog.cellsOf 43 = 1 := by kernel_rfl
@[simp] theorem ag43 : aggT Try.prog 43 = false := by kernel_rfl
@[simp] theorem by43 : Try.prog.bytesOf 43 = 24 := by kernel_rfl
@[simp] theorem un43 : (Try.prog.underlying 43).isSome = true := by kernel_rfl
@[simp] theorem zr43 : zrow Try.prog 12 43 = some [.nil 4] := by kernel_rfl
@[simp] theorem ze43 : zeroOk Try.prog 43 = true := by kernel_rfl
@[simp] theorem in43 : intT Try.prog 43 = none := by kernel_rfl
@[simp] theorem sl43 : sliceT Try.prog 43 = true := by kernel_rfl
@[simp] theorem el43 : elemT Try.prog 43 = 199 := by kernel_rfl
@[simp] theorem bs43 : byteT Try.prog 43 = false := by kernel_rfl
@[simp] theorem st43 : strT Try.prog 43 = false := by kernel_rfl
@[simp] theorem ty45 : tyOk Try.prog 45 = true := by kernel_rfl
@[simp] theorem ce45 : Try.prog.cellsOf 45 = 5 := by kernel_rfl
@[simp] theorem ag45 : aggT Try.prog 45 = true := by kernel_rfl
@[simp] theorem by45 : Try.prog.bytesOf 45 = 88 := by kernel_rfl
@[simp] theorem un45 : (Try.prog.underlying 45).isSome = true := by kernel_rfl
@[simp] theorem zr45 : zrow Try.prog 12 45 = some [.nil 5, .nil 3, .nil 4, .d (.int .i64 0), .d (.int .i64 0)] := by kernel_rfl
@[simp] theorem ze45 : zeroOk Try.prog 45 = true := by kernel_rfl
@[simp] theorem in45 : intT Try.prog 45 = none := by kernel_rfl
@[simp] theorem fk45_0 : fieldOk Try.prog 45 0 = true := by kernel_rfl
@[simp] theorem ff45_0 : fieldOff Try.prog 45 0 = 0 := by kernel_rfl
@[simp] theorem ft45_0 : fieldTy Try.prog 45 0 = 41 := by kernel_rfl
@[simp] theorem bk45_0 : bOk Try.prog 45 0 = true := by kernel_rfl
@[simp] theorem bf45_0 : bOff Try.prog 45 0 = 0 := by kernel_rfl
@[simp] theorem bt45_0 : bTy Try.prog 45 0 = 41 := by kernel_rfl
@[simp] theorem fk45_1 : fieldOk Try.prog 45 1 = true := by kernel_rfl
@[simp] theorem ff45_1 : fieldOff Try.prog 45 1 = 1 := by kernel_rfl
@[simp] theorem ft45_1 : fieldTy Try.prog 45 1 = 42 := by kernel_rfl
@[simp] theorem bk45_1 : bOk Try.prog 45 1 = true := by kernel_rfl
@[simp] theorem bf45_1 : bOff Try.prog 45 1 = 1 := by kernel_rfl
@[simp] theorem bt45_1 : bTy Try.prog 45 1 = 42 := by kernel_rfl
@[simp] theorem fk45_2 : fieldOk Try.prog 45 2 = true := by kernel_rfl
@[simp] theorem ff45_2 : fieldOff Try.prog 45 2 = 2 := by kernel_rfl
@[simp] theorem ft45_2 : fieldTy Try.prog 45 2 = 43 := by kernel_rfl
@[simp] theorem bk45_2 : bOk Try.prog 45 2 = true := by kernel_rfl
@[simp] theorem bf45_2 : bOff Try.prog 45 2 = 2 := by kernel_rfl
@[simp] theorem bt45_2 : bTy Try.prog 45 2 = 43 := by kernel_rfl
@[simp] theorem fk45_3 : fieldOk Try.prog 45 3 = true := by kernel_rfl
@[simp] theorem ff45_3 : fieldOff Try.prog 45 3 = 3 := by kernel_rfl
@[simp] theorem ft45_3 : fieldTy Try.prog 45 3 = 3 := by kernel_rfl
@[simp] theorem bk45_3 : bOk Try.prog 45 3 = true := by kernel_rfl
@[simp] theorem bf45_3 : bOff Try.prog 45 3 = 3 := by kernel_rfl
@[simp] theorem bt45_3 : bTy Try.prog 45 3 = 3 := by kernel_rfl
@[simp] theorem fk45_4 : fieldOk Try.prog 45 4 = true := by kernel_rfl
@[simp] theorem ff45_4 : fieldOff Try.prog 45 4 = 4 := by kernel_rfl
@[simp] theorem ft45_4 : fieldTy Try.prog 45 4 = 3 := by kernel_rfl
@[simp] theorem bk45_4 : bOk Try.prog 45 4 = true := by kernel_rfl
@[simp] theorem bf45_4 : bOff Try.prog 45 4 = 4 := by kernel_rfl
@[simp] theorem bt45_4 : bTy Try.prog 45 4 = 3 := by kernel_rfl
@[simp] theorem ty48 : tyOk Try.prog 48 = true := by kernel_rfl
@[simp] theorem ce48 : Try.prog.cellsOf 48 = 1 := by kernel_rfl
@[simp] theorem ag48 : aggT Try.prog 48 = false := by kernel_rfl
@[simp] theorem by48 : Try.prog.bytesOf 48 = 24 := by kernel_rfl
@[simp] theorem un48 : (Try.prog.underlying 48).isSome = true := by kernel_rfl
@[simp] theorem zr48 : zrow Try.prog 12 48 = some [.nil 5] := by kernel_rfl
@[simp] theorem ze48 : zeroOk Try.prog 48 = true := by kernel_rfl
@[simp] theorem in48 : intT Try.prog 48 = none := by kernel_rfl
@[simp] theorem sl48 : sliceT Try.prog 48 = true := by kernel_rfl
@[simp] theorem el48 : elemT Try.prog 48 = 145 := by kernel_rfl
@[simp] theorem bs48 : byteT Try.prog 48 = false := by kernel_rfl
@[simp] theorem st48 : strT Try.prog 48 = false := by kernel_rfl
@[simp] theorem ty49 : tyOk Try.prog 49 = true := by kernel_rfl
@[simp] theorem ce49 : Try.prog.cellsOf 49 = 1 := by kernel_rfl
@[simp] theorem ag49 : aggT Try.prog 49 = false := by kernel_rfl
@[simp] theorem by49 : Try.prog.bytesOf 49 = 24 := by kernel_rfl
@[simp] theorem un49 : (Try.prog.underlying 49).isSome = true := by kernel_rfl
@[simp] theorem zr49 : zrow Try.prog 12 49 = some [.nil 3] := by kernel_rfl
@[simp] theorem ze49 : zeroOk Try.prog 49 = true := by kernel_rfl
@[simp] theorem in49 : intT Try.prog 49 = none := by kernel_rfl
@[simp] theorem sl49 : sliceT Try.prog 49 = true := by kernel_rfl
@[simp] theorem el49 : elemT Try.prog 49 = 195 := by kernel_rfl
@[simp] theorem bs49 : byteT Try.prog 49 = false := by kernel_rfl
@[simp] theorem st49 : strT Try.prog 49 = false := by kernel_rfl
@[simp] theorem ty50 : tyOk Try.prog 50 = true := by kernel_rfl
@[simp] theorem ce50 : Try.prog.cellsOf 50 = 1 := by kernel_rfl
@[simp] theorem ag50 : aggT Try.prog 50 = false := by kernel_rfl
@[simp] theorem by50 : Try.prog.bytesOf 50 = 24 := by kernel_rfl
@[simp] theorem un50 : (Try.prog.underlying 50).isSome = true := by kernel_rfl
@[simp] theorem zr50 : zrow Try.prog 12 50 = some [.nil 4] := by kernel_rfl
@[simp] theorem ze50 : zeroOk Try.prog 50 = true := by kernel_rfl
@[simp] theorem in50 : intT Try.prog 50 = none := by kernel_rfl
@[simp] theorem sl50 : sliceT Try.prog 50 = true := by kernel_rfl
@[simp] theorem el50 : elemT Try.prog 50 = 191 := by kernel_rfl
@[simp] theorem bs50 : byteT Try.prog 50 = false := by kernel_rfl
@[simp] theorem st50 : strT Try.prog 50 = false := by kernel_rfl
@[simp] theorem ty52 : tyOk Try.prog 52 = true := by kernel_rfl
@[simp] theorem ce52 : Try.prog.cellsOf 52 = 5 := by kernel_rfl
@[simp] theorem ag52 : aggT Try.prog 52 = true := by kernel_rfl
@[simp] theorem by52 : Try.prog.bytesOf 52 = 88 := by kernel_rfl
@[simp] theorem un52 : (Try.prog.underlying 52).isSome = true := by kernel_rfl
@[simp] theorem zr52 : zrow Try.prog 12 52 = some [.nil 5, .nil 3, .nil 4, .d (.int .i64 0), .d (.int .i64 0)] := by kernel_rfl
@[simp] theorem ze52 : zeroOk Try.prog 52 = true := by kernel_rfl
@[simp] theorem in52 : intT Try.prog 52 = none := by kernel_rfl
@[simp] theorem fk52_0 : fieldOk Try.prog 52 0 = true := by kernel_rfl
@[simp] theorem ff52_0 : fieldOff Try.prog 52 0 = 0 := by kernel_rfl
@[simp] theorem ft52_0 : fieldTy Try.prog 52 0 = 48 := by kernel_rfl
@[simp] theorem bk52_0 : bOk Try.prog 52 0 = true := by kernel_rfl
@[simp] theorem bf52_0 : bOff Try.prog 52 0 = 0 := by kernel_rfl
@[simp] theorem bt52_0 : bTy Try.prog 52 0 = 48 := by kernel_rfl
@[simp] theorem fk52_1 : fieldOk Try.prog 52 1 = true := by kernel_rfl
@[simp] theorem ff52_1 : fieldOff Try.prog 52 1 = 1 := by kernel_rfl
@[simp] theorem ft52_1 : fieldTy Try.prog 52 1 = 49 := by kernel_rfl
@[simp] theorem bk52_1 : bOk Try.prog 52 1 = true := by kernel_rfl
@[simp] theorem bf52_1 : bOff Try.prog 52 1 = 1 := by kernel_rfl
@[simp] theorem bt52_1 : bTy Try.prog 52 1 = 49 := by kernel_rfl
@[simp] theorem fk52_2 : fieldOk Try.prog 52 2 = true := by kernel_rfl
@[simp] theorem ff52_2 : fieldOff Try.prog 52 2 = 2 := by kernel_rfl
@[simp] theorem ft52_2 : fieldTy Try.prog 52 2 = 50 := by kernel_rfl
@[simp] theorem bk52_2 : bOk Try.prog 52 2 = true := by kernel_rfl
@[simp] theorem bf52_2 : bOff Try.prog 52 2 = 2 := by kernel_rfl
@[simp] theorem bt52_2 : bTy Try.prog 52 2 = 50 := by kernel_rfl
@[simp] theorem fk52_3 : fieldOk Try.prog 52 3 = true := by kernel_rfl
@[simp] theorem ff52_3 : fieldOff Try.prog 52 3 = 3 := by kernel_rfl
@[simp] theorem ft52_3 : fieldTy Try.prog 52 3 = 3 := by kernel_rfl
@[simp] theorem bk52_3 : bOk Try.prog 52 3 = true := by kernel_rfl
@[simp] theorem bf52_3 : bOff Try.prog 52 3 = 3 := by kernel_rfl
@[simp] theorem bt52_3 : bTy Try.prog 52 3 = 3 := by kernel_rfl
@[simp] theorem fk52_4 : fieldOk Try.prog 52 4 = true := by kernel_rfl
@[simp] theorem ff52_4 : fieldOff Try.prog 52 4 = 4 := by kernel_rfl
@[simp] theorem ft52_4 : fieldTy Try.prog 52 4 = 3 := by kernel_rfl
@[simp] theorem bk52_4 : bOk Try.prog 52 4 = true := by kernel_rfl
@[simp] theorem bf52_4 : bOff Try.prog 52 4 = 4 := by kernel_rfl
@[simp] theorem bt52_4 : bTy Try.prog 52 4 = 3 := by kernel_rfl
@[simp] theorem ty56 : tyOk Try.prog 56 = true := by kernel_rfl
@[simp] theorem ce56 : Try.prog.cellsOf 56 = 1 := by kernel_rfl
@[simp] theorem ag56 : aggT Try.prog 56 = false := by kernel_rfl
@[simp] theorem by56 : Try.prog.bytesOf 56 = 24 := by kernel_rfl
@[simp] theorem un56 : (Try.prog.underlying 56).isSome = true := by kernel_rfl
@[simp] theorem zr56 : zrow Try.prog 12 56 = some [.nil 3] := by kernel_rfl
@[simp] theorem ze56 : zeroOk Try.prog 56 = true := by kernel_rfl
@[simp] theorem in56 : intT Try.prog 56 = none := by kernel_rfl
@[simp] theorem sl56 : sliceT Try.prog 56 = true := by kernel_rfl
@[simp] theorem el56 : elemT Try.prog 56 = 204 := by kernel_rfl
@[simp] theorem bs56 : byteT Try.prog 56 = false := by kernel_rfl
@[simp] theorem st56 : strT Try.prog 56 = false := by kernel_rfl
@[simp] theorem ty57 : tyOk Try.prog 57 = true := by kernel_rfl
@[simp] theorem ce57 : Try.prog.cellsOf 57 = 1 := by kernel_rfl
@[simp] theorem ag57 : aggT Try.prog 57 = false := by kernel_rfl
@[simp] theorem by57 : Try.prog.bytesOf 57 = 24 := by kernel_rfl
@[simp] theorem un57 : (Try.prog.underlying 57).isSome = true := by kernel_rfl
@[simp] theorem zr57 : zrow Try.prog 12 57 = some [.nil 5] := by kernel_rfl
@[simp] theorem ze57 : zeroOk Try.prog 57 = true := by kernel_rfl
@[simp] theorem in57 : intT Try.prog 57 = none := by kernel_rfl
@[simp] theorem sl57 : sliceT Try.prog 57 = true := by kernel_rfl
@[simp] theorem el57 : elemT Try.prog 57 = 209 := by kernel_rfl
@[simp] theorem bs57 : byteT Try.prog 57 = false := by kernel_rfl
@[simp] theorem st57 : strT Try.prog 57 = false := by kernel_rfl
@[simp] theorem ty59 : tyOk Try.prog 59 = true := by kernel_rfl
@[simp] theorem ce59 : Try.prog.cellsOf 59 = 2 := by kernel_rfl
@[simp] theorem ag59 : aggT Try.prog 59 = true := by kernel_rfl
@[simp] theorem by59 : Try.prog.bytesOf 59 = 48 := by kernel_rfl
@[simp] theorem un59 : (Try.prog.underlying 59).isSome = true := by kernel_rfl
@[simp] theorem zr59 : zrow Try.prog 12 59 = some [.nil 3, .nil 5] := by kernel_rfl
@[simp] theorem ze59 : zeroOk Try.prog 59 = true := by kernel_rfl
@[simp] theorem in59 : intT Try.prog 59 = none := by kernel_rfl
@[simp] theorem fk59_0 : fieldOk Try.prog 59 0 = true := by kernel_rfl
@[simp] theorem ff59_0 : fieldOff Try.prog 59 0 = 0 := by kernel_rfl
@[simp] theorem ft59_0 : fieldTy Try.prog 59 0 = 56 := by kernel_rfl
@[simp] theorem bk59_0 : bOk Try.prog 59 0 = true := by kernel_rfl
@[simp] theorem bf59_0 : bOff Try.prog 59 0 = 0 := by kernel_rfl
@[simp] theorem bt59_0 : bTy Try.prog 59 0 = 56 := by kernel_rfl
@[simp] theorem fk59_1 : fieldOk Try.prog 59 1 = true := by kernel_rfl
@[simp] theorem ff59_1 : fieldOff Try.prog 59 1 = 1 := by kernel_rfl
@[simp] theorem ft59_1 : fieldTy Try.prog 59 1 = 57 := by kernel_rfl
@[simp] theorem bk59_1 : bOk Try.prog 59 1 = true := by kernel_rfl
@[simp] theorem bf59_1 : bOff Try.prog 59 1 = 1 := by kernel_rfl
@[simp] theorem bt59_1 : bTy Try.prog 59 1 = 57 := by kernel_rfl
@[simp] theorem ty62 : tyOk Try.prog 62 = true := by kernel_rfl
@[simp] theorem ce62 : Try.prog.cellsOf 62 = 1 := by kernel_rfl
@[simp] theorem ag62 : aggT Try.prog 62 = false := by kernel_rfl
@[simp] theorem by62 : Try.prog.bytesOf 62 = 24 := by kernel_rfl
@[simp] theorem un62 : (Try.prog.underlying 62).isSome = true := by kernel_rfl
@[simp] theorem zr62 : zrow Try.prog 12 62 = some [.nil 3] := by kernel_rfl
@[simp] theorem ze62 : zeroOk Try.prog 62 = true := by kernel_rfl
@[simp] theorem in62 : intT Try.prog 62 = none := by kernel_rfl
@[simp] theorem sl62 : sliceT Try.prog 62 = true := by kernel_rfl
@[simp] theorem el62 : elemT Try.prog 62 = 155 := by kernel_rfl
@[simp] theorem bs62 : byteT Try.prog 62 = false := by kernel_rfl
@[simp] theorem st62 : strT Try.prog 62 = false := by kernel_rfl
@[simp] theorem ty63 : tyOk Try.prog 63 = true := by kernel_rfl
@[simp] theorem ce63 : Try.prog.cellsOf 63 = 1 := by kernel_rfl
@[simp] theorem ag63 : aggT Try.prog 63 = false := by kernel_rfl
@[simp] theorem by63 : Try.prog.bytesOf 63 = 24 := by kernel_rfl
@[simp] theorem un63 : (Try.prog.underlying 63).isSome = true := by kernel_rfl
@[simp] theorem zr63 : zrow Try.prog 12 63 = some [.nil 5] := by kernel_rfl
@[simp] theorem ze63 : zeroOk Try.prog 63 = true := by kernel_rfl
@[simp] theorem in63 : intT Try.prog 63 = none := by kernel_rfl
@[simp] theorem sl63 : sliceT Try.prog 63 = true := by kernel_rfl
@[simp] theorem el63 : elemT Try.prog 63 = 160 := by kernel_rfl
@[simp] theorem bs63 : byteT Try.prog 63 = false := by kernel_rfl
@[simp] theorem st63 : strT Try.prog 63 = false := by kernel_rfl
@[simp] theorem ty65 : tyOk Try.prog 65 = true := by kernel_rfl
@[simp] theorem ce65 : Try.prog.cellsOf 65 = 2 := by kernel_rfl
@[simp] theorem ag65 : aggT Try.prog 65 = true := by kernel_rfl
@[simp] theorem by65 : Try.prog.bytesOf 65 = 48 := by kernel_rfl
@[simp] theorem un65 : (Try.prog.underlying 65).isSome = true := by kernel_rfl
@[simp] theorem zr65 : zrow Try.prog 12 65 = some [.nil 3, .nil 5] := by kernel_rfl
@[simp] theorem ze65 : zeroOk Try.prog 65 = true := by kernel_rfl
@[simp] theorem in65 : intT Try.prog 65 = none := by kernel_rfl
@[simp] theorem fk65_0 : fieldOk Try.prog 65 0 = true := by kernel_rfl
@[simp] theorem ff65_0 : fieldOff Try.prog 65 0 = 0 := by kernel_rfl
@[simp] theorem ft65_0 : fieldTy Try.prog 65 0 = 62 := by kernel_rfl
@[simp] theorem bk65_0 : bOk Try.prog 65 0 = true := by kernel_rfl
@[simp] theorem bf65_0 : bOff Try.prog 65 0 = 0 := by kernel_rfl
@[simp] theorem bt65_0 : bTy Try.prog 65 0 = 62 := by kernel_rfl
@[simp] theorem fk65_1 : fieldOk Try.prog 65 1 = true := by kernel_rfl
@[simp] theorem ff65_1 : fieldOff Try.prog 65 1 = 1 := by kernel_rfl
@[simp] theorem ft65_1 : fieldTy Try.prog 65 1 = 63 := by kernel_rfl
@[simp] theorem bk65_1 : bOk Try.prog 65 1 = true := by kernel_rfl
@[simp] theorem bf65_1 : bOff Try.prog 65 1 = 1 := by kernel_rfl
@[simp] theorem bt65_1 : bTy Try.prog 65 1 = 63 := by kernel_rfl
@[simp] theorem ty69 : tyOk Try.prog 69 = true := by kernel_rfl
@[simp] theorem ce69 : Try.prog.cellsOf 69 = 1 := by kernel_rfl
@[simp] theorem ag69 : aggT Try.prog 69 = false := by kernel_rfl
@[simp] theorem by69 : Try.prog.bytesOf 69 = 24 := by kernel_rfl
@[simp] theorem un69 : (Try.prog.underlying 69).isSome = true := by kernel_rfl
@[simp] theorem zr69 : zrow Try.prog 12 69 = some [.nil 16] := by kernel_rfl
@[simp] theorem ze69 : zeroOk Try.prog 69 = true := by kernel_rfl
@[simp] theorem in69 : intT Try.prog 69 = none := by kernel_rfl
@[simp] theorem sl69 : sliceT Try.prog 69 = true := by kernel_rfl
@[simp] theorem el69 : elemT Try.prog 69 = 85 := by kernel_rfl
@[simp] theorem bs69 : byteT Try.prog 69 = false := by kernel_rfl
@[simp] theorem st69 : strT Try.prog 69 = false := by kernel_rfl
@[simp] theorem ty71 : tyOk Try.prog 71 = true := by kernel_rfl
@[simp] theorem ce71 : Try.prog.cellsOf 71 = 2 := by kernel_rfl
@[simp] theorem ag71 : aggT Try.prog 71 = true := by kernel_rfl
@[simp] theorem by71 : Try.prog.bytesOf 71 = 32 := by kernel_rfl
@[simp] theorem un71 : (Try.prog.underlying 71).isSome = true := by kernel_rfl
@[simp] theorem zr71 : zrow Try.prog 12 71 = some [.d (.int .i64 0), .nil 16] := by kernel_rfl
@[simp] theorem ze71 : zeroOk Try.prog 71 = true := by kernel_rfl
@[simp] theorem in71 : intT Try.prog 71 = none := by kernel_rfl
@[simp] theorem fk71_0 : fieldOk Try.prog 71 0 = true := by kernel_rfl
@[simp] theorem ff71_0 : fieldOff Try.prog 71 0 = 0 := by kernel_rfl
@[simp] theorem ft71_0 : fieldTy Try.prog 71 0 = 3 := by kernel_rfl
@[simp] theorem bk71_0 : bOk Try.prog 71 0 = true := by kernel_rfl
@[simp] theorem bf71_0 : bOff Try.prog 71 0 = 0 := by kernel_rfl
@[simp] theorem bt71_0 : bTy Try.prog 71 0 = 3 := by kernel_rfl
@[simp] theorem fk71_1 : fieldOk Try.prog 71 1 = true := by kernel_rfl
@[simp] theorem ff71_1 : fieldOff Try.prog 71 1 = 1 := by kernel_rfl
@[simp] theorem ft71_1 : fieldTy Try.prog 71 1 = 69 := by kernel_rfl
@[simp] theorem bk71_1 : bOk Try.prog 71 1 = true := by kernel_rfl
@[simp] theorem bf71_1 : bOff Try.prog 71 1 = 1 := by kernel_rfl
@[simp] theorem bt71_1 : bTy Try.prog 71 1 = 69 := by kernel_rfl
@[simp] theorem ty74 : tyOk Try.prog 74 = true := by kernel_rfl
@[simp] theorem ce74 : Try.prog.cellsOf 74 = 1 := by kernel_rfl
@[simp] theorem ag74 : aggT Try.prog 74 = false := by kernel_rfl
@[simp] theorem by74 : Try.prog.bytesOf 74 = 24 := by kernel_rfl
@[simp] theorem un74 : (Try.prog.underlying 74).isSome = true := by kernel_rfl
@[simp] theorem zr74 : zrow Try.prog 12 74 = some [.nil 16] := by kernel_rfl
@[simp] theorem ze74 : zeroOk Try.prog 74 = true := by kernel_rfl
@[simp] theorem in74 : intT Try.prog 74 = none := by kernel_rfl
@[simp] theorem sl74 : sliceT Try.prog 74 = true := by kernel_rfl
@[simp] theorem el74 : elemT Try.prog 74 = 91 := by kernel_rfl
@[simp] theorem bs74 : byteT Try.prog 74 = false := by kernel_rfl
@[simp] theorem st74 : strT Try.prog 74 = false := by kernel_rfl
@[simp] theorem ty76 : tyOk Try.prog 76 = true := by kernel_rfl
@[simp] theorem ce76 : Try.prog.cellsOf 76 = 2 := by kernel_rfl
@[simp] theorem ag76 : aggT Try.prog 76 = true := by kernel_rfl
@[simp] theorem by76 : Try.prog.bytesOf 76 = 32 := by kernel_rfl
@[simp] theorem un76 : (Try.prog.underlying 76).isSome = true := by kernel_rfl
@[simp] theorem zr76 : zrow Try.prog 12 76 = some [.d (.int .i64 0), .nil 16] := by kernel_rfl
@[simp] theorem ze76 : zeroOk Try.prog 76 = true := by kernel_rfl
@[simp] theorem in76 : intT Try.prog 76 = none := by kernel_rfl
@[simp] theorem fk76_0 : fieldOk Try.prog 76 0 = true := by kernel_rfl
@[simp] theorem ff76_0 : fieldOff Try.prog 76 0 = 0 := by kernel_rfl
@[simp] theorem ft76_0 : fieldTy Try.prog 76 0 = 3 := by kernel_rfl
@[simp] theorem bk76_0 : bOk Try.prog 76 0 = true := by kernel_rfl
@[simp] theorem bf76_0 : bOff Try.prog 76 0 = 0 := by kernel_rfl
@[simp] theorem bt76_0 : bTy Try.prog 76 0 = 3 := by kernel_rfl
@[simp] theorem fk76_1 : fieldOk Try.prog 76 1 = true := by kernel_rfl
@[simp] theorem ff76_1 : fieldOff Try.prog 76 1 = 1 := by kernel_rfl
@[simp] theorem ft76_1 : fieldTy Try.prog 76 1 = 74 := by kernel_rfl
@[simp] theorem bk76_1 : bOk Try.prog 76 1 = true := by kernel_rfl
@[simp] theorem bf76_1 : bOff Try.prog 76 1 = 1 := by kernel_rfl
@[simp] theorem bt76_1 : bTy Try.prog 76 1 = 74 := by kernel_rfl
@[simp] theorem ty81 : tyOk Try.prog 81 = true := by kernel_rfl
@[simp] theorem ce81 : Try.prog.cellsOf 81 = 3 := by kernel_rfl
@[simp] theorem ag81 : aggT Try.prog 81 = true := by kernel_rfl
@[simp] theorem by81 : Try.prog.bytesOf 81 = 56 := by kernel_rfl
@[simp] theorem un81 : (Try.prog.underlying 81).isSome = true := by kernel_rfl
@[simp] theorem zr81 : zrow Try.prog 12 81 = some [.d (.int .i64 0), .nil 1, .nil 1] := by kernel_rfl
@[simp] theorem ze81 : zeroOk Try.prog 81 = true := by kernel_rfl
@[simp] theorem in81 : intT Try.prog 81 = none := by kernel_rfl
@[simp] theorem fk81_0 : fieldOk Try.prog 81 0 = true := by kernel_rfl
@[simp] theorem ff81_0 : fieldOff Try.prog 81 0 = 0 := by kernel_rfl
@[simp] theorem ft81_0 : fieldTy Try.prog 81 0 = 3 := by kernel_rfl
@[simp] theorem bk81_0 : bOk Try.prog 81 0 = true := by kernel_rfl
@[simp] theorem bf81_0 : bOff Try.prog 81 0 = 0 := by kernel_rfl
@[simp] theorem bt81_0 : bTy Try.prog 81 0 = 3 := by kernel_rfl
@[simp] theorem fk81_1 : fieldOk Try.prog 81 1 = true := by kernel_rfl
@[simp] theorem ff81_1 : fieldOff Try.prog 81 1 = 1 := by kernel_rfl
@[simp] theorem ft81_1 : fieldTy Try.prog 81 1 = 31 := by kernel_rfl
@[simp] theorem bk81_1 : bOk Try.prog 81 1 = true := by kernel_rfl
@[simp] theorem bf81_1 : bOff Try.prog 81 1 = 1 := by kernel_rfl
@[simp] theorem bt81_1 : bTy Try.prog 81 1 = 31 := by kernel_rfl
@[simp] theorem fk81_2 : fieldOk Try.prog 81 2 = true := by kernel_rfl
@[simp] theorem ff81_2 : fieldOff Try.prog 81 2 = 2 := by kernel_rfl
@[simp] theorem ft81_2 : fieldTy Try.prog 81 2 = 29 := by kernel_rfl
@[simp] theorem bk81_2 : bOk Try.prog 81 2 = true := by kernel_rfl
@[simp] theorem bf81_2 : bOff Try.prog 81 2 = 2 := by kernel_rfl
@[simp] theorem bt81_2 : bTy Try.prog 81 2 = 29 := by kernel_rfl
@[simp] theorem ty83 : tyOk Try.prog 83 = true := by kernel_rfl
@[simp] theorem ce83 : Try.prog.cellsOf 83 = 9 := by kernel_rfl
@[simp] theorem ag83 : aggT Try.prog 83 = true := by kernel_rfl
@[simp] theorem by83 : Try.prog.bytesOf 83 = 72 := by kernel_rfl
@[simp] theorem un83 : (Try.prog.underlying 83).isSome = true := by kernel_rfl
@[simp] theorem zr83 : zrow Try.prog 12 83 = some [.d (.int .i64 0), .d (.int .i64 0), .d (.int .i64 0), .d (.int .i64 0), .d (.int .i64 0), .d (.int .i64 0), .d (.int .i64 0), .d (.int .i64 0), .d (.int .i64 0)] := by kernel_rfl
@[simp] theorem ze83 : zeroOk Try.prog 83 = true := by kernel_rfl
@[simp] theorem in83 : intT Try.prog 83 = none := by kernel_rfl
@[simp] theorem eq83 : eqOk Try.prog 83 = true := by kernel_rfl
@[simp] theorem fs83 : fieldTs Try.prog 83 = [3, 3, 3, 3, 3, 3, 3, 3, 3] := by kernel_rfl
@[simp] theorem fk83_0 : fieldOk Try.prog 83 0 = true := by kernel_rfl
@[simp] theorem ff83_0 : fieldOff Try.prog 83 0 = 0 := by kernel_rfl
@[simp] theorem ft83_0 : fieldTy Try.prog 83 0 = 3 := by kernel_rfl
@[simp] theorem bk83_0 : bOk Try.prog 83 0 = true := by kernel_rfl
@[simp] theorem bf83_0 : bOff Try.prog 83 0 = 0 := by kernel_rfl
@[simp] theorem bt83_0 : bTy Try.prog 83 0 = 3 := by kernel_rfl
@[simp] theorem fk83_1 : fieldOk Try.prog 83 1 = true := by kernel_rfl
@[simp] theorem ff83_1 : fieldOff Try.prog 83 1 = 1 := by kernel_rfl
@[simp] theorem ft83_1 : fieldTy Try.prog 83 1 = 3 := by kernel_rfl
@[simp] theorem bk83_1 : bOk Try.prog 83 1 = true := by kernel_rfl
@[simp] theorem bf83_1 : bOff Try.prog 83 1 = 1 := by kernel_rfl
@[simp] theorem bt83_1 : bTy Try.prog 83 1 = 3 := by kernel_rfl
@[simp] theorem fk83_2 : fieldOk Try.prog 83 2 = true := by kernel_rfl
@[simp] theorem ff83_2 : fieldOff Try.prog 83 2 = 2 := by kernel_rfl
@[simp] theorem ft83_2 : fieldTy Try.prog 83 2 = 3 := by kernel_rfl
@[simp] theorem bk83_2 : bOk Try.prog 83 2 = true := by kernel_rfl
@[simp] theorem bf83_2 : bOff Try.prog 83 2 = 2 := by kernel_rfl
@[simp] theorem bt83_2 : bTy Try.prog 83 2 = 3 := by kernel_rfl
@[simp] theorem fk83_3 : fieldOk Try.prog 83 3 = true := by kernel_rfl
@[simp] theorem ff83_3 : fieldOff Try.prog 83 3 = 3 := by kernel_rfl
@[simp] theorem ft83_3 : fieldTy Try.prog 83 3 = 3 := by kernel_rfl
@[simp] theorem bk83_3 : bOk Try.prog 83 3 = true := by kernel_rfl
@[simp] theorem bf83_3 : bOff Try.prog 83 3 = 3 := by kernel_rfl
@[simp] theorem bt83_3 : bTy Try.prog 83 3 = 3 := by kernel_rfl
@[simp] theorem fk83_4 : fieldOk Try.prog 83 4 = true := by kernel_rfl
@[simp] theorem ff83_4 : fieldOff Try.prog 83 4 = 4 := by kernel_rfl
@[simp] theorem ft83_4 : fieldTy Try.prog 83 4 = 3 := by kernel_rfl
@[simp] theorem bk83_4 : bOk Try.prog 83 4 = true := by kernel_rfl
@[simp] theorem bf83_4 : bOff Try.prog 83 4 = 4 := by kernel_rfl
@[simp] theorem bt83_4 : bTy Try.prog 83 4 = 3 := by kernel_rfl
@[simp] theorem fk83_5 : fieldOk Try.prog 83 5 = true := by kernel_rfl
@[simp] theorem ff83_5 : fieldOff Try.prog 83 5 = 5 := by kernel_rfl
@[simp] theorem ft83_5 : fieldTy Try.prog 83 5 = 3 := by kernel_rfl
@[simp] theorem bk83_5 : bOk Try.prog 83 5 = true := by kernel_rfl
@[simp] theorem bf83_5 : bOff Try.prog 83 5 = 5 := by kernel_rfl
@[simp] theorem bt83_5 : bTy Try.prog 83 5 = 3 := by kernel_rfl
@[simp] theorem fk83_6 : fieldOk Try.prog 83 6 = true := by kernel_rfl
@[simp] theorem ff83_6 : fieldOff Try.prog 83 6 = 6 := by kernel_rfl
@[simp] theorem ft83_6 : fieldTy Try.prog 83 6 = 3 := by kernel_rfl
@[simp] theorem bk83_6 : bOk Try.prog 83 6 = true := by kernel_rfl
@[simp] theorem bf83_6 : bOff Try.prog 83 6 = 6 := by kernel_rfl
@[simp] theorem bt83_6 : bTy Try.prog 83 6 = 3 := by kernel_rfl
@[simp] theorem fk83_7 : fieldOk Try.prog 83 7 = true := by kernel_rfl
@[simp] theorem ff83_7 : fieldOff Try.prog 83 7 = 7 := by kernel_rfl
@[simp] theorem ft83_7 : fieldTy Try.prog 83 7 = 3 := by kernel_rfl
@[simp] theorem bk83_7 : bOk Try.prog 83 7 = true := by kernel_rfl
@[simp] theorem bf83_7 : bOff Try.prog 83 7 = 7 := by kernel_rfl
@[simp] theorem bt83_7 : bTy Try.prog 83 7 = 3 := by kernel_rfl
@[simp] theorem fk83_8 : fieldOk Try.prog 83 8 = true := by kernel_rfl
@[simp] theorem ff83_8 : fieldOff Try.prog 83 8 = 8 := by kernel_rfl
@[simp] theorem ft83_8 : fieldTy Try.prog 83 8 = 3 := by kernel_rfl
@[simp] theorem bk83_8 : bOk Try.prog 83 8 = true := by kernel_rfl
@[simp] theorem bf83_8 : bOff Try.prog 83 8 = 8 := by kernel_rfl
@[simp] theorem bt83_8 : bTy Try.prog 83 8 = 3 := by kernel_rfl
@[simp] theorem ty85 : tyOk Try.prog 85 = true := by kernel_rfl
@[simp] theorem ce85 : Try.prog.cellsOf 85 = 16 := by kernel_rfl
@[simp] theorem ag85 : aggT Try.prog 85 = true := by kernel_rfl
@[simp] theorem by85 : Try.prog.bytesOf 85 = 192 := by kernel_rfl
@[simp] theorem un85 : (Try.prog.underlying 85).isSome = true := by kernel_rfl
@[simp] theorem zr85 : zrow Try.prog 12 85 = some [.d (.int .i64 0), .d (.int .i64 0), .d (.int .i64 0), .nil 1, .nil 1, .d (.int .i64 0), .d (.int .i64 0), .d (.int .i64 0), .d (.int .i64 0), .d (.int .i64 0), .d (.int .i64 0), .d (.int .i64 0), .d (.int .i64 0), .d (.int .i64 0), .nil 3, .nil 5] := by kernel_rfl
@[simp] theorem ze85 : zeroOk Try.prog 85 = true := by kernel_rfl
@[simp] theorem in85 : intT Try.prog 85 = none := by kernel_rfl
@[simp] theorem fk85_0 : fieldOk Try.prog 85 0 = true := by kernel_rfl
@[simp] theorem ff85_0 : fieldOff Try.prog 85 0 = 0 := by kernel_rfl
@[simp] theorem ft85_0 : fieldTy Try.prog 85 0 = 3 := by kernel_rfl
@[simp] theorem bk85_0 : bOk Try.prog 85 0 = true := by kernel_rfl
@[simp] theorem bf85_0 : bOff Try.prog 85 0 = 0 := by kernel_rfl
@[simp] theorem bt85_0 : bTy Try.prog 85 0 = 3 := by kernel_rfl
@[simp] theorem fk85_1 : fieldOk Try.prog 85 1 = true := by kernel_rfl
@[simp] theorem ff85_1 : fieldOff Try.prog 85 1 = 1 := by kernel_rfl
@[simp] theorem ft85_1 : fieldTy Try.prog 85 1 = 3 := by kernel_rfl
@[simp] theorem bk85_1 : bOk Try.prog 85 1 = true := by kernel_rfl
@[simp] theorem bf85_1 : bOff Try.prog 85 1 = 1 := by kernel_rfl
@[simp] theorem bt85_1 : bTy Try.prog 85 1 = 3 := by kernel_rfl
@[simp] theorem fk85_2 : fieldOk Try.prog 85 2 = true := by kernel_rfl
@[simp] theorem ff85_2 : fieldOff Try.prog 85 2 = 2 := by kernel_rfl
@[simp] theorem ft85_2 : fieldTy Try.prog 85 2 = 81 := by kernel_rfl
@[simp] theorem bk85_2 : bOk Try.prog 85 2 = true := by kernel_rfl
@[simp] theorem bf85_2 : bOff Try.prog 85 2 = 2 := by kernel_rfl
@[simp] theorem bt85_2 : bTy Try.prog 85 2 = 81 := by kernel_rfl
@[simp] theorem fk85_3 : fieldOk Try.prog 85 3 = true := by kernel_rfl
@[simp] theorem ff85_3 : fieldOff Try.prog 85 3 = 5 := by kernel_rfl
@[simp] theorem ft85_3 : fieldTy Try.prog 85 3 = 83 := by kernel_rfl
@[simp] theorem bk85_3 : bOk Try.prog 85 3 = true := by kernel_rfl
@[simp] theorem bf85_3 : bOff Try.prog 85 3 = 5 := by kernel_rfl
@[simp] theorem bt85_3 : bTy Try.prog 85 3 = 83 := by kernel_rfl
@[simp] theorem fk85_4 : fieldOk Try.prog 85 4 = true := by kernel_rfl
@[simp] theorem ff85_4 : fieldOff Try.prog 85 4 = 14 := by kernel_rfl
@[simp] theorem ft85_4 : fieldTy Try.prog 85 4 = 59 := by kernel_rfl
@[simp] theorem bk85_4 : bOk Try.prog 85 4 = true := by kernel_rfl
@[simp] theorem bf85_4 : bOff Try.prog 85 4 = 14 := by kernel_rfl
@[simp] theorem bt85_4 : bTy Try.prog 85 4 = 59 := by kernel_rfl
@[simp] theorem ty88 : tyOk Try.prog 88 = true := by kernel_rfl
@[simp] theorem ce88 : Try.prog.cellsOf 88 = 3 := by kernel_rfl
@[simp] theorem ag88 : aggT Try.prog 88 = true := by kernel_rfl
@[simp] theorem by88 : Try.prog.bytesOf 88 = 56 := by kernel_rfl
@[simp] theorem un88 : (Try.prog.underlying 88).isSome = true := by kernel_rfl
@[simp] theorem zr88 : zrow Try.prog 12 88 = some [.d (.int .i64 0), .nil 1, .nil 1] := by kernel_rfl
@[simp] theorem ze88 : zeroOk Try.prog 88 = true := by kernel_rfl
@[simp] theorem in88 : intT Try.prog 88 = none := by kernel_rfl
@[simp] theorem fk88_0 : fieldOk Try.prog 88 0 = true := by kernel_rfl
@[simp] theorem ff88_0 : fieldOff Try.prog 88 0 = 0 := by kernel_rfl
@[simp] theorem ft88_0 : fieldTy Try.prog 88 0 = 3 := by kernel_rfl
@[simp] theorem bk88_0 : bOk Try.prog 88 0 = true := by kernel_rfl
@[simp] theorem bf88_0 : bOff Try.prog 88 0 = 0 := by kernel_rfl
@[simp] theorem bt88_0 : bTy Try.prog 88 0 = 3 := by kernel_rfl
@[simp] theorem fk88_1 : fieldOk Try.prog 88 1 = true := by kernel_rfl
@[simp] theorem ff88_1 : fieldOff Try.prog 88 1 = 1 := by kernel_rfl
@[simp] theorem ft88_1 : fieldTy Try.prog 88 1 = 31 := by kernel_rfl
@[simp] theorem bk88_1 : bOk Try.prog 88 1 = true := by kernel_rfl
@[simp] theorem bf88_1 : bOff Try.prog 88 1 = 1 := by kernel_rfl
@[simp] theorem bt88_1 : bTy Try.prog 88 1 = 31 := by kernel_rfl
@[simp] theorem fk88_2 : fieldOk Try.prog 88 2 = true := by kernel_rfl
@[simp] theorem ff88_2 : fieldOff Try.prog 88 2 = 2 := by kernel_rfl
@[simp] theorem ft88_2 : fieldTy Try.prog 88 2 = 29 := by kernel_rfl
@[simp] theorem bk88_2 : bOk Try.prog 88 2 = true := by kernel_rfl
@[simp] theorem bf88_2 : bOff Try.prog 88 2 = 2 := by kernel_rfl
@[simp] theorem bt88_2 : bTy Try.prog 88 2 = 29 := by kernel_rfl
@[simp] theorem ty89 : tyOk Try.prog 89 = true := by kernel_rfl
@[simp] theorem ce89 : Try.prog.cellsOf 89 = 9 := by kernel_rfl
@[simp] theorem ag89 : aggT Try.prog 89 = true := by kernel_rfl
@[simp] theorem by89 : Try.prog.bytesOf 89 = 72 := by kernel_rfl
@[simp] theorem un89 : (Try.prog.underlying 89).isSome = true := by kernel_rfl
@[simp] theorem zr89 : zrow Try.prog 12 89 = some [.d (.int .i64 0), .d (.int .i64 0), .d (.int .i64 0), .d (.int .i64 0), .d (.int .i64 0), .d (.int .i64 0), .d (.int .i64 0), .d (.int .i64 0), .d (.int .i64 0)] := by kernel_rfl
@[simp] theorem ze89 : zeroOk Try.prog 89 = true := by kernel_rfl
@[simp] theorem in89 : intT Try.prog 89 = none := by kernel_rfl
@[simp] theorem eq89 : eqOk Try.prog 89 = true := by kernel_rfl
@[simp] theorem fs89 : fieldTs Try.prog 89 = [3, 3, 3, 3, 3, 3, 3, 3, 3] := by kernel_rfl
@[simp] theorem fk89_0 : fieldOk Try.prog 89 0 = true := by kernel_rfl
@[simp] theorem ff89_0 : fieldOff Try.prog 89 0 = 0 := by kernel_rfl
@[simp] theorem ft89_0 : fieldTy Try.prog 89 0 = 3 := by kernel_rfl
@[simp] theorem bk89_0 : bOk Try.prog 89 0 = true := by kernel_rfl
@[simp] theorem bf89_0 : bOff Try.prog 89 0 = 0 := by kernel_rfl
@[simp] theorem bt89_0 : bTy Try.prog 89 0 = 3 := by kernel_rfl
@[simp] theorem fk89_1 : fieldOk Try.prog 89 1 = true := by kernel_rfl
@[simp] theorem ff89_1 : fieldOff Try.prog 89 1 = 1 := by kernel_rfl
@[simp] theorem ft89_1 : fieldTy Try.prog 89 1 = 3 := by kernel_rfl
@[simp] theorem bk89_1 : bOk Try.prog 89 1 = true := by kernel_rfl
@[simp] theorem bf89_1 : bOff Try.prog 89 1 = 1 := by kernel_rfl
@[simp] theorem bt89_1 : bTy Try.prog 89 1 = 3 := by kernel_rfl
@[simp] theorem fk89_2 : fieldOk Try.prog 89 2 = true := by kernel_rfl
@[simp] theorem ff89_2 : fieldOff Try.prog 89 2 = 2 := by kernel_rfl
@[simp] theorem ft89_2 : fieldTy Try.prog 89 2 = 3 := by kernel_rfl
@[simp] theorem bk89_2 : bOk Try.prog 89 2 = true := by kernel_rfl
@[simp] theorem bf89_2 : bOff Try.prog 89 2 = 2 := by kernel_rfl
@[simp] theorem bt89_2 : bTy Try.prog 89 2 = 3 := by kernel_rfl
@[simp] theorem fk89_3 : fieldOk Try.prog 89 3 = true := by kernel_rfl
@[simp] theorem ff89_3 : fieldOff Try.prog 89 3 = 3 := by kernel_rfl
@[simp] theorem ft89_3 : fieldTy Try.prog 89 3 = 3 := by kernel_rfl
@[simp] theorem bk89_3 : bOk Try.prog 89 3 = true := by kernel_rfl
@[simp] theorem bf89_3 : bOff Try.prog 89 3 = 3 := by kernel_rfl
@[simp] theorem bt89_3 : bTy Try.prog 89 3 = 3 := by kernel_rfl
@[simp] theorem fk89_4 : fieldOk Try.prog 89 4 = true := by kernel_rfl
@[simp] theorem ff89_4 : fieldOff Try.prog 89 4 = 4 := by kernel_rfl
@[simp] theorem ft89_4 : fieldTy Try.prog 89 4 = 3 := by kernel_rfl
@[simp] theorem bk89_4 : bOk Try.prog 89 4 = true := by kernel_rfl
@[simp] theorem bf89_4 : bOff Try.prog 89 4 = 4 := by kernel_rfl
@[simp] theorem bt89_4 : bTy Try.prog 89 4 = 3 := by kernel_rfl
@[simp] theorem fk89_5 : fieldOk Try.prog 89 5 = true := by kernel_rfl
@[simp] theorem ff89_5 : fieldOff Try.prog 89 5 = 5 := by kernel_rfl
@[simp] theorem ft89_5 : fieldTy Try.prog 89 5 = 3 := by kernel_rfl
@[simp] theorem bk89_5 : bOk Try.prog 89 5 = true := by kernel_rfl
@[simp] theorem bf89_5 : bOff Try.prog 89 5 = 5 := by kernel_rfl
@[simp] theorem bt89_5 : bTy Try.prog 89 5 = 3 := by kernel_rfl
@[simp] theorem fk89_6 : fieldOk Try.prog 89 6 = true := by kernel_rfl
@[simp] theorem ff89_6 : fieldOff Try.prog 89 6 = 6 := by kernel_rfl
@[simp] theorem ft89_6 : fieldTy Try.prog 89 6 = 3 := by kernel_rfl
@[simp] theorem bk89_6 : bOk Try.prog 89 6 = true := by kernel_rfl
@[simp] theorem bf89_6 : bOff Try.prog 89 6 = 6 := by kernel_rfl
@[simp] theorem bt89_6 : bTy Try.prog 89 6 = 3 := by kernel_rfl
@[simp] theorem fk89_7 : fieldOk Try.prog 89 7 = true := by kernel_rfl
@[simp] theorem ff89_7 : fieldOff Try.prog 89 7 = 7 := by kernel_rfl
@[simp] theorem ft89_7 : fieldTy Try.prog 89 7 = 3 := by kernel_rfl
@[simp] theorem bk89_7 : bOk Try.prog 89 7 = true := by kernel_rfl
@[simp] theorem bf89_7 : bOff Try.prog 89 7 = 7 := by kernel_rfl
@[simp] theorem bt89_7 : bTy Try.prog 89 7 = 3 := by kernel_rfl
@[simp] theorem fk89_8 : fieldOk Try.prog 89 8 = true := by kernel_rfl
@[simp] theorem ff89_8 : fieldOff Try.prog 89 8 = 8 := by kernel_rfl
@[simp] theorem ft89_8 : fieldTy Try.prog 89 8 = 3 := by kernel_rfl
@[simp] theorem bk89_8 : bOk Try.prog 89 8 = true := by kernel_rfl
@[simp] theorem bf89_8 : bOff Try.prog 89 8 = 8 := by kernel_rfl
@[simp] theorem bt89_8 : bTy Try.prog 89 8 = 3 := by kernel_rfl
@[simp] theorem ty91 : tyOk Try.prog 91 = true := by kernel_rfl
@[simp] theorem ce91 : Try.prog.cellsOf 91 = 16 := by kernel_rfl
@[simp] theorem ag91 : aggT Try.prog 91 = true := by kernel_rfl
@[simp] theorem by91 : Try.prog.bytesOf 91 = 192 := by kernel_rfl
@[simp] theorem un91 : (Try.prog.underlying 91).isSome = true := by kernel_rfl
@[simp] theorem zr91 : zrow Try.prog 12 91 = some [.d (.int .i64 0), .d (.int .i64 0), .d (.int .i64 0), .nil 1, .nil 1, .d (.int .i64 0), .d (.int .i64 0), .d (.int .i64 0), .d (.int .i64 0), .d (.int .i64 0), .d (.int .i64 0), .d (.int .i64 0), .d (.int .i64 0), .d (.int .i64 0), .nil 3, .nil 5] := by kernel_rfl
@[simp] theorem ze91 : zeroOk Try.prog 91 = true := by kernel_rfl
@[simp] theorem in91 : intT Try.prog 91 = none := by kernel_rfl
@[simp] theorem fk91_0 : fieldOk Try.prog 91 0 = true := by kernel_rfl
@[simp] theorem ff91_0 : fieldOff Try.prog 91 0 = 0 := by kernel_rfl
@[simp] theorem ft91_0 : fieldTy Try.prog 91 0 = 3 := by kernel_rfl
@[simp] theorem bk91_0 : bOk Try.prog 91 0 = true := by kernel_rfl
@[simp] theorem bf91_0 : bOff Try.prog 91 0 = 0 := by kernel_rfl
@[simp] theorem bt91_0 : bTy Try.prog 91 0 = 3 := by kernel_rfl
@[simp] theorem fk91_1 : fieldOk Try.prog 91 1 = true := by kernel_rfl
@[simp] theorem ff91_1 : fieldOff Try.prog 91 1 = 1 := by kernel_rfl
@[simp] theorem ft91_1 : fieldTy Try.prog 91 1 = 3 := by kernel_rfl
@[simp] theorem bk91_1 : bOk Try.prog 91 1 = true := by kernel_rfl
@[simp] theorem bf91_1 : bOff Try.prog 91 1 = 1 := by kernel_rfl
@[simp] theorem bt91_1 : bTy Try.prog 91 1 = 3 := by kernel_rfl
@[simp] theorem fk91_2 : fieldOk Try.prog 91 2 = true := by kernel_rfl
@[simp] theorem ff91_2 : fieldOff Try.prog 91 2 = 2 := by kernel_rfl
@[simp] theorem ft91_2 : fieldTy Try.prog 91 2 = 88 := by kernel_rfl
@[simp] theorem bk91_2 : bOk Try.prog 91 2 = true := by kernel_rfl
@[simp] theorem bf91_2 : bOff Try.prog 91 2 = 2 := by kernel_rfl
@[simp] theorem bt91_2 : bTy Try.prog 91 2 = 88 := by kernel_rfl
@[simp] theorem fk91_3 : fieldOk Try.prog 91 3 = true := by kernel_rfl
@[simp] theorem ff91_3 : fieldOff Try.prog 91 3 = 5 := by kernel_rfl
@[simp] theorem ft91_3 : fieldTy Try.prog 91 3 = 89 := by kernel_rfl
@[simp] theorem bk91_3 : bOk Try.prog 91 3 = true := by kernel_rfl
@[simp] theorem bf91_3 : bOff Try.prog 91 3 = 5 := by kernel_rfl
@[simp] theorem bt91_3 : bTy Try.prog 91 3 = 89 := by kernel_rfl
@[simp] theorem fk91_4 : fieldOk Try.prog 91 4 = true := by kernel_rfl
@[simp] theorem ff91_4 : fieldOff Try.prog 91 4 = 14 := by kernel_rfl
@[simp] theorem ft91_4 : fieldTy Try.prog 91 4 = 65 := by kernel_rfl
@[simp] theorem bk91_4 : bOk Try.prog 91 4 = true := by kernel_rfl
@[simp] theorem bf91_4 : bOff Try.prog 91 4 = 14 := by kernel_rfl
@[simp] theorem bt91_4 : bTy Try.prog 91 4 = 65 := by kernel_rfl
@[simp] theorem ty99 : tyOk Try.prog 99 = true := by kernel_rfl
@[simp] theorem ce99 : Try.prog.cellsOf 99 = 1 := by kernel_rfl
@[simp] theorem ag99 : aggT Try.prog 99 = false := by kernel_rfl
@[simp] theorem by99 : Try.prog.bytesOf 99 = 24 := by kernel_rfl
@[simp] theorem un99 : (Try.prog.underlying 99).isSome = true := by kernel_rfl
@[simp] theorem zr99 : zrow Try.prog 12 99 = some [.nil 7] := by kernel_rfl
@[simp] theorem ze99 : zeroOk Try.prog 99 = true := by kernel_rfl
@[simp] theorem in99 : intT Try.prog 99 = none := by kernel_rfl
@[simp] theorem sl99 : sliceT Try.prog 99 = true := by kernel_rfl
@[simp] theorem el99 : elemT Try.prog 99 = 218 := by kernel_rfl
@[simp] theorem bs99 : byteT Try.prog 99 = false := by kernel_rfl
@[simp] theorem st99 : strT Try.prog 99 = false := by kernel_rfl
@[simp] theorem ty100 : tyOk Try.prog 100 = true := by kernel_rfl
@[simp] theorem ce100 : Try.prog.cellsOf 100 = 1 := by kernel_rfl
@[simp] theorem ag100 : aggT Try.prog 100 = false := by kernel_rfl
@[simp] theorem by100 : Try.prog.bytesOf 100 = 24 := by kernel_rfl
@[simp] theorem un100 : (Try.prog.underlying 100).isSome = true := by kernel_rfl
@[simp] theorem zr100 : zrow Try.prog 12 100 = some [.nil 2] := by kernel_rfl
@[simp] theorem ze100 : zeroOk Try.prog 100 = true := by kernel_rfl
@[simp] theorem in100 : intT Try.prog 100 = none := by kernel_rfl
@[simp] theorem sl100 : sliceT Try.prog 100 = true := by kernel_rfl
@[simp] theorem el100 : elemT Try.prog 100 = 71 := by kernel_rfl
@[simp] theorem bs100 : byteT Try.prog 100 = false := by kernel_rfl
@[simp] theorem st100 : strT Try.prog 100 = false := by kernel_rfl
@[simp] theorem ty102 : tyOk Try.prog 102 = true := by kernel_rfl
@[simp] theorem ce102 : Try.prog.cellsOf 102 = 12 := by kernel_rfl
@[simp] theorem ag102 : aggT Try.prog 102 = true := by kernel_rfl
@[simp] theorem by102 : Try.prog.bytesOf 102 = 240 := by kernel_rfl
@[simp] theorem un102 : (Try.prog.underlying 102).isSome = true := by kernel_rfl
@[simp] theorem zr102 : zrow Try.prog 12 102 = some [.nil 5, .nil 3, .nil 4, .d (.int .i64 0), .d (.int .i64 0), .nil 7, .nil 1, .nil 2, .nil 1, .nil 1, .d (.int .i64 0), .nil 1] := by kernel_rfl
@[simp] theorem ze102 : zeroOk Try.prog 102 = true := by kernel_rfl
@[simp] theorem in102 : intT Try.prog 102 = none := by kernel_rfl
@[simp] theorem fk102_0 : fieldOk Try.prog 102 0 = true := by kernel_rfl
@[simp] theorem ff102_0 : fieldOff Try.prog 102 0 = 0 := by kernel_rfl
@[simp] theorem ft102_0 : fieldTy Try.prog 102 0 = 45 := by kernel_rfl
@[simp] theorem bk102_0 : bOk Try.prog 102 0 = true := by kernel_rfl
@[simp] theorem bf102_0 : bOff Try.prog 102 0 = 0 := by kernel_rfl
@[simp] theorem bt102_0 : bTy Try.prog 102 0 = 45 := by kernel_rfl
@[simp] theorem fk102_1 : fieldOk Try.prog 102 1 = true := by kernel_rfl
@[simp] theorem ff102_1 : fieldOff Try.prog 102 1 = 5 := by kernel_rfl
@[simp] theorem ft102_1 : fieldTy Try.prog 102 1 = 99 := by kernel_rfl
@[simp] theorem bk102_1 : bOk Try.prog 102 1 = true := by kernel_rfl
@[simp] theorem bf102_1 : bOff Try.prog 102 1 = 5 := by kernel_rfl
@[simp] theorem bt102_1 : bTy Try.prog 102 1 = 99 := by kernel_rfl
@[simp] theorem fk102_2 : fieldOk Try.prog 102 2 = true := by kernel_rfl
@[simp] theorem ff102_2 : fieldOff Try.prog 102 2 = 6 := by kernel_rfl
@[simp] theorem ft102_2 : fieldTy Try.prog 102 2 = 29 := by kernel_rfl
@[simp] theorem bk102_2 : bOk Try.prog 102 2 = true := by kernel_rfl
@[simp] theorem bf102_2 : bOff Try.prog 102 2 = 6 := by kernel_rfl
@[simp] theorem bt102_2 : bTy Try.prog 102 2 = 29 := by kernel_rfl
@[simp] theorem fk102_3 : fieldOk Try.prog 102 3 = true := by kernel_rfl
@[simp] theorem ff102_3 : fieldOff Try.prog 102 3 = 7 := by kernel_rfl
@[simp] theorem ft102_3 : fieldTy Try.prog 102 3 = 100 := by kernel_rfl
@[simp] theorem bk102_3 : bOk Try.prog 102 3 = true := by kernel_rfl
@[simp] theorem bf102_3 : bOff Try.prog 102 3 = 7 := by kernel_rfl
@[simp] theorem bt102_3 : bTy Try.prog 102 3 = 100 := by kernel_rfl
@[simp] theorem fk102_4 : fieldOk Try.prog 102 4 = true := by kernel_rfl
@[simp] theorem ff102_4 : fieldOff Try.prog 102 4 = 8 := by kernel_rfl
@[simp] theorem ft102_4 : fieldTy Try.prog 102 4 = 29 := by kernel_rfl
@[simp] theorem bk102_4 : bOk Try.prog 102 4 = true := by kernel_rfl
@[simp] theorem bf102_4 : bOff Try.prog 102 4 = 8 := by kernel_rfl
@[simp] theorem bt102_4 : bTy Try.prog 102 4 = 29 := by kernel_rfl
@[simp] theorem fk102_5 : fieldOk Try.prog 102 5 = true := by kernel_rfl
@[simp] theorem ff102_5 : fieldOff Try.prog 102 5 = 9 := by kernel_rfl
@[simp] theorem ft102_5 : fieldTy Try.prog 102 5 = 29 := by kernel_rfl
@[simp] theorem bk102_5 : bOk Try.prog 102 5 = true := by kernel_rfl
@[simp] theorem bf102_5 : bOff Try.prog 102 5 = 9 := by kernel_rfl
@[simp] theorem bt102_5 : bTy Try.prog 102 5 = 29 := by kernel_rfl
@[simp] theorem fk102_6 : fieldOk Try.prog 102 6 = true := by kernel_rfl
@[simp] theorem ff102_6 : fieldOff Try.prog 102 6 = 10 := by kernel_rfl
@[simp] theorem ft102_6 : fieldTy Try.prog 102 6 = 3 := by kernel_rfl
@[simp] theorem bk102_6 : bOk Try.prog 102 6 = true := by kernel_rfl
@[simp] theorem bf102_6 : bOff Try.prog 102 6 = 10 := by kernel_rfl
@[simp] theorem bt102_6 : bTy Try.prog 102 6 = 3 := by kernel_rfl
@[simp] theorem fk102_7 : fieldOk Try.prog 102 7 = true := by kernel_rfl
@[simp] theorem ff102_7 : fieldOff Try.prog 102 7 = 11 := by kernel_rfl
@[simp] theorem ft102_7 : fieldTy Try.prog 102 7 = 29 := by kernel_rfl
@[simp] theorem bk102_7 : bOk Try.prog 102 7 = true := by kernel_rfl
@[simp] theorem bf102_7 : bOff Try.prog 102 7 = 11 := by kernel_rfl
@[simp] theorem bt102_7 : bTy Try.prog 102 7 = 29 := by kernel_rfl
@[simp] theorem ty106 : tyOk Try.prog 106 = true := by kernel_rfl
@[simp] theorem ce106 : Try.prog.cellsOf 106 = 1 := by kernel_rfl
@[simp] theorem ag106 : aggT Try.prog 106 = false := by kernel_rfl
@[simp] theorem by106 : Try.prog.bytesOf 106 = 24 := by kernel_rfl
@[simp] theorem un106 : (Try.prog.underlying 106).isSome = true := by kernel_rfl
@[simp] theorem zr106 : zrow Try.prog 12 106 = some [.nil 7] := by kernel_rfl
@[simp] theorem ze106 : zeroOk Try.prog 106 = true := by kernel_rfl
@[simp] theorem in106 : intT Try.prog 106 = none := by kernel_rfl
@[simp] theorem sl106 : sliceT Try.prog 106 = true := by kernel_rfl
@[simp] theorem el106 : elemT Try.prog 106 = 188 := by kernel_rfl
@[simp] theorem bs106 : byteT Try.prog 106 = false := by kernel_rfl
@[simp] theorem st106 : strT Try.prog 106 = false := by kernel_rfl
@[simp] theorem ty107 : tyOk Try.prog 107 = true := by kernel_rfl
@[simp] theorem ce107 : Try.prog.cellsOf 107 = 1 := by kernel_rfl
@[simp] theorem ag107 : aggT Try.prog 107 = false := by kernel_rfl
@[simp] theorem by107 : Try.prog.bytesOf 107 = 24 := by kernel_rfl
@[simp] theorem un107 : (Try.prog.underlying 107).isSome = true := by kernel_rfl
@[simp] theorem zr107 : zrow Try.prog 12 107 = some [.nil 2] := by kernel_rfl
@[simp] theorem ze107 : zeroOk Try.prog 107 = true := by kernel_rfl
@[simp] theorem in107 : intT Try.prog 107 = none := by kernel_rfl
@[simp] theorem sl107 : sliceT Try.prog 107 = true := by kernel_rfl
@[simp] theorem el107 : elemT Try.prog 107 = 76 := by kernel_rfl
@[simp] theorem bs107 : byteT Try.prog 107 = false := by kernel_rfl
@[simp] theorem st107 : strT Try.prog 107 = false := by kernel_rfl
@[simp] theorem ty109 : tyOk Try.prog 109 = true := by kernel_rfl
@[simp] theorem ce109 : Try.prog.cellsOf 109 = 12 := by kernel_rfl
@[simp] theorem ag109 : aggT Try.prog 109 = true := by kernel_rfl
@[simp] theorem by109 : Try.prog.bytesOf 109 = 240 := by kernel_rfl
@[simp] theorem un109 : (Try.prog.underlying 109).isSome = true := by kernel_rfl
@[simp] theorem zr109 : zrow Try.prog 12 109 = some [.nil 5, .nil 3, .nil 4, .d (.int .i64 0), .d (.int .i64 0), .nil 7, .nil 1, .nil 2, .nil 1, .nil 1, .d (.int .i64 0), .nil 1] := by kernel_rfl
@[simp] theorem ze109 : zeroOk Try.prog 109 = true := by kernel_rfl
@[simp] theorem in109 : intT Try.prog 109 = none := by kernel_rfl
@[simp] theorem fk109_0 : fieldOk Try.prog 109 0 = true := by kernel_rfl
@[simp] theorem ff109_0 : fieldOff Try.prog 109 0 = 0 := by kernel_rfl
@[simp] theorem ft109_0 : fieldTy Try.prog 109 0 = 52 := by kernel_rfl
@[simp] theorem bk109_0 : bOk Try.prog 109 0 = true := by kernel_rfl
@[simp] theorem bf109_0 : bOff Try.prog 109 0 = 0 := by kernel_rfl
@[simp] theorem bt109_0 : bTy Try.prog 109 0 = 52 := by kernel_rfl
@[simp] theorem fk109_1 : fieldOk Try.prog 109 1 = true := by kernel_rfl
@[simp] theorem ff109_1 : fieldOff Try.prog 109 1 = 5 := by kernel_rfl
@[simp] theorem ft109_1 : fieldTy Try.prog 109 1 = 106 := by kernel_rfl
@[simp] theorem bk109_1 : bOk Try.prog 109 1 = true := by kernel_rfl
@[simp] theorem bf109_1 : bOff Try.prog 109 1 = 5 := by kernel_rfl
@[simp] theorem bt109_1 : bTy Try.prog 109 1 = 106 := by kernel_rfl
@[simp] theorem fk109_2 : fieldOk Try.prog 109 2 = true := by kernel_rfl
@[simp] theorem ff109_2 : fieldOff Try.prog 109 2 = 6 := by kernel_rfl
@[simp] theorem ft109_2 : fieldTy Try.prog 109 2 = 29 := by kernel_rfl
@[simp] theorem bk109_2 : bOk Try.prog 109 2 = true := by kernel_rfl
@[simp] theorem bf109_2 : bOff Try.prog 109 2 = 6 := by kernel_rfl
@[simp] theorem bt109_2 : bTy Try.prog 109 2 = 29 := by kernel_rfl
@[simp] theorem fk109_3 : fieldOk Try.prog 109 3 = true := by kernel_rfl
@[simp] theorem ff109_3 : fieldOff Try.prog 109 3 = 7 := by kernel_rfl
@[simp] theorem ft109_3 : fieldTy Try.prog 109 3 = 107 := by kernel_rfl
@[simp] theorem bk109_3 : bOk Try.prog 109 3 = true := by kernel_rfl
@[simp] theorem bf109_3 : bOff Try.prog 109 3 = 7 := by kernel_rfl
@[simp] theorem bt109_3 : bTy Try.prog 109 3 = 107 := by kernel_rfl
@[simp] theorem fk109_4 : fieldOk Try.prog 109 4 = true := by kernel_rfl
@[simp] theorem ff109_4 : fieldOff Try.prog 109 4 = 8 := by kernel_rfl
@[simp] theorem ft109_4 : fieldTy Try.prog 109 4 = 29 := by kernel_rfl
@[simp] theorem bk109_4 : bOk Try.prog 109 4 = true := by kernel_rfl
@[simp] theorem bf109_4 : bOff Try.prog 109 4 = 8 := by kernel_rfl
@[simp] theorem bt109_4 : bTy Try.prog 109 4 = 29 := by kernel_rfl
@[simp] theorem fk109_5 : fieldOk Try.prog 109 5 = true := by kernel_rfl
@[simp] theorem ff109_5 : fieldOff Try.prog 109 5 = 9 := by kernel_rfl
@[simp] theorem ft109_5 : fieldTy Try.prog 109 5 = 29 := by kernel_rfl
@[simp] theorem bk109_5 : bOk Try.prog 109 5 = true := by kernel_rfl
@[simp] theorem bf109_5 : bOff Try.prog 109 5 = 9 := by kernel_rfl
@[simp] theorem bt109_5 : bTy Try.prog 109 5 = 29 := by kernel_rfl
@[simp] theorem fk109_6 : fieldOk Try.prog 109 6 = true := by kernel_rfl
@[simp] theorem ff109_6 : fieldOff Try.prog 109 6 = 10 := by kernel_rfl
@[simp] theorem ft109_6 : fieldTy Try.prog 109 6 = 3 := by kernel_rfl
@[simp] theorem bk109_6 : bOk Try.prog 109 6 = true := by kernel_rfl
@[simp] theorem bf109_6 : bOff Try.prog 109 6 = 10 := by kernel_rfl
@[simp] theorem bt109_6 : bTy Try.prog 109 6 = 3 := by kernel_rfl
@[simp] theorem fk109_7 : fieldOk Try.prog 109 7 = true := by kernel_rfl
@[simp] theorem ff109_7 : fieldOff Try.prog 109 7 = 11 := by kernel_rfl
@[simp] theorem ft109_7 : fieldTy Try.prog 109 7 = 29 := by kernel_rfl
@[simp] theorem bk109_7 : bOk Try.prog 109 7 = true := by kernel_rfl
@[simp] theorem bf109_7 : bOff Try.prog 109 7 = 11 := by kernel_rfl
@[simp] theorem bt109_7 : bTy Try.prog 109 7 = 29 := by kernel_rfl
@[simp] theorem ty122 : tyOk Try.prog 122 = true := by kernel_rfl
@[simp] theorem ce122 : Try.prog.cellsOf 122 = 9 := by kernel_rfl
@[simp] theorem ag122 : aggT Try.prog 122 = true := by kernel_rfl
@[simp] theorem by122 : Try.prog.bytesOf 122 = 120 := by kernel_rfl
@[simp] theorem un122 : (Try.prog.underlying 122).isSome = true := by kernel_rfl
@[simp] theorem zr122 : zrow Try.prog 12 122 = some [.d (.int .i64 0), .d (.int .i64 0), .d (.int .i64 0), .d (.int .i64 0), .d (.int .i64 0), .d (.int .i64 0), .nil 1, .nil 1, .nil 1] := by kernel_rfl
@[simp] theorem ze122 : zeroOk Try.prog 122 = true := by kernel_rfl
@[simp] theorem in122 : intT Try.prog 122 = none := by kernel_rfl
@[simp] theorem fk122_0 : fieldOk Try.prog 122 0 = true := by kernel_rfl
@[simp] theorem ff122_0 : fieldOff Try.prog 122 0 = 0 := by kernel_rfl
@[simp] theorem ft122_0 : fieldTy Try.prog 122 0 = 3 := by kernel_rfl
@[simp] theorem bk122_0 : bOk Try.prog 122 0 = true := by kernel_rfl
@[simp] theorem bf122_0 : bOff Try.prog 122 0 = 0 := by kernel_rfl
@[simp] theorem bt122_0 : bTy Try.prog 122 0 = 3 := by kernel_rfl
@[simp] theorem fk122_1 : fieldOk Try.prog 122 1 = true := by kernel_rfl
@[simp] theorem ff122_1 : fieldOff Try.prog 122 1 = 1 := by kernel_rfl
@[simp] theorem ft122_1 : fieldTy Try.prog 122 1 = 3 := by kernel_rfl
@[simp] theorem bk122_1 : bOk Try.prog 122 1 = true := by kernel_rfl
@[simp] theorem bf122_1 : bOff Try.prog 122 1 = 1 := by kernel_rfl
@[simp] theorem bt122_1 : bTy Try.prog 122 1 = 3 := by kernel_rfl
@[simp] theorem fk122_2 : fieldOk Try.prog 122 2 = true := by kernel_rfl
@[simp] theorem ff122_2 : fieldOff Try.prog 122 2 = 2 := by kernel_rfl
@[simp] theorem ft122_2 : fieldTy Try.prog 122 2 = 3 := by kernel_rfl
@[simp] theorem bk122_2 : bOk Try.prog 122 2 = true := by kernel_rfl
@[simp] theorem bf122_2 : bOff Try.prog 122 2 = 2 := by kernel_rfl
@[simp] theorem bt122_2 : bTy Try.prog 122 2 = 3 := by kernel_rfl
@[simp] theorem fk122_3 : fieldOk Try.prog 122 3 = true := by kernel_rfl
@[simp] theorem ff122_3 : fieldOff Try.prog 122 3 = 3 := by kernel_rfl
@[simp] theorem ft122_3 : fieldTy Try.prog 122 3 = 3 := by kernel_rfl
@[simp] theorem bk122_3 : bOk Try.prog 122 3 = true := by kernel_rfl
@[simp] theorem bf122_3 : bOff Try.prog 122 3 = 3 := by kernel_rfl
@[simp] theorem bt122_3 : bTy Try.prog 122 3 = 3 := by kernel_rfl
@[simp] theorem fk122_4 : fieldOk Try.prog 122 4 = true := by kernel_rfl
@[simp] theorem ff122_4 : fieldOff Try.prog 122 4 = 4 := by kernel_rfl
@[simp] theorem ft122_4 : fieldTy Try.prog 122 4 = 3 := by kernel_rfl
@[simp] theorem bk122_4 : bOk Try.prog 122 4 = true := by kernel_rfl
@[simp] theorem bf122_4 : bOff Try.prog 122 4 = 4 := by kernel_rfl
@[simp] theorem bt122_4 : bTy Try.prog 122 4 = 3 := by kernel_rfl
@[simp] theorem fk122_5 : fieldOk Try.prog 122 5 = true := by kernel_rfl
@[simp] theorem ff122_5 : fieldOff Try.prog 122 5 = 5 := by kernel_rfl
@[simp] theorem ft122_5 : fieldTy Try.prog 122 5 = 81 := by kernel_rfl
@[simp] theorem bk122_5 : bOk Try.prog 122 5 = true := by kernel_rfl
@[simp] theorem bf122_5 : bOff Try.prog 122 5 = 5 := by kernel_rfl
@[simp] theorem bt122_5 : bTy Try.prog 122 5 = 81 := by kernel_rfl
@[simp] theorem fk122_6 : fieldOk Try.prog 122 6 = true := by kernel_rfl
@[simp] theorem ff122_6 : fieldOff Try.prog 122 6 = 8 := by kernel_rfl
@[simp] theorem ft122_6 : fieldTy Try.prog 122 6 = 29 := by kernel_rfl
@[simp] theorem bk122_6 : bOk Try.prog 122 6 = true := by kernel_rfl
@[simp] theorem bf122_6 : bOff Try.prog 122 6 = 8 := by kernel_rfl
@[simp] theorem bt122_6 : bTy Try.prog 122 6 = 29 := by kernel_rfl
@[simp] theorem ty125 : tyOk Try.prog 125 = true := by kernel_rfl
@[simp] theorem ce125 : Try.prog.cellsOf 125 = 9 := by kernel_rfl
@[simp] theorem ag125 : aggT Try.prog 125 = true := by kernel_rfl
@[simp] theorem by125 : Try.prog.bytesOf 125 = 120 := by kernel_rfl
@[simp] theorem un125 : (Try.prog.underlying 125).isSome = true := by kernel_rfl
@[simp] theorem zr125 : zrow Try.prog 12 125 = some [.d (.int .i64 0), .d (.int .i64 0), .d (.int .i64 0), .d (.int .i64 0), .d (.int .i64 0), .d (.int .i64 0), .nil 1, .nil 1, .nil 1] := by kernel_rfl
@[simp] theorem ze125 : zeroOk Try.prog 125 = true := by kernel_rfl
@[simp] theorem in125 : intT Try.prog 125 = none := by kernel_rfl
@[simp] theorem fk125_0 : fieldOk Try.prog 125 0 = true := by kernel_rfl
@[simp] theorem ff125_0 : fieldOff Try.prog 125 0 = 0 := by kernel_rfl
@[simp] theorem ft125_0 : fieldTy Try.prog 125 0 = 3 := by kernel_rfl
@[simp] theorem bk125_0 : bOk Try.prog 125 0 = true := by kernel_rfl
@[simp] theorem bf125_0 : bOff Try.prog 125 0 = 0 := by kernel_rfl
@[simp] theorem bt125_0 : bTy Try.prog 125 0 = 3 := by kernel_rfl
@[simp] theorem fk125_1 : fieldOk Try.prog 125 1 = true := by kernel_rfl
@[simp] theorem ff125_1 : fieldOff Try.prog 125 1 = 1 := by kernel_rfl
@[simp] theorem ft125_1 : fieldTy Try.prog 125 1 = 3 := by kernel_rfl
@[simp] theorem bk125_1 : bOk Try.prog 125 1 = true := by kernel_rfl
@[simp] theorem bf125_1 : bOff Try.prog 125 1 = 1 := by kernel_rfl
@[simp] theorem bt125_1 : bTy Try.prog 125 1 = 3 := by kernel_rfl
@[simp] theorem fk125_2 : fieldOk Try.prog 125 2 = true := by kernel_rfl
@[simp] theorem ff125_2 : fieldOff Try.prog 125 2 = 2 := by kernel_rfl
@[simp] theorem ft125_2 : fieldTy Try.prog 125 2 = 3 := by kernel_rfl
@[simp] theorem bk125_2 : bOk Try.prog 125 2 = true := by kernel_rfl
@[simp] theorem bf125_2 : bOff Try.prog 125 2 = 2 := by kernel_rfl
@[simp] theorem bt125_2 : bTy Try.prog 125 2 = 3 := by kernel_rfl
@[simp] theorem fk125_3 : fieldOk Try.prog 125 3 = true := by kernel_rfl
@[simp] theorem ff125_3 : fieldOff Try.prog 125 3 = 3 := by kernel_rfl
@[simp] theorem ft125_3 : fieldTy Try.prog 125 3 = 3 := by kernel_rfl
@[simp] theorem bk125_3 : bOk Try.prog 125 3 = true := by kernel_rfl
@[simp] theorem bf125_3 : bOff Try.prog 125 3 = 3 := by kernel_rfl
@[simp] theorem bt125_3 : bTy Try.prog 125 3 = 3 := by kernel_rfl
@[simp] theorem fk125_4 : fieldOk Try.prog 125 4 = true := by kernel_rfl
@[simp] theorem ff125_4 : fieldOff Try.prog 125 4 = 4 := by kernel_rfl
@[simp] theorem ft125_4 : fieldTy Try.prog 125 4 = 3 := by kernel_rfl
@[simp] theorem bk125_4 : bOk Try.prog 125 4 = true := by kernel_rfl
@[simp] theorem bf125_4 : bOff Try.prog 125 4 = 4 := by kernel_rfl
@[simp] theorem bt125_4 : bTy Try.prog 125 4 = 3 := by kernel_rfl
@[simp] theorem fk125_5 : fieldOk Try.prog 125 5 = true := by kernel_rfl
@[simp] theorem ff125_5 : fieldOff Try.prog 125 5 = 5 := by kernel_rfl
@[simp] theorem ft125_5 : fieldTy Try.prog 125 5 = 88 := by kernel_rfl
@[simp] theorem bk125_5 : bOk Try.prog 125 5 = true := by kernel_rfl
@[simp] theorem bf125_5 : bOff Try.prog 125 5 = 5 := by kernel_rfl
@[simp] theorem bt125_5 : bTy Try.prog 125 5 = 88 := by kernel_rfl
@[simp] theorem fk125_6 : fieldOk Try.prog 125 6 = true := by kernel_rfl
@[simp] theorem ff125_6 : fieldOff Try.prog 125 6 = 8 := by kernel_rfl
@[simp] theorem ft125_6 : fieldTy Try.prog 125 6 = 29 := by kernel_rfl
@[simp] theorem bk125_6 : bOk Try.prog 125 6 = true := by kernel_rfl
@[simp] theorem bf125_6 : bOff Try.prog 125 6 = 8 := by kernel_rfl
@[simp] theorem bt125_6 : bTy Try.prog 125 6 = 29 := by kernel_rfl
@[simp] theorem ty145 : tyOk Try.prog 145 = true := by kernel_rfl
@[simp] theorem ce145 : Try.prog.cellsOf 145 = 5 := by kernel_rfl
@[simp] theorem ag145 : aggT Try.prog 145 = true := by kernel_rfl
@[simp] theorem by145 : Try.prog.bytesOf 145 = 40 := by kernel_rfl
@[simp] theorem un145 : (Try.prog.underlying 145).isSome = true := by kernel_rfl
@[simp] theorem zr145 : zrow Try.prog 12 145 = some [.d (.int .i64 0), .d (.int .i64 0), .d (.int .i64 0), .d (.int .i64 0), .d (.int .i64 0)] := by kernel_rfl
@[simp] theorem ze145 : zeroOk Try.prog 145 = true := by kernel_rfl
@[simp] theorem in145 : intT Try.prog 145 = none := by kernel_rfl
@[simp] theorem eq145 : eqOk Try.prog 145 = true := by kernel_rfl
@[simp] theorem fs145 : fieldTs Try.prog 145 = [3, 3, 3, 3, 3] := by kernel_rfl
@[simp] theorem fk145_0 : fieldOk Try.prog 145 0 = true := by kernel_rfl
@[simp] theorem ff145_0 : fieldOff Try.prog 145 0 = 0 := by kernel_rfl
@[simp] theorem ft145_0 : fieldTy Try.prog 145 0 = 3 := by kernel_rfl
@[simp] theorem bk145_0 : bOk Try.prog 145 0 = true := by kernel_rfl
@[simp] theorem bf145_0 : bOff Try.prog 145 0 = 0 := by kernel_rfl
@[simp] theorem bt145_0 : bTy Try.prog 145 0 = 3 := by kernel_rfl
@[simp] theorem fk145_1 : fieldOk Try.prog 145 1 = true := by kernel_rfl
@[simp] theorem ff145_1 : fieldOff Try.prog 145 1 = 1 := by kernel_rfl
@[simp] theorem ft145_1 : fieldTy Try.prog 145 1 = 3 := by kernel_rfl
@[simp] theorem bk145_1 : bOk Try.prog 145 1 = true := by kernel_rfl
@[simp] theorem bf145_1 : bOff Try.prog 145 1 = 1 := by kernel_rfl
@[simp] theorem bt145_1 : bTy Try.prog 145 1 = 3 := by kernel_rfl
@[simp] theorem fk145_2 : fieldOk Try.prog 145 2 = true := by kernel_rfl
@[simp] theorem ff145_2 : fieldOff Try.prog 145 2 = 2 := by kernel_rfl
@[simp] theorem ft145_2 : fieldTy Try.prog 145 2 = 3 := by kernel_rfl
@[simp] theorem bk145_2 : bOk Try.prog 145 2 = true := by kernel_rfl
@[simp] theorem bf145_2 : bOff Try.prog 145 2 = 2 := by kernel_rfl
@[simp] theorem bt145_2 : bTy Try.prog 145 2 = 3 := by kernel_rfl
@[simp] theorem fk145_3 : fieldOk Try.prog 145 3 = true := by kernel_rfl
@[simp] theorem ff145_3 : fieldOff Try.prog 145 3 = 3 := by kernel_rfl
@[simp] theorem ft145_3 : fieldTy Try.prog 145 3 = 3 := by kernel_rfl
@[simp] theorem bk145_3 : bOk Try.prog 145 3 = true := by kernel_rfl
@[simp] theorem bf145_3 : bOff Try.prog 145 3 = 3 := by kernel_rfl
@[simp] theorem bt145_3 : bTy Try.prog 145 3 = 3 := by kernel_rfl
@[simp] theorem fk145_4 : fieldOk Try.prog 145 4 = true := by kernel_rfl
@[simp] theorem ff145_4 : fieldOff Try.prog 145 4 = 4 := by kernel_rfl
@[simp] theorem ft145_4 : fieldTy Try.prog 145 4 = 3 := by kernel_rfl
@[simp] theorem bk145_4 : bOk Try.prog 145 4 = true := by kernel_rfl
@[simp] theorem bf145_4 : bOff Try.prog 145 4 = 4 := by kernel_rfl
@[simp] theorem bt145_4 : bTy Try.prog 145 4 = 3 := by kernel_rfl
@[simp] theorem ty155 : tyOk Try.prog 155 = true := by kernel_rfl
@[simp] theorem ce155 : Try.prog.cellsOf 155 = 3 := by kernel_rfl
@[simp] theorem ag155 : aggT Try.prog 155 = true := by kernel_rfl
@[simp] theorem by155 : Try.prog.bytesOf 155 = 40 := by kernel_rfl
@[simp] theorem un155 : (Try.prog.underlying 155).isSome = true := by kernel_rfl
@[simp] theorem zr155 : zrow Try.prog 12 155 = some [.d (.int .i64 0), .nil 1, .d (.int .i64 0)] := by kernel_rfl
@[simp] theorem ze155 : zeroOk Try.prog 155 = true := by kernel_rfl
@[simp] theorem in155 : intT Try.prog 155 = none := by kernel_rfl
@[simp] theorem fk155_0 : fieldOk Try.prog 155 0 = true := by kernel_rfl
@[simp] theorem ff155_0 : fieldOff Try.prog 155 0 = 0 := by kernel_rfl
@[simp] theorem ft155_0 : fieldTy Try.prog 155 0 = 3 := by kernel_rfl
@[simp] theorem bk155_0 : bOk Try.prog 155 0 = true := by kernel_rfl
@[simp] theorem bf155_0 : bOff Try.prog 155 0 = 0 := by kernel_rfl
@[simp] theorem bt155_0 : bTy Try.prog 155 0 = 3 := by kernel_rfl
@[simp] theorem fk155_1 : fieldOk Try.prog 155 1 = true := by kernel_rfl
@[simp] theorem ff155_1 : fieldOff Try.prog 155 1 = 1 := by kernel_rfl
@[simp] theorem ft155_1 : fieldTy Try.prog 155 1 = 29 := by kernel_rfl
@[simp] theorem bk155_1 : bOk Try.prog 155 1 = true := by kernel_rfl
@[simp] theorem bf155_1 : bOff Try.prog 155 1 = 1 := by kernel_rfl
@[simp] theorem bt155_1 : bTy Try.prog 155 1 = 29 := by kernel_rfl
@[simp] theorem fk155_2 : fieldOk Try.prog 155 2 = true := by kernel_rfl
@[simp] theorem ff155_2 : fieldOff Try.prog 155 2 = 2 := by kernel_rfl
@[simp] theorem ft155_2 : fieldTy Try.prog 155 2 = 3 := by kernel_rfl
@[simp] theorem bk155_2 : bOk Try.prog 155 2 = true := by kernel_rfl
@[simp] theorem bf155_2 : bOff Try.prog 155 2 = 2 := by kernel_rfl
@[simp] theorem bt155_2 : bTy Try.prog 155 2 = 3 := by kernel_rfl
@[simp] theorem ty157 : tyOk Try.prog 157 = true := by kernel_rfl
@[simp] theorem ce157 : Try.prog.cellsOf 157 = 1 := by kernel_rfl
@[simp] theorem ag157 : aggT Try.prog 157 = false := by kernel_rfl
@[simp] theorem by157 : Try.prog.bytesOf 157 = 24 := by kernel_rfl
@[simp] theorem un157 : (Try.prog.underlying 157).isSome = true := by kernel_rfl
@[simp] theorem zr157 : zrow Try.prog 12 157 = some [.nil 2] := by kernel_rfl
@[simp] theorem ze157 : zeroOk Try.prog 157 = true := by kernel_rfl
@[simp] theorem in157 : intT Try.prog 157 = none := by kernel_rfl
@[simp] theorem sl157 : sliceT Try.prog 157 = true := by kernel_rfl
@[simp] theorem el157 : elemT Try.prog 157 = 231 := by kernel_rfl
@[simp] theorem bs157 : byteT Try.prog 157 = false := by kernel_rfl
@[simp] theorem st157 : strT Try.prog 157 = false := by kernel_rfl
@[simp] theorem ty158 : tyOk Try.prog 158 = true := by kernel_rfl
@[simp] theorem ce158 : Try.prog.cellsOf 158 = 1 := by kernel_rfl
@[simp] theorem ag158 : aggT Try.prog 158 = false := by kernel_rfl
@[simp] theorem by158 : Try.prog.bytesOf 158 = 24 := by kernel_rfl
@[simp] theorem un158 : (Try.prog.underlying 158).isSome = true := by kernel_rfl
@[simp] theorem zr158 : zrow Try.prog 12 158 = some [.nil 5] := by kernel_rfl
@[simp] theorem ze158 : zeroOk Try.prog 158 = true := by kernel_rfl
@[simp] theorem in158 : intT Try.prog 158 = none := by kernel_rfl
@[simp] theorem sl158 : sliceT Try.prog 158 = true := by kernel_rfl
@[simp] theorem el158 : elemT Try.prog 158 = 216 := by kernel_rfl
@[simp] theorem bs158 : byteT Try.prog 158 = false := by kernel_rfl
@[simp] theorem st158 : strT Try.prog 158 = false := by kernel_rfl
@[simp] theorem ty160 : tyOk Try.prog 160 = true := by kernel_rfl
@[simp] theorem ce160 : Try.prog.cellsOf 160 = 5 := by kernel_rfl
@[simp] theorem ag160 : aggT Try.prog 160 = true := by kernel_rfl
@[simp] theorem by160 : Try.prog.bytesOf 160 = 72 := by kernel_rfl
@[simp] theorem un160 : (Try.prog.underlying 160).isSome = true := by kernel_rfl
@[simp] theorem zr160 : zrow Try.prog 12 160 = some [.d (.int .i64 0), .d (.int .i64 0), .d (.int .i64 0), .nil 2, .nil 5] := by kernel_rfl
@[simp] theorem ze160 : zeroOk Try.prog 160 = true := by kernel_rfl
@[simp] theorem in160 : intT Try.prog 160 = none := by kernel_rfl
@[simp] theorem fk160_0 : fieldOk Try.prog 160 0 = true := by kernel_rfl
@[simp] theorem ff160_0 : fieldOff Try.prog 160 0 = 0 := by kernel_rfl
@[simp] theorem ft160_0 : fieldTy Try.prog 160 0 = 3 := by kernel_rfl
@[simp] theorem bk160_0 : bOk Try.prog 160 0 = true := by kernel_rfl
@[simp] theorem bf160_0 : bOff Try.prog 160 0 = 0 := by kernel_rfl
@[simp] theorem bt160_0 : bTy Try.prog 160 0 = 3 := by kernel_rfl
@[simp] theorem fk160_1 : fieldOk Try.prog 160 1 = true := by kernel_rfl
@[simp] theorem ff160_1 : fieldOff Try.prog 160 1 = 1 := by kernel_rfl
@[simp] theorem ft160_1 : fieldTy Try.prog 160 1 = 3 := by kernel_rfl
@[simp] theorem bk160_1 : bOk Try.prog 160 1 = true := by kernel_rfl
@[simp] theorem bf160_1 : bOff Try.prog 160 1 = 1 := by kernel_rfl
@[simp] theorem bt160_1 : bTy Try.prog 160 1 = 3 := by kernel_rfl
@[simp] theorem fk160_2 : fieldOk Try.prog 160 2 = true := by kernel_rfl
@[simp] theorem ff160_2 : fieldOff Try.prog 160 2 = 2 := by kernel_rfl
@[simp] theorem ft160_2 : fieldTy Try.prog 160 2 = 3 := by kernel_rfl
@[simp] theorem bk160_2 : bOk Try.prog 160 2 = true := by kernel_rfl
@[simp] theorem bf160_2 : bOff Try.prog 160 2 = 2 := by kernel_rfl
@[simp] theorem bt160_2 : bTy Try.prog 160 2 = 3 := by kernel_rfl
@[simp] theorem fk160_3 : fieldOk Try.prog 160 3 = true := by kernel_rfl
@[simp] theorem ff160_3 : fieldOff Try.prog 160 3 = 3 := by kernel_rfl
@[simp] theorem ft160_3 : fieldTy Try.prog 160 3 = 157 := by kernel_rfl
@[simp] theorem bk160_3 : bOk Try.prog 160 3 = true := by kernel_rfl
@[simp] theorem bf160_3 : bOff Try.prog 160 3 = 3 := by kernel_rfl
@[simp] theorem bt160_3 : bTy Try.prog 160 3 = 157 := by kernel_rfl
@[simp] theorem fk160_4 : fieldOk Try.prog 160 4 = true := by kernel_rfl
@[simp] theorem ff160_4 : fieldOff Try.prog 160 4 = 4 := by kernel_rfl
@[simp] theorem ft160_4 : fieldTy Try.prog 160 4 = 158 := by kernel_rfl
@[simp] theorem bk160_4 : bOk Try.prog 160 4 = true := by kernel_rfl
@[simp] theorem bf160_4 : bOff Try.prog 160 4 = 4 := by kernel_rfl
@[simp] theorem bt160_4 : bTy Try.prog 160 4 = 158 := by kernel_rfl
@[simp] theorem ty188 : tyOk Try.prog 188 = true := by kernel_rfl
@[simp] theorem ce188 : Try.prog.cellsOf 188 = 7 := by kernel_rfl
@[simp] theorem ag188 : aggT Try.prog 188 = true := by kernel_rfl
@[simp] theorem by188 : Try.prog.bytesOf 188 = 56 := by kernel_rfl
@[simp] theorem un188 : (Try.prog.underlying 188).isSome = true := by kernel_rfl
@[simp] theorem zr188 : zrow Try.prog 12 188 = some [.d (.int .i64 0), .d (.int .i64 0), .d (.int .i64 0), .d (.int .i64 0), .d (.int .i64 0), .d (.int .i64 0), .d (.int .i64 0)] := by kernel_rfl
@[simp] theorem ze188 : zeroOk Try.prog 188 = true := by kernel_rfl
@[simp] theorem in188 : intT Try.prog 188 = none := by kernel_rfl
@[simp] theorem eq188 : eqOk Try.prog 188 = true := by kernel_rfl
@[simp] theorem fs188 : fieldTs Try.prog 188 = [3, 3, 3, 3, 3, 3, 3] := by kernel_rfl
@[simp] theorem fk188_0 : fieldOk Try.prog 188 0 = true := by kernel_rfl
@[simp] theorem ff188_0 : fieldOff Try.prog 188 0 = 0 := by kernel_rfl
@[simp] theorem ft188_0 : fieldTy Try.prog 188 0 = 3 := by kernel_rfl
@[simp] theorem bk188_0 : bOk Try.prog 188 0 = true := by kernel_rfl
@[simp] theorem bf188_0 : bOff Try.prog 188 0 = 0 := by kernel_rfl
@[simp] theorem bt188_0 : bTy Try.prog 188 0 = 3 := by kernel_rfl
@[simp] theorem fk188_1 : fieldOk Try.prog 188 1 = true := by kernel_rfl
@[simp] theorem ff188_1 : fieldOff Try.prog 188 1 = 1 := by kernel_rfl
@[simp] theorem ft188_1 : fieldTy Try.prog 188 1 = 3 := by kernel_rfl
@[simp] theorem bk188_1 : bOk Try.prog 188 1 = true := by kernel_rfl
@[simp] theorem bf188_1 : bOff Try.prog 188 1 = 1 := by kernel_rfl
@[simp] theorem bt188_1 : bTy Try.prog 188 1 = 3 := by kernel_rfl
@[simp] theorem fk188_2 : fieldOk Try.prog 188 2 = true := by kernel_rfl
@[simp] theorem ff188_2 : fieldOff Try.prog 188 2 = 2 := by kernel_rfl
@[simp] theorem ft188_2 : fieldTy Try.prog 188 2 = 3 := by kernel_rfl
@[simp] theorem bk188_2 : bOk Try.prog 188 2 = true := by kernel_rfl
@[simp] theorem bf188_2 : bOff Try.prog 188 2 = 2 := by kernel_rfl
@[simp] theorem bt188_2 : bTy Try.prog 188 2 = 3 := by kernel_rfl
@[simp] theorem fk188_3 : fieldOk Try.prog 188 3 = true := by kernel_rfl
@[simp] theorem ff188_3 : fieldOff Try.prog 188 3 = 3 := by kernel_rfl
@[simp] theorem ft188_3 : fieldTy Try.prog 188 3 = 3 := by kernel_rfl
@[simp] theorem bk188_3 : bOk Try.prog 188 3 = true := by kernel_rfl
@[simp] theorem bf188_3 : bOff Try.prog 188 3 = 3 := by kernel_rfl
@[simp] theorem bt188_3 : bTy Try.prog 188 3 = 3 := by kernel_rfl
@[simp] theorem fk188_4 : fieldOk Try.prog 188 4 = true := by kernel_rfl
@[simp] theorem ff188_4 : fieldOff Try.prog 188 4 = 4 := by kernel_rfl
@[simp] theorem ft188_4 : fieldTy Try.prog 188 4 = 3 := by kernel_rfl
@[simp] theorem bk188_4 : bOk Try.prog 188 4 = true := by kernel_rfl
@[simp] theorem bf188_4 : bOff Try.prog 188 4 = 4 := by kernel_rfl
@[simp] theorem bt188_4 : bTy Try.prog 188 4 = 3 := by kernel_rfl
@[simp] theorem fk188_5 : fieldOk Try.prog 188 5 = true := by kernel_rfl
@[simp] theorem ff188_5 : fieldOff Try.prog 188 5 = 5 := by kernel_rfl
@[simp] theorem ft188_5 : fieldTy Try.prog 188 5 = 3 := by kernel_rfl
@[simp] theorem bk188_5 : bOk Try.prog 188 5 = true := by kernel_rfl
@[simp] theorem bf188_5 : bOff Try.prog 188 5 = 5 := by kernel_rfl
@[simp] theorem bt188_5 : bTy Try.prog 188 5 = 3 := by kernel_rfl
@[simp] theorem fk188_6 : fieldOk Try.prog 188 6 = true := by kernel_rfl
@[simp] theorem ff188_6 : fieldOff Try.prog 188 6 = 6 := by kernel_rfl
@[simp] theorem ft188_6 : fieldTy Try.prog 188 6 = 3 := by kernel_rfl
@[simp] theorem bk188_6 : bOk Try.prog 188 6 = true := by kernel_rfl
@[simp] theorem bf188_6 : bOff Try.prog 188 6 = 6 := by kernel_rfl
@[simp] theorem bt188_6 : bTy Try.prog 188 6 = 3 := by kernel_rfl
@[simp] theorem ty189 : tyOk Try.prog 189 = true := by kernel_rfl
@[simp] theorem ce189 : Try.prog.cellsOf 189 = 1 := by kernel_rfl
@[simp] theorem ag189 : aggT Try.prog 189 = false := by kernel_rfl
@[simp] theorem by189 : Try.prog.bytesOf 189 = 24 := by kernel_rfl
@[simp] theorem un189 : (Try.prog.underlying 189).isSome = true := by kernel_rfl
@[simp] theorem zr189 : zrow Try.prog 12 189 = some [.nil 1] := by kernel_rfl
@[simp] theorem ze189 : zeroOk Try.prog 189 = true := by kernel_rfl
@[simp] theorem in189 : intT Try.prog 189 = none := by kernel_rfl
@[simp] theorem sl189 : sliceT Try.prog 189 = true := by kernel_rfl
@[simp] theorem el189 : elemT Try.prog 189 = 5 := by kernel_rfl
@[simp] theorem bs189 : byteT Try.prog 189 = true := by kernel_rfl
@[simp] theorem st189 : strT Try.prog 189 = false := by kernel_rfl
@[simp] theorem ty191 : tyOk Try.prog 191 = true := by kernel_rfl
@[simp] theorem ce191 : Try.prog.cellsOf 191 = 4 := by kernel_rfl
@[simp] theorem ag191 : aggT Try.prog 191 = true := by kernel_rfl
@[simp] theorem by191 : Try.prog.bytesOf 191 = 32 := by kernel_rfl
@[simp] theorem un191 : (Try.prog.underlying 191).isSome = true := by kernel_rfl
@[simp] theorem zr191 : zrow Try.prog 12 191 = some [.d (.int .i64 0), .d (.int .i64 0), .d (.int .i64 0), .d (.int .i64 0)] := by kernel_rfl
@[simp] theorem ze191 : zeroOk Try.prog 191 = true := by kernel_rfl
@[simp] theorem in191 : intT Try.prog 191 = none := by kernel_rfl
@[simp] theorem eq191 : eqOk Try.prog 191 = true := by kernel_rfl
@[simp] theorem fs191 : fieldTs Try.prog 191 = [3, 3, 3, 3] := by kernel_rfl
@[simp] theorem fk191_0 : fieldOk Try.prog 191 0 = true := by kernel_rfl
@[simp] theorem ff191_0 : fieldOff Try.prog 191 0 = 0 := by kernel_rfl
@[simp] theorem ft191_0 : fieldTy Try.prog 191 0 = 3 := by kernel_rfl
@[simp] theorem bk191_0 : bOk Try.prog 191 0 = true := by kernel_rfl
@[simp] theorem bf191_0 : bOff Try.prog 191 0 = 0 := by kernel_rfl
@[simp] theorem bt191_0 : bTy Try.prog 191 0 = 3 := by kernel_rfl
@[simp] theorem fk191_1 : fieldOk Try.prog 191 1 = true := by kernel_rfl
@[simp] theorem ff191_1 : fieldOff Try.prog 191 1 = 1 := by kernel_rfl
@[simp] theorem ft191_1 : fieldTy Try.prog 191 1 = 3 := by kernel_rfl
@[simp] theorem bk191_1 : bOk Try.prog 191 1 = true := by kernel_rfl
@[simp] theorem bf191_1 : bOff Try.prog 191 1 = 1 := by kernel_rfl
@[simp] theorem bt191_1 : bTy Try.prog 191 1 = 3 := by kernel_rfl
@[simp] theorem fk191_2 : fieldOk Try.prog 191 2 = true := by kernel_rfl
@[simp] theorem ff191_2 : fieldOff Try.prog 191 2 = 2 := by kernel_rfl
@[simp] theorem ft191_2 : fieldTy Try.prog 191 2 = 3 := by kernel_rfl
@[simp] theorem bk191_2 : bOk Try.prog 191 2 = true := by kernel_rfl
@[simp] theorem bf191_2 : bOff Try.prog 191 2 = 2 := by kernel_rfl
@[simp] theorem bt191_2 : bTy Try.prog 191 2 = 3 := by kernel_rfl
@[simp] theorem fk191_3 : fieldOk Try.prog 191 3 = true := by kernel_rfl
@[simp] theorem ff191_3 : fieldOff Try.prog 191 3 = 3 := by kernel_rfl
@[simp] theorem ft191_3 : fieldTy Try.prog 191 3 = 3 := by kernel_rfl
@[simp] theorem bk191_3 : bOk Try.prog 191 3 = true := by kernel_rfl
@[simp] theorem bf191_3 : bOff Try.prog 191 3 = 3 := by kernel_rfl
@[simp] theorem bt191_3 : bTy Try.prog 191 3 = 3 := by kernel_rfl
@[simp] theorem ty193 : tyOk Try.prog 193 = true := by kernel_rfl
@[simp] theorem ce193 : Try.prog.cellsOf 193 = 5 := by kernel_rfl
@[simp] theorem ag193 : aggT Try.prog 193 = true := by kernel_rfl
@[simp] theorem by193 : Try.prog.bytesOf 193 = 40 := by kernel_rfl
@[simp] theorem un193 : (Try.prog.underlying 193).isSome = true := by kernel_rfl
@[simp] theorem zr193 : zrow Try.prog 12 193 = some [.d (.int .i64 0), .d (.int .i64 0), .d (.int .i64 0), .d (.int .i64 0), .d (.int .i64 0)] := by kernel_rfl
@[simp] theorem ze193 : zeroOk Try.prog 193 = true := by kernel_rfl
@[simp] theorem in193 : intT Try.prog 193 = none := by kernel_rfl
@[simp] theorem eq193 : eqOk Try.prog 193 = true := by kernel_rfl
@[simp] theorem fs193 : fieldTs Try.prog 193 = [3, 3, 3, 3, 3] := by kernel_rfl
@[simp] theorem fk193_0 : fieldOk Try.prog 193 0 = true := by kernel_rfl
@[simp] theorem ff193_0 : fieldOff Try.prog 193 0 = 0 := by kernel_rfl
@[simp] theorem ft193_0 : fieldTy Try.prog 193 0 = 3 := by kernel_rfl
@[simp] theorem bk193_0 : bOk Try.prog 193 0 = true := by kernel_rfl
@[simp] theorem bf193_0 : bOff Try.prog 193 0 = 0 := by kernel_rfl
@[simp] theorem bt193_0 : bTy Try.prog 193 0 = 3 := by kernel_rfl
@[simp] theorem fk193_1 : fieldOk Try.prog 193 1 = true := by kernel_rfl
@[simp] theorem ff193_1 : fieldOff Try.prog 193 1 = 1 := by kernel_rfl
@[simp] theorem ft193_1 : fieldTy Try.prog 193 1 = 3 := by kernel_rfl
@[simp] theorem bk193_1 : bOk Try.prog 193 1 = true := by kernel_rfl
@[simp] theorem bf193_1 : bOff Try.prog 193 1 = 1 := by kernel_rfl
@[simp] theorem bt193_1 : bTy Try.prog 193 1 = 3 := by kernel_rfl
@[simp] theorem fk193_2 : fieldOk Try.prog 193 2 = true := by kernel_rfl
@[simp] theorem ff193_2 : fieldOff Try.prog 193 2 = 2 := by kernel_rfl
@[simp] theorem ft193_2 : fieldTy Try.prog 193 2 = 3 := by kernel_rfl
@[simp] theorem bk193_2 : bOk Try.prog 193 2 = true := by kernel_rfl
@[simp] theorem bf193_2 : bOff Try.prog 193 2 = 2 := by kernel_rfl
@[simp] theorem bt193_2 : bTy Try.prog 193 2 = 3 := by kernel_rfl
@[simp] theorem fk193_3 : fieldOk Try.prog 193 3 = true := by kernel_rfl
@[simp] theorem ff193_3 : fieldOff Try.prog 193 3 = 3 := by kernel_rfl
@[simp] theorem ft193_3 : fieldTy Try.prog 193 3 = 3 := by kernel_rfl
@[simp] theorem bk193_3 : bOk Try.prog 193 3 = true := by kernel_rfl
@[simp] theorem bf193_3 : bOff Try.prog 193 3 = 3 := by kernel_rfl
@[simp] theorem bt193_3 : bTy Try.prog 193 3 = 3 := by kernel_rfl
@[simp] theorem fk193_4 : fieldOk Try.prog 193 4 = true := by kernel_rfl
@[simp] theorem ff193_4 : fieldOff Try.prog 193 4 = 4 := by kernel_rfl
@[simp] theorem ft193_4 : fieldTy Try.prog 193 4 = 3 := by kernel_rfl
@[simp] theorem bk193_4 : bOk Try.prog 193 4 = true := by kernel_rfl
@[simp] theorem bf193_4 : bOff Try.prog 193 4 = 4 := by kernel_rfl
@[simp] theorem bt193_4 : bTy Try.prog 193 4 = 3 := by kernel_rfl
@[simp] theorem ty195 : tyOk Try.prog 195 = true := by kernel_rfl
@[simp] theorem ce195 : Try.prog.cellsOf 195 = 3 := by kernel_rfl
@[simp] theorem ag195 : aggT Try.prog 195 = true := by kernel_rfl
@[simp] theorem by195 : Try.prog.bytesOf 195 = 24 := by kernel_rfl
@[simp] theorem un195 : (Try.prog.underlying 195).isSome = true := by kernel_rfl
@[simp] theorem zr195 : zrow Try.prog 12 195 = some [.d (.int .i64 0), .d (.int .i64 0), .d (.int .i64 0)] := by kernel_rfl
@[simp] theorem ze195 : zeroOk Try.prog 195 = true := by kernel_rfl
@[simp] theorem in195 : intT Try.prog 195 = none := by kernel_rfl
@[simp] theorem eq195 : eqOk Try.prog 195 = true := by kernel_rfl
@[simp] theorem fs195 : fieldTs Try.prog 195 = [3, 3, 3] := by kernel_rfl
@[simp] theorem fk195_0 : fieldOk Try.prog 195 0 = true := by kernel_rfl
@[simp] theorem ff195_0 : fieldOff Try.prog 195 0 = 0 := by kernel_rfl
@[simp] theorem ft195_0 : fieldTy Try.prog 195 0 = 3 := by kernel_rfl
@[simp] theorem bk195_0 : bOk Try.prog 195 0 = true := by kernel_rfl
@[simp] theorem bf195_0 : bOff Try.prog 195 0 = 0 := by kernel_rfl
@[simp] theorem bt195_0 : bTy Try.prog 195 0 = 3 := by kernel_rfl
@[simp] theorem fk195_1 : fieldOk Try.prog 195 1 = true := by kernel_rfl
@[simp] theorem ff195_1 : fieldOff Try.prog 195 1 = 1 := by kernel_rfl
@[simp] theorem ft195_1 : fieldTy Try.prog 195 1 = 3 := by kernel_rfl
@[simp] theorem bk195_1 : bOk Try.prog 195 1 = true := by kernel_rfl
@[simp] theorem bf195_1 : bOff Try.prog 195 1 = 1 := by kernel_rfl
@[simp] theorem bt195_1 : bTy Try.prog 195 1 = 3 := by kernel_rfl
@[simp] theorem fk195_2 : fieldOk Try.prog 195 2 = true := by kernel_rfl
@[simp] theorem ff195_2 : fieldOff Try.prog 195 2 = 2 := by kernel_rfl
@[simp] theorem ft195_2 : fieldTy Try.prog 195 2 = 3 := by kernel_rfl
@[simp] theorem bk195_2 : bOk Try.prog 195 2 = true := by kernel_rfl
@[simp] theorem bf195_2 : bOff Try.prog 195 2 = 2 := by kernel_rfl
@[simp] theorem bt195_2 : bTy Try.prog 195 2 = 3 := by kernel_rfl
@[simp] theorem ty197 : tyOk Try.prog 197 = true := by kernel_rfl
@[simp] theorem ce197 : Try.prog.cellsOf 197 = 3 := by kernel_rfl
@[simp] theorem ag197 : aggT Try.prog 197 = true := by kernel_rfl
@[simp] theorem by197 : Try.prog.bytesOf 197 = 24 := by kernel_rfl
@[simp] theorem un197 : (Try.prog.underlying 197).isSome = true := by kernel_rfl
@[simp] theorem zr197 : zrow Try.prog 12 197 = some [.d (.int .i64 0), .d (.int .i64 0), .d (.int .i64 0)] := by kernel_rfl
@[simp] theorem ze197 : zeroOk Try.prog 197 = true := by kernel_rfl
@[simp] theorem in197 : intT Try.prog 197 = none := by kernel_rfl
@[simp] theorem eq197 : eqOk Try.prog 197 = true := by kernel_rfl
@[simp] theorem fs197 : fieldTs Try.prog 197 = [3, 3, 3] := by kernel_rfl
@[simp] theorem fk197_0 : fieldOk Try.prog 197 0 = true := by kernel_rfl
@[simp] theorem ff197_0 : fieldOff Try.prog 197 0 = 0 := by kernel_rfl
@[simp] theorem ft197_0 : fieldTy Try.prog 197 0 = 3 := by kernel_rfl
@[simp] theorem bk197_0 : bOk Try.prog 197 0 = true := by kernel_rfl
@[simp] theorem bf197_0 : bOff Try.prog 197 0 = 0 := by kernel_rfl
@[simp] theorem bt197_0 : bTy Try.prog 197 0 = 3 := by kernel_rfl
@[simp] theorem fk197_1 : fieldOk Try.prog 197 1 = true := by kernel_rfl
@[simp] theorem ff197_1 : fieldOff Try.prog 197 1 = 1 := by kernel_rfl
@[simp] theorem ft197_1 : fieldTy Try.prog 197 1 = 3 := by kernel_rfl
@[simp] theorem bk197_1 : bOk Try.prog 197 1 = true := by kernel_rfl
@[simp] theorem bf197_1 : bOff Try.prog 197 1 = 1 := by kernel_rfl
@[simp] theorem bt197_1 : bTy Try.prog 197 1 = 3 := by kernel_rfl
@[simp] theorem fk197_2 : fieldOk Try.prog 197 2 = true := by kernel_rfl
@[simp] theorem ff197_2 : fieldOff Try.prog 197 2 = 2 := by kernel_rfl
@[simp] theorem ft197_2 : fieldTy Try.prog 197 2 = 3 := by kernel_rfl
@[simp] theorem bk197_2 : bOk Try.prog 197 2 = true := by kernel_rfl
@[simp] theorem bf197_2 : bOff Try.prog 197 2 = 2 := by kernel_rfl
@[simp] theorem bt197_2 : bTy Try.prog 197 2 = 3 := by kernel_rfl
@[simp] theorem ty199 : tyOk Try.prog 199 = true := by kernel_rfl
@[simp] theorem ce199 : Try.prog.cellsOf 199 = 4 := by kernel_rfl
@[simp] theorem ag199 : aggT Try.prog 199 = true := by kernel_rfl
@[simp] theorem by199 : Try.prog.bytesOf 199 = 32 := by kernel_rfl
@[simp] theorem un199 : (Try.prog.underlying 199).isSome = true := by kernel_rfl
@[simp] theorem zr199 : zrow Try.prog 12 199 = some [.d (.int .i64 0), .d (.int .i64 0), .d (.int .i64 0), .d (.int .i64 0)] := by kernel_rfl
@[simp] theorem ze199 : zeroOk Try.prog 199 = true := by kernel_rfl
@[simp] theorem in199 : intT Try.prog 199 = none := by kernel_rfl
@[simp] theorem eq199 : eqOk Try.prog 199 = true := by kernel_rfl
@[simp] theorem fs199 : fieldTs Try.prog 199 = [3, 3, 3, 3] := by kernel_rfl
@[simp] theorem fk199_0 : fieldOk Try.prog 199 0 = true := by kernel_rfl
@[simp] theorem ff199_0 : fieldOff Try.prog 199 0 = 0 := by kernel_rfl
@[simp] theorem ft199_0 : fieldTy Try.prog 199 0 = 3 := by kernel_rfl
@[simp] theorem bk199_0 : bOk Try.prog 199 0 = true := by kernel_rfl
@[simp] theorem bf199_0 : bOff Try.prog 199 0 = 0 := by kernel_rfl
@[simp] theorem bt199_0 : bTy Try.prog 199 0 = 3 := by kernel_rfl
@[simp] theorem fk199_1 : fieldOk Try.prog 199 1 = true := by kernel_rfl
@[simp] theorem ff199_1 : fieldOff Try.prog 199 1 = 1 := by kernel_rfl
@[simp] theorem ft199_1 : fieldTy Try.prog 199 1 = 3 := by kernel_rfl
@[simp] theorem bk199_1 : bOk Try.prog 199 1 = true := by kernel_rfl
@[simp] theorem bf199_1 : bOff Try.prog 199 1 = 1 := by kernel_rfl
@[simp] theorem bt199_1 : bTy Try.prog 199 1 = 3 := by kernel_rfl
@[simp] theorem fk199_2 : fieldOk Try.prog 199 2 = true := by kernel_rfl
@[simp] theorem ff199_2 : fieldOff Try.prog 199 2 = 2 := by kernel_rfl
@[simp] theorem ft199_2 : fieldTy Try.prog 199 2 = 3 := by kernel_rfl
@[simp] theorem bk199_2 : bOk Try.prog 199 2 = true := by kernel_rfl
@[simp] theorem bf199_2 : bOff Try.prog 199 2 = 2 := by kernel_rfl
@[simp] theorem bt199_2 : bTy Try.prog 199 2 = 3 := by kernel_rfl
@[simp] theorem fk199_3 : fieldOk Try.prog 199 3 = true := by kernel_rfl
@[simp] theorem ff199_3 : fieldOff Try.prog 199 3 = 3 := by kernel_rfl
@[simp] theorem ft199_3 : fieldTy Try.prog 199 3 = 3 := by kernel_rfl
@[simp] theorem bk199_3 : bOk Try.prog 199 3 = true := by kernel_rfl
@[simp] theorem bf199_3 : bOff Try.prog 199 3 = 3 := by kernel_rfl
@[simp] theorem bt199_3 : bTy Try.prog 199 3 = 3 := by kernel_rfl
@[simp] theorem ty204 : tyOk Try.prog 204 = true := by kernel_rfl
@[simp] theorem ce204 : Try.prog.cellsOf 204 = 3 := by kernel_rfl
@[simp] theorem ag204 : aggT Try.prog 204 = true := by kernel_rfl
@[simp] theorem by204 : Try.prog.bytesOf 204 = 40 := by kernel_rfl
@[simp] theorem un204 : (Try.prog.underlying 204).isSome = true := by kernel_rfl
@[simp] theorem zr204 : zrow Try.prog 12 204 = some [.d (.int .i64 0), .nil 1, .d (.int .i64 0)] := by kernel_rfl
@[simp] theorem ze204 : zeroOk Try.prog 204 = true := by kernel_rfl
@[simp] theorem in204 : intT Try.prog 204 = none := by kernel_rfl
@[simp] theorem fk204_0 : fieldOk Try.prog 204 0 = true := by kernel_rfl
@[simp] theorem ff204_0 : fieldOff Try.prog 204 0 = 0 := by kernel_rfl
@[simp] theorem ft204_0 : fieldTy Try.prog 204 0 = 3 := by kernel_rfl
@[simp] theorem bk204_0 : bOk Try.prog 204 0 = true := by kernel_rfl
@[simp] theorem bf204_0 : bOff Try.prog 204 0 = 0 := by kernel_rfl
@[simp] theorem bt204_0 : bTy Try.prog 204 0 = 3 := by kernel_rfl
@[simp] theorem fk204_1 : fieldOk Try.prog 204 1 = true := by kernel_rfl
@[simp] theorem ff204_1 : fieldOff Try.prog 204 1 = 1 := by kernel_rfl
@[simp] theorem ft204_1 : fieldTy Try.prog 204 1 = 29 := by kernel_rfl
@[simp] theorem bk204_1 : bOk Try.prog 204 1 = true := by kernel_rfl
@[simp] theorem bf204_1 : bOff Try.prog 204 1 = 1 := by kernel_rfl
@[simp] theorem bt204_1 : bTy Try.prog 204 1 = 29 := by kernel_rfl
@[simp] theorem fk204_2 : fieldOk Try.prog 204 2 = true := by kernel_rfl
@[simp] theorem ff204_2 : fieldOff Try.prog 204 2 = 2 := by kernel_rfl
@[simp] theorem ft204_2 : fieldTy Try.prog 204 2 = 3 := by kernel_rfl
@[simp] theorem bk204_2 : bOk Try.prog 204 2 = true := by kernel_rfl
@[simp] theorem bf204_2 : bOff Try.prog 204 2 = 2 := by kernel_rfl
@[simp] theorem bt204_2 : bTy Try.prog 204 2 = 3 := by kernel_rfl
@[simp] theorem ty206 : tyOk Try.prog 206 = true := by kernel_rfl
@[simp] theorem ce206 : Try.prog.cellsOf 206 = 1 := by kernel_rfl
@[simp] theorem ag206 : aggT Try.prog 206 = false := by kernel_rfl
@[simp] theorem by206 : Try.prog.bytesOf 206 = 24 := by kernel_rfl
@[simp] theorem un206 : (Try.prog.underlying 206).isSome = true := by kernel_rfl
@[simp] theorem zr206 : zrow Try.prog 12 206 = some [.nil 2] := by kernel_rfl
@[simp] theorem ze206 : zeroOk Try.prog 206 = true := by kernel_rfl
@[simp] theorem in206 : intT Try.prog 206 = none := by kernel_rfl
@[simp] theorem sl206 : sliceT Try.prog 206 = true := by kernel_rfl
@[simp] theorem el206 : elemT Try.prog 206 = 233 := by kernel_rfl
@[simp] theorem bs206 : byteT Try.prog 206 = false := by kernel_rfl
@[simp] theorem st206 : strT Try.prog 206 = false := by kernel_rfl
@[simp] theorem ty207 : tyOk Try.prog 207 = true := by kernel_rfl
@[simp] theorem ce207 : Try.prog.cellsOf 207 = 1 := by kernel_rfl
@[simp] theorem ag207 : aggT Try.prog 207 = false := by kernel_rfl
@[simp] theorem by207 : Try.prog.bytesOf 207 = 24 := by kernel_rfl
@[simp] theorem un207 : (Try.prog.underlying 207).isSome = true := by kernel_rfl
@[simp] theorem zr207 : zrow Try.prog 12 207 = some [.nil 5] := by kernel_rfl
@[simp] theorem ze207 : zeroOk Try.prog 207 = true := by kernel_rfl
@[simp] theorem in207 : intT Try.prog 207 = none := by kernel_rfl
@[simp] theorem sl207 : sliceT Try.prog 207 = true := by kernel_rfl
@[simp] theorem el207 : elemT Try.prog 207 = 235 := by kernel_rfl
@[simp] theorem bs207 : byteT Try.prog 207 = false := by kernel_rfl
@[simp] theorem st207 : strT Try.prog 207 = false := by kernel_rfl
@[simp] theorem ty209 : tyOk Try.prog 209 = true := by kernel_rfl
@[simp] theorem ce209 : Try.prog.cellsOf 209 = 5 := by kernel_rfl
@[simp] theorem ag209 : aggT Try.prog 209 = true := by kernel_rfl
@[simp] theorem by209 : Try.prog.bytesOf 209 = 72 := by kernel_rfl
@[simp] theorem un209 : (Try.prog.underlying 209).isSome = true := by kernel_rfl
@[simp] theorem zr209 : zrow Try.prog 12 209 = some [.d (.int .i64 0), .d (.int .i64 0), .d (.int .i64 0), .nil 2, .nil 5] := by kernel_rfl
@[simp] theorem ze209 : zeroOk Try.prog 209 = true := by kernel_rfl
@[simp] theorem in209 : intT Try.prog 209 = none := by kernel_rfl
@[simp] theorem fk209_0 : fieldOk Try.prog 209 0 = true := by kernel_rfl
@[simp] theorem ff209_0 : fieldOff Try.prog 209 0 = 0 := by kernel_rfl
@[simp] theorem ft209_0 : fieldTy Try.prog 209 0 = 3 := by kernel_rfl
@[simp] theorem bk209_0 : bOk Try.prog 209 0 = true := by kernel_rfl
@[simp] theorem bf209_0 : bOff Try.prog 209 0 = 0 := by kernel_rfl
@[simp] theorem bt209_0 : bTy Try.prog 209 0 = 3 := by kernel_rfl
@[simp] theorem fk209_1 : fieldOk Try.prog 209 1 = true := by kernel_rfl
@[simp] theorem ff209_1 : fieldOff Try.prog 209 1 = 1 := by kernel_rfl
@[simp] theorem ft209_1 : fieldTy Try.prog 209 1 = 3 := by kernel_rfl
@[simp] theorem bk209_1 : bOk Try.prog 209 1 = true := by kernel_rfl
@[simp] theorem bf209_1 : bOff Try.prog 209 1 = 1 := by kernel_rfl
@[simp] theorem bt209_1 : bTy Try.prog 209 1 = 3 := by kernel_rfl
@[simp] theorem fk209_2 : fieldOk Try.prog 209 2 = true := by kernel_rfl
@[simp] theorem ff209_2 : fieldOff Try.prog 209 2 = 2 := by kernel_rfl
@[simp] theorem ft209_2 : fieldTy Try.prog 209 2 = 3 := by kernel_rfl
@[simp] theorem bk209_2 : bOk Try.prog 209 2 = true := by kernel_rfl
@[simp] theorem bf209_2 : bOff Try.prog 209 2 = 2 := by kernel_rfl
@[simp] theorem bt209_2 : bTy Try.prog 209 2 = 3 := by kernel_rfl
@[simp] theorem fk209_3 : fieldOk Try.prog 209 3 = true := by kernel_rfl
@[simp] theorem ff209_3 : fieldOff Try.prog 209 3 = 3 := by kernel_rfl
@[simp] theorem ft209_3 : fieldTy Try.prog 209 3 = 206 := by kernel_rfl
@[simp] theorem bk209_3 : bOk Try.prog 209 3 = true := by kernel_rfl
@[simp] theorem bf209_3 : bOff Try.prog 209 3 = 3 := by kernel_rfl
@[simp] theorem bt209_3 : bTy Try.prog 209 3 = 206 := by kernel_rfl
@[simp] theorem fk209_4 : fieldOk Try.prog 209 4 = true := by kernel_rfl
@[simp] theorem ff209_4 : fieldOff Try.prog 209 4 = 4 := by kernel_rfl
@[simp] theorem ft209_4 : fieldTy Try.prog 209 4 = 207 := by kernel_rfl
@[simp] theorem bk209_4 : bOk Try.prog 209 4 = true := by kernel_rfl
@[simp] theorem bf209_4 : bOff Try.prog 209 4 = 4 := by kernel_rfl
@[simp] theorem bt209_4 : bTy Try.prog 209 4 = 207 := by kernel_rfl
@[simp] theorem ty216 : tyOk Try.prog 216 = true := by kernel_rfl
@[simp] theorem ce216 : Try.prog.cellsOf 216 = 5 := by kernel_rfl
@[simp] theorem ag216 : aggT Try.prog 216 = true := by kernel_rfl
@[simp] theorem by216 : Try.prog.bytesOf 216 = 40 := by kernel_rfl
@[simp] theorem un216 : (Try.prog.underlying 216).isSome = true := by kernel_rfl
@[simp] theorem zr216 : zrow Try.prog 12 216 = some [.d (.int .i64 0), .d (.int .i64 0), .d (.int .i64 0), .d (.int .i64 0), .d (.int .i64 0)] := by kernel_rfl
@[simp] theorem ze216 : zeroOk Try.prog 216 = true := by kernel_rfl
@[simp] theorem in216 : intT Try.prog 216 = none := by kernel_rfl
@[simp] theorem eq216 : eqOk Try.prog 216 = true := by kernel_rfl
@[simp] theorem fs216 : fieldTs Try.prog 216 = [3, 3, 3, 3, 3] := by kernel_rfl
@[simp] theorem fk216_0 : fieldOk Try.prog 216 0 = true := by kernel_rfl
@[simp] theorem ff216_0 : fieldOff Try.prog 216 0 = 0 := by kernel_rfl
@[simp] theorem ft216_0 : fieldTy Try.prog 216 0 = 3 := by kernel_rfl
@[simp] theorem bk216_0 : bOk Try.prog 216 0 = true := by kernel_rfl
@[simp] theorem bf216_0 : bOff Try.prog 216 0 = 0 := by kernel_rfl
@[simp] theorem bt216_0 : bTy Try.prog 216 0 = 3 := by kernel_rfl
@[simp] theorem fk216_1 : fieldOk Try.prog 216 1 = true := by kernel_rfl
@[simp] theorem ff216_1 : fieldOff Try.prog 216 1 = 1 := by kernel_rfl
@[simp] theorem ft216_1 : fieldTy Try.prog 216 1 = 3 := by kernel_rfl
@[simp] theorem bk216_1 : bOk Try.prog 216 1 = true := by kernel_rfl
@[simp] theorem bf216_1 : bOff Try.prog 216 1 = 1 := by kernel_rfl
@[simp] theorem bt216_1 : bTy Try.prog 216 1 = 3 := by kernel_rfl
@[simp] theorem fk216_2 : fieldOk Try.prog 216 2 = true := by kernel_rfl
@[simp] theorem ff216_2 : fieldOff Try.prog 216 2 = 2 := by kernel_rfl
@[simp] theorem ft216_2 : fieldTy Try.prog 216 2 = 3 := by kernel_rfl
@[simp] theorem bk216_2 : bOk Try.prog 216 2 = true := by kernel_rfl
@[simp] theorem bf216_2 : bOff Try.prog 216 2 = 2 := by kernel_rfl
@[simp] theorem bt216_2 : bTy Try.prog 216 2 = 3 := by kernel_rfl
@[simp] theorem fk216_3 : fieldOk Try.prog 216 3 = true := by kernel_rfl
@[simp] theorem ff216_3 : fieldOff Try.prog 216 3 = 3 := by kernel_rfl
@[simp] theorem ft216_3 : fieldTy Try.prog 216 3 = 3 := by kernel_rfl
@[simp] theorem bk216_3 : bOk Try.prog 216 3 = true := by kernel_rfl
@[simp] theorem bf216_3 : bOff Try.prog 216 3 = 3 := by kernel_rfl
@[simp] theorem bt216_3 : bTy Try.prog 216 3 = 3 := by kernel_rfl
@[simp] theorem fk216_4 : fieldOk Try.prog 216 4 = true := by kernel_rfl
@[simp] theorem ff216_4 : fieldOff Try.prog 216 4 = 4 := by kernel_rfl
@[simp] theorem ft216_4 : fieldTy Try.prog 216 4 = 3 := by kernel_rfl
@[simp] theorem bk216_4 : bOk Try.prog 216 4 = true := by kernel_rfl
@[simp] theorem bf216_4 : bOff Try.prog 216 4 = 4 := by kernel_rfl
@[simp] theorem bt216_4 : bTy Try.prog 216 4 = 3 := by kernel_rfl
@[simp] theorem ty218 : tyOk Try.prog 218 = true := by kernel_rfl
@[simp] theorem ce218 : Try.prog.cellsOf 218 = 7 := by kernel_rfl
@[simp] theorem ag218 : aggT Try.prog 218 = true := by kernel_rfl
@[simp] theorem by218 : Try.prog.bytesOf 218 = 56 := by kernel_rfl
@[simp] theorem un218 : (Try.prog.underlying 218).isSome = true := by kernel_rfl
@[simp] theorem zr218 : zrow Try.prog 12 218 = some [.d (.int .i64 0), .d (.int .i64 0), .d (.int .i64 0), .d (.int .i64 0), .d (.int .i64 0), .d (.int .i64 0), .d (.int .i64 0)] := by kernel_rfl
@[simp] theorem ze218 : zeroOk Try.prog 218 = true := by kernel_rfl
@[simp] theorem in218 : intT Try.prog 218 = none := by kernel_rfl
@[simp] theorem eq218 : eqOk Try.prog 218 = true := by kernel_rfl
@[simp] theorem fs218 : fieldTs Try.prog 218 = [3, 3, 3, 3, 3, 3, 3] := by kernel_rfl
@[simp] theorem fk218_0 : fieldOk Try.prog 218 0 = true := by kernel_rfl
@[simp] theorem ff218_0 : fieldOff Try.prog 218 0 = 0 := by kernel_rfl
@[simp] theorem ft218_0 : fieldTy Try.prog 218 0 = 3 := by kernel_rfl
@[simp] theorem bk218_0 : bOk Try.prog 218 0 = true := by kernel_rfl
@[simp] theorem bf218_0 : bOff Try.prog 218 0 = 0 := by kernel_rfl
@[simp] theorem bt218_0 : bTy Try.prog 218 0 = 3 := by kernel_rfl
@[simp] theorem fk218_1 : fieldOk Try.prog 218 1 = true := by kernel_rfl
@[simp] theorem ff218_1 : fieldOff Try.prog 218 1 = 1 := by kernel_rfl
@[simp] theorem ft218_1 : fieldTy Try.prog 218 1 = 3 := by kernel_rfl
@[simp] theorem bk218_1 : bOk Try.prog 218 1 = true := by kernel_rfl
@[simp] theorem bf218_1 : bOff Try.prog 218 1 = 1 := by kernel_rfl
@[simp] theorem bt218_1 : bTy Try.prog 218 1 = 3 := by kernel_rfl
@[simp] theorem fk218_2 : fieldOk Try.prog 218 2 = true := by kernel_rfl
@[simp] theorem ff218_2 : fieldOff Try.prog 218 2 = 2 := by kernel_rfl
@[simp] theorem ft218_2 : fieldTy Try.prog 218 2 = 3 := by kernel_rfl
@[simp] theorem bk218_2 : bOk Try.prog 218 2 = true := by kernel_rfl
@[simp] theorem bf218_2 : bOff Try.prog 218 2 = 2 := by kernel_rfl
@[simp] theorem bt218_2 : bTy Try.prog 218 2 = 3 := by kernel_rfl
@[simp] theorem fk218_3 : fieldOk Try.prog 218 3 = true := by kernel_rfl
@[simp] theorem ff218_3 : fieldOff Try.prog 218 3 = 3 := by kernel_rfl
@[simp] theorem ft218_3 : fieldTy Try.prog 218 3 = 3 := by kernel_rfl
@[simp] theorem bk218_3 : bOk Try.prog 218 3 = true := by kernel_rfl
@[simp] theorem bf218_3 : bOff Try.prog 218 3 = 3 := by kernel_rfl
@[simp] theorem bt218_3 : bTy Try.prog 218 3 = 3 := by kernel_rfl
@[simp] theorem fk218_4 : fieldOk Try.prog 218 4 = true := by kernel_rfl
@[simp] theorem ff218_4 : fieldOff Try.prog 218 4 = 4 := by kernel_rfl
@[simp] theorem ft218_4 : fieldTy Try.prog 218 4 = 3 := by kernel_rfl
@[simp] theorem bk218_4 : bOk Try.prog 218 4 = true := by kernel_rfl
@[simp] theorem bf218_4 : bOff Try.prog 218 4 = 4 := by kernel_rfl
@[simp] theorem bt218_4 : bTy Try.prog 218 4 = 3 := by kernel_rfl
@[simp] theorem fk218_5 : fieldOk Try.prog 218 5 = true := by kernel_rfl
@[simp] theorem ff218_5 : fieldOff Try.prog 218 5 = 5 := by kernel_rfl
@[simp] theorem ft218_5 : fieldTy Try.prog 218 5 = 3 := by kernel_rfl
@[simp] theorem bk218_5 : bOk Try.prog 218 5 = true := by kernel_rfl
@[simp] theorem bf218_5 : bOff Try.prog 218 5 = 5 := by kernel_rfl
@[simp] theorem bt218_5 : bTy Try.prog 218 5 = 3 := by kernel_rfl
@[simp] theorem fk218_6 : fieldOk Try.prog 218 6 = true := by kernel_rfl
@[simp] theorem ff218_6 : fieldOff Try.prog 218 6 = 6 := by kernel_rfl
@[simp] theorem ft218_6 : fieldTy Try.prog 218 6 = 3 := by kernel_rfl
@[simp] theorem bk218_6 : bOk Try.prog 218 6 = true := by kernel_rfl
@[simp] theorem bf218_6 : bOff Try.prog 218 6 = 6 := by kernel_rfl
@[simp] theorem bt218_6 : bTy Try.prog 218 6 = 3 := by kernel_rfl
@[simp] theorem ty231 : tyOk Try.prog 231 = true := by kernel_rfl
@[simp] theorem ce231 : Try.prog.cellsOf 231 = 2 := by kernel_rfl
@[simp] theorem ag231 : aggT Try.prog 231 = true := by kernel_rfl
@[simp] theorem by231 : Try.prog.bytesOf 231 = 16 := by kernel_rfl
@[simp] theorem un231 : (Try.prog.underlying 231).isSome = true := by kernel_rfl
@[simp] theorem zr231 : zrow Try.prog 12 231 = some [.d (.int .i64 0), .d (.bool false)] := by kernel_rfl
@[simp] theorem ze231 : zeroOk Try.prog 231 = true := by kernel_rfl
@[simp] theorem in231 : intT Try.prog 231 = none := by kernel_rfl
@[simp] theorem eq231 : eqOk Try.prog 231 = true := by kernel_rfl
@[simp] theorem fs231 : fieldTs Try.prog 231 = [3, 4] := by kernel_rfl
@[simp] theorem fk231_0 : fieldOk Try.prog 231 0 = true := by kernel_rfl
@[simp] theorem ff231_0 : fieldOff Try.prog 231 0 = 0 := by kernel_rfl
@[simp] theorem ft231_0 : fieldTy Try.prog 231 0 = 3 := by kernel_rfl
@[simp] theorem bk231_0 : bOk Try.prog 231 0 = true := by kernel_rfl
@[simp] theorem bf231_0 : bOff Try.prog 231 0 = 0 := by kernel_rfl
@[simp] theorem bt231_0 : bTy Try.prog 231 0 = 3 := by kernel_rfl
@[simp] theorem fk231_1 : fieldOk Try.prog 231 1 = true := by kernel_rfl
@[simp] theorem ff231_1 : fieldOff Try.prog 231 1 = 1 := by kernel_rfl
@[simp] theorem ft231_1 : fieldTy Try.prog 231 1 = 4 := by kernel_rfl
@[simp] theorem bk231_1 : bOk Try.prog 231 1 = true := by kernel_rfl
@[simp] theorem bf231_1 : bOff Try.prog 231 1 = 1 := by kernel_rfl
@[simp] theorem bt231_1 : bTy Try.prog 231 1 = 4 := by kernel_rfl
@[simp] theorem ty233 : tyOk Try.prog 233 = true := by kernel_rfl
@[simp] theorem ce233 : Try.prog.cellsOf 233 = 2 := by kernel_rfl
@[simp] theorem ag233 : aggT Try.prog 233 = true := by kernel_rfl
@[simp] theorem by233 : Try.prog.bytesOf 233 = 16 := by kernel_rfl
@[simp] theorem un233 : (Try.prog.underlying 233).isSome = true := by kernel_rfl
@[simp] theorem zr233 : zrow Try.prog 12 233 = some [.d (.int .i64 0), .d (.bool false)] := by kernel_rfl
@[simp] theorem ze233 : zeroOk Try.prog 233 = true := by kernel_rfl
@[simp] theorem in233 : intT Try.prog 233 = none := by kernel_rfl
@[simp] theorem eq233 : eqOk Try.prog 233 = true := by kernel_rfl
@[simp] theorem fs233 : fieldTs Try.prog 233 = [3, 4] := by kernel_rfl
@[simp] theorem fk233_0 : fieldOk Try.prog 233 0 = true := by kernel_rfl
@[simp] theorem ff233_0 : fieldOff Try.prog 233 0 = 0 := by kernel_rfl
@[simp] theorem ft233_0 : fieldTy Try.prog 233 0 = 3 := by kernel_rfl
@[simp] theorem bk233_0 : bOk Try.prog 233 0 = true := by kernel_rfl
@[simp] theorem bf233_0 : bOff Try.prog 233 0 = 0 := by kernel_rfl
@[simp] theorem bt233_0 : bTy Try.prog 233 0 = 3 := by kernel_rfl
@[simp] theorem fk233_1 : fieldOk Try.prog 233 1 = true := by kernel_rfl
@[simp] theorem ff233_1 : fieldOff Try.prog 233 1 = 1 := by kernel_rfl
@[simp] theorem ft233_1 : fieldTy Try.prog 233 1 = 4 := by kernel_rfl
@[simp] theorem bk233_1 : bOk Try.prog 233 1 = true := by kernel_rfl
@[simp] theorem bf233_1 : bOff Try.prog 233 1 = 1 := by kernel_rfl
@[simp] theorem bt233_1 : bTy Try.prog 233 1 = 4 := by kernel_rfl
@[simp] theorem ty235 : tyOk Try.prog 235 = true := by kernel_rfl
@[simp] theorem ce235 : Try.prog.cellsOf 235 = 5 := by kernel_rfl
@[simp] theorem ag235 : aggT Try.prog 235 = true := by kernel_rfl
@[simp] theorem by235 : Try.prog.bytesOf 235 = 40 := by kernel_rfl
@[simp] theorem un235 : (Try.prog.underlying 235).isSome = true := by kernel_rfl
@[simp] theorem zr235 : zrow Try.prog 12 235 = some [.d (.int .i64 0), .d (.int .i64 0), .d (.int .i64 0), .d (.int .i64 0), .d (.int .i64 0)] := by kernel_rfl
@[simp] theorem ze235 : zeroOk Try.prog 235 = true := by kernel_rfl
@[simp] theorem in235 : intT Try.prog 235 = none := by kernel_rfl
@[simp] theorem eq235 : eqOk Try.prog 235 = true := by kernel_rfl
@[simp] theorem fs235 : fieldTs Try.prog 235 = [3, 3, 3, 3, 3] := by kernel_rfl
@[simp] theorem fk235_0 : fieldOk Try.prog 235 0 = true := by kernel_rfl
@[simp] theorem ff235_0 : fieldOff Try.prog 235 0 = 0 := by kernel_rfl
@[simp] theorem ft235_0 : fieldTy Try.prog 235 0 = 3 := by kernel_rfl
@[simp] theorem bk235_0 : bOk Try.prog 235 0 = true := by kernel_rfl
@[simp] theorem bf235_0 : bOff Try.prog 235 0 = 0 := by kernel_rfl
@[simp] theorem bt235_0 : bTy Try.prog 235 0 = 3 := by kernel_rfl
@[simp] theorem fk235_1 : fieldOk Try.prog 235 1 = true := by kernel_rfl
@[simp] theorem ff235_1 : fieldOff Try.prog 235 1 = 1 := by kernel_rfl
@[simp] theorem ft235_1 : fieldTy Try.prog 235 1 = 3 := by kernel_rfl
@[simp] theorem bk235_1 : bOk Try.prog 235 1 = true := by kernel_rfl
@[simp] theorem bf235_1 : bOff Try.prog 235 1 = 1 := by kernel_rfl
@[simp] theorem bt235_1 : bTy Try.prog 235 1 = 3 := by kernel_rfl
@[simp] theorem fk235_2 : fieldOk Try.prog 235 2 = true := by kernel_rfl
@[simp] theorem ff235_2 : fieldOff Try.prog 235 2 = 2 := by kernel_rfl
@[simp] theorem ft235_2 : fieldTy Try.prog 235 2 = 3 := by kernel_rfl
@[simp] theorem bk235_2 : bOk Try.prog 235 2 = true := by kernel_rfl
@[simp] theorem bf235_2 : bOff Try.prog 235 2 = 2 := by kernel_rfl
@[simp] theorem bt235_2 : bTy Try.prog 235 2 = 3 := by kernel_rfl
@[simp] theorem fk235_3 : fieldOk Try.prog 235 3 = true := by kernel_rfl
@[simp] theorem ff235_3 : fieldOff Try.prog 235 3 = 3 := by kernel_rfl
@[simp] theorem ft235_3 : fieldTy Try.prog 235 3 = 3 := by kernel_rfl
@[simp] theorem bk235_3 : bOk Try.prog 235 3 = true := by kernel_rfl
@[simp] theorem bf235_3 : bOff Try.prog 235 3 = 3 := by kernel_rfl
@[simp] theorem bt235_3 : bTy Try.prog 235 3 = 3 := by kernel_rfl
@[simp] theorem fk235_4 : fieldOk Try.prog 235 4 = true := by kernel_rfl
@[simp] theorem ff235_4 : fieldOff Try.prog 235 4 = 4 := by kernel_rfl
@[simp] theorem ft235_4 : fieldTy Try.prog 235 4 = 3 := by kernel_rfl
@[simp] theorem bk235_4 : bOk Try.prog 235 4 = true := by kernel_rfl
@[simp] theorem bf235_4 : bOff Try.prog 235 4 = 4 := by kernel_rfl
@[simp] theorem bt235_4 : bTy Try.prog 235 4 = 3 := by kernel_rfl
@[simp] theorem ty247 : tyOk Try.prog 247 = true := by kernel_rfl
@[simp] theorem ce247 : Try.prog.cellsOf 247 = 1 := by kernel_rfl
@[simp] theorem ag247 : aggT Try.prog 247 = false := by kernel_rfl
@[simp] theorem by247 : Try.prog.bytesOf 247 = 1 := by kernel_rfl
@[simp] theorem un247 : (Try.prog.underlying 247).isSome = true := by kernel_rfl
@[simp] theorem zr247 : zrow Try.prog 12 247 = some [.d (.int .u8 0)] := by kernel_rfl
@[simp] theorem ze247 : zeroOk Try.prog 247 = true := by kernel_rfl
@[simp] theorem in247 : intT Try.prog 247 = some .u8 := by kernel_rfl
@[simp] theorem ty257 : tyOk Try.prog 257 = true := by kernel_rfl
@[simp] theorem ce257 : Try.prog.cellsOf 257 = 2 := by kernel_rfl
@[simp] theorem ag257 : aggT Try.prog 257 = true := by kernel_rfl
@[simp] theorem by257 : Try.prog.bytesOf 257 = 16 := by kernel_rfl
@[simp] theorem un257 : (Try.prog.underlying 257).isSome = true := by kernel_rfl
@[simp] theorem zr257 : zrow Try.prog 12 257 = some [.d (.int .i64 0), .d (.int .i64 0)] := by kernel_rfl
@[simp] theorem ze257 : zeroOk Try.prog 257 = true := by kernel_rfl
@[simp] theorem in257 : intT Try.prog 257 = none := by kernel_rfl
@[simp] theorem eq257 : eqOk Try.prog 257 = true := by kernel_rfl
@[simp] theorem fs257 : fieldTs Try.prog 257 = [3, 3] := by kernel_rfl
@[simp] theorem fk257_0 : fieldOk Try.prog 257 0 = true := by kernel_rfl
@[simp] theorem ff257_0 : fieldOff Try.prog 257 0 = 0 := by kernel_rfl
@[simp] theorem ft257_0 : fieldTy Try.prog 257 0 = 3 := by kernel_rfl
@[simp] theorem bk257_0 : bOk Try.prog 257 0 = true := by kernel_rfl
@[simp] theorem bf257_0 : bOff Try.prog 257 0 = 0 := by kernel_rfl
@[simp] theorem bt257_0 : bTy Try.prog 257 0 = 3 := by kernel_rfl
@[simp] theorem fk257_1 : fieldOk Try.prog 257 1 = true := by kernel_rfl
@[simp] theorem ff257_1 : fieldOff Try.prog 257 1 = 1 := by kernel_rfl
@[simp] theorem ft257_1 : fieldTy Try.prog 257 1 = 3 := by kernel_rfl
@[simp] theorem bk257_1 : bOk Try.prog 257 1 = true := by kernel_rfl
@[simp] theorem bf257_1 : bOff Try.prog 257 1 = 1 := by kernel_rfl
@[simp] theorem bt257_1 : bTy Try.prog 257 1 = 3 := by kernel_rfl
end Go.Proofs.Ytejeomggohkclaa
