/- The facts of the plain types of the program, by evaluation. No condition. -/
import Derived.Test.YtoeokngpoibldaaVe
import Derived.Test.YtoeokngpoibldaaProg
namespace Go.Proofs.Ytoeokngpoibldaa
open Go.Vm
@[simp] theorem ty2 : tyOk Try.prog 2 = true := by kernel_rfl
@[simp] theorem ce2 : Try.prog.cellsOf 2 = 1 := by kernel_rfl
@[simp] theorem ag2 : aggT Try.prog 2 = false := by kernel_rfl
@[simp] theorem by2 : Try.prog.bytesOf 2 = 8 := by kernel_rfl
@[simp] theorem un2 : (Try.prog.underlying 2).isSome = true := by kernel_rfl
@[simp] theorem zr2 : zrow Try.prog 12 2 = some [.d (.int .i64 0)] := by kernel_rfl
@[simp] theorem ze2 : zeroOk Try.prog 2 = true := by kernel_rfl
@[simp] theorem in2 : intT Try.prog 2 = some .i64 := by kernel_rfl
@[simp] theorem ty3 : tyOk Try.prog 3 = true := by kernel_rfl
@[simp] theorem ce3 : Try.prog.cellsOf 3 = 1 := by kernel_rfl
@[simp] theorem ag3 : aggT Try.prog 3 = false := by kernel_rfl
@[simp] theorem by3 : Try.prog.bytesOf 3 = 8 := by kernel_rfl
@[simp] theorem un3 : (Try.prog.underlying 3).isSome = true := by kernel_rfl
@[simp] theorem zr3 : zrow Try.prog 12 3 = some [.d (.int .i64 0)] := by kernel_rfl
@[simp] theorem ze3 : zeroOk Try.prog 3 = true := by kernel_rfl
@[simp] theorem in3 : intT Try.prog 3 = some .i64 := by kernel_rfl
@[simp] theorem ty4 : tyOk Try.prog 4 = true := by kernel_rfl
@[simp] theorem ce4 : Try.prog.cellsOf 4 = 1 := by kernel_rfl
@[simp] theorem ag4 : aggT Try.prog 4 = false := by kernel_rfl
@[simp] theorem by4 : Try.prog.bytesOf 4 = 1 := by kernel_rfl
@[simp] theorem un4 : (Try.prog.underlying 4).isSome = true := by kernel_rfl
@[simp] theorem zr4 : zrow Try.prog 12 4 = some [.d (.bool false)] := by kernel_rfl
@[simp] theorem ze4 : zeroOk Try.prog 4 = true := by kernel_rfl
@[simp] theorem in4 : intT Try.prog 4 = none := by kernel_rfl
@[simp] theorem bo4 : boolT Try.prog 4 = true := by kernel_rfl
@[simp] theorem ty5 : tyOk Try.prog 5 = true := by kernel_rfl
@[simp] theorem ce5 : Try.prog.cellsOf 5 = 1 := by kernel_rfl
@[simp] theorem ag5 : aggT Try.prog 5 = false := by kernel_rfl
@[simp] theorem by5 : Try.prog.bytesOf 5 = 1 := by kernel_rfl
@[simp] theorem un5 : (Try.prog.underlying 5).isSome = true := by kernel_rfl
@[simp] theorem zr5 : zrow Try.prog 12 5 = some [.d (.int .u8 0)] := by kernel_rfl
@[simp] theorem ze5 : zeroOk Try.prog 5 = true := by kernel_rfl
@[simp] theorem in5 : intT Try.prog 5 = some .u8 := by kernel_rfl
@[simp] theorem ty6 : tyOk Try.prog 6 = true := by kernel_rfl
@[simp] theorem ce6 : Try.prog.cellsOf 6 = 1 := by kernel_rfl
@[simp] theorem ag6 : aggT Try.prog 6 = false := by kernel_rfl
@[simp] theorem by6 : Try.prog.bytesOf 6 = 1 := by kernel_rfl
@[simp] theorem un6 : (Try.prog.underlying 6).isSome = true := by kernel_rfl
@[simp] theorem zr6 : zrow Try.prog 12 6 = some [.d (.int .u8 0)] := by kernel_rfl
@[simp] theorem ze6 : zeroOk Try.prog 6 = true := by kernel_rfl
@[simp] theorem in6 : intT Try.prog 6 = some .u8 := by kernel_rfl
@[simp] theorem ty8 : tyOk Try.prog 8 = true := by kernel_rfl
@[simp] theorem ce8 : Try.prog.cellsOf 8 = 4 := by kernel_rfl
@[simp] theorem ag8 : aggT Try.prog 8 = true := by kernel_rfl
@[simp] theorem by8 : Try.prog.bytesOf 8 = 24 := by kernel_rfl
@[simp] theorem un8 : (Try.prog.underlying 8).isSome = true := by kernel_rfl
@[simp] theorem zr8 : zrow Try.prog 12 8 = some [.d (.int .i64 0), .d (.int .i64 0), .d (.bool false), .d (.int .u8 0)] := by kernel_rfl
@[simp] theorem ze8 : zeroOk Try.prog 8 = true := by kernel_rfl
@[simp] theorem in8 : intT Try.prog 8 = none := by kernel_rfl
@[simp] theorem fk8_0 : fieldOk Try.prog 8 0 = true := by kernel_rfl
@[simp] theorem ff8_0 : fieldOff Try.prog 8 0 = 0 := by kernel_rfl
@[simp] theorem ft8_0 : fieldTy Try.prog 8 0 = 2 := by kernel_rfl
@[simp] theorem bk8_0 : bOk Try.prog 8 0 = true := by kernel_rfl
@[simp] theorem bf8_0 : bOff Try.prog 8 0 = 0 := by kernel_rfl
@[simp] theorem bt8_0 : bTy Try.prog 8 0 = 2 := by kernel_rfl
@[simp] theorem fk8_1 : fieldOk Try.prog 8 1 = true := by kernel_rfl
@[simp] theorem ff8_1 : fieldOff Try.prog 8 1 = 1 := by kernel_rfl
@[simp] theorem ft8_1 : fieldTy Try.prog 8 1 = 3 := by kernel_rfl
@[simp] theorem bk8_1 : bOk Try.prog 8 1 = true := by kernel_rfl
@[simp] theorem bf8_1 : bOff Try.prog 8 1 = 1 := by kernel_rfl
@[simp] theorem bt8_1 : bTy Try.prog 8 1 = 3 := by kernel_rfl
@[simp] theorem fk8_2 : fieldOk Try.prog 8 2 = true := by kernel_rfl
@[simp] theorem ff8_2 : fieldOff Try.prog 8 2 = 2 := by kernel_rfl
@[simp] theorem ft8_2 : fieldTy Try.prog 8 2 = 4 := by kernel_rfl
@[simp] theorem bk8_2 : bOk Try.prog 8 2 = true := by kernel_rfl
@[simp] theorem bf8_2 : bOff Try.prog 8 2 = 2 := by kernel_rfl
@[simp] theorem bt8_2 : bTy Try.prog 8 2 = 4 := by kernel_rfl
@[simp] theorem fk8_3 : fieldOk Try.prog 8 3 = true := by kernel_rfl
@[simp] theorem ff8_3 : fieldOff Try.prog 8 3 = 3 := by kernel_rfl
@[simp] theorem ft8_3 : fieldTy Try.prog 8 3 = 6 := by kernel_rfl
@[simp] theorem bk8_3 : bOk Try.prog 8 3 = true := by kernel_rfl
@[simp] theorem bf8_3 : bOff Try.prog 8 3 = 3 := by kernel_rfl
@[simp] theorem bt8_3 : bTy Try.prog 8 3 = 6 := by kernel_rfl
@[simp] theorem ty9 : tyOk Try.prog 9 = true := by kernel_rfl
@[simp] theorem ce9 : Try.prog.cellsOf 9 = 1 := by kernel_rfl
@[simp] theorem ag9 : aggT Try.prog 9 = false := by kernel_rfl
@[simp] theorem by9 : Try.prog.bytesOf 9 = 16 := by kernel_rfl
@[simp] theorem un9 : (Try.prog.underlying 9).isSome = true := by kernel_rfl
@[simp] theorem zr9 : zrow Try.prog 12 9 = some [.d (.str ⟨#[]⟩)] := by kernel_rfl
@[simp] theorem ze9 : zeroOk Try.prog 9 = true := by kernel_rfl
@[simp] theorem in9 : intT Try.prog 9 = none := by kernel_rfl
@[simp] theorem st9 : strT Try.prog 9 = true := by kernel_rfl
@[simp] theorem ty10 : tyOk Try.prog 10 = true := by kernel_rfl
@[simp] theorem ce10 : Try.prog.cellsOf 10 = 1 := by kernel_rfl
@[simp] theorem ag10 : aggT Try.prog 10 = false := by kernel_rfl
@[simp] theorem by10 : Try.prog.bytesOf 10 = 16 := by kernel_rfl
@[simp] theorem un10 : (Try.prog.underlying 10).isSome = true := by kernel_rfl
@[simp] theorem zr10 : zrow Try.prog 12 10 = some [.d (.str ⟨#[]⟩)] := by kernel_rfl
@[simp] theorem ze10 : zeroOk Try.prog 10 = true := by kernel_rfl
@[simp] theorem in10 : intT Try.prog 10 = none := by kernel_rfl
@[simp] theorem st10 : strT Try.prog 10 = true := by kernel_rfl
@[simp] theorem ty11 : tyOk Try.prog 11 = true := by kernel_rfl
@[simp] theorem ce11 : Try.prog.cellsOf 11 = 1 := by kernel_rfl
@[simp] theorem ag11 : aggT Try.prog 11 = false := by kernel_rfl
@[simp] theorem by11 : Try.prog.bytesOf 11 = 16 := by kernel_rfl
@[simp] theorem un11 : (Try.prog.underlying 11).isSome = true := by kernel_rfl
@[simp] theorem zr11 : zrow Try.prog 12 11 = some [.d (.str ⟨#[]⟩)] := by kernel_rfl
@[simp] theorem ze11 : zeroOk Try.prog 11 = true := by kernel_rfl
@[simp] theorem in11 : intT Try.prog 11 = none := by kernel_rfl
@[simp] theorem st11 : strT Try.prog 11 = true := by kernel_rfl
@[simp] theorem ty12 : tyOk Try.prog 12 = true := by kernel_rfl
@[simp] theorem ce12 : Try.prog.cellsOf 12 = 1 := by kernel_rfl
@[simp] theorem ag12 : aggT Try.prog 12 = false := by kernel_rfl
@[simp] theorem by12 : Try.prog.bytesOf 12 = 8 := by kernel_rfl
@[simp] theorem un12 : (Try.prog.underlying 12).isSome = true := by kernel_rfl
@[simp] theorem zr12 : zrow Try.prog 12 12 = some [.d (.int .u64 0)] := by kernel_rfl
@[simp] theorem ze12 : zeroOk Try.prog 12 = true := by kernel_rfl
@[simp] theorem in12 : intT Try.prog 12 = some .u64 := by kernel_rfl
@[simp] theorem ty14 : tyOk Try.prog 14 = true := by kernel_rfl
@[simp] theorem ce14 : Try.prog.cellsOf 14 = 2 := by kernel_rfl
@[simp] theorem ag14 : aggT Try.prog 14 = true := by kernel_rfl
@[simp] theorem by14 : Try.prog.bytesOf 14 = 24 := by kernel_rfl
@[simp] theorem un14 : (Try.prog.underlying 14).isSome = true := by kernel_rfl
@[simp] theorem zr14 : zrow Try.prog 12 14 = some [.d (.str ⟨#[]⟩), .d (.int .u64 0)] := by kernel_rfl
@[simp] theorem ze14 : zeroOk Try.prog 14 = true := by kernel_rfl
@[simp] theorem in14 : intT Try.prog 14 = none := by kernel_rfl
@[simp] theorem fk14_0 : fieldOk Try.prog 14 0 = true := by kernel_rfl
@[simp] theorem ff14_0 : fieldOff Try.prog 14 0 = 0 := by kernel_rfl
@[simp] theorem ft14_0 : fieldTy Try.prog 14 0 = 9 := by kernel_rfl
@[simp] theorem bk14_0 : bOk Try.prog 14 0 = true := by kernel_rfl
@[simp] theorem bf14_0 : bOff Try.prog 14 0 = 0 := by kernel_rfl
@[simp] theorem bt14_0 : bTy Try.prog 14 0 = 9 := by kernel_rfl
@[simp] theorem fk14_1 : fieldOk Try.prog 14 1 = true := by kernel_rfl
@[simp] theorem ff14_1 : fieldOff Try.prog 14 1 = 1 := by kernel_rfl
@[simp] theorem ft14_1 : fieldTy Try.prog 14 1 = 12 := by kernel_rfl
@[simp] theorem bk14_1 : bOk Try.prog 14 1 = true := by kernel_rfl
@[simp] theorem bf14_1 : bOff Try.prog 14 1 = 1 := by kernel_rfl
@[simp] theorem bt14_1 : bTy Try.prog 14 1 = 12 := by kernel_rfl
@[simp] theorem ty27 : tyOk Try.prog 27 = true := by kernel_rfl
@[simp] theorem ce27 : Try.prog.cellsOf 27 = 5 := by kernel_rfl
@[simp] theorem ag27 : aggT Try.prog 27 = true := by kernel_rfl
@[simp] theorem by27 : Try.prog.bytesOf 27 = 40 := by kernel_rfl
@[simp] theorem un27 : (Try.prog.underlying 27).isSome = true := by kernel_rfl
@[simp] theorem zr27 : zrow Try.prog 12 27 = some [.d (.int .i64 0), .d (.int .i64 0), .d (.int .i64 0), .d (.int .i64 0), .d (.int .i64 0)] := by kernel_rfl
@[simp] theorem ze27 : zeroOk Try.prog 27 = true := by kernel_rfl
@[simp] theorem in27 : intT Try.prog 27 = none := by kernel_rfl
@[simp] theorem eq27 : eqOk Try.prog 27 = true := by kernel_rfl
@[simp] theorem fs27 : fieldTs Try.prog 27 = [3, 3, 3, 3, 3] := by kernel_rfl
@[simp] theorem fk27_0 : fieldOk Try.prog 27 0 = true := by kernel_rfl
@[simp] theorem ff27_0 : fieldOff Try.prog 27 0 = 0 := by kernel_rfl
@[simp] theorem ft27_0 : fieldTy Try.prog 27 0 = 3 := by kernel_rfl
@[simp] theorem bk27_0 : bOk Try.prog 27 0 = true := by kernel_rfl
@[simp] theorem bf27_0 : bOff Try.prog 27 0 = 0 := by kernel_rfl
@[simp] theorem bt27_0 : bTy Try.prog 27 0 = 3 := by kernel_rfl
@[simp] theorem fk27_1 : fieldOk Try.prog 27 1 = true := by kernel_rfl
@[simp] theorem ff27_1 : fieldOff Try.prog 27 1 = 1 := by kernel_rfl
@[simp] theorem ft27_1 : fieldTy Try.prog 27 1 = 3 := by kernel_rfl
@[simp] theorem bk27_1 : bOk Try.prog 27 1 = true := by kernel_rfl
@[simp] theorem bf27_1 : bOff Try.prog 27 1 = 1 := by kernel_rfl
@[simp] theorem bt27_1 : bTy Try.prog 27 1 = 3 := by kernel_rfl
@[simp] theorem fk27_2 : fieldOk Try.prog 27 2 = true := by kernel_rfl
@[simp] theorem ff27_2 : fieldOff Try.prog 27 2 = 2 := by kernel_rfl
@[simp] theorem ft27_2 : fieldTy Try.prog 27 2 = 3 := by kernel_rfl
@[simp] theorem bk27_2 : bOk Try.prog 27 2 = true := by kernel_rfl
@[simp] theorem bf27_2 : bOff Try.prog 27 2 = 2 := by kernel_rfl
@[simp] theorem bt27_2 : bTy Try.prog 27 2 = 3 := by kernel_rfl
@[simp] theorem fk27_3 : fieldOk Try.prog 27 3 = true := by kernel_rfl
@[simp] theorem ff27_3 : fieldOff Try.prog 27 3 = 3 := by kernel_rfl
@[simp] theorem ft27_3 : fieldTy Try.prog 27 3 = 3 := by kernel_rfl
@[simp] theorem bk27_3 : bOk Try.prog 27 3 = true := by kernel_rfl
@[simp] theorem bf27_3 : bOff Try.prog 27 3 = 3 := by kernel_rfl
@[simp] theorem bt27_3 : bTy Try.prog 27 3 = 3 := by kernel_rfl
@[simp] theorem fk27_4 : fieldOk Try.prog 27 4 = true := by kernel_rfl
@[simp] theorem ff27_4 : fieldOff Try.prog 27 4 = 4 := by kernel_rfl
@[simp] theorem ft27_4 : fieldTy Try.prog 27 4 = 3 := by kernel_rfl
@[simp] theorem bk27_4 : bOk Try.prog 27 4 = true := by kernel_rfl
@[simp] theorem bf27_4 : bOff Try.prog 27 4 = 4 := by kernel_rfl
@[simp] theorem bt27_4 : bTy Try.prog 27 4 = 3 := by kernel_rfl
@[simp] theorem ty29 : tyOk Try.prog 29 = true := by kernel_rfl
@[simp] theorem ce29 : Try.prog.cellsOf 29 = 5 := by kernel_rfl
@[simp] theorem ag29 : aggT Try.prog 29 = true := by kernel_rfl
@[simp] theorem by29 : Try.prog.bytesOf 29 = 40 := by kernel_rfl
@[simp] theorem un29 : (Try.prog.underlying 29).isSome = true := by kernel_rfl
@[simp] theorem zr29 : zrow Try.prog 12 29 = some [.d (.int .i64 0), .d (.int .i64 0), .d (.int .i64 0), .d (.int .i64 0), .d (.int .i64 0)] := by kernel_rfl
@[simp] theorem ze29 : zeroOk Try.prog 29 = true := by kernel_rfl
@[simp] theorem in29 : intT Try.prog 29 = none := by kernel_rfl
@[simp] theorem eq29 : eqOk Try.prog 29 = true := by kernel_rfl
@[simp] theorem fs29 : fieldTs Try.prog 29 = [3, 3, 3, 3, 3] := by kernel_rfl
@[simp] theorem fk29_0 : fieldOk Try.prog 29 0 = true := by kernel_rfl
@[simp] theorem ff29_0 : fieldOff Try.prog 29 0 = 0 := by kernel_rfl
@[simp] theorem ft29_0 : fieldTy Try.prog 29 0 = 3 := by kernel_rfl
@[simp] theorem bk29_0 : bOk Try.prog 29 0 = true := by kernel_rfl
@[simp] theorem bf29_0 : bOff Try.prog 29 0 = 0 := by kernel_rfl
@[simp] theorem bt29_0 : bTy Try.prog 29 0 = 3 := by kernel_rfl
@[simp] theorem fk29_1 : fieldOk Try.prog 29 1 = true := by kernel_rfl
@[simp] theorem ff29_1 : fieldOff Try.prog 29 1 = 1 := by kernel_rfl
@[simp] theorem ft29_1 : fieldTy Try.prog 29 1 = 3 := by kernel_rfl
@[simp] theorem bk29_1 : bOk Try.prog 29 1 = true := by kernel_rfl
@[simp] theorem bf29_1 : bOff Try.prog 29 1 = 1 := by kernel_rfl
@[simp] theorem bt29_1 : bTy Try.prog 29 1 = 3 := by kernel_rfl
@[simp] theorem fk29_2 : fieldOk Try.prog 29 2 = true := by kernel_rfl
@[simp] theorem ff29_2 : fieldOff Try.prog 29 2 = 2 := by kernel_rfl
@[simp] theorem ft29_2 : fieldTy Try.prog 29 2 = 3 := by kernel_rfl
@[simp] theorem bk29_2 : bOk Try.prog 29 2 = true := by kernel_rfl
@[simp] theorem bf29_2 : bOff Try.prog 29 2 = 2 := by kernel_rfl
@[simp] theorem bt29_2 : bTy Try.prog 29 2 = 3 := by kernel_rfl
@[simp] theorem fk29_3 : fieldOk Try.prog 29 3 = true := by kernel_rfl
@[simp] theorem ff29_3 : fieldOff Try.prog 29 3 = 3 := by kernel_rfl
@[simp] theorem ft29_3 : fieldTy Try.prog 29 3 = 3 := by kernel_rfl
@[simp] theorem bk29_3 : bOk Try.prog 29 3 = true := by kernel_rfl
@[simp] theorem bf29_3 : bOff Try.prog 29 3 = 3 := by kernel_rfl
@[simp] theorem bt29_3 : bTy Try.prog 29 3 = 3 := by kernel_rfl
@[simp] theorem fk29_4 : fieldOk Try.prog 29 4 = true := by kernel_rfl
@[simp] theorem ff29_4 : fieldOff Try.prog 29 4 = 4 := by kernel_rfl
@[simp] theorem ft29_4 : fieldTy Try.prog 29 4 = 3 := by kernel_rfl
@[simp] theorem bk29_4 : bOk Try.prog 29 4 = true := by kernel_rfl
@[simp] theorem bf29_4 : bOff Try.prog 29 4 = 4 := by kernel_rfl
@[simp] theorem bt29_4 : bTy Try.prog 29 4 = 3 := by kernel_rfl
@[simp] theorem ty32 : tyOk Try.prog 32 = true := by kernel_rfl
@[simp] theorem ce32 : Try.prog.cellsOf 32 = 1 := by kernel_rfl
@[simp] theorem ag32 : aggT Try.prog 32 = false := by kernel_rfl
@[simp] theorem by32 : Try.prog.bytesOf 32 = 24 := by kernel_rfl
@[simp] theorem un32 : (Try.prog.underlying 32).isSome = true := by kernel_rfl
@[simp] theorem zr32 : zrow Try.prog 12 32 = some [.nil 4] := by kernel_rfl
@[simp] theorem ze32 : zeroOk Try.prog 32 = true := by kernel_rfl
@[simp] theorem in32 : intT Try.prog 32 = none := by kernel_rfl
@[simp] theorem sl32 : sliceT Try.prog 32 = true := by kernel_rfl
@[simp] theorem el32 : elemT Try.prog 32 = 66 := by kernel_rfl
@[simp] theorem bs32 : byteT Try.prog 32 = false := by kernel_rfl
@[simp] theorem st32 : strT Try.prog 32 = false := by kernel_rfl
@[simp] theorem ty37 : tyOk Try.prog 37 = true := by kernel_rfl
@[simp] theorem ce37 : Try.prog.cellsOf 37 = 1 := by kernel_rfl
@[simp] theorem ag37 : aggT Try.prog 37 = false := by kernel_rfl
@[simp] theorem by37 : Try.prog.bytesOf 37 = 24 := by kernel_rfl
@[simp] theorem un37 : (Try.prog.underlying 37).isSome = true := by kernel_rfl
@[simp] theorem zr37 : zrow Try.prog 12 37 = some [.nil 5] := by kernel_rfl
@[simp] theorem ze37 : zeroOk Try.prog 37 = true := by kernel_rfl
@[simp] theorem in37 : intT Try.prog 37 = none := by kernel_rfl
@[simp] theorem sl37 : sliceT Try.prog 37 = true := by kernel_rfl
@[simp] theorem el37 : elemT Try.prog 37 = 69 := by kernel_rfl
@[simp] theorem bs37 : byteT Try.prog 37 = false := by kernel_rfl
@[simp] theorem st37 : strT Try.prog 37 = false := by kernel_rfl
@[simp] theorem ty41 : tyOk Try.prog 41 = true := by kernel_rfl
@[simp] theorem ce41 : Try.prog.cellsOf 41 = 1 := by kernel_rfl
@[simp] theorem ag41 : aggT Try.prog 41 = false := by kernel_rfl
@[simp] theorem by41 : Try.prog.bytesOf 41 = 24 := by kernel_rfl
@[simp] theorem un41 : (Try.prog.underlying 41).isSome = true := by kernel_rfl
@[simp] theorem zr41 : zrow Try.prog 12 41 = some [.nil 2] := by kernel_rfl
@[simp] theorem ze41 : zeroOk Try.prog 41 = true := by kernel_rfl
@[simp] theorem in41 : intT Try.prog 41 = none := by kernel_rfl
@[simp] theorem sl41 : sliceT Try.prog 41 = true := by kernel_rfl
@[simp] theorem el41 : elemT Try.prog 41 = 93 := by kernel_rfl
@[simp] theorem bs41 : byteT Try.prog 41 = false := by kernel_rfl
@[simp] theorem st41 : strT Try.prog 41 = false := by kernel_rfl
@[simp] theorem ty42 : tyOk Try.prog 42 = true := by kernel_rfl
@[simp] theorem ce42 : Try.prog.cellsOf 42 = 1 := by kernel_rfl
@[simp] theorem ag42 : aggT Try.prog 42 = false := by kernel_rfl
@[simp] theorem by42 : Try.prog.bytesOf 42 = 24 := by kernel_rfl
@[simp] theorem un42 : (Try.prog.underlying 42).isSome = true := by kernel_rfl
@[simp] theorem zr42 : zrow Try.prog 12 42 = some [.nil 5] := by kernel_rfl
@[simp] theorem ze42 : zeroOk Try.prog 42 = true := by kernel_rfl
@[simp] theorem in42 : intT Try.prog 42 = none := by kernel_rfl
@[simp] theorem sl42 : sliceT Try.prog 42 = true := by kernel_rfl
@[simp] theorem el42 : elemT Try.prog 42 = 27 := by kernel_rfl
@[simp] theorem bs42 : byteT Try.prog 42 = false := by kernel_rfl
@[simp] theorem st42 : strT Try.prog 42 = false := by kernel_rfl
@[simp] theorem ty44 : tyOk Try.prog 44 = true := by kernel_rfl
@[simp] theorem ce44 : Try.prog.cellsOf 44 = 5 := by kernel_rfl
@[simp] theorem ag44 : aggT Try.prog 44 = true := by kernel_rfl
@[simp] theorem by44 : Try.prog.bytesOf 44 = 72 := by kernel_rfl
@[simp] theorem un44 : (Try.prog.underlying 44).isSome = true := by kernel_rfl
@[simp] theorem zr44 : zrow Try.prog 12 44 = some [.d (.int .i64 0), .d (.int .i64 0), .d (.int .i64 0), .nil 2, .nil 5] := by kernel_rfl
@[simp] theorem ze44 : zeroOk Try.prog 44 = true := by kernel_rfl
@[simp] theorem in44 : intT Try.prog 44 = none := by kernel_rfl
@[simp] theorem fk44_0 : fieldOk Try.prog 44 0 = true := by kernel_rfl
@[simp] theorem ff44_0 : fieldOff Try.prog 44 0 = 0 := by kernel_rfl
@[simp] theorem ft44_0 : fieldTy Try.prog 44 0 = 3 := by kernel_rfl
@[simp] theorem bk44_0 : bOk Try.prog 44 0 = true := by kernel_rfl
@[simp] theorem bf44_0 : bOff Try.prog 44 0 = 0 := by kernel_rfl
@[simp] theorem bt44_0 : bTy Try.prog 44 0 = 3 := by kernel_rfl
@[simp] theorem fk44_1 : fieldOk Try.prog 44 1 = true := by kernel_rfl
@[simp] theorem ff44_1 : fieldOff Try.prog 44 1 = 1 := by kernel_rfl
@[simp] theorem ft44_1 : fieldTy Try.prog 44 1 = 3 := by kernel_rfl
@[simp] theorem bk44_1 : bOk Try.prog 44 1 = true := by kernel_rfl
@[simp] theorem bf44_1 : bOff Try.prog 44 1 = 1 := by kernel_rfl
@[simp] theorem bt44_1 : bTy Try.prog 44 1 = 3 := by kernel_rfl
@[simp] theorem fk44_2 : fieldOk Try.prog 44 2 = true := by kernel_rfl
@[simp] theorem ff44_2 : fieldOff Try.prog 44 2 = 2 := by kernel_rfl
@[simp] theorem ft44_2 : fieldTy Try.prog 44 2 = 3 := by kernel_rfl
@[simp] theorem bk44_2 : bOk Try.prog 44 2 = true := by kernel_rfl
@[simp] theorem bf44_2 : bOff Try.prog 44 2 = 2 := by kernel_rfl
@[simp] theorem bt44_2 : bTy Try.prog 44 2 = 3 := by kernel_rfl
@[simp] theorem fk44_3 : fieldOk Try.prog 44 3 = true := by kernel_rfl
@[simp] theorem ff44_3 : fieldOff Try.prog 44 3 = 3 := by kernel_rfl
@[simp] theorem ft44_3 : fieldTy Try.prog 44 3 = 41 := by kernel_rfl
@[simp] theorem bk44_3 : bOk Try.prog 44 3 = true := by kernel_rfl
@[simp] theorem bf44_3 : bOff Try.prog 44 3 = 3 := by kernel_rfl
@[simp] theorem bt44_3 : bTy Try.prog 44 3 = 41 := by kernel_rfl
@[simp] theorem fk44_4 : fieldOk Try.prog 44 4 = true := by kernel_rfl
@[simp] theorem ff44_4 : fieldOff Try.prog 44 4 = 4 := by kernel_rfl
@[simp] theorem ft44_4 : fieldTy Try.prog 44 4 = 42 := by kernel_rfl
@[simp] theorem bk44_4 : bOk Try.prog 44 4 = true := by kernel_rfl
@[simp] theorem bf44_4 : bOff Try.prog 44 4 = 4 := by kernel_rfl
@[simp] theorem bt44_4 : bTy Try.prog 44 4 = 42 := by kernel_rfl
@[simp] theorem ty47 : tyOk Try.prog 47 = true := by kernel_rfl
@[simp] theorem ce47 : Try.prog.cellsOf 47 = 1 := by kernel_rfl
@[simp] theorem ag47 : aggT Try.prog 47 = false := by kernel_rfl
@[simp] theorem by47 : Try.prog.bytesOf 47 = 24 := by kernel_rfl
@[simp] theorem un47 : (Try.prog.underlying 47).isSome = true := by kernel_rfl
@[simp] theorem zr47 : zrow Try.prog 12 47 = some [.nil 2] := by kernel_rfl
@[simp] theorem ze47 : zeroOk Try.prog 47 = true := by kernel_rfl
@[simp] theorem in47 : intT Try.prog 47 = none := by kernel_rfl
@[simp] theorem sl47 : sliceT Try.prog 47 = true := by kernel_rfl
@[simp] theorem el47 : elemT Try.prog 47 = 91 := by kernel_rfl
@[simp] theorem bs47 : byteT Try.prog 47 = false := by kernel_rfl
@[simp] theorem st47 : strT Try.prog 47 = false := by kernel_rfl
@[simp] theorem ty48 : tyOk Try.prog 48 = true := by kernel_rfl
@[simp] theorem ce48 : Try.prog.cellsOf 48 = 1 := by kernel_rfl
@[simp] theorem ag48 : aggT Try.prog 48 = false := by kernel_rfl
@[simp] theorem by48 : Try.prog.bytesOf 48 = 24 := by kernel_rfl
@[simp] theorem un48 : (Try.prog.underlying 48).isSome = true := by kernel_rfl
@[simp] theorem zr48 : zrow Try.prog 12 48 = some [.nil 5] := by kernel_rfl
@[simp] theorem ze48 : zeroOk Try.prog 48 = true := by kernel_rfl
@[simp] theorem in48 : intT Try.prog 48 = none := by kernel_rfl
@[simp] theorem sl48 : sliceT Try.prog 48 = true := by kernel_rfl
@[simp] theorem el48 : elemT Try.prog 48 = 29 := by kernel_rfl
@[simp] theorem bs48 : byteT Try.prog 48 = false := by kernel_rfl
@[simp] theorem st48 : strT Try.prog 48 = false := by kernel_rfl
@[simp] theorem ty50 : tyOk Try.prog 50 = true := by kernel_rfl
@[simp] theorem ce50 : Try.prog.cellsOf 50 = 5 := by kernel_rfl
@[simp] theorem ag50 : aggT Try.prog 50 = true := by kernel_rfl
@[simp] theorem by50 : Try.prog.bytesOf 50 = 72 := by kernel_rfl
@[simp] theorem un50 : (Try.prog.underlying 50).isSome = true := by kernel_rfl
@[simp] theorem zr50 : zrow Try.prog 12 50 = some [.d (.int .i64 0), .d (.int .i64 0), .d (.int .i64 0), .nil 2, .nil 5] := by kernel_rfl
@[simp] theorem ze50 : zeroOk Try.prog 50 = true := by kernel_rfl
@[simp] theorem in50 : intT Try.prog 50 = none := by kernel_rfl
@[simp] theorem fk50_0 : fieldOk Try.prog 50 0 = true := by kernel_rfl
@[simp] theorem ff50_0 : fieldOff Try.prog 50 0 = 0 := by kernel_rfl
@[simp] theorem ft50_0 : fieldTy Try.prog 50 0 = 3 := by kernel_rfl
@[simp] theorem bk50_0 : bOk Try.prog 50 0 = true := by kernel_rfl
@[simp] theorem bf50_0 : bOff Try.prog 50 0 = 0 := by kernel_rfl
@[simp] theorem bt50_0 : bTy Try.prog 50 0 = 3 := by kernel_rfl
@[simp] theorem fk50_1 : fieldOk Try.prog 50 1 = true := by kernel_rfl
@[simp] theorem ff50_1 : fieldOff Try.prog 50 1 = 1 := by kernel_rfl
@[simp] theorem ft50_1 : fieldTy Try.prog 50 1 = 3 := by kernel_rfl
@[simp] theorem bk50_1 : bOk Try.prog 50 1 = true := by kernel_rfl
@[simp] theorem bf50_1 : bOff Try.prog 50 1 = 1 := by kernel_rfl
@[simp] theorem bt50_1 : bTy Try.prog 50 1 = 3 := by kernel_rfl
@[simp] theorem fk50_2 : fieldOk Try.prog 50 2 = true := by kernel_rfl
@[simp] theorem ff50_2 : fieldOff Try.prog 50 2 = 2 := by kernel_rfl
@[simp] theorem ft50_2 : fieldTy Try.prog 50 2 = 3 := by kernel_rfl
@[simp] theorem bk50_2 : bOk Try.prog 50 2 = true := by kernel_rfl
@[simp] theorem bf50_2 : bOff Try.prog 50 2 = 2 := by kernel_rfl
@[simp] theorem bt50_2 : bTy Try.prog 50 2 = 3 := by kernel_rfl
@[simp] theorem fk50_3 : fieldOk Try.prog 50 3 = true := by kernel_rfl
@[simp] theorem ff50_3 : fieldOff Try.prog 50 3 = 3 := by kernel_rfl
@[simp] theorem ft50_3 : fieldTy Try.prog 50 3 = 47 := by kernel_rfl
@[simp] theorem bk50_3 : bOk Try.prog 50 3 = true := by kernel_rfl
@[simp] theorem bf50_3 : bOff Try.prog 50 3 = 3 := by kernel_rfl
@[simp] theorem bt50_3 : bTy Try.prog 50 3 = 47 := by kernel_rfl
@[simp] theorem fk50_4 : fieldOk Try.prog 50 4 = true := by kernel_rfl
@[simp] theorem ff50_4 : fieldOff Try.prog 50 4 = 4 := by kernel_rfl
@[simp] theorem ft50_4 : fieldTy Try.prog 50 4 = 48 := by kernel_rfl
@[simp] theorem bk50_4 : bOk Try.prog 50 4 = true := by kernel_rfl
@[simp] theorem bf50_4 : bOff Try.prog 50 4 = 4 := by kernel_rfl
@[simp] theorem bt50_4 : bTy Try.prog 50 4 = 48 := by kernel_rfl
@[simp] theorem ty54 : tyOk Try.prog 54 = true := by kernel_rfl
@[simp] theorem ce54 : Try.prog.cellsOf 54 = 1 := by kernel_rfl
@[simp] theorem ag54 : aggT Try.prog 54 = false := by kernel_rfl
@[simp] theorem by54 : Try.prog.bytesOf 54 = 24 := by kernel_rfl
@[simp] theorem un54 : (Try.prog.underlying 54).isSome = true := by kernel_rfl
@[simp] theorem zr54 : zrow Try.prog 12 54 = some [.nil 9] := by kernel_rfl
@[simp] theorem ze54 : zeroOk Try.prog 54 = true := by kernel_rfl
@[simp] theorem in54 : intT Try.prog 54 = none := by kernel_rfl
@[simp] theorem sl54 : sliceT Try.prog 54 = true := by kernel_rfl
@[simp] theorem el54 : elemT Try.prog 54 = 82 := by kernel_rfl
@[simp] theorem bs54 : byteT Try.prog 54 = false := by kernel_rfl
@[simp] theorem st54 : strT Try.prog 54 = false := by kernel_rfl
@[simp] theorem ty57 : tyOk Try.prog 57 = true := by kernel_rfl
@[simp] theorem ce57 : Try.prog.cellsOf 57 = 1 := by kernel_rfl
@[simp] theorem ag57 : aggT Try.prog 57 = false := by kernel_rfl
@[simp] theorem by57 : Try.prog.bytesOf 57 = 24 := by kernel_rfl
@[simp] theorem un57 : (Try.prog.underlying 57).isSome = true := by kernel_rfl
@[simp] theorem zr57 : zrow Try.prog 12 57 = some [.nil 9] := by kernel_rfl
@[simp] theorem ze57 : zeroOk Try.prog 57 = true := by kernel_rfl
@[simp] theorem in57 : intT Try.prog 57 = none := by kernel_rfl
@[simp] theorem sl57 : sliceT Try.prog 57 = true := by kernel_rfl
@[simp] theorem el57 : elemT Try.prog 57 = 85 := by kernel_rfl
@[simp] theorem bs57 : byteT Try.prog 57 = false := by kernel_rfl
@[simp] theorem st57 : strT Try.prog 57 = false := by kernel_rfl
@[simp] theorem ty62 : tyOk Try.prog 62 = true := by kernel_rfl
@[simp] theorem ce62 : Try.prog.cellsOf 62 = 1 := by kernel_rfl
@[simp] theorem ag62 : aggT Try.prog 62 = false := by kernel_rfl
@[simp] theorem by62 : Try.prog.bytesOf 62 = 24 := by kernel_rfl
@[simp] theorem un62 : (Try.prog.underlying 62).isSome = true := by kernel_rfl
@[simp] theorem zr62 : zrow Try.prog 12 62 = some [.nil 1] := by kernel_rfl
@[simp] theorem ze62 : zeroOk Try.prog 62 = true := by kernel_rfl
@[simp] theorem in62 : intT Try.prog 62 = none := by kernel_rfl
@[simp] theorem sl62 : sliceT Try.prog 62 = true := by kernel_rfl
@[simp] theorem el62 : elemT Try.prog 62 = 9 := by kernel_rfl
@[simp] theorem bs62 : byteT Try.prog 62 = false := by kernel_rfl
@[simp] theorem st62 : strT Try.prog 62 = false := by kernel_rfl
@[simp] theorem ty63 : tyOk Try.prog 63 = true := by kernel_rfl
@[simp] theorem ce63 : Try.prog.cellsOf 63 = 11 := by kernel_rfl
@[simp] theorem ag63 : aggT Try.prog 63 = true := by kernel_rfl
@[simp] theorem by63 : Try.prog.bytesOf 63 = 176 := by kernel_rfl
@[simp] theorem un63 : (Try.prog.underlying 63).isSome = true := by kernel_rfl
@[simp] theorem zr63 : zrow Try.prog 12 63 = some [.d (.str ⟨#[]⟩), .d (.str ⟨#[]⟩), .d (.str ⟨#[]⟩), .d (.str ⟨#[]⟩), .d (.str ⟨#[]⟩), .d (.str ⟨#[]⟩), .d (.str ⟨#[]⟩), .d (.str ⟨#[]⟩), .d (.str ⟨#[]⟩), .d (.str ⟨#[]⟩), .d (.str ⟨#[]⟩)] := by kernel_rfl
@[simp] theorem ze63 : zeroOk Try.prog 63 = true := by kernel_rfl
@[simp] theorem in63 : intT Try.prog 63 = none := by kernel_rfl
@[simp] theorem ar63 : arrT Try.prog 63 = some 11 := by kernel_rfl
@[simp] theorem el63 : elemT Try.prog 63 = 9 := by kernel_rfl
@[simp] theorem bk63_0 : bOk Try.prog 63 0 = true := by kernel_rfl
@[simp] theorem bf63_0 : bOff Try.prog 63 0 = 0 := by kernel_rfl
@[simp] theorem bt63_0 : bTy Try.prog 63 0 = 9 := by kernel_rfl
@[simp] theorem bk63_1 : bOk Try.prog 63 1 = true := by kernel_rfl
@[simp] theorem bf63_1 : bOff Try.prog 63 1 = 1 := by kernel_rfl
@[simp] theorem bt63_1 : bTy Try.prog 63 1 = 9 := by kernel_rfl
@[simp] theorem bk63_2 : bOk Try.prog 63 2 = true := by kernel_rfl
@[simp] theorem bf63_2 : bOff Try.prog 63 2 = 2 := by kernel_rfl
@[simp] theorem bt63_2 : bTy Try.prog 63 2 = 9 := by kernel_rfl
@[simp] theorem bk63_3 : bOk Try.prog 63 3 = true := by kernel_rfl
@[simp] theorem bf63_3 : bOff Try.prog 63 3 = 3 := by kernel_rfl
@[simp] theorem bt63_3 : bTy Try.prog 63 3 = 9 := by kernel_rfl
@[simp] theorem bk63_4 : bOk Try.prog 63 4 = true := by kernel_rfl
@[simp] theorem bf63_4 : bOff Try.prog 63 4 = 4 := by kernel_rfl
@[simp] theorem bt63_4 : bTy Try.prog 63 4 = 9 := by kernel_rfl
@[simp] theorem bk63_5 : bOk Try.prog 63 5 = true := by kernel_rfl
@[simp] theorem bf63_5 : bOff Try.prog 63 5 = 5 := by kernel_rfl
@[simp] theorem bt63_5 : bTy Try.prog 63 5 = 9 := by kernel_rfl
@[simp] theorem bk63_6 : bOk Try.prog 63 6 = true := by kernel_rfl
@[simp] theorem bf63_6 : bOff Try.prog 63 6 = 6 := by kernel_rfl
@[simp] theorem bt63_6 : bTy Try.prog 63 6 = 9 := by kernel_rfl
@[simp] theorem bk63_7 : bOk Try.prog 63 7 = true := by kernel_rfl
@[simp] theorem bf63_7 : bOff Try.prog 63 7 = 7 := by kernel_rfl
@[simp] theorem bt63_7 : bTy Try.prog 63 7 = 9 := by kernel_rfl
@[simp] theorem bk63_8 : bOk Try.prog 63 8 = true := by kernel_rfl
@[simp] theorem bf63_8 : bOff Try.prog 63 8 = 8 := by kernel_rfl
@[simp] theorem bt63_8 : bTy Try.prog 63 8 = 9 := by kernel_rfl
@[simp] theorem bk63_9 : bOk Try.prog 63 9 = true := by kernel_rfl
@[simp] theorem bf63_9 : bOff Try.prog 63 9 = 9 := by kernel_rfl
@[simp] theorem bt63_9 : bTy Try.prog 63 9 = 9 := by kernel_rfl
@[simp] theorem bk63_10 : bOk Try.prog 63 10 = true := by kernel_rfl
@[simp] theorem bf63_10 : bOff Try.prog 63 10 = 10 := by kernel_rfl
@[simp] theorem bt63_10 : bTy Try.prog 63 10 = 9 := by kernel_rfl
@[simp] theorem ty66 : tyOk Try.prog 66 = true := by kernel_rfl
@[simp] theorem ce66 : Try.prog.cellsOf 66 = 4 := by kernel_rfl
@[simp] theorem ag66 : aggT Try.prog 66 = true := by kernel_rfl
@[simp] theorem by66 : Try.prog.bytesOf 66 = 32 := by kernel_rfl
@[simp] theorem un66 : (Try.prog.underlying 66).isSome = true := by kernel_rfl
@[simp] theorem zr66 : zrow Try.prog 12 66 = some [.d (.int .i64 0), .d (.int .i64 0), .d (.int .i64 0), .d (.int .i64 0)] := by kernel_rfl
@[simp] theorem ze66 : zeroOk Try.prog 66 = true := by kernel_rfl
@[simp] theorem in66 : intT Try.prog 66 = none := by kernel_rfl
@[simp] theorem eq66 : eqOk Try.prog 66 = true := by kernel_rfl
@[simp] theorem fs66 : fieldTs Try.prog 66 = [3, 3, 3, 3] := by kernel_rfl
@[simp] theorem fk66_0 : fieldOk Try.prog 66 0 = true := by kernel_rfl
@[simp] theorem ff66_0 : fieldOff Try.prog 66 0 = 0 := by kernel_rfl
@[simp] theorem ft66_0 : fieldTy Try.prog 66 0 = 3 := by kernel_rfl
@[simp] theorem bk66_0 : bOk Try.prog 66 0 = true := by kernel_rfl
@[simp] theorem bf66_0 : bOff Try.prog 66 0 = 0 := by kernel_rfl
@[simp] theorem bt66_0 : bTy Try.prog 66 0 = 3 := by kernel_rfl
@[simp] theorem fk66_1 : fieldOk Try.prog 66 1 = true := by kernel_rfl
@[simp] theorem ff66_1 : fieldOff Try.prog 66 1 = 1 := by kernel_rfl
@[simp] theorem ft66_1 : fieldTy Try.prog 66 1 = 3 := by kernel_rfl
@[simp] theorem bk66_1 : bOk Try.prog 66 1 = true := by kernel_rfl
@[simp] theorem bf66_1 : bOff Try.prog 66 1 = 1 := by kernel_rfl
@[simp] theorem bt66_1 : bTy Try.prog 66 1 = 3 := by kernel_rfl
@[simp] theorem fk66_2 : fieldOk Try.prog 66 2 = true := by kernel_rfl
@[simp] theorem ff66_2 : fieldOff Try.prog 66 2 = 2 := by kernel_rfl
@[simp] theorem ft66_2 : fieldTy Try.prog 66 2 = 3 := by kernel_rfl
@[simp] theorem bk66_2 : bOk Try.prog 66 2 = true := by kernel_rfl
@[simp] theorem bf66_2 : bOff Try.prog 66 2 = 2 := by kernel_rfl
@[simp] theorem bt66_2 : bTy Try.prog 66 2 = 3 := by kernel_rfl
@[simp] theorem fk66_3 : fieldOk Try.prog 66 3 = true := by kernel_rfl
@[simp] theorem ff66_3 : fieldOff Try.prog 66 3 = 3 := by kernel_rfl
@[simp] theorem ft66_3 : fieldTy Try.prog 66 3 = 3 := by kernel_rfl
@[simp] theorem bk66_3 : bOk Try.prog 66 3 = true := by kernel_rfl
@[simp] theorem bf66_3 : bOff Try.prog 66 3 = 3 := by kernel_rfl
@[simp] theorem bt66_3 : bTy Try.prog 66 3 = 3 := by kernel_rfl
@[simp] theorem ty69 : tyOk Try.prog 69 = true := by kernel_rfl
@[simp] theorem ce69 : Try.prog.cellsOf 69 = 5 := by kernel_rfl
@[simp] theorem ag69 : aggT Try.prog 69 = true := by kernel_rfl
@[simp] theorem by69 : Try.prog.bytesOf 69 = 40 := by kernel_rfl
@[simp] theorem un69 : (Try.prog.underlying 69).isSome = true := by kernel_rfl
@[simp] theorem zr69 : zrow Try.prog 12 69 = some [.d (.int .i64 0), .d (.int .i64 0), .d (.int .i64 0), .d (.int .i64 0), .d (.int .i64 0)] := by kernel_rfl
@[simp] theorem ze69 : zeroOk Try.prog 69 = true := by kernel_rfl
@[simp] theorem in69 : intT Try.prog 69 = none := by kernel_rfl
@[simp] theorem eq69 : eqOk Try.prog 69 = true := by kernel_rfl
@[simp] theorem fs69 : fieldTs Try.prog 69 = [3, 3, 3, 3, 3] := by kernel_rfl
@[simp] theorem fk69_0 : fieldOk Try.prog 69 0 = true := by kernel_rfl
@[simp] theorem ff69_0 : fieldOff Try.prog 69 0 = 0 := by kernel_rfl
@[simp] theorem ft69_0 : fieldTy Try.prog 69 0 = 3 := by kernel_rfl
@[simp] theorem bk69_0 : bOk Try.prog 69 0 = true := by kernel_rfl
@[simp] theorem bf69_0 : bOff Try.prog 69 0 = 0 := by kernel_rfl
@[simp] theorem bt69_0 : bTy Try.prog 69 0 = 3 := by kernel_rfl
@[simp] theorem fk69_1 : fieldOk Try.prog 69 1 = true := by kernel_rfl
@[simp] theorem ff69_1 : fieldOff Try.prog 69 1 = 1 := by kernel_rfl
@[simp] theorem ft69_1 : fieldTy Try.prog 69 1 = 3 := by kernel_rfl
@[simp] theorem bk69_1 : bOk Try.prog 69 1 = true := by kernel_rfl
@[simp] theorem bf69_1 : bOff Try.prog 69 1 = 1 := by kernel_rfl
@[simp] theorem bt69_1 : bTy Try.prog 69 1 = 3 := by kernel_rfl
@[simp] theorem fk69_2 : fieldOk Try.prog 69 2 = true := by kernel_rfl
@[simp] theorem ff69_2 : fieldOff Try.prog 69 2 = 2 := by kernel_rfl
@[simp] theorem ft69_2 : fieldTy Try.prog 69 2 = 3 := by kernel_rfl
@[simp] theorem bk69_2 : bOk Try.prog 69 2 = true := by kernel_rfl
@[simp] theorem bf69_2 : bOff Try.prog 69 2 = 2 := by kernel_rfl
@[simp] theorem bt69_2 : bTy Try.prog 69 2 = 3 := by kernel_rfl
@[simp] theorem fk69_3 : fieldOk Try.prog 69 3 = true := by kernel_rfl
@[simp] theorem ff69_3 : fieldOff Try.prog 69 3 = 3 := by kernel_rfl
@[simp] theorem ft69_3 : fieldTy Try.prog 69 3 = 3 := by kernel_rfl
@[simp] theorem bk69_3 : bOk Try.prog 69 3 = true := by kernel_rfl
@[simp] theorem bf69_3 : bOff Try.prog 69 3 = 3 := by kernel_rfl
@[simp] theorem bt69_3 : bTy Try.prog 69 3 = 3 := by kernel_rfl
@[simp] theorem fk69_4 : fieldOk Try.prog 69 4 = true := by kernel_rfl
@[simp] theorem ff69_4 : fieldOff Try.prog 69 4 = 4 := by kernel_rfl
@[simp] theorem ft69_4 : fieldTy Try.prog 69 4 = 3 := by kernel_rfl
@[simp] theorem bk69_4 : bOk Try.prog 69 4 = true := by kernel_rfl
@[simp] theorem bf69_4 : bOff Try.prog 69 4 = 4 := by kernel_rfl
@[simp] theorem bt69_4 : bTy Try.prog 69 4 = 3 := by kernel_rfl
@[simp] theorem ty78 : tyOk Try.prog 78 = true := by kernel_rfl
@[simp] theorem ce78 : Try.prog.cellsOf 78 = 1 := by kernel_rfl
@[simp] theorem ag78 : aggT Try.prog 78 = false := by kernel_rfl
@[simp] theorem by78 : Try.prog.bytesOf 78 = 24 := by kernel_rfl
@[simp] theorem un78 : (Try.prog.underlying 78).isSome = true := by kernel_rfl
@[simp] theorem zr78 : zrow Try.prog 12 78 = some [.nil 1] := by kernel_rfl
@[simp] theorem ze78 : zeroOk Try.prog 78 = true := by kernel_rfl
@[simp] theorem in78 : intT Try.prog 78 = none := by kernel_rfl
@[simp] theorem sl78 : sliceT Try.prog 78 = true := by kernel_rfl
@[simp] theorem el78 : elemT Try.prog 78 = 3 := by kernel_rfl
@[simp] theorem bs78 : byteT Try.prog 78 = false := by kernel_rfl
@[simp] theorem st78 : strT Try.prog 78 = false := by kernel_rfl
@[simp] theorem ty80 : tyOk Try.prog 80 = true := by kernel_rfl
@[simp] theorem ce80 : Try.prog.cellsOf 80 = 3 := by kernel_rfl
@[simp] theorem ag80 : aggT Try.prog 80 = true := by kernel_rfl
@[simp] theorem by80 : Try.prog.bytesOf 80 = 56 := by kernel_rfl
@[simp] theorem un80 : (Try.prog.underlying 80).isSome = true := by kernel_rfl
@[simp] theorem zr80 : zrow Try.prog 12 80 = some [.d (.int .i64 0), .nil 1, .nil 1] := by kernel_rfl
@[simp] theorem ze80 : zeroOk Try.prog 80 = true := by kernel_rfl
@[simp] theorem in80 : intT Try.prog 80 = none := by kernel_rfl
@[simp] theorem fk80_0 : fieldOk Try.prog 80 0 = true := by kernel_rfl
@[simp] theorem ff80_0 : fieldOff Try.prog 80 0 = 0 := by kernel_rfl
@[simp] theorem ft80_0 : fieldTy Try.prog 80 0 = 3 := by kernel_rfl
@[simp] theorem bk80_0 : bOk Try.prog 80 0 = true := by kernel_rfl
@[simp] theorem bf80_0 : bOff Try.prog 80 0 = 0 := by kernel_rfl
@[simp] theorem bt80_0 : bTy Try.prog 80 0 = 3 := by kernel_rfl
@[simp] theorem fk80_1 : fieldOk Try.prog 80 1 = true := by kernel_rfl
@[simp] theorem ff80_1 : fieldOff Try.prog 80 1 = 1 := by kernel_rfl
@[simp] theorem ft80_1 : fieldTy Try.prog 80 1 = 62 := by kernel_rfl
@[simp] theorem bk80_1 : bOk Try.prog 80 1 = true := by kernel_rfl
@[simp] theorem bf80_1 : bOff Try.prog 80 1 = 1 := by kernel_rfl
@[simp] theorem bt80_1 : bTy Try.prog 80 1 = 62 := by kernel_rfl
@[simp] theorem fk80_2 : fieldOk Try.prog 80 2 = true := by kernel_rfl
@[simp] theorem ff80_2 : fieldOff Try.prog 80 2 = 2 := by kernel_rfl
@[simp] theorem ft80_2 : fieldTy Try.prog 80 2 = 78 := by kernel_rfl
@[simp] theorem bk80_2 : bOk Try.prog 80 2 = true := by kernel_rfl
@[simp] theorem bf80_2 : bOff Try.prog 80 2 = 2 := by kernel_rfl
@[simp] theorem bt80_2 : bTy Try.prog 80 2 = 78 := by kernel_rfl
@[simp] theorem ty82 : tyOk Try.prog 82 = true := by kernel_rfl
@[simp] theorem ce82 : Try.prog.cellsOf 82 = 9 := by kernel_rfl
@[simp] theorem ag82 : aggT Try.prog 82 = true := by kernel_rfl
@[simp] theorem by82 : Try.prog.bytesOf 82 = 120 := by kernel_rfl
@[simp] theorem un82 : (Try.prog.underlying 82).isSome = true := by kernel_rfl
@[simp] theorem zr82 : zrow Try.prog 12 82 = some [.d (.int .i64 0), .d (.int .i64 0), .d (.int .i64 0), .d (.int .i64 0), .d (.int .i64 0), .d (.int .i64 0), .nil 1, .nil 1, .nil 1] := by kernel_rfl
@[simp] theorem ze82 : zeroOk Try.prog 82 = true := by kernel_rfl
@[simp] theorem in82 : intT Try.prog 82 = none := by kernel_rfl
@[simp] theorem fk82_0 : fieldOk Try.prog 82 0 = true := by kernel_rfl
@[simp] theorem ff82_0 : fieldOff Try.prog 82 0 = 0 := by kernel_rfl
@[simp] theorem ft82_0 : fieldTy Try.prog 82 0 = 3 := by kernel_rfl
@[simp] theorem bk82_0 : bOk Try.prog 82 0 = true := by kernel_rfl
@[simp] theorem bf82_0 : bOff Try.prog 82 0 = 0 := by kernel_rfl
@[simp] theorem bt82_0 : bTy Try.prog 82 0 = 3 := by kernel_rfl
@[simp] theorem fk82_1 : fieldOk Try.prog 82 1 = true := by kernel_rfl
@[simp] theorem ff82_1 : fieldOff Try.prog 82 1 = 1 := by kernel_rfl
@[simp] theorem ft82_1 : fieldTy Try.prog 82 1 = 3 := by kernel_rfl
@[simp] theorem bk82_1 : bOk Try.prog 82 1 = true := by kernel_rfl
@[simp] theorem bf82_1 : bOff Try.prog 82 1 = 1 := by kernel_rfl
@[simp] theorem bt82_1 : bTy Try.prog 82 1 = 3 := by kernel_rfl
@[simp] theorem fk82_2 : fieldOk Try.prog 82 2 = true := by kernel_rfl
@[simp] theorem ff82_2 : fieldOff Try.prog 82 2 = 2 := by kernel_rfl
@[simp] theorem ft82_2 : fieldTy Try.prog 82 2 = 3 := by kernel_rfl
@[simp] theorem bk82_2 : bOk Try.prog 82 2 = true := by kernel_rfl
@[simp] theorem bf82_2 : bOff Try.prog 82 2 = 2 := by kernel_rfl
@[simp] theorem bt82_2 : bTy Try.prog 82 2 = 3 := by kernel_rfl
@[simp] theorem fk82_3 : fieldOk Try.prog 82 3 = true := by kernel_rfl
@[simp] theorem ff82_3 : fieldOff Try.prog 82 3 = 3 := by kernel_rfl
@[simp] theorem ft82_3 : fieldTy Try.prog 82 3 = 3 := by kernel_rfl
@[simp] theorem bk82_3 : bOk Try.prog 82 3 = true := by kernel_rfl
@[simp] theorem bf82_3 : bOff Try.prog 82 3 = 3 := by kernel_rfl
@[simp] theorem bt82_3 : bTy Try.prog 82 3 = 3 := by kernel_rfl
@[simp] theorem fk82_4 : fieldOk Try.prog 82 4 = true := by kernel_rfl
@[simp] theorem ff82_4 : fieldOff Try.prog 82 4 = 4 := by kernel_rfl
@[simp] theorem ft82_4 : fieldTy Try.prog 82 4 = 3 := by kernel_rfl
@[simp] theorem bk82_4 : bOk Try.prog 82 4 = true := by kernel_rfl
@[simp] theorem bf82_4 : bOff Try.prog 82 4 = 4 := by kernel_rfl
@[simp] theorem bt82_4 : bTy Try.prog 82 4 = 3 := by kernel_rfl
@[simp] theorem fk82_5 : fieldOk Try.prog 82 5 = true := by kernel_rfl
@[simp] theorem ff82_5 : fieldOff Try.prog 82 5 = 5 := by kernel_rfl
@[simp] theorem ft82_5 : fieldTy Try.prog 82 5 = 80 := by kernel_rfl
@[simp] theorem bk82_5 : bOk Try.prog 82 5 = true := by kernel_rfl
@[simp] theorem bf82_5 : bOff Try.prog 82 5 = 5 := by kernel_rfl
@[simp] theorem bt82_5 : bTy Try.prog 82 5 = 80 := by kernel_rfl
@[simp] theorem fk82_6 : fieldOk Try.prog 82 6 = true := by kernel_rfl
@[simp] theorem ff82_6 : fieldOff Try.prog 82 6 = 8 := by kernel_rfl
@[simp] theorem ft82_6 : fieldTy Try.prog 82 6 = 78 := by kernel_rfl
@[simp] theorem bk82_6 : bOk Try.prog 82 6 = true := by kernel_rfl
@[simp] theorem bf82_6 : bOff Try.prog 82 6 = 8 := by kernel_rfl
@[simp] theorem bt82_6 : bTy Try.prog 82 6 = 78 := by kernel_rfl
@[simp] theorem ty83 : tyOk Try.prog 83 = true := by kernel_rfl
@[simp] theorem ce83 : Try.prog.cellsOf 83 = 3 := by kernel_rfl
@[simp] theorem ag83 : aggT Try.prog 83 = true := by kernel_rfl
@[simp] theorem by83 : Try.prog.bytesOf 83 = 56 := by kernel_rfl
@[simp] theorem un83 : (Try.prog.underlying 83).isSome = true := by kernel_rfl
@[simp] theorem zr83 : zrow Try.prog 12 83 = some [.d (.int .i64 0), .nil 1, .nil 1] := by kernel_rfl
@[simp] theorem ze83 : zeroOk Try.prog 83 = true := by kernel_rfl
@[simp] theorem in83 : intT Try.prog 83 = none := by kernel_rfl
@[simp] theorem fk83_0 : fieldOk Try.prog 83 0 = true := by kernel_rfl
@[simp] theorem ff83_0 : fieldOff Try.prog 83 0 = 0 := by kernel_rfl
@[simp] theorem ft83_0 : fieldTy Try.prog 83 0 = 3 := by kernel_rfl
@[simp] theorem bk83_0 : bOk Try.prog 83 0 = true := by kernel_rfl
@[simp] theorem bf83_0 : bOff Try.prog 83 0 = 0 := by kernel_rfl
@[simp] theorem bt83_0 : bTy Try.prog 83 0 = 3 := by kernel_rfl
@[simp] theorem fk83_1 : fieldOk Try.prog 83 1 = true := by kernel_rfl
@[simp] theorem ff83_1 : fieldOff Try.prog 83 1 = 1 := by kernel_rfl
@[simp] theorem ft83_1 : fieldTy Try.prog 83 1 = 62 := by kernel_rfl
@[simp] theorem bk83_1 : bOk Try.prog 83 1 = true := by kernel_rfl
@[simp] theorem bf83_1 : bOff Try.prog 83 1 = 1 := by kernel_rfl
@[simp] theorem bt83_1 : bTy Try.prog 83 1 = 62 := by kernel_rfl
@[simp] theorem fk83_2 : fieldOk Try.prog 83 2 = true := by kernel_rfl
@[simp] theorem ff83_2 : fieldOff Try.prog 83 2 = 2 := by kernel_rfl
@[simp] theorem ft83_2 : fieldTy Try.prog 83 2 = 78 := by kernel_rfl
@[simp] theorem bk83_2 : bOk Try.prog 83 2 = true := by kernel_rfl
@[simp] theorem bf83_2 : bOff Try.prog 83 2 = 2 := by kernel_rfl
@[simp] theorem bt83_2 : bTy Try.prog 83 2 = 78 := by kernel_rfl
@[simp] theorem ty85 : tyOk Try.prog 85 = true := by kernel_rfl
@[simp] theorem ce85 : Try.prog.cellsOf 85 = 9 := by kernel_rfl
@[simp] theorem ag85 : aggT Try.prog 85 = true := by kernel_rfl
@[simp] theorem by85 : Try.prog.bytesOf 85 = 120 := by kernel_rfl
@[simp] theorem un85 : (Try.prog.underlying 85).isSome = true := by kernel_rfl
@[simp] theorem zr85 : zrow Try.prog 12 85 = some [.d (.int .i64 0), .d (.int .i64 0), .d (.int .i64 0), .d (.int .i64 0), .d (.int .i64 0), .d (.int .i64 0), .nil 1, .nil 1, .nil 1] := by kernel_rfl
@[simp] theorem ze85 : zeroOk Try.prog 85 = true := by kernel_rfl
@[simp] theorem in85 : intT Try.prog 85 = none := by kernel_rfl
@[simp] theorem fk85_0 : fieldOk Try.prog 85 0 = true := by kernel_rfl
@[simp] theorem ff85_0 : fieldOff Try.prog 85 0 = 0 := by kernel_rfl
@[simp] theorem ft85_0 : fieldTy Try.prog 85 0 = 3 := by kernel_rfl
@[simp] theorem bk85_0 : bOk Try.prog 85 0 = true := by kernel_rfl
@[simp] theorem bf85_0 : bOff Try.prog 85 0 = 0 := by kernel_rfl
@[simp] theorem bt85_0 : bTy Try.prog 85 0 = 3 := by kernel_rfl
@[simp] theorem fk85_1 : fieldOk Try.prog 85 1 = true := by kernel_rfl
@[simp] theorem ff85_1 : fieldOff Try.prog 85 1 = 1 := by kernel_rfl
@[simp] theorem ft85_1 : fieldTy Try.prog 85 1 = 3 := by kernel_rfl
@[simp] theorem bk85_1 : bOk Try.prog 85 1 = true := by kernel_rfl
@[simp] theorem bf85_1 : bOff Try.prog 85 1 = 1 := by kernel_rfl
@[simp] theorem bt85_1 : bTy Try.prog 85 1 = 3 := by kernel_rfl
@[simp] theorem fk85_2 : fieldOk Try.prog 85 2 = true := by kernel_rfl
@[simp] theorem ff85_2 : fieldOff Try.prog 85 2 = 2 := by kernel_rfl
@[simp] theorem ft85_2 : fieldTy Try.prog 85 2 = 3 := by kernel_rfl
@[simp] theorem bk85_2 : bOk Try.prog 85 2 = true := by kernel_rfl
@[simp] theorem bf85_2 : bOff Try.prog 85 2 = 2 := by kernel_rfl
@[simp] theorem bt85_2 : bTy Try.prog 85 2 = 3 := by kernel_rfl
@[simp] theorem fk85_3 : fieldOk Try.prog 85 3 = true := by kernel_rfl
@[simp] theorem ff85_3 : fieldOff Try.prog 85 3 = 3 := by kernel_rfl
@[simp] theorem ft85_3 : fieldTy Try.prog 85 3 = 3 := by kernel_rfl
@[simp] theorem bk85_3 : bOk Try.prog 85 3 = true := by kernel_rfl
@[simp] theorem bf85_3 : bOff Try.prog 85 3 = 3 := by kernel_rfl
@[simp] theorem bt85_3 : bTy Try.prog 85 3 = 3 := by kernel_rfl
@[simp] theorem fk85_4 : fieldOk Try.prog 85 4 = true := by kernel_rfl
@[simp] theorem ff85_4 : fieldOff Try.prog 85 4 = 4 := by kernel_rfl
@[simp] theorem ft85_4 : fieldTy Try.prog 85 4 = 3 := by kernel_rfl
@[simp] theorem bk85_4 : bOk Try.prog 85 4 = true := by kernel_rfl
@[simp] theorem bf85_4 : bOff Try.prog 85 4 = 4 := by kernel_rfl
@[simp] theorem bt85_4 : bTy Try.prog 85 4 = 3 := by kernel_rfl
@[simp] theorem fk85_5 : fieldOk Try.prog 85 5 = true := by kernel_rfl
@[simp] theorem ff85_5 : fieldOff Try.prog 85 5 = 5 := by kernel_rfl
@[simp] theorem ft85_5 : fieldTy Try.prog 85 5 = 83 := by kernel_rfl
@[simp] theorem bk85_5 : bOk Try.prog 85 5 = true := by kernel_rfl
@[simp] theorem bf85_5 : bOff Try.prog 85 5 = 5 := by kernel_rfl
@[simp] theorem bt85_5 : bTy Try.prog 85 5 = 83 := by kernel_rfl
@[simp] theorem fk85_6 : fieldOk Try.prog 85 6 = true := by kernel_rfl
@[simp] theorem ff85_6 : fieldOff Try.prog 85 6 = 8 := by kernel_rfl
@[simp] theorem ft85_6 : fieldTy Try.prog 85 6 = 78 := by kernel_rfl
@[simp] theorem bk85_6 : bOk Try.prog 85 6 = true := by kernel_rfl
@[simp] theorem bf85_6 : bOff Try.prog 85 6 = 8 := by kernel_rfl
@[simp] theorem bt85_6 : bTy Try.prog 85 6 = 78 := by kernel_rfl
@[simp] theorem ty88 : tyOk Try.prog 88 = true := by kernel_rfl
@[simp] theorem ce88 : Try.prog.cellsOf 88 = 1 := by kernel_rfl
@[simp] theorem ag88 : aggT Try.prog 88 = false := by kernel_rfl
@[simp] theorem by88 : Try.prog.bytesOf 88 = 8 := by kernel_rfl
@[simp] theorem un88 : (Try.prog.underlying 88).isSome = true := by kernel_rfl
@[simp] theorem zr88 : zrow Try.prog 12 88 = some [.d (.int .u64 0)] := by kernel_rfl
@[simp] theorem ze88 : zeroOk Try.prog 88 = true := by kernel_rfl
@[simp] theorem in88 : intT Try.prog 88 = some .u64 := by kernel_rfl
@[simp] theorem ty89 : tyOk Try.prog 89 = true := by kernel_rfl
@[simp] theorem ce89 : Try.prog.cellsOf 89 = 1 := by kernel_rfl
@[simp] theorem ag89 : aggT Try.prog 89 = false := by kernel_rfl
@[simp] theorem by89 : Try.prog.bytesOf 89 = 24 := by kernel_rfl
@[simp] theorem un89 : (Try.prog.underlying 89).isSome = true := by kernel_rfl
@[simp] theorem zr89 : zrow Try.prog 12 89 = some [.nil 1] := by kernel_rfl
@[simp] theorem ze89 : zeroOk Try.prog 89 = true := by kernel_rfl
@[simp] theorem in89 : intT Try.prog 89 = none := by kernel_rfl
@[simp] theorem sl89 : sliceT Try.prog 89 = true := by kernel_rfl
@[simp] theorem el89 : elemT Try.prog 89 = 5 := by kernel_rfl
@[simp] theorem bs89 : byteT Try.prog 89 = true := by kernel_rfl
@[simp] theorem st89 : strT Try.prog 89 = false := by kernel_rfl
@[simp] theorem ty91 : tyOk Try.prog 91 = true := by kernel_rfl
@[simp] theorem ce91 : Try.prog.cellsOf 91 = 2 := by kernel_rfl
@[simp] theorem ag91 : aggT Try.prog 91 = true := by kernel_rfl
@[simp] theorem by91 : Try.prog.bytesOf 91 = 16 := by kernel_rfl
@[simp] theorem un91 : (Try.prog.underlying 91).isSome = true := by kernel_rfl
@[simp] theorem zr91 : zrow Try.prog 12 91 = some [.d (.int .i64 0), .d (.bool false)] := by kernel_rfl
@[simp] theorem ze91 : zeroOk Try.prog 91 = true := by kernel_rfl
@[simp] theorem in91 : intT Try.prog 91 = none := by kernel_rfl
@[simp] theorem eq91 : eqOk Try.prog 91 = true := by kernel_rfl
@[simp] theorem fs91 : fieldTs Try.prog 91 = [3, 4] := by kernel_rfl
@[simp] theorem fk91_0 : fieldOk Try.prog 91 0 = true := by kernel_rfl
@[simp] theorem ff91_0 : fieldOff Try.prog 91 0 = 0 := by kernel_rfl
@[simp] theorem ft91_0 : fieldTy Try.prog 91 0 = 3 := by kernel_rfl
@[simp] theorem bk91_0 : bOk Try.prog 91 0 = true := by kernel_rfl
@[simp] theorem bf91_0 : bOff Try.prog 91 0 = 0 := by kernel_rfl
@[simp] theorem bt91_0 : bTy Try.prog 91 0 = 3 := by kernel_rfl
@[simp] theorem fk91_1 : fieldOk Try.prog 91 1 = true := by kernel_rfl
@[simp] theorem ff91_1 : fieldOff Try.prog 91 1 = 1 := by kernel_rfl
@[simp] theorem ft91_1 : fieldTy Try.prog 91 1 = 4 := by kernel_rfl
@[simp] theorem bk91_1 : bOk Try.prog 91 1 = true := by kernel_rfl
@[simp] theorem bf91_1 : bOff Try.prog 91 1 = 1 := by kernel_rfl
@[simp] theorem bt91_1 : bTy Try.prog 91 1 = 4 := by kernel_rfl
@[simp] theorem ty93 : tyOk Try.prog 93 = true := by kernel_rfl
@[simp] theorem ce93 : Try.prog.cellsOf 93 = 2 := by kernel_rfl
@[simp] theorem ag93 : aggT Try.prog 93 = true := by kernel_rfl
@[simp] theorem by93 : Try.prog.bytesOf 93 = 16 := by kernel_rfl
@[simp] theorem un93 : (Try.prog.underlying 93).isSome = true := by kernel_rfl
@[simp] theorem zr93 : zrow Try.prog 12 93 = some [.d (.int .i64 0), .d (.bool false)] := by kernel_rfl
@[simp] theorem ze93 : zeroOk Try.prog 93 = true := by kernel_rfl
@[simp] theorem in93 : intT Try.prog 93 = none := by kernel_rfl
@[simp] theorem eq93 : eqOk Try.prog 93 = true := by kernel_rfl
@[simp] theorem fs93 : fieldTs Try.prog 93 = [3, 4] := by kernel_rfl
@[simp] theorem fk93_0 : fieldOk Try.prog 93 0 = true := by kernel_rfl
@[simp] theorem ff93_0 : fieldOff Try.prog 93 0 = 0 := by kernel_rfl
@[simp] theorem ft93_0 : fieldTy Try.prog 93 0 = 3 := by kernel_rfl
@[simp] theorem bk93_0 : bOk Try.prog 93 0 = true := by kernel_rfl
@[simp] theorem bf93_0 : bOff Try.prog 93 0 = 0 := by kernel_rfl
@[simp] theorem bt93_0 : bTy Try.prog 93 0 = 3 := by kernel_rfl
@[simp] theorem fk93_1 : fieldOk Try.prog 93 1 = true := by kernel_rfl
@[simp] theorem ff93_1 : fieldOff Try.prog 93 1 = 1 := by kernel_rfl
@[simp] theorem ft93_1 : fieldTy Try.prog 93 1 = 4 := by kernel_rfl
@[simp] theorem bk93_1 : bOk Try.prog 93 1 = true := by kernel_rfl
@[simp] theorem bf93_1 : bOff Try.prog 93 1 = 1 := by kernel_rfl
@[simp] theorem bt93_1 : bTy Try.prog 93 1 = 4 := by kernel_rfl
@[simp] theorem ty114 : tyOk Try.prog 114 = true := by kernel_rfl
@[simp] theorem ce114 : Try.prog.cellsOf 114 = 1 := by kernel_rfl
@[simp] theorem ag114 : aggT Try.prog 114 = false := by kernel_rfl
@[simp] theorem by114 : Try.prog.bytesOf 114 = 1 := by kernel_rfl
@[simp] theorem un114 : (Try.prog.underlying 114).isSome = true := by kernel_rfl
@[simp] theorem zr114 : zrow Try.prog 12 114 = some [.d (.int .u8 0)] := by kernel_rfl
@[simp] theorem ze114 : zeroOk Try.prog 114 = true := by kernel_rfl
@[simp] theorem in114 : intT Try.prog 114 = some .u8 := by kernel_rfl
end Go.Proofs.Ytoeokngpoibldaa
