/- The facts of the plain types of the program, by evaluation. No condition. -/
import Derived.Test.YtjnnnnanipkcnaaVe
import Derived.Test.YtjnnnnanipkcnaaProg
namespace Go.Proofs.Ytjnnnnanipkcnaa
open Go.Vm
@[simp] theorem ty2 : tyOk Try.prog 2 = true := by kernel_rfl
@[simp] theorem ce2 : Try.prog.cellsOf 2 = 1 := by kernel_rfl
@[simp] theorem ag2 : aggT Try.prog 2 = false := by kernel_rfl
@[simp] theorem by2 : Try.prog.bytesOf 2 = 8 := by kernel_rfl
@[simp] theorem un2 : (Try.prog.underlying 2).isSome = true := by kernel_rfl
@[simp] theorem zr2 : zrow Try.prog 12 2 = some [.d (.int .i64 0)] := by kernel_rfl
@[simp] theorem ze2 : zeroOk Try.prog 2 = true := by kernel_rfl
@[simp] theorem in2 : intT Try.prog 2 = some .i64 := by kernel_rfl
@[simp] theorem ty3 : tyOk Try.prog 3 = true := by kernel_rfl
@[simp] theorem ce3 : Try.prog.cellsOf 3 = 1 := by kernel_rfl
@[simp] theorem ag3 : aggT Try.prog 3 = false := by kernel_rfl
@[simp] theorem by3 : Try.prog.bytesOf 3 = 8 := by kernel_rfl
@[simp] theorem un3 : (Try.prog.underlying 3).isSome = true := by kernel_rfl
@[simp] theorem zr3 : zrow Try.prog 12 3 = some [.d (.int .i64 0)] := by kernel_rfl
@[simp] theorem ze3 : zeroOk Try.prog 3 = true := by kernel_rfl
@[simp] theorem in3 : intT Try.prog 3 = some .i64 := by kernel_rfl
@[simp] theorem ty4 : tyOk Try.prog 4 = true := by kernel_rfl
@[simp] theorem ce4 : Try.prog.cellsOf 4 = 1 := by kernel_rfl
@[simp] theorem ag4 : aggT Try.prog 4 = false := by kernel_rfl
@[simp] theorem by4 : Try.prog.bytesOf 4 = 1 := by kernel_rfl
@[simp] theorem un4 : (Try.prog.underlying 4).isSome = true := by kernel_rfl
@[simp] theorem zr4 : zrow Try.prog 12 4 = some [.d (.bool false)] := by kernel_rfl
@[simp] theorem ze4 : zeroOk Try.prog 4 = true := by kernel_rfl
@[simp] theorem in4 : intT Try.prog 4 = none := by kernel_rfl
@[simp] theorem bo4 : boolT Try.prog 4 = true := by kernel_rfl
@[simp] theorem ty5 : tyOk Try.prog 5 = true := by kernel_rfl
@[simp] theorem ce5 : Try.prog.cellsOf 5 = 1 := by kernel_rfl
@[simp] theorem ag5 : aggT Try.prog 5 = false := by kernel_rfl
@[simp] theorem by5 : Try.prog.bytesOf 5 = 1 := by kernel_rfl
@[simp] theorem un5 : (Try.prog.underlying 5).isSome = true := by kernel_rfl
@[simp] theorem zr5 : zrow Try.prog 12 5 = some [.d (.int .u8 0)] := by kernel_rfl
@[simp] theorem ze5 : zeroOk Try.prog 5 = true := by kernel_rfl
@[simp] theorem in5 : intT Try.prog 5 = some .u8 := by kernel_rfl
@[simp] theorem ty6 : tyOk Try.prog 6 = true := by kernel_rfl
@[simp] theorem ce6 : Try.prog.cellsOf 6 = 1 := by kernel_rfl
@[simp] theorem ag6 : aggT Try.prog 6 = false := by kernel_rfl
@[simp] theorem by6 : Try.prog.bytesOf 6 = 1 := by kernel_rfl
@[simp] theorem un6 : (Try.prog.underlying 6).isSome = true := by kernel_rfl
@[simp] theorem zr6 : zrow Try.prog 12 6 = some [.d (.int .u8 0)] := by kernel_rfl
@[simp] theorem ze6 : zeroOk Try.prog 6 = true := by kernel_rfl
@[simp] theorem in6 : intT Try.prog 6 = some .u8 := by kernel_rfl
@[simp] theorem ty8 : tyOk Try.prog 8 = true := by kernel_rfl
@[simp] theorem ce8 : Try.prog.cellsOf 8 = 4 := by kernel_rfl
@[simp] theorem ag8 : aggT Try.prog 8 = true := by kernel_rfl
@[simp] theorem by8 : Try.prog.bytesOf 8 = 24 := by kernel_rfl
@[simp] theorem un8 : (Try.prog.underlying 8).isSome = true := by kernel_rfl
@[simp] theorem zr8 : zrow Try.prog 12 8 = some [.d (.int .i64 0), .d (.int .i64 0), .d (.bool false), .d (.int .u8 0)] := by kernel_rfl
@[simp] theorem ze8 : zeroOk Try.prog 8 = true := by kernel_rfl
@[simp] theorem in8 : intT Try.prog 8 = none := by kernel_rfl
@[simp] theorem fk8_0 : fieldOk Try.prog 8 0 = true := by kernel_rfl
@[simp] theorem ff8_0 : fieldOff Try.prog 8 0 = 0 := by kernel_rfl
@[simp] theorem ft8_0 : fieldTy Try.prog 8 0 = 2 := by kernel_rfl
@[simp] theorem bk8_0 : bOk Try.prog 8 0 = true := by kernel_rfl
@[simp] theorem bf8_0 : bOff Try.prog 8 0 = 0 := by kernel_rfl
@[simp] theorem bt8_0 : bTy Try.prog 8 0 = 2 := by kernel_rfl
@[simp] theorem fk8_1 : fieldOk Try.prog 8 1 = true := by kernel_rfl
@[simp] theorem ff8_1 : fieldOff Try.prog 8 1 = 1 := by kernel_rfl
@[simp] theorem ft8_1 : fieldTy Try.prog 8 1 = 3 := by kernel_rfl
@[simp] theorem bk8_1 : bOk Try.prog 8 1 = true := by kernel_rfl
@[simp] theorem bf8_1 : bOff Try.prog 8 1 = 1 := by kernel_rfl
@[simp] theorem bt8_1 : bTy Try.prog 8 1 = 3 := by kernel_rfl
@[simp] theorem fk8_2 : fieldOk Try.prog 8 2 = true := by kernel_rfl
@[simp] theorem ff8_2 : fieldOff Try.prog 8 2 = 2 := by kernel_rfl
@[simp] theorem ft8_2 : fieldTy Try.prog 8 2 = 4 := by kernel_rfl
@[simp] theorem bk8_2 : bOk Try.prog 8 2 = true := by kernel_rfl
@[simp] theorem bf8_2 : bOff Try.prog 8 2 = 2 := by kernel_rfl
@[simp] theorem bt8_2 : bTy Try.prog 8 2 = 4 := by kernel_rfl
@[simp] theorem fk8_3 : fieldOk Try.prog 8 3 = true := by kernel_rfl
@[simp] theorem ff8_3 : fieldOff Try.prog 8 3 = 3 := by kernel_rfl
@[simp] theorem ft8_3 : fieldTy Try.prog 8 3 = 6 := by kernel_rfl
@[simp] theorem bk8_3 : bOk Try.prog 8 3 = true := by kernel_rfl
@[simp] theorem bf8_3 : bOff Try.prog 8 3 = 3 := by kernel_rfl
@[simp] theorem bt8_3 : bTy Try.prog 8 3 = 6 := by kernel_rfl
@[simp] theorem ty9 : tyOk Try.prog 9 = true := by kernel_rfl
@[simp] theorem ce9 : Try.prog.cellsOf 9 = 1 := by kernel_rfl
@[simp] theorem ag9 : aggT Try.prog 9 = false := by kernel_rfl
@[simp] theorem by9 : Try.prog.bytesOf 9 = 16 := by kernel_rfl
@[simp] theorem un9 : (Try.prog.underlying 9).isSome = true := by kernel_rfl
@[simp] theorem zr9 : zrow Try.prog 12 9 = some [.d (.str ⟨#[]⟩)] := by kernel_rfl
@[simp] theorem ze9 : zeroOk Try.prog 9 = true := by kernel_rfl
@[simp] theorem in9 : intT Try.prog 9 = none := by kernel_rfl
@[simp] theorem st9 : strT Try.prog 9 = true := by kernel_rfl
@[simp] theorem ty10 : tyOk Try.prog 10 = true := by kernel_rfl
@[simp] theorem ce10 : Try.prog.cellsOf 10 = 1 := by kernel_rfl
@[simp] theorem ag10 : aggT Try.prog 10 = false := by kernel_rfl
@[simp] theorem by10 : Try.prog.bytesOf 10 = 16 := by kernel_rfl
@[simp] theorem un10 : (Try.prog.underlying 10).isSome = true := by kernel_rfl
@[simp] theorem zr10 : zrow Try.prog 12 10 = some [.d (.str ⟨#[]⟩)] := by kernel_rfl
@[simp] theorem ze10 : zeroOk Try.prog 10 = true := by kernel_rfl
@[simp] theorem in10 : intT Try.prog 10 = none := by kernel_rfl
@[simp] theorem st10 : strT Try.prog 10 = true := by kernel_rfl
@[simp] theorem ty11 : tyOk Try.prog 11 = true := by kernel_rfl
@[simp] theorem ce11 : Try.prog.cellsOf 11 = 1 := by kernel_rfl
@[simp] theorem ag11 : aggT Try.prog 11 = false := by kernel_rfl
@[simp] theorem by11 : Try.prog.bytesOf 11 = 16 := by kernel_rfl
@[simp] theorem un11 : (Try.prog.underlying 11).isSome = true := by kernel_rfl
@[simp] theorem zr11 : zrow Try.prog 12 11 = some [.d (.str ⟨#[]⟩)] := by kernel_rfl
@[simp] theorem ze11 : zeroOk Try.prog 11 = true := by kernel_rfl
@[simp] theorem in11 : intT Try.prog 11 = none := by kernel_rfl
@[simp] theorem st11 : strT Try.prog 11 = true := by kernel_rfl
@[simp] theorem ty12 : tyOk Try.prog 12 = true := by kernel_rfl
@[simp] theorem ce12 : Try.prog.cellsOf 12 = 1 := by kernel_rfl
@[simp] theorem ag12 : aggT Try.prog 12 = false := by kernel_rfl
@[simp] theorem by12 : Try.prog.bytesOf 12 = 8 := by kernel_rfl
@[simp] theorem un12 : (Try.prog.underlying 12).isSome = true := by kernel_rfl
@[simp] theorem zr12 : zrow Try.prog 12 12 = some [.d (.int .u64 0)] := by kernel_rfl
@[simp] theorem ze12 : zeroOk Try.prog 12 = true := by kernel_rfl
@[simp] theorem in12 : intT Try.prog 12 = some .u64 := by kernel_rfl
@[simp] theorem ty14 : tyOk Try.prog 14 = true := by kernel_rfl
@[simp] theorem ce14 : Try.prog.cellsOf 14 = 2 := by kernel_rfl
@[simp] theorem ag14 : aggT Try.prog 14 = true := by kernel_rfl
@[simp] theorem by14 : Try.prog.bytesOf 14 = 24 := by kernel_rfl
@[simp] theorem un14 : (Try.prog.underlying 14).isSome = true := by kernel_rfl
@[simp] theorem zr14 : zrow Try.prog 12 14 = some [.d (.str ⟨#[]⟩), .d (.int .u64 0)] := by kernel_rfl
@[simp] theorem ze14 : zeroOk Try.prog 14 = true := by kernel_rfl
@[simp] theorem in14 : intT Try.prog 14 = none := by kernel_rfl
@[simp] theorem fk14_0 : fieldOk Try.prog 14 0 = true := by kernel_rfl
@[simp] theorem ff14_0 : fieldOff Try.prog 14 0 = 0 := by kernel_rfl
@[simp] theorem ft14_0 : fieldTy Try.prog 14 0 = 9 := by kernel_rfl
@[simp] theorem bk14_0 : bOk Try.prog 14 0 = true := by kernel_rfl
@[simp] theorem bf14_0 : bOff Try.prog 14 0 = 0 := by kernel_rfl
@[simp] theorem bt14_0 : bTy Try.prog 14 0 = 9 := by kernel_rfl
@[simp] theorem fk14_1 : fieldOk Try.prog 14 1 = true := by kernel_rfl
@[simp] theorem ff14_1 : fieldOff Try.prog 14 1 = 1 := by kernel_rfl
@[simp] theorem ft14_1 : fieldTy Try.prog 14 1 = 12 := by kernel_rfl
@[simp] theorem bk14_1 : bOk Try.prog 14 1 = true := by kernel_rfl
@[simp] theorem bf14_1 : bOff Try.prog 14 1 = 1 := by kernel_rfl
@[simp] theorem bt14_1 : bTy Try.prog 14 1 = 12 := by kernel_rfl
@[simp] theorem ty22 : tyOk Try.prog 22 = true := by kernel_rfl
@[simp] theorem ce22 : Try.prog.cellsOf 22 = 1 := by kernel_rfl
@[simp] theorem ag22 : aggT Try.prog 22 = false := by kernel_rfl
@[simp] theorem by22 : Try.prog.bytesOf 22 = 24 := by kernel_rfl
@[simp] theorem un22 : (Try.prog.underlying 22).isSome = true := by kernel_rfl
@[simp] theorem zr22 : zrow Try.prog 12 22 = some [.nil 1] := by kernel_rfl
@[simp] theorem ze22 : zeroOk Try.prog 22 = true := by kernel_rfl
@[simp] theorem in22 : intT Try.prog 22 = none := by kernel_rfl
@[simp] theorem sl22 : sliceT Try.prog 22 = true := by kernel_rfl
@[simp] theorem el22 : elemT Try.prog 22 = 3 := by kernel_rfl
@[simp] theorem bs22 : byteT Try.prog 22 = false := by kernel_rfl
@[simp] theorem st22 : strT Try.prog 22 = false := by kernel_rfl
@[simp] theorem ty23 : tyOk Try.prog 23 = true := by kernel_rfl
@[simp] theorem ce23 : Try.prog.cellsOf 23 = 1 := by kernel_rfl
@[simp] theorem ag23 : aggT Try.prog 23 = false := by kernel_rfl
@[simp] theorem by23 : Try.prog.bytesOf 23 = 24 := by kernel_rfl
@[simp] theorem un23 : (Try.prog.underlying 23).isSome = true := by kernel_rfl
@[simp] theorem zr23 : zrow Try.prog 12 23 = some [.nil 1] := by kernel_rfl
@[simp] theorem ze23 : zeroOk Try.prog 23 = true := by kernel_rfl
@[simp] theorem in23 : intT Try.prog 23 = none := by kernel_rfl
@[simp] theorem sl23 : sliceT Try.prog 23 = true := by kernel_rfl
@[simp] theorem el23 : elemT Try.prog 23 = 4 := by kernel_rfl
@[simp] theorem bs23 : byteT Try.prog 23 = false := by kernel_rfl
@[simp] theorem st23 : strT Try.prog 23 = false := by kernel_rfl
@[simp] theorem ty24 : tyOk Try.prog 24 = true := by kernel_rfl
@[simp] theorem ce24 : Try.prog.cellsOf 24 = 1 := by kernel_rfl
@[simp] theorem ag24 : aggT Try.prog 24 = false := by kernel_rfl
@[simp] theorem by24 : Try.prog.bytesOf 24 = 24 := by kernel_rfl
@[simp] theorem un24 : (Try.prog.underlying 24).isSome = true := by kernel_rfl
@[simp] theorem zr24 : zrow Try.prog 12 24 = some [.nil 1] := by kernel_rfl
@[simp] theorem ze24 : zeroOk Try.prog 24 = true := by kernel_rfl
@[simp] theorem in24 : intT Try.prog 24 = none := by kernel_rfl
@[simp] theorem sl24 : sliceT Try.prog 24 = true := by kernel_rfl
@[simp] theorem el24 : elemT Try.prog 24 = 9 := by kernel_rfl
@[simp] theorem bs24 : byteT Try.prog 24 = false := by kernel_rfl
@[simp] theorem st24 : strT Try.prog 24 = false := by kernel_rfl
@[simp] theorem ty25 : tyOk Try.prog 25 = true := by kernel_rfl
@[simp] theorem ce25 : Try.prog.cellsOf 25 = 1 := by kernel_rfl
@[simp] theorem ag25 : aggT Try.prog 25 = false := by kernel_rfl
@[simp] theorem by25 : Try.prog.bytesOf 25 = 24 := by kernel_rfl
@[simp] theorem un25 : (Try.prog.underlying 25).isSome = true := by kernel_rfl
@[simp] theorem zr25 : zrow Try.prog 12 25 = some [.nil 1] := by kernel_rfl
@[simp] theorem ze25 : zeroOk Try.prog 25 = true := by kernel_rfl
@[simp] theorem in25 : intT Try.prog 25 = none := by kernel_rfl
@[simp] theorem sl25 : sliceT Try.prog 25 = true := by kernel_rfl
@[simp] theorem el25 : elemT Try.prog 25 = 22 := by kernel_rfl
@[simp] theorem bs25 : byteT Try.prog 25 = false := by kernel_rfl
@[simp] theorem st25 : strT Try.prog 25 = false := by kernel_rfl
@[simp] theorem ty27 : tyOk Try.prog 27 = true := by kernel_rfl
@[simp] theorem ce27 : Try.prog.cellsOf 27 = 6 := by kernel_rfl
@[simp] theorem ag27 : aggT Try.prog 27 = true := by kernel_rfl
@[simp] theorem by27 : Try.prog.bytesOf 27 = 128 := by kernel_rfl
@[simp] theorem un27 : (Try.prog.underlying 27).isSome = true := by kernel_rfl
@[simp] theorem zr27 : zrow Try.prog 12 27 = some [.d (.int .i64 0), .nil 1, .nil 1, .nil 1, .nil 1, .nil 1] := by kernel_rfl
@[simp] theorem ze27 : zeroOk Try.prog 27 = true := by kernel_rfl
@[simp] theorem in27 : intT Try.prog 27 = none := by kernel_rfl
@[simp] theorem fk27_0 : fieldOk Try.prog 27 0 = true := by kernel_rfl
@[simp] theorem ff27_0 : fieldOff Try.prog 27 0 = 0 := by kernel_rfl
@[simp] theorem ft27_0 : fieldTy Try.prog 27 0 = 3 := by kernel_rfl
@[simp] theorem bk27_0 : bOk Try.prog 27 0 = true := by kernel_rfl
@[simp] theorem bf27_0 : bOff Try.prog 27 0 = 0 := by kernel_rfl
@[simp] theorem bt27_0 : bTy Try.prog 27 0 = 3 := by kernel_rfl
@[simp] theorem fk27_1 : fieldOk Try.prog 27 1 = true := by kernel_rfl
@[simp] theorem ff27_1 : fieldOff Try.prog 27 1 = 1 := by kernel_rfl
@[simp] theorem ft27_1 : fieldTy Try.prog 27 1 = 22 := by kernel_rfl
@[simp] theorem bk27_1 : bOk Try.prog 27 1 = true := by kernel_rfl
@[simp] theorem bf27_1 : bOff Try.prog 27 1 = 1 := by kernel_rfl
@[simp] theorem bt27_1 : bTy Try.prog 27 1 = 22 := by kernel_rfl
@[simp] theorem fk27_2 : fieldOk Try.prog 27 2 = true := by kernel_rfl
@[simp] theorem ff27_2 : fieldOff Try.prog 27 2 = 2 := by kernel_rfl
@[simp] theorem ft27_2 : fieldTy Try.prog 27 2 = 23 := by kernel_rfl
@[simp] theorem bk27_2 : bOk Try.prog 27 2 = true := by kernel_rfl
@[simp] theorem bf27_2 : bOff Try.prog 27 2 = 2 := by kernel_rfl
@[simp] theorem bt27_2 : bTy Try.prog 27 2 = 23 := by kernel_rfl
@[simp] theorem fk27_3 : fieldOk Try.prog 27 3 = true := by kernel_rfl
@[simp] theorem ff27_3 : fieldOff Try.prog 27 3 = 3 := by kernel_rfl
@[simp] theorem ft27_3 : fieldTy Try.prog 27 3 = 24 := by kernel_rfl
@[simp] theorem bk27_3 : bOk Try.prog 27 3 = true := by kernel_rfl
@[simp] theorem bf27_3 : bOff Try.prog 27 3 = 3 := by kernel_rfl
@[simp] theorem bt27_3 : bTy Try.prog 27 3 = 24 := by kernel_rfl
@[simp] theorem fk27_4 : fieldOk Try.prog 27 4 = true := by kernel_rfl
@[simp] theorem ff27_4 : fieldOff Try.prog 27 4 = 4 := by kernel_rfl
@[simp] theorem ft27_4 : fieldTy Try.prog 27 4 = 22 := by kernel_rfl
@[simp] theorem bk27_4 : bOk Try.prog 27 4 = true := by kernel_rfl
@[simp] theorem bf27_4 : bOff Try.prog 27 4 = 4 := by kernel_rfl
@[simp] theorem bt27_4 : bTy Try.prog 27 4 = 22 := by kernel_rfl
@[simp] theorem fk27_5 : fieldOk Try.prog 27 5 = true := by kernel_rfl
@[simp] theorem ff27_5 : fieldOff Try.prog 27 5 = 5 := by kernel_rfl
@[simp] theorem ft27_5 : fieldTy Try.prog 27 5 = 25 := by kernel_rfl
@[simp] theorem bk27_5 : bOk Try.prog 27 5 = true := by kernel_rfl
@[simp] theorem bf27_5 : bOff Try.prog 27 5 = 5 := by kernel_rfl
@[simp] theorem bt27_5 : bTy Try.prog 27 5 = 25 := by kernel_rfl
@[simp] theorem ty30 : tyOk Try.prog 30 = true := by kernel_rfl
@[simp] theorem ce30 : Try.prog.cellsOf 30 = 6 := by kernel_rfl
@[simp] theorem ag30 : aggT Try.prog 30 = true := by kernel_rfl
@[simp] theorem by30 : Try.prog.bytesOf 30 = 128 := by kernel_rfl
@[simp] theorem un30 : (Try.prog.underlying 30).isSome = true := by kernel_rfl
@[simp] theorem zr30 : zrow Try.prog 12 30 = some [.d (.int .i64 0), .nil 1, .nil 1, .nil 1, .nil 1, .nil 1] := by kernel_rfl
@[simp] theorem ze30 : zeroOk Try.prog 30 = true := by kernel_rfl
@[simp] theorem in30 : intT Try.prog 30 = none := by kernel_rfl
@[simp] theorem fk30_0 : fieldOk Try.prog 30 0 = true := by kernel_rfl
@[simp] theorem ff30_0 : fieldOff Try.prog 30 0 = 0 := by kernel_rfl
@[simp] theorem ft30_0 : fieldTy Try.prog 30 0 = 3 := by kernel_rfl
@[simp] theorem bk30_0 : bOk Try.prog 30 0 = true := by kernel_rfl
@[simp] theorem bf30_0 : bOff Try.prog 30 0 = 0 := by kernel_rfl
@[simp] theorem bt30_0 : bTy Try.prog 30 0 = 3 := by kernel_rfl
@[simp] theorem fk30_1 : fieldOk Try.prog 30 1 = true := by kernel_rfl
@[simp] theorem ff30_1 : fieldOff Try.prog 30 1 = 1 := by kernel_rfl
@[simp] theorem ft30_1 : fieldTy Try.prog 30 1 = 22 := by kernel_rfl
@[simp] theorem bk30_1 : bOk Try.prog 30 1 = true := by kernel_rfl
@[simp] theorem bf30_1 : bOff Try.prog 30 1 = 1 := by kernel_rfl
@[simp] theorem bt30_1 : bTy Try.prog 30 1 = 22 := by kernel_rfl
@[simp] theorem fk30_2 : fieldOk Try.prog 30 2 = true := by kernel_rfl
@[simp] theorem ff30_2 : fieldOff Try.prog 30 2 = 2 := by kernel_rfl
@[simp] theorem ft30_2 : fieldTy Try.prog 30 2 = 23 := by kernel_rfl
@[simp] theorem bk30_2 : bOk Try.prog 30 2 = true := by kernel_rfl
@[simp] theorem bf30_2 : bOff Try.prog 30 2 = 2 := by kernel_rfl
@[simp] theorem bt30_2 : bTy Try.prog 30 2 = 23 := by kernel_rfl
@[simp] theorem fk30_3 : fieldOk Try.prog 30 3 = true := by kernel_rfl
@[simp] theorem ff30_3 : fieldOff Try.prog 30 3 = 3 := by kernel_rfl
@[simp] theorem ft30_3 : fieldTy Try.prog 30 3 = 24 := by kernel_rfl
@[simp] theorem bk30_3 : bOk Try.prog 30 3 = true := by kernel_rfl
@[simp] theorem bf30_3 : bOff Try.prog 30 3 = 3 := by kernel_rfl
@[simp] theorem bt30_3 : bTy Try.prog 30 3 = 24 := by kernel_rfl
@[simp] theorem fk30_4 : fieldOk Try.prog 30 4 = true := by kernel_rfl
@[simp] theorem ff30_4 : fieldOff Try.prog 30 4 = 4 := by kernel_rfl
@[simp] theorem ft30_4 : fieldTy Try.prog 30 4 = 22 := by kernel_rfl
@[simp] theorem bk30_4 : bOk Try.prog 30 4 = true := by kernel_rfl
@[simp] theorem bf30_4 : bOff Try.prog 30 4 = 4 := by kernel_rfl
@[simp] theorem bt30_4 : bTy Try.prog 30 4 = 22 := by kernel_rfl
@[simp] theorem fk30_5 : fieldOk Try.prog 30 5 = true := by kernel_rfl
@[simp] theorem ff30_5 : fieldOff Try.prog 30 5 = 5 := by kernel_rfl
@[simp] theorem ft30_5 : fieldTy Try.prog 30 5 = 25 := by kernel_rfl
@[simp] theorem bk30_5 : bOk Try.prog 30 5 = true := by kernel_rfl
@[simp] theorem bf30_5 : bOff Try.prog 30 5 = 5 := by kernel_rfl
@[simp] theorem bt30_5 : bTy Try.prog 30 5 = 25 := by kernel_rfl
@[simp] theorem ty47 : tyOk Try.prog 47 = true := by kernel_rfl
@[simp] theorem ce47 : Try.prog.cellsOf 47 = 1 := by kernel_rfl
@[simp] theorem ag47 : aggT Try.prog 47 = false := by kernel_rfl
@[simp] theorem by47 : Try.prog.bytesOf 47 = 24 := by kernel_rfl
@[simp] theorem un47 : (Try.prog.underlying 47).isSome = true := by kernel_rfl
@[simp] theorem zr47 : zrow Try.prog 12 47 = some [.nil 1] := by kernel_rfl
@[simp] theorem ze47 : zeroOk Try.prog 47 = true := by kernel_rfl
@[simp] theorem in47 : intT Try.prog 47 = none := by kernel_rfl
@[simp] theorem sl47 : sliceT Try.prog 47 = true := by kernel_rfl
@[simp] theorem el47 : elemT Try.prog 47 = 5 := by kernel_rfl
@[simp] theorem bs47 : byteT Try.prog 47 = true := by kernel_rfl
@[simp] theorem st47 : strT Try.prog 47 = false := by kernel_rfl
@[simp] theorem ty57 : tyOk Try.prog 57 = true := by kernel_rfl
@[simp] theorem ce57 : Try.prog.cellsOf 57 = 1 := by kernel_rfl
@[simp] theorem ag57 : aggT Try.prog 57 = false := by kernel_rfl
@[simp] theorem by57 : Try.prog.bytesOf 57 = 1 := by kernel_rfl
@[simp] theorem un57 : (Try.prog.underlying 57).isSome = true := by kernel_rfl
@[simp] theorem zr57 : zrow Try.prog 12 57 = some [.d (.int .u8 0)] := by kernel_rfl
@[simp] theorem ze57 : zeroOk Try.prog 57 = true := by kernel_rfl
@[simp] theorem in57 : intT Try.prog 57 = some .u8 := by kernel_rfl
end Go.Proofs.Ytjnnnnanipkcnaa
