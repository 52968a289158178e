/- Models of the functions: what each computes, on typed data. No condition. -/
import Derived.Test.YtgkcgbmbdaapcaaGreatMo
namespace Go.Mo
open Go.Vm
def Ti (a0 : List UInt8) : Bool := (decide ((a0.length : Int) > 1048576))
def TJ (a0 : List UInt8) : Nat -> Int -> Nat -> Int
  | 0, _, _ => default
  | n1 + 1, J, U => (bif ((decide ((U : Int) < (a0.length : Int))) && (decide ((U : Int) < 4000))) then TJ a0 n1 (R9 .i64 (W ((W ((W (J * 137)) + (W ((nth a0 U).toNat : Int)))) + 11)) 1073741823) (U + 1) else (J))
def Z0 (a0 : List UInt8) : ZI := (match TJ a0 4001 (W (193017 + (a0.length : Int))) 0 with | z1_0 => (ZI.mk a0 0 z1_0))
def ZD : List Z3 := ([(Z3.mk 1 90 1 0 501), (Z3.mk 2 90 3 40 502), (Z3.mk 11 1 1 0 511), (Z3.mk 12 1 2 20 512), (Z3.mk 13 2 3 40 513), (Z3.mk 21 50 1 0 521), (Z3.mk 31 81 1 0 531), (Z3.mk 32 82 2 20 532), (Z3.mk 33 83 3 40 533), (Z3.mk 34 84 4 60 534)] : List Z3)
def ZG : List ZJ := ([(ZJ.mk 1 31 1), (ZJ.mk 2 32 2), (ZJ.mk 3 33 1), (ZJ.mk 4 34 0)] : List ZJ)
def Zb : List Zj := ([(Zj.mk 1 0 40 50), (Zj.mk 2 20 80 70), (Zj.mk 3 40 120 200), (Zj.mk 4 60 10001 10001)] : List Zj)
def Zo (a0 : ZI) : ZI × Int := (bif (decide ((a0.i : Int) < (a0.b.length : Int))) then ((ZI.mk a0.b (a0.i + 1) (W ((W (a0.h * 6364136223846793005)) + 1442695040888963407))), (R9 .i64 (W ((R9 .i64 (HR .i64 ((W ((W (a0.h * 6364136223846793005)) + 1442695040888963407)).fdiv (2 ^ (min 33 IntKind.i64.bits))) ((W ((W (a0.h * 6364136223846793005)) + 1442695040888963407)).fdiv (2 ^ (min 47 IntKind.i64.bits)))) 255) + (W ((nth a0.b a0.i).toNat : Int)))) 255)) else ((ZI.mk a0.b a0.i (W ((W (a0.h * 6364136223846793005)) + 1442695040888963407))), (R9 .i64 (HR .i64 ((W ((W (a0.h * 6364136223846793005)) + 1442695040888963407)).fdiv (2 ^ (min 33 IntKind.i64.bits))) ((W ((W (a0.h * 6364136223846793005)) + 1442695040888963407)).fdiv (2 ^ (min 47 IntKind.i64.bits)))) 255)))
def ZA (a0 : ZI) (a1 : Int) : ZI × Int := (bif (decide (a1 <= 0)) then (a0, 0) else (bif (decide (a1 <= 256)) then ((Zo a0).1, (Int.tmod (Zo a0).2 a1)) else ((Zo (Zo (Zo a0).1).1).1, (Int.tmod (W ((W ((W ((Zo a0).2 * 65536)) + (W ((Zo (Zo a0).1).2 * 256)))) + (Zo (Zo (Zo a0).1).1).2)) a1))))
def ZP (a0 : ZI) (a1 : List Int) : ZI × Int := ((ZA a0 (a1.length : Int)).1, (nth a1 (ZA a0 (a1.length : Int)).2.toNat))
def ZZ (a0 : ZI) : ZI × ZY := ((ZP (ZA a0 2).1 ([20, 45, 60, 75, 100, 150, 300] : List Int)).1, (ZY.mk ZD ZG Zb (ZA a0 2).2 (ZP (ZA a0 2).1 ([20, 45, 60, 75, 100, 150, 300] : List Int)).2))
def Zh (a0 : ZI) (a1 : Int) : ZI × Bool := ((ZA a0 a1).1, ((ZA a0 a1).2 == 0))
def zT (a0 : ZI) : ZI × Int := (bif (Zh a0 6).2 then ((ZP (Zh a0 6).1 ([(-1), 0, 10000, 10001, 9223372036854775807, (-9223372036854775808)] : List Int)).1, (ZP (Zh a0 6).1 ([(-1), 0, 10000, 10001, 9223372036854775807, (-9223372036854775808)] : List Int)).2) else ((ZA (Zh a0 6).1 40).1, (ZA (Zh a0 6).1 40).2))
def yy (a0 : ZI) : ZI × List Z3 := (bif ((ZA (ZA a0 (ZD.length : Int)).1 9).2 == 0) then ((ZP (ZA (ZA a0 (ZD.length : Int)).1 9).1 ([0, 1, 50, 99, 100] : List Int)).1, (ZD.set (ZA a0 (ZD.length : Int)).2.toNat (Z3.mk (ZP (ZA (ZA a0 (ZD.length : Int)).1 9).1 ([0, 1, 50, 99, 100] : List Int)).2 (nth ZD (ZA a0 (ZD.length : Int)).2.toNat).Xn (nth ZD (ZA a0 (ZD.length : Int)).2.toNat).Method (nth ZD (ZA a0 (ZD.length : Int)).2.toNat).jw (nth ZD (ZA a0 (ZD.length : Int)).2.toNat).Qe))) else (bif ((ZA (ZA a0 (ZD.length : Int)).1 9).2 == 1) then ((ZP (ZA (ZA a0 (ZD.length : Int)).1 9).1 ([(-1), 5, 100] : List Int)).1, (ZD.set (ZA a0 (ZD.length : Int)).2.toNat (Z3.mk (nth ZD (ZA a0 (ZD.length : Int)).2.toNat).Number (ZP (ZA (ZA a0 (ZD.length : Int)).1 9).1 ([(-1), 5, 100] : List Int)).2 (nth ZD (ZA a0 (ZD.length : Int)).2.toNat).Method (nth ZD (ZA a0 (ZD.length : Int)).2.toNat).jw (nth ZD (ZA a0 (ZD.length : Int)).2.toNat).Qe))) else (bif ((ZA (ZA a0 (ZD.length : Int)).1 9).2 == 2) then ((ZP (ZA (ZA a0 (ZD.length : Int)).1 9).1 ([0, 777] : List Int)).1, (ZD.set (ZA a0 (ZD.length : Int)).2.toNat (Z3.mk (nth ZD (ZA a0 (ZD.length : Int)).2.toNat).Number (nth ZD (ZA a0 (ZD.length : Int)).2.toNat).Xn (nth ZD (ZA a0 (ZD.length : Int)).2.toNat).Method (nth ZD (ZA a0 (ZD.length : Int)).2.toNat).jw (ZP (ZA (ZA a0 (ZD.length : Int)).1 9).1 ([0, 777] : List Int)).2))) else (bif ((ZA (ZA a0 (ZD.length : Int)).1 9).2 == 3) then ((zT (ZA (ZA a0 (ZD.length : Int)).1 9).1).1, (ZD.set (ZA a0 (ZD.length : Int)).2.toNat (Z3.mk (nth ZD (ZA a0 (ZD.length : Int)).2.toNat).Number (nth ZD (ZA a0 (ZD.length : Int)).2.toNat).Xn (nth ZD (ZA a0 (ZD.length : Int)).2.toNat).Method (zT (ZA (ZA a0 (ZD.length : Int)).1 9).1).2 (nth ZD (ZA a0 (ZD.length : Int)).2.toNat).Qe))) else (bif ((ZA (ZA a0 (ZD.length : Int)).1 9).2 == 4) then ((ZP (ZA (ZA a0 (ZD.length : Int)).1 9).1 ([(-1), 0, 99, 100] : List Int)).1, (ZD.set (ZA a0 (ZD.length : Int)).2.toNat (Z3.mk (nth ZD (ZA a0 (ZD.length : Int)).2.toNat).Number (nth ZD (ZA a0 (ZD.length : Int)).2.toNat).Xn (ZP (ZA (ZA a0 (ZD.length : Int)).1 9).1 ([(-1), 0, 99, 100] : List Int)).2 (nth ZD (ZA a0 (ZD.length : Int)).2.toNat).jw (nth ZD (ZA a0 (ZD.length : Int)).2.toNat).Qe))) else ((ZA (ZA a0 (ZD.length : Int)).1 9).1, ZD))))))
def zb (a0 : ZI) : ZI × Int := ((ZP a0 ([1, 2, 11, 12, 13, 21, 31, 32, 33, 34, 0, 50] : List Int)).1, (ZP a0 ([1, 2, 11, 12, 13, 21, 31, 32, 33, 34, 0, 50] : List Int)).2)
def Jv (a0 : ZI) : ZI × List ZJ := (bif ((ZA (ZA a0 4).1 8).2 == 0) then ((ZP (ZA (ZA a0 4).1 8).1 ([(-1), 2, 99, 100] : List Int)).1, (ZG.set (ZA a0 4).2.toNat (ZJ.mk (ZP (ZA (ZA a0 4).1 8).1 ([(-1), 2, 99, 100] : List Int)).2 (nth ZG (ZA a0 4).2.toNat).Key (nth ZG (ZA a0 4).2.toNat).Error))) else (bif ((ZA (ZA a0 4).1 8).2 == 1) then ((zb (ZA (ZA a0 4).1 8).1).1, (ZG.set (ZA a0 4).2.toNat (ZJ.mk (nth ZG (ZA a0 4).2.toNat).Id (zb (ZA (ZA a0 4).1 8).1).2 (nth ZG (ZA a0 4).2.toNat).Error))) else (bif ((ZA (ZA a0 4).1 8).2 == 2) then ((ZP (ZA (ZA a0 4).1 8).1 ([(-1), 100, 101, 9223372036854775807] : List Int)).1, (ZG.set (ZA a0 4).2.toNat (ZJ.mk (nth ZG (ZA a0 4).2.toNat).Id (nth ZG (ZA a0 4).2.toNat).Key (ZP (ZA (ZA a0 4).1 8).1 ([(-1), 100, 101, 9223372036854775807] : List Int)).2))) else ((ZA (ZA a0 4).1 8).1, ZG))))
def zK (a0 : ZI) : ZI × List Zj := (bif ((ZA (ZA a0 4).1 9).2 == 0) then ((ZP (ZA (ZA a0 4).1 9).1 ([(-1), 0, 1, 99, 100] : List Int)).1, (Zb.set (ZA a0 4).2.toNat (Zj.mk (ZP (ZA (ZA a0 4).1 9).1 ([(-1), 0, 1, 99, 100] : List Int)).2 (nth Zb (ZA a0 4).2.toNat).yF (nth Zb (ZA a0 4).2.toNat).Ends (nth Zb (ZA a0 4).2.toNat).Ju))) else (bif ((ZA (ZA a0 4).1 9).2 == 1) then ((zT (ZA (ZA a0 4).1 9).1).1, (Zb.set (ZA a0 4).2.toNat (Zj.mk (nth Zb (ZA a0 4).2.toNat).Id (zT (ZA (ZA a0 4).1 9).1).2 (nth Zb (ZA a0 4).2.toNat).Ends (nth Zb (ZA a0 4).2.toNat).Ju))) else (bif ((ZA (ZA a0 4).1 9).2 == 2) then ((ZP (ZA (ZA a0 4).1 9).1 ([0, 1, 45, 10001, 10002] : List Int)).1, (Zb.set (ZA a0 4).2.toNat (Zj.mk (nth Zb (ZA a0 4).2.toNat).Id (nth Zb (ZA a0 4).2.toNat).yF (ZP (ZA (ZA a0 4).1 9).1 ([0, 1, 45, 10001, 10002] : List Int)).2 (nth Zb (ZA a0 4).2.toNat).Ju))) else (bif ((ZA (ZA a0 4).1 9).2 == 3) then ((ZP (ZA (ZA a0 4).1 9).1 ([0, 1, 45, 10001, 10002] : List Int)).1, (Zb.set (ZA a0 4).2.toNat (Zj.mk (nth Zb (ZA a0 4).2.toNat).Id (nth Zb (ZA a0 4).2.toNat).yF (nth Zb (ZA a0 4).2.toNat).Ends (ZP (ZA (ZA a0 4).1 9).1 ([0, 1, 45, 10001, 10002] : List Int)).2))) else (bif ((ZA (ZA a0 4).1 9).2 == 4) then ((ZA (ZA a0 4).1 9).1, (Zb.take (ZA a0 4).2.toNat)) else ((ZA (ZA a0 4).1 9).1, Zb))))))
def Xb (a0 : ZI) : ZI × ZY := (bif ((ZA (ZZ a0).1 10).2 == 0) then ((yy (ZA (ZZ a0).1 10).1).1, (ZY.mk (yy (ZA (ZZ a0).1 10).1).2 (ZZ a0).2.ZF (ZZ a0).2.Methods (ZZ a0).2.zZ (ZZ a0).2.Now)) else (bif ((ZA (ZZ a0).1 10).2 == 1) then ((Jv (ZA (ZZ a0).1 10).1).1, (ZY.mk (ZZ a0).2.YE (Jv (ZA (ZZ a0).1 10).1).2 (ZZ a0).2.Methods (ZZ a0).2.zZ (ZZ a0).2.Now)) else (bif ((ZA (ZZ a0).1 10).2 == 2) then ((zK (ZA (ZZ a0).1 10).1).1, (ZY.mk (ZZ a0).2.YE (ZZ a0).2.ZF (zK (ZA (ZZ a0).1 10).1).2 (ZZ a0).2.zZ (ZZ a0).2.Now)) else (bif ((ZA (ZZ a0).1 10).2 == 3) then ((ZP (ZA (ZZ a0).1 10).1 ([(-1), 2, 6, 7] : List Int)).1, (ZY.mk (ZZ a0).2.YE (ZZ a0).2.ZF (ZZ a0).2.Methods (ZP (ZA (ZZ a0).1 10).1 ([(-1), 2, 6, 7] : List Int)).2 (ZZ a0).2.Now)) else (bif ((ZA (ZZ a0).1 10).2 == 4) then ((zT (ZA (ZZ a0).1 10).1).1, (ZY.mk (ZZ a0).2.YE (ZZ a0).2.ZF (ZZ a0).2.Methods (ZZ a0).2.zZ (zT (ZA (ZZ a0).1 10).1).2)) else ((ZA (ZZ a0).1 10).1, (ZZ a0).2))))))
def Yh (a0 : ZI) : ZI × ZY := ((ZP (Xb a0).1 ([0, 20, 45, 60, 100] : List Int)).1, (ZY.mk (Xb a0).2.YE (Xb a0).2.ZF (Xb a0).2.Methods (Xb a0).2.zZ (ZP (Xb a0).1 ([0, 20, 45, 60, 100] : List Int)).2))
def Wd (a0 : ZI) (a1 : List ByteArray) : ZI × ByteArray := ((ZA a0 (a1.length : Int)).1, (nth a1 (ZA a0 (a1.length : Int)).2.toNat))
def Xg (a0 : ZI) : ZI × ByteArray := ((Wd a0 ([(⟨#[]⟩ : ByteArray), (⟨#[97]⟩ : ByteArray), (⟨#[98]⟩ : ByteArray), (⟨#[97, 98]⟩ : ByteArray), (⟨#[121, 101, 115]⟩ : ByteArray), (⟨#[110, 111]⟩ : ByteArray), (⟨#[111, 110, 101, 32, 104, 117, 110, 100, 114, 101, 100]⟩ : ByteArray)] : List ByteArray)).1, (Wd a0 ([(⟨#[]⟩ : ByteArray), (⟨#[97]⟩ : ByteArray), (⟨#[98]⟩ : ByteArray), (⟨#[97, 98]⟩ : ByteArray), (⟨#[121, 101, 115]⟩ : ByteArray), (⟨#[110, 111]⟩ : ByteArray), (⟨#[111, 110, 101, 32, 104, 117, 110, 100, 114, 101, 100]⟩ : ByteArray)] : List ByteArray)).2)
def Z4 (a0 : Int) (a1 : Int) (a2 : Int) : Bool := ((decide (a0 >= a1)) && (decide (a0 <= a2)))
def Tt (a0 : Int) (a1 : Int) : Int := (bif (!(Z4 a1 1 1000000000000)) then 0 else (Int.tmod (W ((Int.tmod a0 a1) + a1)) a1))
def qy (a0 : List Int) : Nat -> Int -> Nat -> Int
  | 0, _, _ => default
  | n1 + 1, J, U => (bif (decide ((U : Int) < (a0.length : Int))) then qy a0 n1 (Int.tmod (W ((W ((W (J * 1000003)) + (Tt (nth a0 U) 2147483647))) + 13)) 2147483647) (U + 1) else (J))
def Uz (a0 : List Int) : Int := (match qy a0 (a0.length + 1) 11 0 with | z1_0 => z1_0)
def Jt (a0 : Int) (a1 : List Int) : Int := (Uz ((([a0] : List Int) ++ a1) ++ ([a0] : List Int)))
def Vo (a0 : Int) (a1 : Int) : Int := (bif (decide (a1 > a0)) then a1 else a0)
def X0 (a0 : ZV) : Nat -> Nat -> Sum Bool Unit
  | 0, _ => .inr ()
  | n2 + 1, wB => (bif (decide ((wB : Int) < (a0.XB.length : Int))) then (bif (!(Z4 (nth a0.XB wB) 1 1000000000000)) then (.inl false) else X0 a0 n2 (wB + 1)) else (.inr ()))
def X2 (a0 : ZV) : Nat -> Nat -> Sum Bool Unit
  | 0, _ => .inr ()
  | n1 + 1, J => (bif (decide ((J : Int) < (a0.YO.length : Int))) then (bif (decide (((nth a0.YO J).size : Int) > 40)) then (.inl false) else X2 a0 n1 (J + 1)) else (.inr ()))
def Yp (a0 : ZV) : Bool := (match X2 a0 (a0.YO.length + 1) 0 with | .inl r1 => r1 | .inr _ => (match X0 a0 (a0.XB.length + 1) 0 with | .inl r2 => r2 | .inr _ => (((Z4 a0.yH 0 999) && (Z4 (a0.YO.length : Int) 1 6)) && ((a0.XB.length : Int) == (a0.YO.length : Int)))))
def yg (a0 : Int) : Bool := (Z4 a0 1 2147483646)
def Yy (a0 : Int) (a1 : List ByteArray) (a2 : Int) : Nat -> Nat -> List Int -> (List Int)
  | 0, _, _ => default
  | n1 + 1, J, U => (bif (decide ((J : Int) < (a1.length : Int))) then Yy a0 a1 a2 n1 (J + 1) (U ++ ([(Vo 1 (Jt a2 ([a0, (J : Int)] : List Int)))] : List Int)) else (U))
def Xi (a0 : Int) (a1 : List ByteArray) (a2 : Int) : ZV × Bool := (match Yy a0 a1 a2 (a1.length + 1) 0 ([] : List Int) with | z1_0 => (bif ((!(Yp (ZV.mk a0 a1 z1_0))) || (!(yg a2))) then ((ZV.mk 0 ([] : List ByteArray) ([] : List Int)), false) else ((ZV.mk a0 a1 z1_0), true)))
def QY : Nat -> List ByteArray -> Int -> List UInt8 -> Nat -> Int -> (List ByteArray) × (List UInt8) × Nat × Int
  | 0, _, _, _, _, _ => (default, default, default, default)
  | n1 + 1, J, U, wF, wQ, wX => (bif (decide (U > 0)) then QY n1 (J ++ ([(Xg (ZI.mk wF wQ wX)).2] : List ByteArray)) (W (U - 1)) (Xg (ZI.mk wF wQ wX)).1.b (Xg (ZI.mk wF wQ wX)).1.i (Xg (ZI.mk wF wQ wX)).1.h else ((J, wF, wQ, wX)))
def YM (a0 : ZI) : ZI × ZV := (match QY 5 ([] : List ByteArray) (W (1 + (ZA a0 3).2)) (ZA a0 3).1.b (ZA a0 3).1.i (ZA a0 3).1.h with | (z1_0, z1_1, z1_2, z1_3) => ((ZA (ZI.mk z1_1 z1_2 z1_3) 5).1, (Xi (ZA (ZI.mk z1_1 z1_2 z1_3) 5).2 z1_0 11).1))
def Qw (a0 : Int) (a1 : List Int) : Int := (Uz (([7, a0] : List Int) ++ a1))
def y8 (a1 : ByteArray) : Nat -> List Int -> Nat -> (List Int)
  | 0, _, _ => default
  | n1 + 1, J, U => (bif (decide ((U : Int) < (a1.size : Int))) then y8 a1 n1 (J ++ ([(W ((bAt a1 U) : Int))] : List Int)) (U + 1) else (J))
def jf (a0 : Int) (a1 : ByteArray) (a2 : Int) : Int := (match y8 a1 (a1.size + 1) ([a2] : List Int) 0 with | z1_0 => (Qw a0 z1_0))
def ql (a0 : Int) (a1 : ZV) : Nat -> List Int -> Nat -> (List Int)
  | 0, _, _ => default
  | n1 + 1, J, U => (bif (decide ((U : Int) < (a1.YO.length : Int))) then ql a0 a1 n1 (J ++ ([(jf a0 (nth a1.YO U) (nth a1.XB U))] : List Int)) (U + 1) else (J))
def Xq (a0 : Int) (a1 : ZV) : Int := (bif (!(Yp a1)) then (-1) else (match ql a0 a1 (a1.YO.length + 1) ([a1.yH] : List Int) 0 with | z1_0 => (Qw a0 z1_0)))
def xq (a0 : List Z3) (a1 : Int) : Nat -> Nat -> Sum Int Unit
  | 0, _ => .inr ()
  | n1 + 1, J => (bif (decide ((J : Int) < (a0.length : Int))) then (bif ((nth a0 J).Number == a1) then (.inl (J : Int)) else xq a0 a1 n1 (J + 1)) else (.inr ()))
def YR (a0 : List Z3) (a1 : Int) : Int := (match xq a0 a1 (a0.length + 1) 0 with | .inl r1 => r1 | .inr _ => (-1))
def KS (a0 : Zk) : Bool := ((((((((Z4 a0.Key 1 99) && (Z4 a0.Z9 1 999)) && (Z4 a0.Method 0 99)) && (Z4 a0.Org 0 99)) && (Z4 a0.ye 1 3)) && (Z4 a0.Yn 0 1000000000000)) && (Z4 a0.yd 0 1000000000000)) && (Z4 a0.jn 0 1000000000000))
def Xa (a0 : Zk) : List Int := ([104, a0.Key, a0.Z9, a0.Method, a0.Yn, a0.ye, a0.Org, a0.yd, a0.jn] : List Int)
def Kq (a0 : Z3) (a1 : List Int) : Int := (Jt a0.Qe (([a0.Method] : List Int) ++ a1))
def Jy (a0 : List Z3) (a1 : Zk) : Zk × Bool := (bif ((!(KS a1)) || (decide ((YR a0 a1.Key) < 0))) then ((Zk.mk 0 0 0 0 0 0 0 0 0), false) else ((Zk.mk a1.Key a1.Z9 a1.Method a1.Yn a1.ye a1.Org a1.yd a1.jn (Kq (nth a0 (YR a0 a1.Key).toNat) (Xa a1))), true))
def Jd (a0 : List Z3) (a1 : Int) (a2 : Int) (a3 : Int) (a4 : ZV) (a5 : Int) : Zk × Bool := ((Jy a0 (Zk.mk a1 a2 a3 (Xq a3 a4) a5 0 0 0 0)).1, (Jy a0 (Zk.mk a1 a2 a3 (Xq a3 a4) a5 0 0 0 0)).2)
def ZR (a0 : ZI) : ZI × Zk × ZV := ((ZA (ZA (YM a0).1 3).1 3).1, (Jd ZD (W (11 + (ZA (YM a0).1 3).2)) (W (1 + (ZA (YM a0).1 3).2)) (W (1 + (ZA (YM a0).1 3).2)) (YM a0).2 (W (1 + (ZA (ZA (YM a0).1 3).1 3).2))).1, (YM a0).2)
def Yf (a0 : Zk) : ZS := (ZS.mk a0.Key (Xa a0) a0.Mark)
def jR (a0 : Z1) : Yk := (Yk.mk a0.Jz a0.To)
def xJ (a0 : Int) : Bool := (Z4 a0 0 10000)
def Uc (a0 : Yk) : Bool := (((xJ a0.Jz) && (xJ a0.To)) && (decide (a0.Jz <= a0.To)))
def Sl (a0 : Z1) : Bool := ((((((Z4 a0.Z9 1 999) && (Z4 a0.Key 1 99)) && (Z4 a0.YI 1 99)) && (a0.Key != a0.YI)) && (Z4 a0.Xn 0 99)) && (Uc (jR a0)))
def Jh (a0 : Z1) : List Int := ([101, a0.Z9, a0.Key, a0.Xn, a0.Jz, a0.To, a0.YI] : List Int)
def Kv (a0 : List Z3) (a1 : Z1) : Z1 × Bool := (bif (((!(Sl a1)) || (decide ((YR a0 a1.YI) < 0))) || (decide ((YR a0 a1.Key) < 0))) then ((Z1.mk 0 0 0 0 0 0 0), false) else ((Z1.mk a1.Z9 a1.Key a1.Xn a1.Jz a1.To a1.YI (Kq (nth a0 (YR a0 a1.YI).toNat) (Jh a1))), true))
def YQ : List Z1 := ([(Kv ZD (Z1.mk 1 11 1 0 60 1 0)).1, (Kv ZD (Z1.mk 2 12 1 20 100 1 0)).1, (Kv ZD (Z1.mk 3 13 2 40 150 2 0)).1] : List Z1)
def Yt (a0 : Z1) : ZS := (ZS.mk a0.YI (Jh a0) a0.Mark)
def Vj (a0 : YY) : Bool := ((((Z4 a0.Z9 1 999) && (xJ a0.Mf)) && (Z4 a0.QB (-1) (W (a0.Mf + 1)))) && (Z4 a0.YI 1 99))
def QI (a0 : YY) : List Int := ([102, a0.Z9, a0.Mf, a0.QB, a0.YI] : List Int)
def Xd (a0 : List Z3) (a1 : YY) : YY × Bool := (bif ((!(Vj a1)) || (decide ((YR a0 a1.YI) < 0))) then ((YY.mk 0 0 0 0 0), false) else ((YY.mk a1.Z9 a1.Mf a1.QB a1.YI (Kq (nth a0 (YR a0 a1.YI).toNat) (QI a1))), true))
def XN (a0 : YY) : ZS := (ZS.mk a0.YI (QI a0) a0.Mark)
def TK (a0 : ZS) : ZS := a0
def jS (a0 : List ZS) : Nat -> List ZS -> Nat -> (List ZS)
  | 0, _, _ => default
  | n1 + 1, J, U => (bif (decide ((U : Int) < (a0.length : Int))) then jS a0 n1 (J ++ ([(nth a0 U)] : List ZS)) (U + 1) else (J))
def UQ (a0 : List ZS) : List ZS := (match jS a0 (a0.length + 1) ([] : List ZS) 0 with | z1_0 => z1_0)
def TC (a0 : ZM) : ZM := a0
def xx (a0 : ZO) : Nat -> Nat -> List ZM -> (List ZM)
  | 0, _, _ => default
  | n1 + 1, J, U => (bif (decide ((J : Int) < (a0.ZN.length : Int))) then xx a0 n1 (J + 1) (U ++ ([(nth a0.ZN J)] : List ZM)) else (U))
def Wa (a0 : ZO) : ZO := (match xx a0 (a0.ZN.length + 1) 0 ([] : List ZM) with | z1_0 => (ZO.mk a0.ZT z1_0))
def qg (a0 : List Int) (a1 : List Int) : Nat -> Nat -> Sum Bool Unit
  | 0, _ => .inr ()
  | n1 + 1, J => (bif (decide ((J : Int) < (a0.length : Int))) then (bif ((nth a0 J) != (nth a1 J)) then (.inl false) else qg a0 a1 n1 (J + 1)) else (.inr ()))
def kB (a0 : List Int) (a1 : List Int) : Bool := (bif ((a0.length : Int) != (a1.length : Int)) then false else (match qg a0 a1 (a0.length + 1) 0 with | .inl r1 => r1 | .inr _ => true))
def zz (a0 : ZS) (a1 : ZS) : Bool := (((a0.Key == a1.Key) && (a0.Mark == a1.Mark)) && (kB a0.Wm a1.Wm))
def qP (a0 : ZO) (a1 : ZS) : Nat -> Nat -> Sum Int Unit
  | 0, _ => .inr ()
  | n1 + 1, J => (bif (decide ((J : Int) < (a0.ZT.length : Int))) then (bif (zz (nth a0.ZT J) a1) then (.inl (J : Int)) else qP a0 a1 n1 (J + 1)) else (.inr ()))
def yQ (a0 : ZO) (a1 : ZS) : Int := (match qP a0 a1 (a0.ZT.length + 1) 0 with | .inl r1 => r1 | .inr _ => (-1))
def J7 (a0 : ZO) : Nat -> Nat -> Sum Bool Unit
  | 0, _ => .inr ()
  | n2 + 1, wB => (bif (decide ((wB : Int) < (a0.ZN.length : Int))) then (bif ((!(Z4 (nth a0.ZN wB).Count 1 (a0.ZT.length : Int))) || ((decide ((wB : Int) > 0)) && (decide ((nth a0.ZN (wB - 1)).Count > (nth a0.ZN wB).Count)))) then (.inl false) else J7 a0 n2 (wB + 1)) else (.inr ()))
def J4 (a0 : ZO) : Nat -> Nat -> Sum Bool Unit
  | 0, _ => .inr ()
  | n1 + 1, J => (bif (decide ((J : Int) < (a0.ZT.length : Int))) then (bif (decide ((yQ a0 (nth a0.ZT J)) < (J : Int))) then (.inl false) else J4 a0 n1 (J + 1)) else (.inr ()))
def Q8 (a0 : ZO) : Bool := (match J4 a0 (a0.ZT.length + 1) 0 with | .inl r1 => r1 | .inr _ => (match J7 a0 (a0.ZN.length + 1) 0 with | .inl r2 => r2 | .inr _ => ((Z4 (a0.ZT.length : Int) 1 12) && (decide ((a0.ZN.length : Int) <= 8)))))
def Xm (a0 : ZO) (a1 : ZS) : ZO × Bool := (bif (!(Q8 (ZO.mk (a0.ZT ++ ([a1] : List ZS)) a0.ZN))) then (a0, false) else ((ZO.mk (a0.ZT ++ ([a1] : List ZS)) a0.ZN), true))
def y2 (a0 : ZI) : ZI × YY := (bif (Zh (ZA (ZA (ZA a0 60).1 3).1 2).1 3).2 then ((ZA (Zh (ZA (ZA (ZA a0 60).1 3).1 2).1 3).1 (W ((ZA a0 60).2 + 2))).1, (Xd ZD (YY.mk (W (1 + (ZA (ZA a0 60).1 3).2)) (ZA a0 60).2 (ZA (Zh (ZA (ZA (ZA a0 60).1 3).1 2).1 3).1 (W ((ZA a0 60).2 + 2))).2 (W (1 + (ZA (ZA (ZA a0 60).1 3).1 2).2)) 0)).1) else ((Zh (ZA (ZA (ZA a0 60).1 3).1 2).1 3).1, (Xd ZD (YY.mk (W (1 + (ZA (ZA a0 60).1 3).2)) (ZA a0 60).2 (-1) (W (1 + (ZA (ZA (ZA a0 60).1 3).1 2).2)) 0)).1))
def JT (a0 : List ZJ) (a1 : Int) : Nat -> Nat -> Sum Int Unit
  | 0, _ => .inr ()
  | n1 + 1, J => (bif (decide ((J : Int) < (a0.length : Int))) then (bif ((nth a0 J).Id == a1) then (.inl (J : Int)) else JT a0 a1 n1 (J + 1)) else (.inr ()))
def YL (a0 : List ZJ) (a1 : Int) : Int := (match JT a0 a1 (a0.length + 1) 0 with | .inl r1 => r1 | .inr _ => (-1))
def QJ (a0 : Zf) : List Int := ([103, a0.Authority, a0.Seq, a0.Time, a0.Yn] : List Int)
def Kr (a0 : List Z3) (a1 : List ZJ) (a2 : Zf) : Zf × Bool := (bif (((decide ((YL a1 a2.Authority) < 0)) || (decide (a2.Seq < 0))) || (!(xJ a2.Time))) then ((Zf.mk 0 0 0 0 0), false) else (bif (decide ((YR a0 (nth a1 (YL a1 a2.Authority).toNat).Key) < 0)) then ((Zf.mk 0 0 0 0 0), false) else ((Zf.mk a2.Authority a2.Seq a2.Time a2.Yn (Kq (nth a0 (YR a0 (nth a1 (YL a1 a2.Authority).toNat).Key).toNat) (QJ a2))), true)))
def Q0 (a0 : ZI) : ZI × Zf := ((ZA (ZA (ZA (ZA a0 4).1 9).1 60).1 99).1, (Kr ZD ZG (Zf.mk (W (1 + (ZA a0 4).2)) (ZA (ZA a0 4).1 9).2 (ZA (ZA (ZA a0 4).1 9).1 60).2 (ZA (ZA (ZA (ZA a0 4).1 9).1 60).1 99).2 0)).1)
def jK (a0 : List ZJ) (a1 : Zf) : Int := (bif (decide ((YL a0 a1.Authority) < 0)) then 0 else (nth a0 (YL a0 a1.Authority).toNat).Key)
def yx (a0 : Int) (a1 : Zf) : ZS := (ZS.mk a0 (QJ a1) a1.Mark)
def kZ (a0 : Yu) : Bool := ((((Z4 a0.Org 1 99) && (Z4 a0.TN 0 99)) && (Z4 a0.Key 1 99)) && (Uc (Yk.mk a0.Jz a0.To)))
def Xw (a0 : Yu) : List Int := ([105, a0.Org, a0.TN, a0.Jz, a0.To, a0.Key] : List Int)
def zq (a0 : List Z3) (a1 : Yu) : Yu × Bool := (bif ((!(kZ a1)) || (decide ((YR a0 a1.Key) < 0))) then ((Yu.mk 0 0 0 0 0 0), false) else ((Yu.mk a1.Org a1.TN a1.Jz a1.To a1.Key (Kq (nth a0 (YR a0 a1.Key).toNat) (Xw a1))), true))
def y4 (a0 : ZI) : ZI × Yu := ((ZA (ZA (ZA a0 40).1 2).1 30).1, (zq ZD (Yu.mk 50 (W (1 + (ZA (ZA a0 40).1 2).2)) (ZA a0 40).2 (W ((ZA a0 40).2 + (ZA (ZA (ZA a0 40).1 2).1 30).2)) 21 0)).1)
def zJ (a0 : Yu) : ZS := (ZS.mk a0.Key (Xw a0) a0.Mark)
def Qi (a0 : ZI) : ZI × ZS := (bif ((ZA a0 5).2 == 0) then ((ZA (ZA a0 5).1 3).1, (Yt (nth YQ (ZA (ZA a0 5).1 3).2.toNat))) else (bif ((ZA a0 5).2 == 1) then ((y2 (ZA a0 5).1).1, (XN (y2 (ZA a0 5).1).2)) else (bif ((ZA a0 5).2 == 2) then ((Q0 (ZA a0 5).1).1, (yx (jK ZG (Q0 (ZA a0 5).1).2) (Q0 (ZA a0 5).1).2)) else (bif ((ZA a0 5).2 == 3) then ((ZR (ZA a0 5).1).1, (Yf (ZR (ZA a0 5).1).2.1)) else ((y4 (ZA a0 5).1).1, (zJ (y4 (ZA a0 5).1).2))))))
def Zi (a0 : ZI) : ZI × ZO × ZV × Zk := (bif (!(Zh (ZP (ZR a0).1 ([10, 30, 60, 90] : List Int)).1 4).2) then (bif (Zh (Zh (ZP (ZR a0).1 ([10, 30, 60, 90] : List Int)).1 4).1 4).2 then ((Qi (Zh (Zh (ZP (ZR a0).1 ([10, 30, 60, 90] : List Int)).1 4).1 4).1).1, (Xm (Xm (ZO.mk ([(Yf (ZR a0).2.1), (Yt (nth YQ (W ((ZR a0).2.1.Z9 - 1)).toNat))] : List ZS) ([] : List ZM)) (XN (Xd ZD (YY.mk (ZR a0).2.1.Z9 (ZP (ZR a0).1 ([10, 30, 60, 90] : List Int)).2 (-1) (nth YQ (W ((ZR a0).2.1.Z9 - 1)).toNat).YI 0)).1)).1 (Qi (Zh (Zh (ZP (ZR a0).1 ([10, 30, 60, 90] : List Int)).1 4).1 4).1).2).1, (ZR a0).2.2, (ZR a0).2.1) else ((Zh (Zh (ZP (ZR a0).1 ([10, 30, 60, 90] : List Int)).1 4).1 4).1, (Xm (ZO.mk ([(Yf (ZR a0).2.1), (Yt (nth YQ (W ((ZR a0).2.1.Z9 - 1)).toNat))] : List ZS) ([] : List ZM)) (XN (Xd ZD (YY.mk (ZR a0).2.1.Z9 (ZP (ZR a0).1 ([10, 30, 60, 90] : List Int)).2 (-1) (nth YQ (W ((ZR a0).2.1.Z9 - 1)).toNat).YI 0)).1)).1, (ZR a0).2.2, (ZR a0).2.1)) else (bif (Zh (Zh (ZP (ZR a0).1 ([10, 30, 60, 90] : List Int)).1 4).1 4).2 then ((Qi (Zh (Zh (ZP (ZR a0).1 ([10, 30, 60, 90] : List Int)).1 4).1 4).1).1, (Xm (ZO.mk ([(Yf (ZR a0).2.1), (Yt (nth YQ (W ((ZR a0).2.1.Z9 - 1)).toNat))] : List ZS) ([] : List ZM)) (Qi (Zh (Zh (ZP (ZR a0).1 ([10, 30, 60, 90] : List Int)).1 4).1 4).1).2).1, (ZR a0).2.2, (ZR a0).2.1) else ((Zh (Zh (ZP (ZR a0).1 ([10, 30, 60, 90] : List Int)).1 4).1 4).1, (ZO.mk ([(Yf (ZR a0).2.1), (Yt (nth YQ (W ((ZR a0).2.1.Z9 - 1)).toNat))] : List ZS) ([] : List ZM)), (ZR a0).2.2, (ZR a0).2.1)))
def Zs (a0 : ZO) (a1 : ZM) : ZO × Bool := (bif (!(Q8 (ZO.mk a0.ZT (a0.ZN ++ ([a1] : List ZM))))) then (a0, false) else ((ZO.mk a0.ZT (a0.ZN ++ ([a1] : List ZM))), true))
def Ji (a0 : ZO) (a1 : ZV) : Nat -> List Int -> Nat -> (List Int)
  | 0, _, _ => default
  | n1 + 1, J, U => (bif (decide ((U : Int) < (a0.ZN.length : Int))) then Ji a0 a1 n1 (J ++ ([(Xq (nth a0.ZN U).Method a1)] : List Int)) (U + 1) else (J))
def XS (a0 : ZO) (a1 : ZV) : List Int := (match Ji a0 a1 (a0.ZN.length + 1) ([] : List Int) 0 with | z1_0 => z1_0)
def zF (a1 : ZM) : Nat -> List Int -> Nat -> (List Int)
  | 0, _, _ => default
  | n2 + 1, wB, wT => (bif (decide ((wT : Int) < (a1.Z8.length : Int))) then zF a1 n2 ((wB ++ (QJ (nth a1.Z8 wT))) ++ ([(nth a1.Z8 wT).Mark] : List Int)) (wT + 1) else (wB))
def JV (a1 : ZM) : Nat -> List Int -> Nat -> (List Int)
  | 0, _, _ => default
  | n1 + 1, J, U => (bif (decide ((U : Int) < (a1.Path.length : Int))) then (bif (nth a1.Path U).Left then JV a1 n1 ((J ++ ([(nth a1.Path U).Yn] : List Int)) ++ ([1] : List Int)) (U + 1) else JV a1 n1 ((J ++ ([(nth a1.Path U).Yn] : List Int)) ++ ([0] : List Int)) (U + 1)) else (J))
def KY (a0 : Int) (a1 : ZM) : Int := (match JV a1 (a1.Path.length + 1) ([4, a1.Count, a1.Method, a1.IA] : List Int) 0 with | z1_0 => (match zF a1 (a1.Z8.length + 1) (z1_0 ++ ([(a1.Z8.length : Int)] : List Int)) 0 with | z2_0 => (Qw a0 z2_0)))
def zj (a0 : Int) (a1 : List ZS) : Nat -> List Int -> Nat -> (List Int)
  | 0, _, _ => default
  | n1 + 1, J, U => (bif (decide ((U : Int) < (a1.length : Int))) then zj a0 a1 n1 (J ++ ([(Qw a0 (([(nth a1 U).Key, (nth a1 U).Mark] : List Int) ++ (nth a1 U).Wm))] : List Int)) (U + 1) else (J))
def K1 (a0 : Int) (a1 : List ZS) : Int := (match zj a0 a1 (a1.length + 1) ([2] : List Int) 0 with | z1_0 => (Qw a0 z1_0))
def Vq (a0 : Int) (a1 : Int) (a2 : List ZS) (a3 : Int) : Int := (Qw a0 ([3, a1, (K1 a0 a2), a3] : List Int))
def yG (a0 : ZO) (a1 : List Int) (a2 : Int) : Int := (bif (((!(Z4 a2 0 (W ((a0.ZN.length : Int) - 1)))) || ((a1.length : Int) != (a0.ZN.length : Int))) || (!(Z4 (nth a0.ZN a2.toNat).Count 0 (a0.ZT.length : Int)))) then (-1) else (bif (decide (a2 > 0)) then (Vq (nth a0.ZN a2.toNat).Method (nth a1 a2.toNat) (a0.ZT.take (nth a0.ZN a2.toNat).Count.toNat) (KY (nth a0.ZN a2.toNat).Method (nth a0.ZN (W (a2 - 1)).toNat))) else (Vq (nth a0.ZN a2.toNat).Method (nth a1 a2.toNat) (a0.ZT.take (nth a0.ZN a2.toNat).Count.toNat) 0)))
def JO : Nat -> List Int -> Int -> List UInt8 -> Nat -> Int -> (List Int) × (List UInt8) × Nat × Int
  | 0, _, _, _, _, _ => (default, default, default, default)
  | n1 + 1, J, U, wF, wQ, wX => (bif (decide (U > 0)) then JO n1 (J ++ ([(ZA (ZI.mk wF wQ wX) 99).2] : List Int)) (W (U - 1)) (ZA (ZI.mk wF wQ wX) 99).1.b (ZA (ZI.mk wF wQ wX) 99).1.i (ZA (ZI.mk wF wQ wX) 99).1.h else ((J, wF, wQ, wX)))
def YH (a0 : ZI) (a1 : Int) : ZI × List Int := (match JO ((ZA a0 a1).2.toNat + 2) ([] : List Int) (ZA a0 a1).2 (ZA a0 a1).1.b (ZA a0 a1).1.i (ZA a0 a1).1.h with | (z1_0, z1_1, z1_2, z1_3) => ((ZI.mk z1_1 z1_2 z1_3), z1_0))
def jJ (a0 : Int) (a1 : Int) (a2 : Int) : Int := (Qw a0 ([1, a1, a2] : List Int))
def zi (a0 : Int) (a1 : List Int) : Nat -> List Int -> Nat -> (List Int)
  | 0, _, _ => default
  | n1 + 1, J, U => (bif (decide ((U : Int) < (a1.length : Int))) then (bif (decide ((W ((U : Int) + 1)) < (a1.length : Int))) then zi a0 a1 n1 (J ++ ([(jJ a0 (nth a1 U) (nth a1 (W ((U : Int) + 1)).toNat))] : List Int)) (U + 2) else zi a0 a1 n1 (J ++ ([(nth a1 U)] : List Int)) (U + 2)) else (J))
def qC (a0 : Int) (a1 : List Int) : List Int := (match zi a0 a1 (a1.length + 1) ([] : List Int) 0 with | z1_0 => z1_0)
def jO (a0 : Int) : Nat -> List Int -> (List Int)
  | 0, _ => default
  | n1 + 1, J => (bif (decide ((J.length : Int) > 1)) then jO a0 n1 (qC a0 J) else (J))
def Ko (a0 : Int) (a1 : List Int) : Int := (bif (!(Z4 (a1.length : Int) 1 16)) then (-1) else (match jO a0 (a1.length + 1) a1 with | z1_0 => (nth z1_0 0)))
def JD (a0 : Int) : Nat -> Int -> List Ya -> List Int -> (List Ya)
  | 0, _, _, _ => default
  | n1 + 1, J, U, wF => (bif (decide ((wF.length : Int) > 1)) then (bif ((Int.tmod J 2) == 1) then JD a0 n1 (W (Int.tdiv J 2)) (U ++ ([(Ya.mk (nth wF (W (J - 1)).toNat) true)] : List Ya)) (qC a0 wF) else (bif (decide ((W (J + 1)) < (wF.length : Int))) then JD a0 n1 (W (Int.tdiv J 2)) (U ++ ([(Ya.mk (nth wF (W (J + 1)).toNat) false)] : List Ya)) (qC a0 wF) else JD a0 n1 (W (Int.tdiv J 2)) U (qC a0 wF))) else (U))
def Kk (a0 : Int) (a1 : List Int) (a2 : Int) : List Ya := (bif ((decide ((a1.length : Int) > 16)) || (!(Z4 a2 0 (W ((a1.length : Int) - 1))))) then ([] : List Ya) else (match JD a0 (a1.length + 1) a2 ([] : List Ya) a1 with | z1_0 => z1_0))
def Ku (a0 : List Z3) (a1 : List ZJ) (a2 : Int) (a3 : Int) (a4 : List Int) (a6 : List Int) (a7 : Int) (a8 : Int) : Nat -> Nat -> List Zf -> (List Zf)
  | 0, _, _ => default
  | n1 + 1, J, U => (bif (decide ((J : Int) < (a6.length : Int))) then (bif (Kr a0 a1 (Zf.mk (nth a6 J) a7 a8 (Ko a2 (a4 ++ ([a3] : List Int))) 0)).2 then Ku a0 a1 a2 a3 a4 a6 a7 a8 n1 (J + 1) (U ++ ([(Kr a0 a1 (Zf.mk (nth a6 J) a7 a8 (Ko a2 (a4 ++ ([a3] : List Int))) 0)).1] : List Zf)) else Ku a0 a1 a2 a3 a4 a6 a7 a8 n1 (J + 1) U) else (U))
def Kw (a0 : List Z3) (a1 : List ZJ) (a2 : Int) (a3 : Int) (a4 : List Int) (a5 : Int) (a6 : List Int) (a7 : Int) (a8 : Int) : ZM := (match Ku a0 a1 a2 a3 a4 a6 a7 a8 (a6.length + 1) 0 ([] : List Zf) with | z1_0 => (ZM.mk a5 a2 (Ko a2 (a4 ++ ([a3] : List Int))) (Kk a2 (a4 ++ ([a3] : List Int)) (W (((a4 ++ ([a3] : List Int)).length : Int) - 1))) z1_0))
def Xl (a0 : ZI) (a1 : ZO) (a2 : ZV) (a3 : Int) (a4 : Int) : ZI × ZO := (bif (!(Zs a1 (ZM.mk (a1.ZT.length : Int) a3 0 ([] : List Ya) ([] : List Zf))).2) then (a0, a1) else (bif (Zh a0 3).2 then ((ZA (YH (Zh a0 3).1 4).1 9).1, (Zs a1 (Kw ZD ZG a3 (yG (Zs a1 (ZM.mk (a1.ZT.length : Int) a3 0 ([] : List Ya) ([] : List Zf))).1 (XS (Zs a1 (ZM.mk (a1.ZT.length : Int) a3 0 ([] : List Ya) ([] : List Zf))).1 a2) (W (((Zs a1 (ZM.mk (a1.ZT.length : Int) a3 0 ([] : List Ya) ([] : List Zf))).1.ZN.length : Int) - 1))) (YH (Zh a0 3).1 4).2 (a1.ZT.length : Int) ([1, 3, 4] : List Int) (ZA (YH (Zh a0 3).1 4).1 9).2 a4)).1) else ((ZA (YH (Zh a0 3).1 4).1 9).1, (Zs a1 (Kw ZD ZG a3 (yG (Zs a1 (ZM.mk (a1.ZT.length : Int) a3 0 ([] : List Ya) ([] : List Zf))).1 (XS (Zs a1 (ZM.mk (a1.ZT.length : Int) a3 0 ([] : List Ya) ([] : List Zf))).1 a2) (W (((Zs a1 (ZM.mk (a1.ZT.length : Int) a3 0 ([] : List Ya) ([] : List Zf))).1.ZN.length : Int) - 1))) (YH (Zh a0 3).1 4).2 (a1.ZT.length : Int) ([1, 2, 3, 4] : List Int) (ZA (YH (Zh a0 3).1 4).1 9).2 a4)).1)))
def Jj (a0 : ZI) : Nat -> Int -> Int -> List UInt8 -> Nat -> Int -> List ZS -> List ZM -> (List UInt8) × Nat × Int × (List ZS) × (List ZM)
  | 0, _, _, _, _, _, _, _ => (default, default, default, default, default)
  | n1 + 1, J, U, wF, wQ, wX, vG, vu => (bif (decide (U > 0)) then Jj a0 n1 (W (J + (ZP (Xl (ZA (ZI.mk wF wQ wX) 4).1 (ZO.mk vG vu) (Zi a0).2.2.1 (W (1 + (ZA (ZI.mk wF wQ wX) 4).2)) J).1 ([10, 20, 40] : List Int)).2)) (W (U - 1)) (ZP (Xl (ZA (ZI.mk wF wQ wX) 4).1 (ZO.mk vG vu) (Zi a0).2.2.1 (W (1 + (ZA (ZI.mk wF wQ wX) 4).2)) J).1 ([10, 20, 40] : List Int)).1.b (ZP (Xl (ZA (ZI.mk wF wQ wX) 4).1 (ZO.mk vG vu) (Zi a0).2.2.1 (W (1 + (ZA (ZI.mk wF wQ wX) 4).2)) J).1 ([10, 20, 40] : List Int)).1.i (ZP (Xl (ZA (ZI.mk wF wQ wX) 4).1 (ZO.mk vG vu) (Zi a0).2.2.1 (W (1 + (ZA (ZI.mk wF wQ wX) 4).2)) J).1 ([10, 20, 40] : List Int)).1.h (Xl (ZA (ZI.mk wF wQ wX) 4).1 (ZO.mk vG vu) (Zi a0).2.2.1 (W (1 + (ZA (ZI.mk wF wQ wX) 4).2)) J).2.ZT (Xl (ZA (ZI.mk wF wQ wX) 4).1 (ZO.mk vG vu) (Zi a0).2.2.1 (W (1 + (ZA (ZI.mk wF wQ wX) 4).2)) J).2.ZN else ((wF, wQ, wX, vG, vu)))
def XY (a0 : ZI) : ZI × ZO × ZV × Zk := (match Jj a0 5 (ZP (Zi a0).1 ([10, 25, 30] : List Int)).2 (ZA (ZP (Zi a0).1 ([10, 25, 30] : List Int)).1 4).2 (ZA (ZP (Zi a0).1 ([10, 25, 30] : List Int)).1 4).1.b (ZA (ZP (Zi a0).1 ([10, 25, 30] : List Int)).1 4).1.i (ZA (ZP (Zi a0).1 ([10, 25, 30] : List Int)).1 4).1.h (Zi a0).2.1.ZT (Zi a0).2.1.ZN with | (z1_0, z1_1, z1_2, z1_3, z1_4) => ((ZI.mk z1_0 z1_1 z1_2), (ZO.mk z1_3 z1_4), (Zi a0).2.2.1, (Zi a0).2.2.2))
def XX (a0 : ZI) : ZI × Za := ((ZP (ZA (XY a0).1 9).1 ([50, 100, 10000] : List Int)).1, (Za.mk (W (1 + (ZA (XY a0).1 9).2)) (ZP (ZA (XY a0).1 9).1 ([50, 100, 10000] : List Int)).2 (XY a0).2.2.1 (XY a0).2.2.2 (XY a0).2.1))
def qu (a0 : Za) : Bool := (((((Z4 a0.Id 1 999) && (xJ a0.Yj)) && (Yp a0.Doc)) && (Q8 a0.YD)) && (zz (nth a0.YD.ZT 0) (Yf a0.Sig)))
def z9 (a0 : ZH) : Nat -> Nat -> Sum Bool Unit
  | 0, _ => .inr ()
  | n1 + 1, J => (bif (decide ((J : Int) < (a0.ZK.length : Int))) then (bif ((!(qu (nth a0.ZK J))) || ((decide ((J : Int) > 0)) && (decide ((nth a0.ZK (J - 1)).Id >= (nth a0.ZK J).Id)))) then (.inl false) else z9 a0 n1 (J + 1)) else (.inr ()))
def Xf (a0 : ZH) : Bool := (match z9 a0 (a0.ZK.length + 1) 0 with | .inl r1 => r1 | .inr _ => ((Z4 a0.Id 0 99) && (decide ((a0.ZK.length : Int) <= 8))))
def jP (a0 : ZH) (a1 : Int) : Nat -> Nat -> Sum Int Unit
  | 0, _ => .inr ()
  | n1 + 1, J => (bif (decide ((J : Int) < (a0.ZK.length : Int))) then (bif ((nth a0.ZK J).Id == a1) then (.inl (J : Int)) else jP a0 a1 n1 (J + 1)) else (.inr ()))
def jH (a0 : ZH) (a1 : Int) : Int := (match jP a0 a1 (a0.ZK.length + 1) 0 with | .inl r1 => r1 | .inr _ => (-1))
def RA (a0 : ZV) : ZV := a0
def TB (a0 : Za) : Za := a0
def qM (a0 : ZH) : Nat -> Nat -> List Za -> (List Za)
  | 0, _, _ => default
  | n1 + 1, J, U => (bif (decide ((J : Int) < (a0.ZK.length : Int))) then qM a0 n1 (J + 1) (U ++ ([(nth a0.ZK J)] : List Za)) else (U))
def WW (a0 : ZH) : ZH := (match qM a0 (a0.ZK.length + 1) 0 ([] : List Za) with | z1_0 => (ZH.mk a0.Id z1_0))
def Xv (a0 : ZH) (a1 : Za) : Nat -> Bool -> Nat -> List Za -> Bool × (List Za)
  | 0, _, _, _ => (default, default)
  | n1 + 1, J, U, wF => (bif (decide ((U : Int) < (a0.ZK.length : Int))) then (bif ((!J) && (decide (a1.Id < (nth a0.ZK U).Id))) then Xv a0 a1 n1 true (U + 1) ((wF ++ ([a1] : List Za)) ++ ([(nth a0.ZK U)] : List Za)) else Xv a0 a1 n1 J (U + 1) (wF ++ ([(nth a0.ZK U)] : List Za))) else ((J, wF)))
def Qj (a0 : ZH) (a1 : Za) : ZH × Bool := (bif ((!(Xf a0)) || (decide ((jH a0 a1.Id) >= 0))) then (a0, false) else (match Xv a0 a1 (a0.ZK.length + 1) false 0 ([] : List Za) with | (z1_0, z1_1) => (bif (!z1_0) then (bif (!(Xf (ZH.mk a0.Id (z1_1 ++ ([a1] : List Za))))) then (a0, false) else ((ZH.mk a0.Id (z1_1 ++ ([a1] : List Za))), true)) else (bif (!(Xf (ZH.mk a0.Id z1_1))) then (a0, false) else ((ZH.mk a0.Id z1_1), true)))))
def XT : Nat -> Int -> List UInt8 -> Nat -> Int -> Int -> List Za -> (List UInt8) × Nat × Int × Int × (List Za)
  | 0, _, _, _, _, _, _ => (default, default, default, default, default)
  | n1 + 1, J, U, wF, wQ, wX, vG => (bif (decide (J > 0)) then XT n1 (W (J - 1)) (XX (ZI.mk U wF wQ)).1.b (XX (ZI.mk U wF wQ)).1.i (XX (ZI.mk U wF wQ)).1.h (Qj (ZH.mk wX vG) (XX (ZI.mk U wF wQ)).2).1.Id (Qj (ZH.mk wX vG) (XX (ZI.mk U wF wQ)).2).1.ZK else ((U, wF, wQ, wX, vG)))
def YU (a0 : ZI) : ZI × ZH := (match XT 5 (ZA (ZA a0 3).1 4).2 (ZA (ZA a0 3).1 4).1.b (ZA (ZA a0 3).1 4).1.i (ZA (ZA a0 3).1 4).1.h (ZA a0 3).2 ([] : List Za) with | (z1_0, z1_1, z1_2, z1_3, z1_4) => ((ZI.mk z1_0 z1_1 z1_2), (ZH.mk z1_3 z1_4)))
def ZB (a0 : List UInt8) : ZY × ZH × Int := ((Yh (Z0 a0)).2, (YU (Yh (Z0 a0)).1).2, (ZP (YU (Yh (Z0 a0)).1).1 ([0, 5, 20] : List Int)).2)
def Z5 (a0 : Za) : ZM × Bool := (bif ((a0.YD.ZN.length : Int) == 0) then ((ZM.mk 0 0 0 ([] : List Ya) ([] : List Zf)), false) else ((nth a0.YD.ZN (a0.YD.ZN.length - 1)), true))
def zH (a0 : List Zj) (a1 : Int) : Nat -> Nat -> Sum Int Unit
  | 0, _ => .inr ()
  | n1 + 1, J => (bif (decide ((J : Int) < (a0.length : Int))) then (bif ((nth a0 J).Id == a1) then (.inl (J : Int)) else zH a0 a1 n1 (J + 1)) else (.inr ()))
def Yq (a0 : List Zj) (a1 : Int) : Int := (match zH a0 a1 (a0.length + 1) 0 with | .inl r1 => r1 | .inr _ => (-1))
def KI (a0 : ZY) (a1 : Int) : Int := (bif (decide ((Yq a0.Methods a1) >= 0)) then (nth a0.Methods (Yq a0.Methods a1).toNat).Ends else 0)
def QM (a0 : List ZJ) (a1 : Int) : Nat -> Nat -> Sum Int Unit
  | 0, _ => .inr ()
  | n1 + 1, J => (bif (decide ((J : Int) < (a0.length : Int))) then (bif ((nth a0 J).Id == a1) then (.inl (J : Int)) else QM a0 a1 n1 (J + 1)) else (.inr ()))
def Zm (a0 : List ZJ) (a1 : Int) : Int := (match QM a0 a1 (a0.length + 1) 0 with | .inl r1 => r1 | .inr _ => (-1))
def Ys (a0 : List ZJ) (a1 : Zf) : Int := (bif (decide ((Zm a0 a1.Authority) >= 0)) then (nth a0 (Zm a0 a1.Authority).toNat).Key else 0)
def qI (a0 : List Z3) (a1 : Int) : Nat -> Nat -> Sum Int Unit
  | 0, _ => .inr ()
  | n1 + 1, J => (bif (decide ((J : Int) < (a0.length : Int))) then (bif ((nth a0 J).Number == a1) then (.inl (J : Int)) else qI a0 a1 n1 (J + 1)) else (.inr ()))
def Zu (a0 : List Z3) (a1 : Int) : Int := (match qI a0 a1 (a0.length + 1) 0 with | .inl r1 => r1 | .inr _ => (-1))
def zd (a0 : ZY) (a1 : ZM) : Nat -> Int -> Nat -> Sum Int Int
  | 0, _, _ => .inr default
  | n1 + 1, J, U => (bif (decide ((U : Int) < (a1.Z8.length : Int))) then (bif (decide ((Zu a0.YE (Ys a0.ZF (nth a1.Z8 U))) < 0)) then (.inl 0) else zd a0 a1 n1 (if (KI a0 (nth a0.YE (Zu a0.YE (Ys a0.ZF (nth a1.Z8 U))).toNat).Method) < J then (KI a0 (nth a0.YE (Zu a0.YE (Ys a0.ZF (nth a1.Z8 U))).toNat).Method) else J) (U + 1)) else (.inr J))
def Jl (a0 : ZY) (a1 : ZM) : Int := (match zd a0 a1 (a1.Z8.length + 1) (KI a0 a1.Method) 0 with | .inl r1 => r1 | .inr z1_0 => z1_0)
def Yv (a0 : ZY) (a1 : Za) (a2 : Int) : Bool := ((!(Z5 a1).2) || (decide ((W ((Jl a0 (Z5 a1).1) - a0.Now)) <= a2)))
def KD (a0 : ZY) (a1 : ZH) (a2 : Int) : Nat -> List Int -> Nat -> (List Int)
  | 0, _, _ => default
  | n1 + 1, J, U => (bif (decide ((U : Int) < (a1.ZK.length : Int))) then (bif (Yv a0 (nth a1.ZK U) a2) then KD a0 a1 a2 n1 (J ++ ([(nth a1.ZK U).Id] : List Int)) (U + 1) else KD a0 a1 a2 n1 J (U + 1)) else (J))
def XR (a0 : ZY) (a1 : ZH) (a2 : Int) : List Int := (match KD a0 a1 a2 (a1.ZK.length + 1) ([] : List Int) 0 with | z1_0 => z1_0)
def Y9 (a0 : ZY) (a1 : ZH) : Nat -> Int -> Nat -> Int
  | 0, _, _ => default
  | n1 + 1, J, U => (bif (decide ((U : Int) < (a1.ZK.length : Int))) then (bif (Z5 (nth a1.ZK U)).2 then Y9 a0 a1 n1 (if (Jl a0 (Z5 (nth a1.ZK U)).1) < J then (Jl a0 (Z5 (nth a1.ZK U)).1) else J) (U + 1) else Y9 a0 a1 n1 (if 0 < J then 0 else J) (U + 1)) else (J))
def JL (a0 : ZY) (a1 : ZH) : Int := (match Y9 a0 a1 (a1.ZK.length + 1) 10001 0 with | z1_0 => z1_0)
def yq (a0 : List Int) (a1 : Int) : Nat -> Nat -> Sum Bool Unit
  | 0, _ => .inr ()
  | n1 + 1, J => (bif (decide ((J : Int) < (a0.length : Int))) then (bif ((nth a0 J) == a1) then (.inl true) else yq a0 a1 n1 (J + 1)) else (.inr ()))
def Ki (a0 : List Int) (a1 : Int) : Bool := (match yq a0 a1 (a0.length + 1) 0 with | .inl r1 => r1 | .inr _ => false)
def y3 (a0 : List Zj) (a1 : Int) : Int := (bif (decide ((Yq a0 a1) >= 0)) then (nth a0 (Yq a0 a1).toNat).Ju else 0)
def zp (a0 : List Z3) (a1 : List ZJ) (a2 : List Zj) (a3 : ZM) : Nat -> Int -> Nat -> Sum Int Int
  | 0, _, _ => .inr default
  | n1 + 1, J, U => (bif (decide ((U : Int) < (a3.Z8.length : Int))) then (bif (decide ((Zu a0 (Ys a1 (nth a3.Z8 U))) < 0)) then (.inl 0) else zp a0 a1 a2 a3 n1 (if (y3 a2 (nth a0 (Zu a0 (Ys a1 (nth a3.Z8 U))).toNat).Method) < J then (y3 a2 (nth a0 (Zu a0 (Ys a1 (nth a3.Z8 U))).toNat).Method) else J) (U + 1)) else (.inr J))
def Jk (a0 : List Z3) (a1 : List ZJ) (a2 : List Zj) (a3 : ZM) : Int := (match zp a0 a1 a2 a3 (a3.Z8.length + 1) (y3 a2 a3.Method) 0 with | .inl r1 => r1 | .inr z1_0 => z1_0)
def yB (a0 : ZY) (a1 : Za) : Bool := ((Z5 a1).2 && (decide (a0.Now < (Jk a0.YE a0.ZF a0.Methods (Z5 a1).1))))
def ZU (a0 : Int) (a1 : Int) (a2 : Int) : Bool := ((decide (a1 <= a0)) && (decide (a0 <= a2)))
def K3 (a0 : Int) : Bool := (ZU a0 0 10000)
def jx (a0 : Yk) : Bool := (((K3 a0.Jz) && (K3 a0.To)) && (decide (a0.Jz <= a0.To)))
def xL (a0 : Int) (a1 : Int) : Yk × Bool := (bif ((decide (a0 > a1)) || (!(jx (Yk.mk (if 0 > a0 then 0 else a0) (if 10000 < a1 then 10000 else a1))))) then ((Yk.mk 0 0), false) else ((Yk.mk (if 0 > a0 then 0 else a0) (if 10000 < a1 then 10000 else a1)), true))
def yL (a0 : List ZJ) (a1 : Zf) : Yk × Bool := (bif (((decide ((Zm a0 a1.Authority) < 0)) || (decide ((nth a0 (Zm a0 a1.Authority).toNat).Error < 0))) || (!(K3 a1.Time))) then ((Yk.mk 0 0), false) else ((xL (W (a1.Time - (nth a0 (Zm a0 a1.Authority).toNat).Error)) (W (a1.Time + (nth a0 (Zm a0 a1.Authority).toNat).Error))).1, (xL (W (a1.Time - (nth a0 (Zm a0 a1.Authority).toNat).Error)) (W (a1.Time + (nth a0 (Zm a0 a1.Authority).toNat).Error))).2))
def xz (a0 : List Yk) (a1 : Int) : Nat -> Int -> Nat -> Int
  | 0, _, _ => default
  | n1 + 1, J, U => (bif (decide ((U : Int) < (a0.length : Int))) then (bif ((jx (nth a0 U)) && (ZU a1 (nth a0 U).Jz (nth a0 U).To)) then xz a0 a1 n1 (W (J + 1)) (U + 1) else xz a0 a1 n1 J (U + 1)) else (J))
def TD (a0 : List Yk) (a1 : Int) : Int := (match xz a0 a1 (a0.length + 1) 0 0 with | z1_0 => z1_0)
def qf (a0 : List Yk) (a1 : Int) (a2 : Int) : Bool := ((ZU a2 0 (W ((a0.length : Int) - 1))) && (decide ((TD a0 a1) >= (W ((a0.length : Int) - a2)))))
def Jq (a0 : List Yk) (a1 : Int) : Nat -> Bool -> Nat -> Int -> Int -> Bool × Int × Int
  | 0, _, _, _, _ => (default, default, default)
  | n1 + 1, J, U, wF, wQ => (bif (decide ((U : Int) <= 10000)) then (bif (qf a0 (U : Int) a1) then (bif (!J) then Jq a0 a1 n1 true (U + 1) (U : Int) (U : Int) else Jq a0 a1 n1 true (U + 1) wF (U : Int)) else Jq a0 a1 n1 J (U + 1) wF wQ) else ((J, wF, wQ)))
def K8 (a0 : List Yk) (a1 : Int) : Yk × Bool := (match Jq a0 a1 10002 false 0 0 0 with | (z1_0, z1_1, z1_2) => ((Yk.mk z1_1 z1_2), z1_0))
def jW (a0 : List ZJ) (a1 : List Zf) : Nat -> List Yk -> Nat -> Sum (Yk × Bool) (List Yk)
  | 0, _, _ => .inr default
  | n1 + 1, J, U => (bif (decide ((U : Int) < (a1.length : Int))) then (bif (!(yL a0 (nth a1 U)).2) then (.inl ((Yk.mk 0 0), false)) else jW a0 a1 n1 (J ++ ([(yL a0 (nth a1 U)).1] : List Yk)) (U + 1)) else (.inr J))
def xE (a0 : List ZJ) (a1 : List Zf) (a2 : Int) : Yk × Bool := (match jW a0 a1 (a1.length + 1) ([] : List Yk) 0 with | .inl r1 => r1 | .inr z1_0 => ((K8 z1_0 a2).1, (K8 z1_0 a2).2))
def KQ (a0 : List ZJ) (a1 : ZM) (a2 : Int) : Yk × Bool := ((xE a0 a1.Z8 a2).1, (xE a0 a1.Z8 a2).2)
def Jb (a0 : ZY) (a1 : ZM) : Yk × Bool := ((KQ a0.ZF a1 a0.zZ).1, (KQ a0.ZF a1 a0.zZ).2)
def yK (a0 : ZY) (a1 : ZO) (a2 : Int) : Bool := (bif (!(ZU a2 0 (W ((a1.ZN.length : Int) - 1)))) then false else (bif (a2 == (W ((a1.ZN.length : Int) - 1))) then (decide (a0.Now < (Jk a0.YE a0.ZF a0.Methods (nth a1.ZN a2.toNat)))) else ((Jb a0 (nth a1.ZN (W (a2 + 1)).toNat)).2 && (decide ((Jb a0 (nth a1.ZN (W (a2 + 1)).toNat)).1.To < (Jk a0.YE a0.ZF a0.Methods (nth a1.ZN a2.toNat)))))))
def WV (a0 : List Zj) (a1 : Int) (a2 : Int) : Bool := (((decide ((Yq a0 a1) >= 0)) && (decide ((nth a0 (Yq a0 a1).toNat).yF <= a2))) && (decide (a2 < (nth a0 (Yq a0 a1).toNat).Ju)))
def Y3 (a0 : ZY) : Nat -> List Int -> Nat -> (List Int)
  | 0, _, _ => default
  | n1 + 1, J, U => (bif (decide ((U : Int) < (a0.ZF.length : Int))) then (bif (decide ((Zu a0.YE (nth a0.ZF U).Key) < 0)) then Y3 a0 n1 J (U + 1) else (bif (((decide ((nth a0.YE (Zu a0.YE (nth a0.ZF U).Key).toNat).jw <= a0.Now)) && (WV a0.Methods (nth a0.YE (Zu a0.YE (nth a0.ZF U).Key).toNat).Method a0.Now)) && (decide ((KI a0 (nth a0.YE (Zu a0.YE (nth a0.ZF U).Key).toNat).Method) > a0.Now))) then Y3 a0 n1 (J ++ ([(nth a0.ZF U).Id] : List Int)) (U + 1) else Y3 a0 n1 J (U + 1))) else (J))
def Zq (a0 : ZY) : List Int := (match Y3 a0 (a0.ZF.length + 1) ([] : List Int) 0 with | z1_0 => z1_0)
def ze (a0 : List Z3) (a1 : Int) : Int := (bif (decide ((Zu a0 a1) >= 0)) then (nth a0 (Zu a0 a1).toNat).Xn else (-1))
def jI (a0 : Int) : Bool := (ZU a0 1 2147483646)
def UB (a0 : Z3) : Bool := (((((ZU a0.Number 1 99) && (ZU a0.Xn 0 99)) && (ZU a0.Method 0 99)) && (K3 a0.jw)) && (jI a0.Qe))
def qL (a0 : List Z3) : Nat -> Nat -> Sum Bool Unit
  | 0, _ => .inr ()
  | n1 + 1, J => (bif (decide ((J : Int) < (a0.length : Int))) then (bif ((!(UB (nth a0 J))) || ((decide ((J : Int) > 0)) && (decide ((nth a0 (J - 1)).Number >= (nth a0 J).Number)))) then (.inl false) else qL a0 n1 (J + 1)) else (.inr ()))
def JN (a0 : List Z3) : Bool := (match qL a0 (a0.length + 1) 0 with | .inl r1 => r1 | .inr _ => (decide ((a0.length : Int) <= 12)))
def KR (a0 : List UInt8) : Nat -> Nat -> Sum Bool Unit
  | 0, _ => .inr ()
  | n2 + 1, wB => (bif (decide ((wB : Int) < ((Zq (ZB a0).1).length : Int))) then (bif ((decide ((Zm (ZB a0).1.ZF (nth (Zq (ZB a0).1) wB)) < 0)) || ((decide ((ze (ZB a0).1.YE (nth (ZB a0).1.ZF (Zm (ZB a0).1.ZF (nth (Zq (ZB a0).1) wB)).toNat).Key) < 0)) && (JN (ZB a0).1.YE))) then (.inl false) else KR a0 n2 (wB + 1)) else (.inr ()))
def KV (a0 : List UInt8) : Nat -> Nat -> Sum Bool Unit
  | 0, _ => .inr ()
  | n1 + 1, J => (bif (decide ((J : Int) < ((ZB a0).2.1.ZK.length : Int))) then (bif (!((Ki (XR (ZB a0).1 (ZB a0).2.1 (ZB a0).2.2) (nth (ZB a0).2.1.ZK J).Id) == (Yv (ZB a0).1 (nth (ZB a0).2.1.ZK J) (ZB a0).2.2))) then (.inl false) else (bif (!((yB (ZB a0).1 (nth (ZB a0).2.1.ZK J)) == ((decide (((nth (ZB a0).2.1.ZK J).YD.ZN.length : Int) > 0)) && (yK (ZB a0).1 (nth (ZB a0).2.1.ZK J).YD (W (((nth (ZB a0).2.1.ZK J).YD.ZN.length : Int) - 1)))))) then (.inl false) else KV a0 n1 (J + 1))) else (.inr ()))
def yN (a0 : List UInt8) : Bool := (bif (Ti a0) then true else (match KV a0 ((ZB a0).2.1.ZK.length + 1) 0 with | .inl r1 => r1 | .inr _ => (bif (((decide ((ZB a0).2.2 >= 0)) && (decide (((ZB a0).2.1.ZK.length : Int) > 0))) && (!((decide ((W ((JL (ZB a0).1 (ZB a0).2.1) - (ZB a0).1.Now)) <= (ZB a0).2.2)) == (decide (((XR (ZB a0).1 (ZB a0).2.1 (ZB a0).2.2).length : Int) > 0))))) then false else (match KR a0 ((Zq (ZB a0).1).length + 1) 0 with | .inl r2 => r2 | .inr _ => true))))
def YS (a0 : List UInt8) : Int := (W ((ZA (Z0 a0) 4).2 - 1))
def Ye : List Z3 := ([(Z3.mk 1 90 1 0 501), (Z3.mk 2 90 3 40 502), (Z3.mk 11 1 1 0 511), (Z3.mk 12 1 2 20 512), (Z3.mk 13 2 3 40 513), (Z3.mk 21 50 1 0 521), (Z3.mk 31 81 1 0 531), (Z3.mk 32 82 2 20 532), (Z3.mk 33 83 3 40 533), (Z3.mk 34 84 4 60 534)] : List Z3)
def YT : List Zj := ([(Zj.mk 1 0 40 50), (Zj.mk 2 20 80 70), (Zj.mk 3 40 120 200), (Zj.mk 4 60 10001 10001)] : List Zj)
def QU (a0 : Z1) : List Int := ([101, a0.Z9, a0.Key, a0.Xn, a0.Jz, a0.To, a0.YI] : List Int)
def I7 (a0 : Int) (a1 : Int) : Int := (bif (!(ZU a1 1 1000000000000)) then 0 else (Int.tmod (W ((Int.tmod a0 a1) + a1)) a1))
def Sq (a0 : List Int) : Nat -> Int -> Nat -> Int
  | 0, _, _ => default
  | n1 + 1, J, U => (bif (decide ((U : Int) < (a0.length : Int))) then Sq a0 n1 (Int.tmod (W ((W ((W (J * 1000003)) + (I7 (nth a0 U) 2147483647))) + 13)) 2147483647) (U + 1) else (J))
def LQ (a0 : List Int) : Int := (match Sq a0 (a0.length + 1) 11 0 with | z1_0 => z1_0)
def kb (a0 : Int) (a1 : List Int) : Int := (LQ ((([a0] : List Int) ++ a1) ++ ([a0] : List Int)))
def Vi (a0 : Z3) (a1 : List Int) : Int := (kb a0.Qe (([a0.Method] : List Int) ++ a1))
def xB (a0 : List Z3) (a1 : Int) (a2 : List Int) : Int × Bool := (bif (decide ((Zu a0 a1) < 0)) then (0, false) else ((Vi (nth a0 (Zu a0 a1).toNat) a2), true))
def ja (a0 : Z1) : Yk := (Yk.mk a0.Jz a0.To)
def V3 (a0 : Z1) : Bool := ((((((ZU a0.Z9 1 999) && (ZU a0.Key 1 99)) && (ZU a0.YI 1 99)) && (a0.Key != a0.YI)) && (ZU a0.Xn 0 99)) && (jx (ja a0)))
def qE (a0 : List Z3) (a1 : Z1) : Z1 × Bool := (bif (((!(V3 a1)) || (!(xB a0 a1.YI (QU a1)).2)) || (decide ((Zu a0 a1.Key) < 0))) then ((Z1.mk 0 0 0 0 0 0 0), false) else ((Z1.mk a1.Z9 a1.Key a1.Xn a1.Jz a1.To a1.YI (xB a0 a1.YI (QU a1)).1), true))
def zN : Nat -> Nat -> List Z1 -> (List Z1)
  | 0, _, _ => default
  | n2 + 1, wB, wT => (bif (decide ((wB : Int) < 3)) then zN n2 (wB + 1) (wT ++ ([(qE Ye (nth ([(Z1.mk 1 11 1 0 60 1 0), (Z1.mk 2 12 1 20 100 1 0), (Z1.mk 3 13 2 40 150 2 0)] : List Z1) wB)).1] : List Z1)) else (wT))
def K4 : Nat -> Nat -> List ZJ -> (List ZJ)
  | 0, _, _ => default
  | n1 + 1, J, U => (bif (decide ((J : Int) < 4)) then K4 n1 (J + 1) (U ++ ([(ZJ.mk (W ((J : Int) + 1)) (W (31 + (J : Int))) (nth ([1, 2, 1, 0] : List Int) J))] : List ZJ)) else (U))
def Yb (a0 : Int) : Zw := (match K4 5 0 ([] : List ZJ) with | z1_0 => (match zN 4 0 ([] : List Z1) with | z2_0 => (bif (decide ((if (if a0 < 1 then a0 else 1) > 0 then (if a0 < 1 then a0 else 1) else 0) > 0)) then (Zw.mk (ZY.mk Ye z1_0 YT (if (if a0 < 1 then a0 else 1) > 0 then (if a0 < 1 then a0 else 1) else 0) 0) z2_0 ([(-1), (-1), (-1)] : List Int) ([(ZH.mk 0 ([] : List Za)), (ZH.mk 1 ([] : List Za))] : List ZH) (List.replicate 4 0) ([1] : List Int) 1 ([] : List Int)) else (Zw.mk (ZY.mk Ye z1_0 YT (if (if a0 < 1 then a0 else 1) > 0 then (if a0 < 1 then a0 else 1) else 0) 0) z2_0 ([(-1), (-1), (-1)] : List Int) ([(ZH.mk 0 ([] : List Za)), (ZH.mk 1 ([] : List Za))] : List ZH) (List.replicate 4 0) ([] : List Int) 1 ([] : List Int)))))
def MI (a0 : Int) (a1 : Int) : Int := (bif (decide (a1 < a0)) then a1 else a0)
def YW (a0 : Int) : Zw := (bif ((MI 1 (Vo 0 a0)) == 1) then (Zw.mk (ZY.mk ZD ZG Zb (MI 1 (Vo 0 a0)) 0) YQ ([(-1), (-1), (-1)] : List Int) ([(ZH.mk 0 ([] : List Za)), (ZH.mk 1 ([] : List Za))] : List ZH) ([0, 0, 0, 0] : List Int) ([1] : List Int) 1 ([] : List Int)) else (Zw.mk (ZY.mk ZD ZG Zb (MI 1 (Vo 0 a0)) 0) YQ ([(-1), (-1), (-1)] : List Int) ([(ZH.mk 0 ([] : List Za)), (ZH.mk 1 ([] : List Za))] : List ZH) ([0, 0, 0, 0] : List Int) ([] : List Int) 1 ([] : List Int)))
def Zl (a0 : ZI) : ZI × Zw := ((YU (ZP (ZA a0 2).1 ([0, 20, 45, 100] : List Int)).1).1, (Zw.mk (ZY.mk (YW (ZA a0 2).2).Frame.YE (YW (ZA a0 2).2).Frame.ZF (YW (ZA a0 2).2).Frame.Methods (YW (ZA a0 2).2).Frame.zZ (ZP (ZA a0 2).1 ([0, 20, 45, 100] : List Int)).2) (YW (ZA a0 2).2).YV (YW (ZA a0 2).2).QB ((YW (ZA a0 2).2).ZL.set 0 (ZH.mk 0 (YU (ZP (ZA a0 2).1 ([0, 20, 45, 100] : List Int)).1).2.ZK)) (YW (ZA a0 2).2).KL (YW (ZA a0 2).2).X9 10 (YW (ZA a0 2).2).Jp))
def VW (a0 : ZY) : ZY := a0
def xw (a0 : Zw) : Nat -> Nat -> List ZH -> (List ZH)
  | 0, _, _ => default
  | n1 + 1, J, U => (bif (decide ((J : Int) < (a0.ZL.length : Int))) then xw a0 n1 (J + 1) (U ++ ([(nth a0.ZL J)] : List ZH)) else (U))
def Wc (a0 : Zw) : Zw := (match xw a0 (a0.ZL.length + 1) 0 ([] : List ZH) with | z1_0 => (Zw.mk a0.Frame a0.YV a0.QB z1_0 a0.KL a0.X9 a0.Next a0.Jp))
def YA (a0 : List UInt8) : Zw × Zw := (bif ((ZA (Zl (Z0 a0)).1 5).2 == 0) then ((Zl (Z0 a0)).2, (Zl (ZA (Zl (Z0 a0)).1 5).1).2) else (bif ((ZA (Zl (Z0 a0)).1 5).2 == 1) then ((Zl (Z0 a0)).2, (Zw.mk (Zl (Z0 a0)).2.Frame (Zl (Z0 a0)).2.YV (Zl (Z0 a0)).2.QB (Zl (Z0 a0)).2.ZL ((Zl (Z0 a0)).2.KL.set 0 (W ((nth (Zl (Z0 a0)).2.KL 0) + 1))) (Zl (Z0 a0)).2.X9 (Zl (Z0 a0)).2.Next (Zl (Z0 a0)).2.Jp)) else (bif ((ZA (Zl (Z0 a0)).1 5).2 == 2) then ((Zl (Z0 a0)).2, (Zw.mk (Zl (Z0 a0)).2.Frame (Zl (Z0 a0)).2.YV ((Zl (Z0 a0)).2.QB.set 0 5) (Zl (Z0 a0)).2.ZL (Zl (Z0 a0)).2.KL (Zl (Z0 a0)).2.X9 (Zl (Z0 a0)).2.Next (Zl (Z0 a0)).2.Jp)) else ((Zl (Z0 a0)).2, (Zl (Z0 a0)).2))))
def Zg (a0 : List UInt8) : Zw × Int := ((Zl (Z0 a0)).2, (ZA (Zl (Z0 a0)).1 11).2)
def Qu (a0 : ZH) (a1 : Int) : Nat -> Nat -> Sum Int Unit
  | 0, _ => .inr ()
  | n1 + 1, J => (bif (decide ((J : Int) < (a0.ZK.length : Int))) then (bif ((nth a0.ZK J).Id == a1) then (.inl (J : Int)) else Qu a0 a1 n1 (J + 1)) else (.inr ()))
def QT (a0 : ZH) (a1 : Int) : Int := (match Qu a0 a1 (a0.ZK.length + 1) 0 with | .inl r1 => r1 | .inr _ => (-1))
def Qz (a0 : Zw) (a1 : Int) : Nat -> Nat -> Sum (Int × Int) Unit
  | 0, _ => .inr ()
  | n1 + 1, J => (bif (decide ((J : Int) < (a0.ZL.length : Int))) then (bif (decide ((QT (nth a0.ZL J) a1) >= 0)) then (.inl ((J : Int), (QT (nth a0.ZL J) a1))) else Qz a0 a1 n1 (J + 1)) else (.inr ()))
def Yx (a0 : Zw) (a1 : Int) : Int × Int := (match Qz a0 a1 (a0.ZL.length + 1) 0 with | .inl r1 => r1 | .inr _ => ((-1), (-1)))
def Kn (a0 : List ZJ) : Nat -> Nat -> Sum Bool Unit
  | 0, _ => .inr ()
  | n1 + 1, J => (bif (decide ((J : Int) < (a0.length : Int))) then (bif ((((!(ZU (nth a0 J).Id 0 99)) || (!(ZU (nth a0 J).Key 1 99))) || (!(ZU (nth a0 J).Error 0 100))) || ((decide ((J : Int) > 0)) && (decide ((nth a0 (J - 1)).Id >= (nth a0 J).Id)))) then (.inl false) else Kn a0 n1 (J + 1)) else (.inr ()))
def zf (a0 : List ZJ) : Bool := (match Kn a0 (a0.length + 1) 0 with | .inl r1 => r1 | .inr _ => (decide ((a0.length : Int) <= 6)))
def VH (a0 : Zj) : Bool := ((((((ZU a0.Id 0 99) && (K3 a0.yF)) && (ZU a0.Ends 1 10001)) && (ZU a0.Ju 1 10001)) && (decide (a0.yF < a0.Ends))) && (decide (a0.yF < a0.Ju)))
def xI (a0 : List Zj) : Nat -> Nat -> Sum Bool Unit
  | 0, _ => .inr ()
  | n1 + 1, J => (bif (decide ((J : Int) < (a0.length : Int))) then (bif ((!(VH (nth a0 J))) || ((decide ((J : Int) > 0)) && (decide ((nth a0 (J - 1)).Id >= (nth a0 J).Id)))) then (.inl false) else xI a0 n1 (J + 1)) else (.inr ()))
def zL (a0 : List Zj) : Bool := (match xI a0 (a0.length + 1) 0 with | .inl r1 => r1 | .inr _ => (decide ((a0.length : Int) <= 8)))
def Uh (a0 : ZY) : Bool := (((((JN a0.YE) && (zf a0.ZF)) && (zL a0.Methods)) && (ZU a0.zZ 0 6)) && (K3 a0.Now))
def qc (a0 : List Int) : Nat -> Nat -> Sum Bool Unit
  | 0, _ => .inr ()
  | n1 + 1, J => (bif (decide ((J : Int) < (a0.length : Int))) then (bif (decide ((nth a0 (J - 1)) >= (nth a0 J))) then (.inl false) else qc a0 n1 (J + 1)) else (.inr ()))
def xn (a0 : List Int) : Bool := (match qc a0 (a0.length + 1) 1 with | .inl r1 => r1 | .inr _ => true)
def WC (a0 : List Z3) (a1 : Int) (a2 : List Int) (a3 : Int) : Bool := ((xB a0 a1 a2).2 && ((xB a0 a1 a2).1 == a3))
def kU (a0 : List Z3) (a1 : Z1) : Bool := (((V3 a1) && (WC a0 a1.YI (QU a1) a1.Mark)) && (a1.Xn == (ze a0 a1.Key)))
def jT (a0 : List Z1) (a1 : Int) : Nat -> Nat -> Sum Int Unit
  | 0, _ => .inr ()
  | n1 + 1, J => (bif (decide ((J : Int) < (a0.length : Int))) then (bif ((nth a0 J).Z9 == a1) then (.inl (J : Int)) else jT a0 a1 n1 (J + 1)) else (.inr ()))
def VR (a0 : List Z1) (a1 : Int) : Int := (match jT a0 a1 (a0.length + 1) 0 with | .inl r1 => r1 | .inr _ => (-1))
def xH (a0 : ZV) : Nat -> Nat -> Sum Bool Unit
  | 0, _ => .inr ()
  | n1 + 1, J => (bif (decide ((J : Int) < (a0.YO.length : Int))) then (bif ((decide (((nth a0.YO J).size : Int) > 40)) || (!(ZU (nth a0.XB J) 1 1000000000000))) then (.inl false) else xH a0 n1 (J + 1)) else (.inr ()))
def jM (a0 : ZV) : Bool := (bif (((!(ZU a0.yH 0 999)) || (!(ZU (a0.YO.length : Int) 1 6))) || ((a0.XB.length : Int) != (a0.YO.length : Int))) then false else (match xH a0 (a0.YO.length + 1) 0 with | .inl r1 => r1 | .inr _ => true))
def zt (a0 : List Int) (a1 : List Int) : Nat -> Nat -> Sum Bool Unit
  | 0, _ => .inr ()
  | n1 + 1, J => (bif (decide ((J : Int) < (a0.length : Int))) then (bif ((nth a0 J) != (nth a1 J)) then (.inl false) else zt a0 a1 n1 (J + 1)) else (.inr ()))
def QL (a0 : List Int) (a1 : List Int) : Bool := (bif ((a0.length : Int) != (a1.length : Int)) then false else (match zt a0 a1 (a0.length + 1) 0 with | .inl r1 => r1 | .inr _ => true))
def Xt (a0 : ZS) (a1 : ZS) : Bool := (((a0.Key == a1.Key) && (a0.Mark == a1.Mark)) && (QL a0.Wm a1.Wm))
def jh (a0 : List ZS) (a1 : ZS) : Nat -> Nat -> Sum Bool Unit
  | 0, _ => .inr ()
  | n1 + 1, J => (bif (decide ((J : Int) < (a0.length : Int))) then (bif (Xt (nth a0 J) a1) then (.inl true) else jh a0 a1 n1 (J + 1)) else (.inr ()))
def VJ (a0 : List ZS) (a1 : ZS) : Bool := (match jh a0 a1 (a0.length + 1) 0 with | .inl r1 => r1 | .inr _ => false)
def yi (a0 : ZO) : Nat -> Nat -> Sum Bool Unit
  | 0, _ => .inr ()
  | n2 + 1, wB => (bif (decide ((wB : Int) < (a0.ZN.length : Int))) then (bif ((!(ZU (nth a0.ZN wB).Count 1 (a0.ZT.length : Int))) || ((decide ((wB : Int) > 0)) && (decide ((nth a0.ZN wB).Count < (nth a0.ZN (wB - 1)).Count)))) then (.inl false) else yi a0 n2 (wB + 1)) else (.inr ()))
def yj (a0 : ZO) : Nat -> Nat -> Sum Bool Unit
  | 0, _ => .inr ()
  | n1 + 1, J => (bif (decide ((J : Int) < (a0.ZT.length : Int))) then (bif (VJ (a0.ZT.take J) (nth a0.ZT J)) then (.inl false) else yj a0 n1 (J + 1)) else (.inr ()))
def xe (a0 : ZO) : Bool := (bif ((!(ZU (a0.ZT.length : Int) 1 12)) || (decide ((a0.ZN.length : Int) > 8))) then false else (match yj a0 (a0.ZT.length + 1) 0 with | .inl r1 => r1 | .inr _ => (match yi a0 (a0.ZN.length + 1) 0 with | .inl r2 => r2 | .inr _ => true)))
def Ka (a0 : Zk) : List Int := ([104, a0.Key, a0.Z9, a0.Method, a0.Yn, a0.ye, a0.Org, a0.yd, a0.jn] : List Int)
def xr (a0 : Zk) : ZS := (ZS.mk a0.Key (Ka a0) a0.Mark)
def SP (a0 : Za) : Bool := (((((ZU a0.Id 1 999) && (K3 a0.Yj)) && (jM a0.Doc)) && (xe a0.YD)) && (Xt (nth a0.YD.ZT 0) (xr a0.Sig)))
def qj (a0 : ZH) : Nat -> Nat -> Sum Bool Unit
  | 0, _ => .inr ()
  | n1 + 1, J => (bif (decide ((J : Int) < (a0.ZK.length : Int))) then (bif ((!(SP (nth a0.ZK J))) || ((decide ((J : Int) > 0)) && (decide ((nth a0.ZK (J - 1)).Id >= (nth a0.ZK J).Id)))) then (.inl false) else qj a0 n1 (J + 1)) else (.inr ()))
def kA (a0 : ZH) : Bool := (match qj a0 (a0.ZK.length + 1) 0 with | .inl r1 => r1 | .inr _ => ((ZU a0.Id 0 99) && (decide ((a0.ZK.length : Int) <= 8))))
def kC (a0 : List Int) (a1 : Int) : Nat -> Nat -> Sum Int Unit
  | 0, _ => .inr ()
  | n1 + 1, J => (bif (decide ((J : Int) < (a0.length : Int))) then (bif ((nth a0 J) == a1) then (.inl (J : Int)) else kC a0 a1 n1 (J + 1)) else (.inr ()))
def TF (a0 : List Int) (a1 : Int) : Int := (match kC a0 a1 (a0.length + 1) 0 with | .inl r1 => r1 | .inr _ => (-1))
def Rc (a0 : List Int) (a1 : Int) : Bool := (decide ((TF a0 a1) >= 0))
def j7 (a0 : Zw) (wT : Nat) : Nat -> List Int -> Nat -> Sum Bool (List Int)
  | 0, _, _ => .inr default
  | n3 + 1, w7, vv => (bif (decide ((vv : Int) < ((nth a0.ZL wT).ZK.length : Int))) then (bif ((Rc w7 (nth (nth a0.ZL wT).ZK vv).Id) || (decide ((nth (nth a0.ZL wT).ZK vv).Id >= a0.Next))) then (.inl false) else j7 a0 wT n3 (w7 ++ ([(nth (nth a0.ZL wT).ZK vv).Id] : List Int)) (vv + 1)) else (.inr w7))
def ka (a0 : Zw) : Nat -> Nat -> Sum Bool Unit
  | 0, _ => .inr ()
  | n5 + 1, uT => (bif (decide ((uT : Int) < (a0.X9.length : Int))) then (bif (decide ((Zm a0.Frame.ZF (nth a0.X9 uT)) < 0)) then (.inl false) else ka a0 n5 (uT + 1)) else (.inr ()))
def kh (a0 : Zw) : Nat -> Nat -> Sum Bool Unit
  | 0, _ => .inr ()
  | n4 + 1, um => (bif (decide ((um : Int) < (a0.KL.length : Int))) then (bif (decide ((nth a0.KL um) < 0)) then (.inl false) else kh a0 n4 (um + 1)) else (.inr ()))
def WO (a0 : Zw) : Nat -> List Int -> Nat -> Sum Bool Unit
  | 0, _, _ => .inr ()
  | n2 + 1, wB, wT => (bif (decide ((wT : Int) < (a0.ZL.length : Int))) then (bif ((!(kA (nth a0.ZL wT))) || ((nth a0.ZL wT).Id != (wT : Int))) then (.inl false) else (match j7 a0 wT ((nth a0.ZL wT).ZK.length + 1) wB 0 with | .inl r3 => .inl r3 | .inr z3_0 => WO a0 n2 z3_0 (wT + 1))) else (.inr ()))
def kd (a0 : Zw) : Nat -> Nat -> Sum Bool Unit
  | 0, _ => .inr ()
  | n1 + 1, J => (bif (decide ((J : Int) < (a0.YV.length : Int))) then (bif (((!(kU a0.Frame.YE (nth a0.YV J))) || ((VR a0.YV (nth a0.YV J).Z9) != (J : Int))) || (!(ZU (nth a0.QB J) (-1) 10001))) then (.inl false) else kd a0 n1 (J + 1)) else (.inr ()))
def WT (a0 : Zw) : Bool := (bif ((((((((!(Uh a0.Frame)) || ((a0.QB.length : Int) != (a0.YV.length : Int))) || (!(ZU (a0.ZL.length : Int) 1 4))) || ((a0.KL.length : Int) != (a0.Frame.ZF.length : Int))) || (decide ((a0.X9.length : Int) > a0.Frame.zZ))) || (decide (a0.Next < 1))) || (!(xn a0.X9))) || (!(xn a0.Jp))) then false else (match kd a0 (a0.YV.length + 1) 0 with | .inl r1 => r1 | .inr _ => (match WO a0 (a0.ZL.length + 1) ([] : List Int) 0 with | .inl r2 => r2 | .inr _ => (match kh a0 (a0.KL.length + 1) 0 with | .inl r4 => r4 | .inr _ => (match ka a0 (a0.X9.length + 1) 0 with | .inl r5 => r5 | .inr _ => true)))))
def KX (a0 : ZY) (a1 : ZY) : Nat -> Nat -> Sum Bool Unit
  | 0, _ => .inr ()
  | n3 + 1, w7 => (bif (decide ((w7 : Int) < (a0.Methods.length : Int))) then (bif (!(((nth a0.Methods w7).Id == (nth a1.Methods w7).Id) && (((nth a0.Methods w7).yF == (nth a1.Methods w7).yF) && (((nth a0.Methods w7).Ends == (nth a1.Methods w7).Ends) && ((nth a0.Methods w7).Ju == (nth a1.Methods w7).Ju))))) then (.inl false) else KX a0 a1 n3 (w7 + 1)) else (.inr ()))
def Kd (a0 : ZY) (a1 : ZY) : Nat -> Nat -> Sum Bool Unit
  | 0, _ => .inr ()
  | n2 + 1, wB => (bif (decide ((wB : Int) < (a0.ZF.length : Int))) then (bif (!(((nth a0.ZF wB).Id == (nth a1.ZF wB).Id) && (((nth a0.ZF wB).Key == (nth a1.ZF wB).Key) && ((nth a0.ZF wB).Error == (nth a1.ZF wB).Error)))) then (.inl false) else Kd a0 a1 n2 (wB + 1)) else (.inr ()))
def Kh (a0 : ZY) (a1 : ZY) : Nat -> Nat -> Sum Bool Unit
  | 0, _ => .inr ()
  | n1 + 1, J => (bif (decide ((J : Int) < (a0.YE.length : Int))) then (bif (!(((nth a0.YE J).Number == (nth a1.YE J).Number) && (((nth a0.YE J).Xn == (nth a1.YE J).Xn) && (((nth a0.YE J).Method == (nth a1.YE J).Method) && (((nth a0.YE J).jw == (nth a1.YE J).jw) && ((nth a0.YE J).Qe == (nth a1.YE J).Qe)))))) then (.inl false) else Kh a0 a1 n1 (J + 1)) else (.inr ()))
def KM (a0 : ZY) (a1 : ZY) : Bool := (bif ((((((a0.YE.length : Int) != (a1.YE.length : Int)) || ((a0.ZF.length : Int) != (a1.ZF.length : Int))) || ((a0.Methods.length : Int) != (a1.Methods.length : Int))) || (a0.zZ != a1.zZ)) || (a0.Now != a1.Now)) then false else (match Kh a0 a1 (a0.YE.length + 1) 0 with | .inl r1 => r1 | .inr _ => (match Kd a0 a1 (a0.ZF.length + 1) 0 with | .inl r2 => r2 | .inr _ => (match KX a0 a1 (a0.Methods.length + 1) 0 with | .inl r3 => r3 | .inr _ => true))))
def KF (a0 : List ByteArray) (a1 : List ByteArray) : Nat -> Nat -> Sum Bool Unit
  | 0, _ => .inr ()
  | n1 + 1, J => (bif (decide ((J : Int) < (a0.length : Int))) then (bif (!decide ((nth a0 J) = (nth a1 J))) then (.inl false) else KF a0 a1 n1 (J + 1)) else (.inr ()))
def K9 (a0 : List ByteArray) (a1 : List ByteArray) : Bool := (bif ((a0.length : Int) != (a1.length : Int)) then false else (match KF a0 a1 (a0.length + 1) 0 with | .inl r1 => r1 | .inr _ => true))
def Qm (a0 : ZV) (a1 : ZV) : Bool := (((a0.yH == a1.yH) && (K9 a0.YO a1.YO)) && (QL a0.XB a1.XB))
def Qd (a0 : List ZS) (a1 : List ZS) : Nat -> Nat -> Sum Bool Unit
  | 0, _ => .inr ()
  | n1 + 1, J => (bif (decide ((J : Int) < (a0.length : Int))) then (bif (!(Xt (nth a0 J) (nth a1 J))) then (.inl false) else Qd a0 a1 n1 (J + 1)) else (.inr ()))
def JU (a0 : List ZS) (a1 : List ZS) : Bool := (bif ((a0.length : Int) != (a1.length : Int)) then false else (match Qd a0 a1 (a0.length + 1) 0 with | .inl r1 => r1 | .inr _ => true))
def Kc (a0 : List Zf) (a1 : List Zf) : Nat -> Nat -> Sum Bool Unit
  | 0, _ => .inr ()
  | n1 + 1, J => (bif (decide ((J : Int) < (a0.length : Int))) then (bif (!(((nth a0 J).Authority == (nth a1 J).Authority) && (((nth a0 J).Seq == (nth a1 J).Seq) && (((nth a0 J).Time == (nth a1 J).Time) && (((nth a0 J).Yn == (nth a1 J).Yn) && ((nth a0 J).Mark == (nth a1 J).Mark)))))) then (.inl false) else Kc a0 a1 n1 (J + 1)) else (.inr ()))
def zw (a0 : List Zf) (a1 : List Zf) : Bool := (bif ((a0.length : Int) != (a1.length : Int)) then false else (match Kc a0 a1 (a0.length + 1) 0 with | .inl r1 => r1 | .inr _ => true))
def JS (a0 : ZM) (a1 : ZM) : Nat -> Nat -> Sum Bool Unit
  | 0, _ => .inr ()
  | n1 + 1, J => (bif (decide ((J : Int) < (a0.Path.length : Int))) then (bif (!(((nth a0.Path J).Yn == (nth a1.Path J).Yn) && ((nth a0.Path J).Left == (nth a1.Path J).Left))) then (.inl false) else JS a0 a1 n1 (J + 1)) else (.inr ()))
def QE (a0 : ZM) (a1 : ZM) : Bool := (bif ((((a0.Count != a1.Count) || (a0.Method != a1.Method)) || (a0.IA != a1.IA)) || ((a0.Path.length : Int) != (a1.Path.length : Int))) then false else (match JS a0 a1 (a0.Path.length + 1) 0 with | .inl r1 => r1 | .inr _ => (zw a0.Z8 a1.Z8)))
def J2 (a0 : ZO) (a1 : ZO) : Nat -> Nat -> Sum Bool Unit
  | 0, _ => .inr ()
  | n1 + 1, J => (bif (decide ((J : Int) < (a0.ZN.length : Int))) then (bif (!(QE (nth a0.ZN J) (nth a1.ZN J))) then (.inl false) else J2 a0 a1 n1 (J + 1)) else (.inr ()))
def Js (a0 : ZO) (a1 : ZO) : Bool := (bif ((!(JU a0.ZT a1.ZT)) || ((a0.ZN.length : Int) != (a1.ZN.length : Int))) then false else (match J2 a0 a1 (a0.ZN.length + 1) 0 with | .inl r1 => r1 | .inr _ => true))
def KH (a0 : Za) (a1 : Za) : Bool := (((((a0.Id == a1.Id) && (a0.Yj == a1.Yj)) && (Qm a0.Doc a1.Doc)) && ((a0.Sig.Key == a1.Sig.Key) && ((a0.Sig.Z9 == a1.Sig.Z9) && ((a0.Sig.Method == a1.Sig.Method) && ((a0.Sig.Yn == a1.Sig.Yn) && ((a0.Sig.ye == a1.Sig.ye) && ((a0.Sig.Org == a1.Sig.Org) && ((a0.Sig.yd == a1.Sig.yd) && ((a0.Sig.jn == a1.Sig.jn) && (a0.Sig.Mark == a1.Sig.Mark)))))))))) && (Js a0.YD a1.YD))
def JW (a0 : ZH) (a1 : ZH) : Nat -> Nat -> Sum Bool Unit
  | 0, _ => .inr ()
  | n1 + 1, J => (bif (decide ((J : Int) < (a0.ZK.length : Int))) then (bif (!(KH (nth a0.ZK J) (nth a1.ZK J))) then (.inl false) else JW a0 a1 n1 (J + 1)) else (.inr ()))
def QD (a0 : ZH) (a1 : ZH) : Bool := (bif ((a0.Id != a1.Id) || ((a0.ZK.length : Int) != (a1.ZK.length : Int))) then false else (match JW a0 a1 (a0.ZK.length + 1) 0 with | .inl r1 => r1 | .inr _ => true))
def Kb (a0 : Zw) (a1 : Zw) : Nat -> Nat -> Sum Bool Unit
  | 0, _ => .inr ()
  | n2 + 1, wB => (bif (decide ((wB : Int) < (a0.ZL.length : Int))) then (bif (!(QD (nth a0.ZL wB) (nth a1.ZL wB))) then (.inl false) else Kb a0 a1 n2 (wB + 1)) else (.inr ()))
def Ke (a0 : Zw) (a1 : Zw) : Nat -> Nat -> Sum Bool Unit
  | 0, _ => .inr ()
  | n1 + 1, J => (bif (decide ((J : Int) < (a0.YV.length : Int))) then (bif (!(((nth a0.YV J).Z9 == (nth a1.YV J).Z9) && (((nth a0.YV J).Key == (nth a1.YV J).Key) && (((nth a0.YV J).Xn == (nth a1.YV J).Xn) && (((nth a0.YV J).Jz == (nth a1.YV J).Jz) && (((nth a0.YV J).To == (nth a1.YV J).To) && (((nth a0.YV J).YI == (nth a1.YV J).YI) && ((nth a0.YV J).Mark == (nth a1.YV J).Mark)))))))) then (.inl false) else Ke a0 a1 n1 (J + 1)) else (.inr ()))
def XO (a0 : Zw) (a1 : Zw) : Bool := (bif ((((((((!(KM a0.Frame a1.Frame)) || ((a0.YV.length : Int) != (a1.YV.length : Int))) || ((a0.ZL.length : Int) != (a1.ZL.length : Int))) || (!(QL a0.QB a1.QB))) || (!(QL a0.KL a1.KL))) || (!(QL a0.X9 a1.X9))) || (a0.Next != a1.Next)) || (!(QL a0.Jp a1.Jp))) then false else (match Ke a0 a1 (a0.YV.length + 1) 0 with | .inl r1 => r1 | .inr _ => (match Kb a0 a1 (a0.ZL.length + 1) 0 with | .inl r2 => r2 | .inr _ => true)))
def xF (a0 : List UInt8) : Bool := (bif (Ti a0) then true else (bif ((decide ((Yx (Zg a0).1 (Zg a0).2).1 >= 0)) && ((nth (nth (Zg a0).1.ZL (Yx (Zg a0).1 (Zg a0).2).1.toNat).ZK (Yx (Zg a0).1 (Zg a0).2).2.toNat).Id != (Zg a0).2)) then false else (((((WT (Yb (YS a0))) && (JN Ye)) && (zL YT)) && (XO (Yb (YS a0)) (Yb (YS a0)))) && ((XO (YA a0).1 (YA a0).2) == (XO (YA a0).2 (YA a0).1)))))
end Go.Mo
