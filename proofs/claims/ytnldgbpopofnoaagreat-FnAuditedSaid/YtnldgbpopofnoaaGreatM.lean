/- Models of the functions: what each computes, on typed data. No condition. -/
import Derived.Test.YtnldgbpopofnoaaGreatMo
namespace Go.Mo
open Go.Vm
def H5 (a0 : List UInt8) : Bool := (decide ((a0.length : Int) > 1048576))
def PF (a0 : List UInt8) : Nat -> Int -> Nat -> Int
  | 0, _, _ => default
  | n1 + 1, J, U => (bif ((decide ((U : Int) < (a0.length : Int))) && (decide ((U : Int) < 4000))) then PF a0 n1 (M3 .i64 (W ((W ((W (J * 137)) + (W ((nth a0 U).toNat : Int)))) + 11)) 1073741823) (U + 1) else (J))
def QH (a0 : List UInt8) : Z1 := (match PF a0 4001 (W (193017 + (a0.length : Int))) 0 with | z1_0 => (Z1.mk a0 0 z1_0))
def YF (a0 : Z1) : Z1 × Int := (bif (decide ((a0.i : Int) < (a0.b.length : Int))) then ((Z1.mk a0.b (a0.i + 1) (W ((W (a0.h * 6364136223846793005)) + 1442695040888963407))), (M3 .i64 (W ((M3 .i64 (ER .i64 ((W ((W (a0.h * 6364136223846793005)) + 1442695040888963407)).fdiv (2 ^ (min 33 IntKind.i64.bits))) ((W ((W (a0.h * 6364136223846793005)) + 1442695040888963407)).fdiv (2 ^ (min 47 IntKind.i64.bits)))) 255) + (W ((nth a0.b a0.i).toNat : Int)))) 255)) else ((Z1.mk a0.b a0.i (W ((W (a0.h * 6364136223846793005)) + 1442695040888963407))), (M3 .i64 (ER .i64 ((W ((W (a0.h * 6364136223846793005)) + 1442695040888963407)).fdiv (2 ^ (min 33 IntKind.i64.bits))) ((W ((W (a0.h * 6364136223846793005)) + 1442695040888963407)).fdiv (2 ^ (min 47 IntKind.i64.bits)))) 255)))
def ZF (a0 : Z1) (a1 : Int) : Z1 × Int := (bif (decide (a1 <= 0)) then (a0, 0) else (bif (decide (a1 <= 256)) then ((YF a0).1, (Int.tmod (YF a0).2 a1)) else ((YF (YF (YF a0).1).1).1, (Int.tmod (W ((W ((W ((YF a0).2 * 65536)) + (W ((YF (YF a0).1).2 * 256)))) + (YF (YF (YF a0).1).1).2)) a1))))
def Vz (a0 : Int) (a1 : Int) : Int := (bif (decide (a1 > a0)) then a1 else a0)
def PM (a0 : Int) (a1 : Int) : Int := (bif (decide (a1 < a0)) then a1 else a0)
def Kj : List Yj := ([(Yj.mk 1 90 1 0 501), (Yj.mk 2 90 3 40 502), (Yj.mk 11 1 1 0 511), (Yj.mk 12 1 2 20 512), (Yj.mk 13 2 3 40 513), (Yj.mk 21 50 1 0 521), (Yj.mk 31 81 1 0 531), (Yj.mk 32 82 2 20 532), (Yj.mk 33 83 3 40 533), (Yj.mk 34 84 4 60 534)] : List Yj)
def JH : List Zg := ([(Zg.mk 1 31 1), (Zg.mk 2 32 2), (Zg.mk 3 33 1), (Zg.mk 4 34 0)] : List Zg)
def jL : List YJ := ([(YJ.mk 1 0 40 50), (YJ.mk 2 20 80 70), (YJ.mk 3 40 120 200), (YJ.mk 4 60 10001 10001)] : List YJ)
def kQ (a0 : List Yj) (a1 : Int) : Nat -> Nat -> Sum Int Unit
  | 0, _ => .inr ()
  | n1 + 1, J => (bif (decide ((J : Int) < (a0.length : Int))) then (bif ((nth a0 J).Number == a1) then (.inl (J : Int)) else kQ a0 a1 n1 (J + 1)) else (.inr ()))
def YK (a0 : List Yj) (a1 : Int) : Int := (match kQ a0 a1 (a0.length + 1) 0 with | .inl r1 => r1 | .inr _ => (-1))
def YA (a0 : Int) (a1 : Int) (a2 : Int) : Bool := ((decide (a0 >= a1)) && (decide (a0 <= a2)))
def W3 (a0 : YY) : Za := (Za.mk a0.XU a0.To)
def jr (a0 : Int) : Bool := (YA a0 0 10000)
def O1 (a0 : Za) : Bool := (((jr a0.XU) && (jr a0.To)) && (decide (a0.XU <= a0.To)))
def Od (a0 : YY) : Bool := ((((((YA a0.ZO 1 999) && (YA a0.Key 1 99)) && (YA a0.Zq 1 99)) && (a0.Key != a0.Zq)) && (YA a0.yv 0 99)) && (O1 (W3 a0)))
def zE (a0 : YY) : List Int := ([101, a0.ZO, a0.Key, a0.yv, a0.XU, a0.To, a0.Zq] : List Int)
def ED (a0 : Int) (a1 : Int) : Int := (bif (!(YA a1 1 1000000000000)) then 0 else (Int.tmod (W ((Int.tmod a0 a1) + a1)) a1))
def NX (a0 : List Int) : Nat -> Int -> Nat -> Int
  | 0, _, _ => default
  | n1 + 1, J, U => (bif (decide ((U : Int) < (a0.length : Int))) then NX a0 n1 (Int.tmod (W ((W ((W (J * 1000003)) + (ED (nth a0 U) 2147483647))) + 13)) 2147483647) (U + 1) else (J))
def Ic (a0 : List Int) : Int := (match NX a0 (a0.length + 1) 11 0 with | z1_0 => z1_0)
def yU (a0 : Int) (a1 : List Int) : Int := (Ic ((([a0] : List Int) ++ a1) ++ ([a0] : List Int)))
def xU (a0 : Yj) (a1 : List Int) : Int := (yU a0.UA (([a0.Method] : List Int) ++ a1))
def ya (a0 : List Yj) (a1 : YY) : YY × Bool := (bif (((!(Od a1)) || (decide ((YK a0 a1.Zq) < 0))) || (decide ((YK a0 a1.Key) < 0))) then ((YY.mk 0 0 0 0 0 0 0), false) else ((YY.mk a1.ZO a1.Key a1.yv a1.XU a1.To a1.Zq (xU (nth a0 (YK a0 a1.Zq).toNat) (zE a1))), true))
def jM : List YY := ([(ya Kj (YY.mk 1 11 1 0 60 1 0)).1, (ya Kj (YY.mk 2 12 1 20 100 1 0)).1, (ya Kj (YY.mk 3 13 2 40 150 2 0)).1] : List YY)
def yM (a0 : Int) : ZN := (bif ((PM 1 (Vz 0 a0)) == 1) then (ZN.mk (Ze.mk Kj JH jL (PM 1 (Vz 0 a0)) 0) jM ([(-1), (-1), (-1)] : List Int) ([(ZJ.mk 0 ([] : List Zk)), (ZJ.mk 1 ([] : List Zk))] : List ZJ) ([0, 0, 0, 0] : List Int) ([1] : List Int) 1 ([] : List Int)) else (ZN.mk (Ze.mk Kj JH jL (PM 1 (Vz 0 a0)) 0) jM ([(-1), (-1), (-1)] : List Int) ([(ZJ.mk 0 ([] : List Zk)), (ZJ.mk 1 ([] : List Zk))] : List ZJ) ([0, 0, 0, 0] : List Int) ([] : List Int) 1 ([] : List Int)))
def Z3 (a0 : Z1) (a1 : Int) : Z1 × Bool := ((ZF a0 a1).1, ((ZF a0 a1).2 == 0))
def Zz (a0 : Z1) (a1 : List Int) : Z1 × Int := ((ZF a0 (a1.length : Int)).1, (nth a1 (ZF a0 (a1.length : Int)).2.toNat))
def TG (a0 : Z1) (a1 : List ByteArray) : Z1 × ByteArray := ((ZF a0 (a1.length : Int)).1, (nth a1 (ZF a0 (a1.length : Int)).2.toNat))
def KB (a0 : Z1) : Z1 × ByteArray := ((TG a0 ([(⟨#[]⟩ : ByteArray), (⟨#[97]⟩ : ByteArray), (⟨#[98]⟩ : ByteArray), (⟨#[97, 98]⟩ : ByteArray), (⟨#[121, 101, 115]⟩ : ByteArray), (⟨#[110, 111]⟩ : ByteArray), (⟨#[111, 110, 101, 32, 104, 117, 110, 100, 114, 101, 100]⟩ : ByteArray)] : List ByteArray)).1, (TG a0 ([(⟨#[]⟩ : ByteArray), (⟨#[97]⟩ : ByteArray), (⟨#[98]⟩ : ByteArray), (⟨#[97, 98]⟩ : ByteArray), (⟨#[121, 101, 115]⟩ : ByteArray), (⟨#[110, 111]⟩ : ByteArray), (⟨#[111, 110, 101, 32, 104, 117, 110, 100, 114, 101, 100]⟩ : ByteArray)] : List ByteArray)).2)
def zL (a0 : ZV) : Nat -> Nat -> Sum Bool Unit
  | 0, _ => .inr ()
  | n2 + 1, wB => (bif (decide ((wB : Int) < (a0.QQ.length : Int))) then (bif (!(YA (nth a0.QQ wB) 1 1000000000000)) then (.inl false) else zL a0 n2 (wB + 1)) else (.inr ()))
def zM (a0 : ZV) : Nat -> Nat -> Sum Bool Unit
  | 0, _ => .inr ()
  | n1 + 1, J => (bif (decide ((J : Int) < (a0.Yz.length : Int))) then (bif (decide (((nth a0.Yz J).size : Int) > 40)) then (.inl false) else zM a0 n1 (J + 1)) else (.inr ()))
def KR (a0 : ZV) : Bool := (match zM a0 (a0.Yz.length + 1) 0 with | .inl r1 => r1 | .inr _ => (match zL a0 (a0.QQ.length + 1) 0 with | .inl r2 => r2 | .inr _ => (((YA a0.jj 0 999) && (YA (a0.Yz.length : Int) 1 6)) && ((a0.QQ.length : Int) == (a0.Yz.length : Int)))))
def W2 (a0 : Int) : Bool := (YA a0 1 2147483646)
def J3 (a0 : Int) (a1 : List ByteArray) (a2 : Int) : Nat -> Nat -> List Int -> (List Int)
  | 0, _, _ => default
  | n1 + 1, J, U => (bif (decide ((J : Int) < (a1.length : Int))) then J3 a0 a1 a2 n1 (J + 1) (U ++ ([(Vz 1 (yU a2 ([a0, (J : Int)] : List Int)))] : List Int)) else (U))
def J4 (a0 : Int) (a1 : List ByteArray) (a2 : Int) : ZV × Bool := (match J3 a0 a1 a2 (a1.length + 1) 0 ([] : List Int) with | z1_0 => (bif ((!(KR (ZV.mk a0 a1 z1_0))) || (!(W2 a2))) then ((ZV.mk 0 ([] : List ByteArray) ([] : List Int)), false) else ((ZV.mk a0 a1 z1_0), true)))
def xY : Nat -> List ByteArray -> Int -> List UInt8 -> Nat -> Int -> (List ByteArray) × (List UInt8) × Nat × Int
  | 0, _, _, _, _, _ => (default, default, default, default)
  | n1 + 1, J, U, wD, wL, wg => (bif (decide (U > 0)) then xY n1 (J ++ ([(KB (Z1.mk wD wL wg)).2] : List ByteArray)) (W (U - 1)) (KB (Z1.mk wD wL wg)).1.b (KB (Z1.mk wD wL wg)).1.i (KB (Z1.mk wD wL wg)).1.h else ((J, wD, wL, wg)))
def Y7 (a0 : Z1) : Z1 × ZV := (match xY 5 ([] : List ByteArray) (W (1 + (ZF a0 3).2)) (ZF a0 3).1.b (ZF a0 3).1.i (ZF a0 3).1.h with | (z1_0, z1_1, z1_2, z1_3) => ((ZF (Z1.mk z1_1 z1_2 z1_3) 5).1, (J4 (ZF (Z1.mk z1_1 z1_2 z1_3) 5).2 z1_0 11).1))
def Yl (a0 : Z1) (a1 : Int) : Z1 × Zn := (bif (decide (a1 >= 20)) then (bif (decide (a1 >= 40)) then (bif (decide (a1 >= 60)) then ((Zz a0 ([0, (-10), 40] : List Int)).1, (Zn.mk 5 0 (Zz a0 ([0, (-10), 40] : List Int)).2 0 0 (ZV.mk 0 ([] : List ByteArray) ([] : List Int)) ([2, 3, 4] : List Int))) else ((Zz a0 ([0, (-10), 40] : List Int)).1, (Zn.mk 5 0 (Zz a0 ([0, (-10), 40] : List Int)).2 0 0 (ZV.mk 0 ([] : List ByteArray) ([] : List Int)) ([1, 2, 3] : List Int)))) else (bif (decide (a1 >= 60)) then ((Zz a0 ([0, (-10), 40] : List Int)).1, (Zn.mk 5 0 (Zz a0 ([0, (-10), 40] : List Int)).2 0 0 (ZV.mk 0 ([] : List ByteArray) ([] : List Int)) ([2, 3, 4] : List Int))) else ((Zz a0 ([0, (-10), 40] : List Int)).1, (Zn.mk 5 0 (Zz a0 ([0, (-10), 40] : List Int)).2 0 0 (ZV.mk 0 ([] : List ByteArray) ([] : List Int)) ([1, 2] : List Int))))) else (bif (decide (a1 >= 40)) then (bif (decide (a1 >= 60)) then ((Zz a0 ([0, (-10), 40] : List Int)).1, (Zn.mk 5 0 (Zz a0 ([0, (-10), 40] : List Int)).2 0 0 (ZV.mk 0 ([] : List ByteArray) ([] : List Int)) ([2, 3, 4] : List Int))) else ((Zz a0 ([0, (-10), 40] : List Int)).1, (Zn.mk 5 0 (Zz a0 ([0, (-10), 40] : List Int)).2 0 0 (ZV.mk 0 ([] : List ByteArray) ([] : List Int)) ([1, 2, 3] : List Int)))) else (bif (decide (a1 >= 60)) then ((Zz a0 ([0, (-10), 40] : List Int)).1, (Zn.mk 5 0 (Zz a0 ([0, (-10), 40] : List Int)).2 0 0 (ZV.mk 0 ([] : List ByteArray) ([] : List Int)) ([2, 3, 4] : List Int))) else ((Zz a0 ([0, (-10), 40] : List Int)).1, (Zn.mk 5 0 (Zz a0 ([0, (-10), 40] : List Int)).2 0 0 (ZV.mk 0 ([] : List ByteArray) ([] : List Int)) ([1] : List Int))))))
def Zo (a0 : Z1) : Z1 × List Zn := ((Yl (Yl (Yl (Y7 (Zz a0 ([11, 12] : List Int)).1).1 25).1 43).1 65).1, (((([(Zn.mk 1 22 0 0 0 (ZV.mk 0 ([] : List ByteArray) ([] : List Int)) ([] : List Int)), (Zn.mk 2 0 (Zz a0 ([11, 12] : List Int)).2 0 10000 (Y7 (Zz a0 ([11, 12] : List Int)).1).2 ([] : List Int)), (Zn.mk 1 3 0 0 0 (ZV.mk 0 ([] : List ByteArray) ([] : List Int)) ([] : List Int)), (Zn.mk 3 1 0 0 0 (ZV.mk 0 ([] : List ByteArray) ([] : List Int)) ([] : List Int))] : List Zn) ++ ([(Yl (Y7 (Zz a0 ([11, 12] : List Int)).1).1 25).2, (Zn.mk 1 18 0 0 0 (ZV.mk 0 ([] : List ByteArray) ([] : List Int)) ([] : List Int))] : List Zn)) ++ ([(Yl (Yl (Y7 (Zz a0 ([11, 12] : List Int)).1).1 25).1 43).2, (Zn.mk 1 22 0 0 0 (ZV.mk 0 ([] : List ByteArray) ([] : List Int)) ([] : List Int))] : List Zn)) ++ ([(Yl (Yl (Yl (Y7 (Zz a0 ([11, 12] : List Int)).1).1 25).1 43).1 65).2, (Zn.mk 1 20 0 0 0 (ZV.mk 0 ([] : List ByteArray) ([] : List Int)) ([] : List Int))] : List Zn)))
def Yy (a0 : Z1) : Z1 × Zn := (bif ((ZF a0 16).2 == 0) then ((Zz (ZF a0 16).1 ([1, 5, 10, 20, 30] : List Int)).1, (Zn.mk 1 (Zz (ZF a0 16).1 ([1, 5, 10, 20, 30] : List Int)).2 0 0 0 (ZV.mk 0 ([] : List ByteArray) ([] : List Int)) ([] : List Int))) else (bif ((ZF a0 16).2 == 1) then ((Zz (ZF a0 16).1 ([1, 5, 10, 20, 30] : List Int)).1, (Zn.mk 1 (Zz (ZF a0 16).1 ([1, 5, 10, 20, 30] : List Int)).2 0 0 0 (ZV.mk 0 ([] : List ByteArray) ([] : List Int)) ([] : List Int))) else (bif ((ZF a0 16).2 == 2) then ((Zz (ZF a0 16).1 ([1, 5, 10, 20, 30] : List Int)).1, (Zn.mk 1 (Zz (ZF a0 16).1 ([1, 5, 10, 20, 30] : List Int)).2 0 0 0 (ZV.mk 0 ([] : List ByteArray) ([] : List Int)) ([] : List Int))) else (bif ((ZF a0 16).2 == 3) then ((Y7 (Zz (Zz (ZF (ZF a0 16).1 2).1 ([11, 12, 13] : List Int)).1 ([30, 10000] : List Int)).1).1, (Zn.mk 2 (ZF (ZF a0 16).1 2).2 (Zz (ZF (ZF a0 16).1 2).1 ([11, 12, 13] : List Int)).2 0 (Zz (Zz (ZF (ZF a0 16).1 2).1 ([11, 12, 13] : List Int)).1 ([30, 10000] : List Int)).2 (Y7 (Zz (Zz (ZF (ZF a0 16).1 2).1 ([11, 12, 13] : List Int)).1 ([30, 10000] : List Int)).1).2 ([] : List Int))) else (bif ((ZF a0 16).2 == 4) then ((Y7 (Zz (Zz (ZF (ZF a0 16).1 2).1 ([11, 12, 13] : List Int)).1 ([30, 10000] : List Int)).1).1, (Zn.mk 2 (ZF (ZF a0 16).1 2).2 (Zz (ZF (ZF a0 16).1 2).1 ([11, 12, 13] : List Int)).2 0 (Zz (Zz (ZF (ZF a0 16).1 2).1 ([11, 12, 13] : List Int)).1 ([30, 10000] : List Int)).2 (Y7 (Zz (Zz (ZF (ZF a0 16).1 2).1 ([11, 12, 13] : List Int)).1 ([30, 10000] : List Int)).1).2 ([] : List Int))) else (bif ((ZF a0 16).2 == 5) then ((ZF (ZF a0 16).1 3).1, (Zn.mk 3 (W (1 + (ZF (ZF a0 16).1 3).2)) 0 0 0 (ZV.mk 0 ([] : List ByteArray) ([] : List Int)) ([] : List Int))) else (bif ((ZF a0 16).2 == 6) then ((ZF (ZF a0 16).1 3).1, (Zn.mk 3 (W (1 + (ZF (ZF a0 16).1 3).2)) 0 0 0 (ZV.mk 0 ([] : List ByteArray) ([] : List Int)) ([] : List Int))) else (bif ((ZF a0 16).2 == 7) then ((ZF (ZF a0 16).1 3).1, (Zn.mk 4 (ZF (ZF a0 16).1 3).2 0 0 0 (ZV.mk 0 ([] : List ByteArray) ([] : List Int)) ([] : List Int))) else (bif ((ZF a0 16).2 == 8) then ((ZF (ZF (ZF (ZF a0 16).1 2).1 2).1 3).1, (Zn.mk 6 (ZF (ZF a0 16).1 2).2 (ZF (ZF (ZF a0 16).1 2).1 2).2 (W (1 + (ZF (ZF (ZF (ZF a0 16).1 2).1 2).1 3).2)) 0 (ZV.mk 0 ([] : List ByteArray) ([] : List Int)) ([] : List Int))) else (bif ((ZF a0 16).2 == 9) then ((ZF (ZF a0 16).1 2).1, (Zn.mk 7 (ZF (ZF a0 16).1 2).2 0 0 0 (ZV.mk 0 ([] : List ByteArray) ([] : List Int)) ([] : List Int))) else (bif ((ZF a0 16).2 == 10) then ((Y7 (Zz (ZF (ZF a0 16).1 2).1 ([11, 12] : List Int)).1).1, (Zn.mk 8 (ZF (ZF a0 16).1 2).2 (Zz (ZF (ZF a0 16).1 2).1 ([11, 12] : List Int)).2 0 0 (Y7 (Zz (ZF (ZF a0 16).1 2).1 ([11, 12] : List Int)).1).2 ([] : List Int))) else (bif ((ZF a0 16).2 == 11) then ((Zz (ZF (ZF a0 16).1 4).1 ([5, 25, 60] : List Int)).1, (Zn.mk 9 (W (1 + (ZF (ZF a0 16).1 4).2)) (Zz (ZF (ZF a0 16).1 4).1 ([5, 25, 60] : List Int)).2 0 0 (ZV.mk 0 ([] : List ByteArray) ([] : List Int)) ([] : List Int))) else (bif ((ZF a0 16).2 == 12) then ((Zz (ZF (ZF a0 16).1 3).1 ([10, 40, 60] : List Int)).1, (Zn.mk 10 (W (1 + (ZF (ZF a0 16).1 3).2)) (Zz (ZF (ZF a0 16).1 3).1 ([10, 40, 60] : List Int)).2 0 0 (ZV.mk 0 ([] : List ByteArray) ([] : List Int)) ([] : List Int))) else ((ZF (Zz (ZF (ZF a0 16).1 2).1 ([0, (-10), 40] : List Int)).1 3).1, (Zn.mk 5 (ZF (ZF a0 16).1 2).2 (Zz (ZF (ZF a0 16).1 2).1 ([0, (-10), 40] : List Int)).2 0 0 (ZV.mk 0 ([] : List ByteArray) ([] : List Int)) ((([1, 2, 3, 4] : List Int).drop (ZF (Zz (ZF (ZF a0 16).1 2).1 ([0, (-10), 40] : List Int)).1 3).2.toNat).take (4 - (ZF (Zz (ZF (ZF a0 16).1 2).1 ([0, (-10), 40] : List Int)).1 3).2.toNat)))))))))))))))))
def JA : Nat -> List Zn -> Int -> List UInt8 -> Nat -> Int -> (List Zn) × (List UInt8) × Nat × Int
  | 0, _, _, _, _, _ => (default, default, default, default)
  | n1 + 1, J, U, wD, wL, wg => (bif (decide (U > 0)) then JA n1 (J ++ ([(Yy (Z1.mk wD wL wg)).2] : List Zn)) (W (U - 1)) (Yy (Z1.mk wD wL wg)).1.b (Yy (Z1.mk wD wL wg)).1.i (Yy (Z1.mk wD wL wg)).1.h else ((J, wD, wL, wg)))
def JF : Nat -> List Zn -> Int -> List UInt8 -> Nat -> Int -> (List Zn) × (List UInt8) × Nat × Int
  | 0, _, _, _, _, _ => (default, default, default, default)
  | n2 + 1, wB, wC, vd, vg, tF => (bif (decide (wC > 0)) then JF n2 (wB ++ ([(Yy (Z1.mk vd vg tF)).2] : List Zn)) (W (wC - 1)) (Yy (Z1.mk vd vg tF)).1.b (Yy (Z1.mk vd vg tF)).1.i (Yy (Z1.mk vd vg tF)).1.h else ((wB, vd, vg, tF)))
def Jm (a0 : Z1) (a1 : Int) : Z1 × List Zn := (bif (Z3 a0 2).2 then (match JA ((ZF (ZF (Zo (Z3 a0 2).1).1 (W (((Zo (Z3 a0 2).1).2.length : Int) + 1))).1 a1).2.toNat + 2) ((Zo (Z3 a0 2).1).2.take (ZF (Zo (Z3 a0 2).1).1 (W (((Zo (Z3 a0 2).1).2.length : Int) + 1))).2.toNat) (ZF (ZF (Zo (Z3 a0 2).1).1 (W (((Zo (Z3 a0 2).1).2.length : Int) + 1))).1 a1).2 (ZF (ZF (Zo (Z3 a0 2).1).1 (W (((Zo (Z3 a0 2).1).2.length : Int) + 1))).1 a1).1.b (ZF (ZF (Zo (Z3 a0 2).1).1 (W (((Zo (Z3 a0 2).1).2.length : Int) + 1))).1 a1).1.i (ZF (ZF (Zo (Z3 a0 2).1).1 (W (((Zo (Z3 a0 2).1).2.length : Int) + 1))).1 a1).1.h with | (z1_0, z1_1, z1_2, z1_3) => ((Z1.mk z1_1 z1_2 z1_3), z1_0)) else (match JF ((ZF (Z3 a0 2).1 a1).2.toNat + 2) ([] : List Zn) (ZF (Z3 a0 2).1 a1).2 (ZF (Z3 a0 2).1 a1).1.b (ZF (Z3 a0 2).1 a1).1.i (ZF (Z3 a0 2).1 a1).1.h with | (vZ, se, z2_2, z2_3) => ((Z1.mk se z2_2 z2_3), vZ)))
def T8 (a0 : Ze) : Ze := a0
def N5 (a0 : ZV) : ZV := a0
def RP (a0 : ZS) : ZS := a0
def VE (a0 : List ZS) : Nat -> List ZS -> Nat -> (List ZS)
  | 0, _, _ => default
  | n1 + 1, J, U => (bif (decide ((U : Int) < (a0.length : Int))) then VE a0 n1 (J ++ ([(nth a0 U)] : List ZS)) (U + 1) else (J))
def SD (a0 : List ZS) : List ZS := (match VE a0 (a0.length + 1) ([] : List ZS) 0 with | z1_0 => z1_0)
def PE (a0 : Zi) : Zi := a0
def kN (a0 : ZZ) : Nat -> Nat -> List Zi -> (List Zi)
  | 0, _, _ => default
  | n1 + 1, J, U => (bif (decide ((J : Int) < (a0.ZY.length : Int))) then kN a0 n1 (J + 1) (U ++ ([(nth a0.ZY J)] : List Zi)) else (U))
def TA (a0 : ZZ) : ZZ := (match kN a0 (a0.ZY.length + 1) 0 ([] : List Zi) with | z1_0 => (ZZ.mk a0.ZH z1_0))
def Ru (a0 : Zk) : Zk := a0
def kV (a0 : ZJ) : Nat -> Nat -> List Zk -> (List Zk)
  | 0, _, _ => default
  | n1 + 1, J, U => (bif (decide ((J : Int) < (a0.ZE.length : Int))) then kV a0 n1 (J + 1) (U ++ ([(nth a0.ZE J)] : List Zk)) else (U))
def TB (a0 : ZJ) : ZJ := (match kV a0 (a0.ZE.length + 1) 0 ([] : List Zk) with | z1_0 => (ZJ.mk a0.Id z1_0))
def ke (a0 : ZN) : Nat -> Nat -> List ZJ -> (List ZJ)
  | 0, _, _ => default
  | n1 + 1, J, U => (bif (decide ((J : Int) < (a0.ZB.length : Int))) then ke a0 n1 (J + 1) (U ++ ([(nth a0.ZB J)] : List ZJ)) else (U))
def U7 (a0 : ZN) : ZN := (match ke a0 (a0.ZB.length + 1) 0 ([] : List ZJ) with | z1_0 => (ZN.mk a0.Frame a0.ZT a0.YX z1_0 a0.QA a0.XK a0.Next a0.XJ))
def xW (a0 : ZN) (a1 : Int) : ZN × Bool := (bif ((!(YA a1 0 100)) || (decide ((W (a0.Frame.Now + a1)) > 10000))) then (a0, false) else ((ZN.mk (Ze.mk a0.Frame.Z6 a0.Frame.ZM a0.Frame.Methods a0.Frame.Kk (W (a0.Frame.Now + a1))) a0.ZT a0.YX a0.ZB a0.QA a0.XK a0.Next a0.XJ), true))
def Xt (a0 : ZN) (a1 : Int) : Bool := (YA a1 0 (W ((a0.ZB.length : Int) - 1)))
def yr (a0 : List YJ) (a1 : Int) : Nat -> Int -> Nat -> Int
  | 0, _, _ => default
  | n1 + 1, J, U => (bif (decide ((U : Int) < (a0.length : Int))) then (bif (((decide (a1 >= (nth a0 U).Nq)) && (decide (a1 < (nth a0 U).Ends))) && ((decide (J < 0)) || (decide ((nth a0 U).Ends > (nth a0 J.toNat).Ends)))) then yr a0 a1 n1 (U : Int) (U + 1) else yr a0 a1 n1 J (U + 1)) else (J))
def Zc (a0 : List YJ) (a1 : Int) : Int := (match yr a0 a1 (a0.length + 1) (-1) 0 with | z1_0 => (bif (decide (z1_0 < 0)) then (-1) else (nth a0 z1_0.toNat).Id))
def x1 (a0 : ZN) (a1 : Int) : Nat -> Nat -> Sum Int Unit
  | 0, _ => .inr ()
  | n1 + 1, J => (bif (decide ((J : Int) < (a0.ZT.length : Int))) then (bif ((nth a0.ZT J).Key == a1) then (.inl (J : Int)) else x1 a0 a1 n1 (J + 1)) else (.inr ()))
def X8 (a0 : ZN) (a1 : Int) : Int := (match x1 a0 a1 (a0.ZT.length + 1) 0 with | .inl r1 => r1 | .inr _ => (-1))
def Ju (a0 : Int) (a1 : List Int) : Int := (Ic (([7, a0] : List Int) ++ a1))
def jO (a1 : ByteArray) : Nat -> List Int -> Nat -> (List Int)
  | 0, _, _ => default
  | n1 + 1, J, U => (bif (decide ((U : Int) < (a1.size : Int))) then jO a1 n1 (J ++ ([(W ((bAt a1 U) : Int))] : List Int)) (U + 1) else (J))
def W4 (a0 : Int) (a1 : ByteArray) (a2 : Int) : Int := (match jO a1 (a1.size + 1) ([a2] : List Int) 0 with | z1_0 => (Ju a0 z1_0))
def WV (a0 : Int) (a1 : ZV) : Nat -> List Int -> Nat -> (List Int)
  | 0, _, _ => default
  | n1 + 1, J, U => (bif (decide ((U : Int) < (a1.Yz.length : Int))) then WV a0 a1 n1 (J ++ ([(W4 a0 (nth a1.Yz U) (nth a1.QQ U))] : List Int)) (U + 1) else (J))
def JB (a0 : Int) (a1 : ZV) : Int := (bif (!(KR a1)) then (-1) else (match WV a0 a1 (a1.Yz.length + 1) ([a1.jj] : List Int) 0 with | z1_0 => (Ju a0 z1_0)))
def WS (a0 : Zy) : Bool := ((((((((YA a0.Key 1 99) && (YA a0.ZO 1 999)) && (YA a0.Method 0 99)) && (YA a0.Org 0 99)) && (YA a0.ky 1 3)) && (YA a0.XW 0 1000000000000)) && (YA a0.WD 0 1000000000000)) && (YA a0.kG 0 1000000000000))
def QN (a0 : Zy) : List Int := ([104, a0.Key, a0.ZO, a0.Method, a0.XW, a0.ky, a0.Org, a0.WD, a0.kG] : List Int)
def KK (a0 : List Yj) (a1 : Zy) : Zy × Bool := (bif ((!(WS a1)) || (decide ((YK a0 a1.Key) < 0))) then ((Zy.mk 0 0 0 0 0 0 0 0 0), false) else ((Zy.mk a1.Key a1.ZO a1.Method a1.XW a1.ky a1.Org a1.WD a1.kG (xU (nth a0 (YK a0 a1.Key).toNat) (QN a1))), true))
def yW (a0 : Zy) : ZS := (ZS.mk a0.Key (QN a0) a0.Mark)
def kO (a0 : YY) : ZS := (ZS.mk a0.Zq (zE a0) a0.Mark)
def XI (a0 : ZN) (a1 : Int) (a2 : ZV) (a3 : Int) (a4 : Int) : Zk × Bool := (bif ((decide ((Zc a0.Frame.Methods a0.Frame.Now) < 0)) || (decide ((X8 a0 a1) < 0))) then ((Zk.mk 0 0 (ZV.mk 0 ([] : List ByteArray) ([] : List Int)) (Zy.mk 0 0 0 0 0 0 0 0 0) (ZZ.mk ([] : List ZS) ([] : List Zi))), false) else ((Zk.mk a0.Next a4 a2 (KK a0.Frame.Z6 (Zy.mk a1 (nth a0.ZT (X8 a0 a1).toNat).ZO (Zc a0.Frame.Methods a0.Frame.Now) (JB (Zc a0.Frame.Methods a0.Frame.Now) a2) 1 a3 0 0 0)).1 (ZZ.mk ([(yW (KK a0.Frame.Z6 (Zy.mk a1 (nth a0.ZT (X8 a0 a1).toNat).ZO (Zc a0.Frame.Methods a0.Frame.Now) (JB (Zc a0.Frame.Methods a0.Frame.Now) a2) 1 a3 0 0 0)).1), (kO (nth a0.ZT (X8 a0 a1).toNat))] : List ZS) ([] : List Zi))), (KK a0.Frame.Z6 (Zy.mk a1 (nth a0.ZT (X8 a0 a1).toNat).ZO (Zc a0.Frame.Methods a0.Frame.Now) (JB (Zc a0.Frame.Methods a0.Frame.Now) a2) 1 a3 0 0 0)).2))
def kz (a0 : List Int) (a1 : List Int) : Nat -> Nat -> Sum Bool Unit
  | 0, _ => .inr ()
  | n1 + 1, J => (bif (decide ((J : Int) < (a0.length : Int))) then (bif ((nth a0 J) != (nth a1 J)) then (.inl false) else kz a0 a1 n1 (J + 1)) else (.inr ()))
def UM (a0 : List Int) (a1 : List Int) : Bool := (bif ((a0.length : Int) != (a1.length : Int)) then false else (match kz a0 a1 (a0.length + 1) 0 with | .inl r1 => r1 | .inr _ => true))
def xw (a0 : ZS) (a1 : ZS) : Bool := (((a0.Key == a1.Key) && (a0.Mark == a1.Mark)) && (UM a0.Z4 a1.Z4))
def kr (a0 : ZZ) (a1 : ZS) : Nat -> Nat -> Sum Int Unit
  | 0, _ => .inr ()
  | n1 + 1, J => (bif (decide ((J : Int) < (a0.ZH.length : Int))) then (bif (xw (nth a0.ZH J) a1) then (.inl (J : Int)) else kr a0 a1 n1 (J + 1)) else (.inr ()))
def kH (a0 : ZZ) (a1 : ZS) : Int := (match kr a0 a1 (a0.ZH.length + 1) 0 with | .inl r1 => r1 | .inr _ => (-1))
def xB (a0 : ZZ) : Nat -> Nat -> Sum Bool Unit
  | 0, _ => .inr ()
  | n2 + 1, wB => (bif (decide ((wB : Int) < (a0.ZY.length : Int))) then (bif ((!(YA (nth a0.ZY wB).Count 1 (a0.ZH.length : Int))) || ((decide ((wB : Int) > 0)) && (decide ((nth a0.ZY (wB - 1)).Count > (nth a0.ZY wB).Count)))) then (.inl false) else xB a0 n2 (wB + 1)) else (.inr ()))
def yj (a0 : ZZ) : Nat -> Nat -> Sum Bool Unit
  | 0, _ => .inr ()
  | n1 + 1, J => (bif (decide ((J : Int) < (a0.ZH.length : Int))) then (bif (decide ((kH a0 (nth a0.ZH J)) < (J : Int))) then (.inl false) else yj a0 n1 (J + 1)) else (.inr ()))
def yO (a0 : ZZ) : Bool := (match yj a0 (a0.ZH.length + 1) 0 with | .inl r1 => r1 | .inr _ => (match xB a0 (a0.ZY.length + 1) 0 with | .inl r2 => r2 | .inr _ => ((YA (a0.ZH.length : Int) 1 12) && (decide ((a0.ZY.length : Int) <= 8)))))
def SN (a0 : Zk) : Bool := (((((YA a0.Id 1 999) && (jr a0.Yw)) && (KR a0.Doc)) && (yO a0.ZL)) && (xw (nth a0.ZL.ZH 0) (yW a0.Sig)))
def WR (a0 : ZJ) : Nat -> Nat -> Sum Bool Unit
  | 0, _ => .inr ()
  | n1 + 1, J => (bif (decide ((J : Int) < (a0.ZE.length : Int))) then (bif ((!(SN (nth a0.ZE J))) || ((decide ((J : Int) > 0)) && (decide ((nth a0.ZE (J - 1)).Id >= (nth a0.ZE J).Id)))) then (.inl false) else WR a0 n1 (J + 1)) else (.inr ()))
def X6 (a0 : ZJ) : Bool := (match WR a0 (a0.ZE.length + 1) 0 with | .inl r1 => r1 | .inr _ => ((YA a0.Id 0 99) && (decide ((a0.ZE.length : Int) <= 8))))
def qw (a0 : ZJ) (a1 : Int) : Nat -> Nat -> Sum Int Unit
  | 0, _ => .inr ()
  | n1 + 1, J => (bif (decide ((J : Int) < (a0.ZE.length : Int))) then (bif ((nth a0.ZE J).Id == a1) then (.inl (J : Int)) else qw a0 a1 n1 (J + 1)) else (.inr ()))
def YU (a0 : ZJ) (a1 : Int) : Int := (match qw a0 a1 (a0.ZE.length + 1) 0 with | .inl r1 => r1 | .inr _ => (-1))
def Jk (a0 : ZJ) (a1 : Zk) : Nat -> Bool -> Nat -> List Zk -> Bool × (List Zk)
  | 0, _, _, _ => (default, default)
  | n1 + 1, J, U, wD => (bif (decide ((U : Int) < (a0.ZE.length : Int))) then (bif ((!J) && (decide (a1.Id < (nth a0.ZE U).Id))) then Jk a0 a1 n1 true (U + 1) ((wD ++ ([a1] : List Zk)) ++ ([(nth a0.ZE U)] : List Zk)) else Jk a0 a1 n1 J (U + 1) (wD ++ ([(nth a0.ZE U)] : List Zk))) else ((J, wD)))
def XY (a0 : ZJ) (a1 : Zk) : ZJ × Bool := (bif ((!(X6 a0)) || (decide ((YU a0 a1.Id) >= 0))) then (a0, false) else (match Jk a0 a1 (a0.ZE.length + 1) false 0 ([] : List Zk) with | (z1_0, z1_1) => (bif (!z1_0) then (bif (!(X6 (ZJ.mk a0.Id (z1_1 ++ ([a1] : List Zk))))) then (a0, false) else ((ZJ.mk a0.Id (z1_1 ++ ([a1] : List Zk))), true)) else (bif (!(X6 (ZJ.mk a0.Id z1_1))) then (a0, false) else ((ZJ.mk a0.Id z1_1), true)))))
def xS (a0 : ZN) (a1 : Int) (a2 : Int) (a3 : ZV) (a4 : Int) (a5 : Int) : ZN × Bool := (bif (((!(Xt a0 a1)) || (decide ((YK a0.Frame.Z6 a2) < 0))) || (decide ((nth a0.Frame.Z6 (YK a0.Frame.Z6 a2).toNat).NH > a0.Frame.Now))) then (a0, false) else (bif (!(XI a0 a2 a3 a4 a5).2) then (a0, false) else (bif (!(XY (nth a0.ZB a1.toNat) (XI a0 a2 a3 a4 a5).1).2) then (a0, false) else ((ZN.mk a0.Frame a0.ZT a0.YX (a0.ZB.set a1.toNat (XY (nth a0.ZB a1.toNat) (XI a0 a2 a3 a4 a5).1).1) a0.QA a0.XK (W (a0.Next + 1)) a0.XJ), true))))
def xV (a0 : ZN) (a1 : Int) : Nat -> Nat -> Sum (Int × Int) Unit
  | 0, _ => .inr ()
  | n1 + 1, J => (bif (decide ((J : Int) < (a0.ZB.length : Int))) then (bif (decide ((YU (nth a0.ZB J) a1) >= 0)) then (.inl ((J : Int), (YU (nth a0.ZB J) a1))) else xV a0 a1 n1 (J + 1)) else (.inr ()))
def ZA (a0 : ZN) (a1 : Int) : Int × Int := (match xV a0 a1 (a0.ZB.length + 1) 0 with | .inl r1 => r1 | .inr _ => ((-1), (-1)))
def QC (a0 : ZS) : Int := (bif (((a0.Z4.length : Int) == 0) || (!(YA (nth a0.Z4 0) 101 105))) then 0 else (bif ((a0.Z4.length : Int) != (nth ([7, 5, 5, 9, 6] : List Int) (W ((nth a0.Z4 0) - 101)).toNat)) then 0 else (nth a0.Z4 0)))
def ZD (a0 : ZS) : YY × Bool := (bif (((QC a0) != 101) || ((nth a0.Z4 6) != a0.Key)) then ((YY.mk 0 0 0 0 0 0 0), false) else ((YY.mk (nth a0.Z4 1) (nth a0.Z4 2) (nth a0.Z4 3) (nth a0.Z4 4) (nth a0.Z4 5) (nth a0.Z4 6) a0.Mark), true))
def qx (a0 : List YY) (a1 : Int) : Nat -> Nat -> Sum Int Unit
  | 0, _ => .inr ()
  | n1 + 1, J => (bif (decide ((J : Int) < (a0.length : Int))) then (bif ((nth a0 J).ZO == a1) then (.inl (J : Int)) else qx a0 a1 n1 (J + 1)) else (.inr ()))
def ZQ (a0 : List YY) (a1 : Int) : Int := (match qx a0 a1 (a0.length + 1) 0 with | .inl r1 => r1 | .inr _ => (-1))
def VD (a0 : Zh) : Bool := ((((YA a0.ZO 1 999) && (jr a0.Mz)) && (YA a0.YX (-1) (W (a0.Mz + 1)))) && (YA a0.Zq 1 99))
def Jg (a0 : Zh) : List Int := ([102, a0.ZO, a0.Mz, a0.YX, a0.Zq] : List Int)
def Zf (a0 : List Yj) (a1 : Zh) : Zh × Bool := (bif ((!(VD a1)) || (decide ((YK a0 a1.Zq) < 0))) then ((Zh.mk 0 0 0 0 0), false) else ((Zh.mk a1.ZO a1.Mz a1.YX a1.Zq (xU (nth a0 (YK a0 a1.Zq).toNat) (Jg a1))), true))
def Zm (a0 : Zh) : ZS := (ZS.mk a0.Zq (Jg a0) a0.Mark)
def KL (a0 : ZZ) (a1 : ZS) : ZZ × Bool := (bif (!(yO (ZZ.mk (a0.ZH ++ ([a1] : List ZS)) a0.ZY))) then (a0, false) else ((ZZ.mk (a0.ZH ++ ([a1] : List ZS)) a0.ZY), true))
def YD (a0 : ZJ) (a1 : Int) (a2 : ZS) : ZJ × Bool := (bif (decide ((YU a0 a1) < 0)) then (a0, false) else ((ZJ.mk a0.Id (a0.ZE.set (YU a0 a1).toNat (Zk.mk (nth a0.ZE (YU a0 a1).toNat).Id (nth a0.ZE (YU a0 a1).toNat).Yw (nth a0.ZE (YU a0 a1).toNat).Doc (nth a0.ZE (YU a0 a1).toNat).Sig (KL (nth a0.ZE (YU a0 a1).toNat).ZL a2).1))), (KL (nth a0.ZE (YU a0 a1).toNat).ZL a2).2))
def zc (a0 : ZN) (a1 : Int) : ZN × Bool := (bif ((decide ((ZA a0 a1).1 < 0)) || (decide (((nth (nth a0.ZB (ZA a0 a1).1.toNat).ZE (ZA a0 a1).2.toNat).ZL.ZH.length : Int) < 2))) then (a0, false) else (bif (((!(ZD (nth (nth (nth a0.ZB (ZA a0 a1).1.toNat).ZE (ZA a0 a1).2.toNat).ZL.ZH 1)).2) || (decide ((ZQ a0.ZT (ZD (nth (nth (nth a0.ZB (ZA a0 a1).1.toNat).ZE (ZA a0 a1).2.toNat).ZL.ZH 1)).1.ZO) < 0))) || (decide ((ZQ a0.ZT (ZD (nth (nth (nth a0.ZB (ZA a0 a1).1.toNat).ZE (ZA a0 a1).2.toNat).ZL.ZH 1)).1.ZO) >= (a0.YX.length : Int)))) then (a0, false) else (bif (decide ((nth a0.YX (ZQ a0.ZT (ZD (nth (nth (nth a0.ZB (ZA a0 a1).1.toNat).ZE (ZA a0 a1).2.toNat).ZL.ZH 1)).1.ZO).toNat) <= (W (a0.Frame.Now + 1)))) then (bif ((!(Zf a0.Frame.Z6 (Zh.mk (ZD (nth (nth (nth a0.ZB (ZA a0 a1).1.toNat).ZE (ZA a0 a1).2.toNat).ZL.ZH 1)).1.ZO a0.Frame.Now (nth a0.YX (ZQ a0.ZT (ZD (nth (nth (nth a0.ZB (ZA a0 a1).1.toNat).ZE (ZA a0 a1).2.toNat).ZL.ZH 1)).1.ZO).toNat) (nth a0.ZT (ZQ a0.ZT (ZD (nth (nth (nth a0.ZB (ZA a0 a1).1.toNat).ZE (ZA a0 a1).2.toNat).ZL.ZH 1)).1.ZO).toNat).Zq 0)).2) || (decide ((nth a0.Frame.Z6 (YK a0.Frame.Z6 (nth a0.ZT (ZQ a0.ZT (ZD (nth (nth (nth a0.ZB (ZA a0 a1).1.toNat).ZE (ZA a0 a1).2.toNat).ZL.ZH 1)).1.ZO).toNat).Zq).toNat).NH > a0.Frame.Now))) then (a0, false) else ((ZN.mk a0.Frame a0.ZT a0.YX (a0.ZB.set (ZA a0 a1).1.toNat (YD (nth a0.ZB (ZA a0 a1).1.toNat) a1 (Zm (Zf a0.Frame.Z6 (Zh.mk (ZD (nth (nth (nth a0.ZB (ZA a0 a1).1.toNat).ZE (ZA a0 a1).2.toNat).ZL.ZH 1)).1.ZO a0.Frame.Now (nth a0.YX (ZQ a0.ZT (ZD (nth (nth (nth a0.ZB (ZA a0 a1).1.toNat).ZE (ZA a0 a1).2.toNat).ZL.ZH 1)).1.ZO).toNat) (nth a0.ZT (ZQ a0.ZT (ZD (nth (nth (nth a0.ZB (ZA a0 a1).1.toNat).ZE (ZA a0 a1).2.toNat).ZL.ZH 1)).1.ZO).toNat).Zq 0)).1)).1) a0.QA a0.XK a0.Next a0.XJ), (YD (nth a0.ZB (ZA a0 a1).1.toNat) a1 (Zm (Zf a0.Frame.Z6 (Zh.mk (ZD (nth (nth (nth a0.ZB (ZA a0 a1).1.toNat).ZE (ZA a0 a1).2.toNat).ZL.ZH 1)).1.ZO a0.Frame.Now (nth a0.YX (ZQ a0.ZT (ZD (nth (nth (nth a0.ZB (ZA a0 a1).1.toNat).ZE (ZA a0 a1).2.toNat).ZL.ZH 1)).1.ZO).toNat) (nth a0.ZT (ZQ a0.ZT (ZD (nth (nth (nth a0.ZB (ZA a0 a1).1.toNat).ZE (ZA a0 a1).2.toNat).ZL.ZH 1)).1.ZO).toNat).Zq 0)).1)).2)) else (bif ((!(Zf a0.Frame.Z6 (Zh.mk (ZD (nth (nth (nth a0.ZB (ZA a0 a1).1.toNat).ZE (ZA a0 a1).2.toNat).ZL.ZH 1)).1.ZO a0.Frame.Now (-1) (nth a0.ZT (ZQ a0.ZT (ZD (nth (nth (nth a0.ZB (ZA a0 a1).1.toNat).ZE (ZA a0 a1).2.toNat).ZL.ZH 1)).1.ZO).toNat).Zq 0)).2) || (decide ((nth a0.Frame.Z6 (YK a0.Frame.Z6 (nth a0.ZT (ZQ a0.ZT (ZD (nth (nth (nth a0.ZB (ZA a0 a1).1.toNat).ZE (ZA a0 a1).2.toNat).ZL.ZH 1)).1.ZO).toNat).Zq).toNat).NH > a0.Frame.Now))) then (a0, false) else ((ZN.mk a0.Frame a0.ZT a0.YX (a0.ZB.set (ZA a0 a1).1.toNat (YD (nth a0.ZB (ZA a0 a1).1.toNat) a1 (Zm (Zf a0.Frame.Z6 (Zh.mk (ZD (nth (nth (nth a0.ZB (ZA a0 a1).1.toNat).ZE (ZA a0 a1).2.toNat).ZL.ZH 1)).1.ZO a0.Frame.Now (-1) (nth a0.ZT (ZQ a0.ZT (ZD (nth (nth (nth a0.ZB (ZA a0 a1).1.toNat).ZE (ZA a0 a1).2.toNat).ZL.ZH 1)).1.ZO).toNat).Zq 0)).1)).1) a0.QA a0.XK a0.Next a0.XJ), (YD (nth a0.ZB (ZA a0 a1).1.toNat) a1 (Zm (Zf a0.Frame.Z6 (Zh.mk (ZD (nth (nth (nth a0.ZB (ZA a0 a1).1.toNat).ZE (ZA a0 a1).2.toNat).ZL.ZH 1)).1.ZO a0.Frame.Now (-1) (nth a0.ZT (ZQ a0.ZT (ZD (nth (nth (nth a0.ZB (ZA a0 a1).1.toNat).ZE (ZA a0 a1).2.toNat).ZL.ZH 1)).1.ZO).toNat).Zq 0)).1)).2)))))
def zm (a0 : ZN) (a1 : Int) : ZN × Bool := (bif ((!(YA a1 0 (W ((a0.YX.length : Int) - 1)))) || ((nth a0.YX a1.toNat) != (-1))) then (a0, false) else ((ZN.mk a0.Frame a0.ZT (a0.YX.set a1.toNat (W (a0.Frame.Now + 1))) a0.ZB a0.QA a0.XK a0.Next a0.XJ), true))
def K1 (a0 : List Zg) (a1 : Int) : Nat -> Nat -> Sum Int Unit
  | 0, _ => .inr ()
  | n1 + 1, J => (bif (decide ((J : Int) < (a0.length : Int))) then (bif ((nth a0 J).Id == a1) then (.inl (J : Int)) else K1 a0 a1 n1 (J + 1)) else (.inr ()))
def Zj (a0 : List Zg) (a1 : Int) : Int := (match K1 a0 a1 (a0.length + 1) 0 with | .inl r1 => r1 | .inr _ => (-1))
def xb (a0 : ZN) (a1 : List Int) : Nat -> Nat -> Sum Bool Unit
  | 0, _ => .inr ()
  | n1 + 1, J => (bif (decide ((J : Int) < (a1.length : Int))) then (bif (((decide ((Zj a0.Frame.ZM (nth a1 J)) < 0)) || (decide ((Zj a0.Frame.ZM (nth a1 J)) >= (a0.QA.length : Int)))) || ((decide ((J : Int) > 0)) && (decide ((nth a1 (J - 1)) >= (nth a1 J))))) then (.inl false) else (bif ((decide ((YK a0.Frame.Z6 (nth a0.Frame.ZM (Zj a0.Frame.ZM (nth a1 J)).toNat).Key) < 0)) || (decide ((nth a0.Frame.Z6 (YK a0.Frame.Z6 (nth a0.Frame.ZM (Zj a0.Frame.ZM (nth a1 J)).toNat).Key).toNat).NH > a0.Frame.Now))) then (.inl false) else xb a0 a1 n1 (J + 1))) else (.inr ()))
def UP (a0 : ZN) (a1 : List Int) : Bool := (match xb a0 a1 (a1.length + 1) 0 with | .inl r1 => r1 | .inr _ => (decide ((a1.length : Int) > 0)))
def K6 (a0 : ZZ) (a1 : ZV) : Nat -> List Int -> Nat -> (List Int)
  | 0, _, _ => default
  | n1 + 1, J, U => (bif (decide ((U : Int) < (a0.ZY.length : Int))) then K6 a0 a1 n1 (J ++ ([(JB (nth a0.ZY U).Method a1)] : List Int)) (U + 1) else (J))
def zY (a0 : ZZ) (a1 : ZV) : List Int := (match K6 a0 a1 (a0.ZY.length + 1) ([] : List Int) 0 with | z1_0 => z1_0)
def KI (a0 : Zr) : List Int := ([103, a0.Authority, a0.Seq, a0.Time, a0.XW] : List Int)
def xD (a1 : Zi) : Nat -> List Int -> Nat -> (List Int)
  | 0, _, _ => default
  | n2 + 1, wB, wC => (bif (decide ((wC : Int) < (a1.YR.length : Int))) then xD a1 n2 ((wB ++ (KI (nth a1.YR wC))) ++ ([(nth a1.YR wC).Mark] : List Int)) (wC + 1) else (wB))
def K3 (a1 : Zi) : Nat -> List Int -> Nat -> (List Int)
  | 0, _, _ => default
  | n1 + 1, J, U => (bif (decide ((U : Int) < (a1.Path.length : Int))) then (bif (nth a1.Path U).Left then K3 a1 n1 ((J ++ ([(nth a1.Path U).XW] : List Int)) ++ ([1] : List Int)) (U + 1) else K3 a1 n1 ((J ++ ([(nth a1.Path U).XW] : List Int)) ++ ([0] : List Int)) (U + 1)) else (J))
def Kg (a0 : Int) (a1 : Zi) : Int := (match K3 a1 (a1.Path.length + 1) ([4, a1.Count, a1.Method, a1.Hp] : List Int) 0 with | z1_0 => (match xD a1 (a1.YR.length + 1) (z1_0 ++ ([(a1.YR.length : Int)] : List Int)) 0 with | vZ => (Ju a0 vZ)))
def xZ (a0 : Int) (a1 : List ZS) : Nat -> List Int -> Nat -> (List Int)
  | 0, _, _ => default
  | n1 + 1, J, U => (bif (decide ((U : Int) < (a1.length : Int))) then xZ a0 a1 n1 (J ++ ([(Ju a0 (([(nth a1 U).Key, (nth a1 U).Mark] : List Int) ++ (nth a1 U).Z4))] : List Int)) (U + 1) else (J))
def KD (a0 : Int) (a1 : List ZS) : Int := (match xZ a0 a1 (a1.length + 1) ([2] : List Int) 0 with | z1_0 => (Ju a0 z1_0))
def Sg (a0 : Int) (a1 : Int) (a2 : List ZS) (a3 : Int) : Int := (Ju a0 ([3, a1, (KD a0 a2), a3] : List Int))
def NI (a0 : ZZ) (a1 : List Int) (a2 : Int) : Int := (bif (((!(YA a2 0 (W ((a0.ZY.length : Int) - 1)))) || ((a1.length : Int) != (a0.ZY.length : Int))) || (!(YA (nth a0.ZY a2.toNat).Count 0 (a0.ZH.length : Int)))) then (-1) else (bif (decide (a2 > 0)) then (Sg (nth a0.ZY a2.toNat).Method (nth a1 a2.toNat) (a0.ZH.take (nth a0.ZY a2.toNat).Count.toNat) (Kg (nth a0.ZY a2.toNat).Method (nth a0.ZY (W (a2 - 1)).toNat))) else (Sg (nth a0.ZY a2.toNat).Method (nth a1 a2.toNat) (a0.ZH.take (nth a0.ZY a2.toNat).Count.toNat) 0)))
def Kq (a0 : ZJ) (a1 : Int) : Nat -> List Int -> Nat -> (List Int)
  | 0, _, _ => default
  | n1 + 1, J, U => (bif (decide ((U : Int) < (a0.ZE.length : Int))) then Kq a0 a1 n1 (J ++ ([(NI (ZZ.mk (nth a0.ZE U).ZL.ZH ((nth a0.ZE U).ZL.ZY ++ ([(Zi.mk ((nth a0.ZE U).ZL.ZH.length : Int) a1 0 ([] : List QB) ([] : List Zr))] : List Zi))) (zY (ZZ.mk (nth a0.ZE U).ZL.ZH ((nth a0.ZE U).ZL.ZY ++ ([(Zi.mk ((nth a0.ZE U).ZL.ZH.length : Int) a1 0 ([] : List QB) ([] : List Zr))] : List Zi))) (nth a0.ZE U).Doc) (W ((((nth a0.ZE U).ZL.ZY ++ ([(Zi.mk ((nth a0.ZE U).ZL.ZH.length : Int) a1 0 ([] : List QB) ([] : List Zr))] : List Zi)).length : Int) - 1)))] : List Int)) (U + 1) else (J))
def YM (a0 : ZJ) (a1 : Int) : List Int := (match Kq a0 a1 (a0.ZE.length + 1) ([] : List Int) 0 with | z1_0 => z1_0)
def W0 (a0 : Int) (a1 : Int) (a2 : Int) : Int := (Ju a0 ([1, a1, a2] : List Int))
def xn (a0 : Int) (a1 : List Int) : Nat -> List Int -> Nat -> (List Int)
  | 0, _, _ => default
  | n1 + 1, J, U => (bif (decide ((U : Int) < (a1.length : Int))) then (bif (decide ((W ((U : Int) + 1)) < (a1.length : Int))) then xn a0 a1 n1 (J ++ ([(W0 a0 (nth a1 U) (nth a1 (W ((U : Int) + 1)).toNat))] : List Int)) (U + 2) else xn a0 a1 n1 (J ++ ([(nth a1 U)] : List Int)) (U + 2)) else (J))
def kZ (a0 : Int) (a1 : List Int) : List Int := (match xn a0 a1 (a1.length + 1) ([] : List Int) 0 with | z1_0 => z1_0)
def VQ (a0 : Int) : Nat -> List Int -> (List Int)
  | 0, _ => default
  | n1 + 1, J => (bif (decide ((J.length : Int) > 1)) then VQ a0 n1 (kZ a0 J) else (J))
def Jp (a0 : Int) (a1 : List Int) : Int := (bif (!(YA (a1.length : Int) 1 16)) then (-1) else (match VQ a0 (a1.length + 1) a1 with | z1_0 => (nth z1_0 0)))
def zn (a0 : ZJ) (a1 : Int) : Int := (Jp a1 (YM a0 a1))
def RQ (a0 : List Int) (a1 : Int) : Nat -> Nat -> Sum Bool Unit
  | 0, _ => .inr ()
  | n1 + 1, J => (bif (decide ((J : Int) < (a0.length : Int))) then (bif ((nth a0 J) == a1) then (.inl true) else RQ a0 a1 n1 (J + 1)) else (.inr ()))
def SC (a0 : List Int) (a1 : Int) : Bool := (match RQ a0 a1 (a0.length + 1) 0 with | .inl r1 => r1 | .inr _ => false)
def Jl (a0 : List Yj) (a1 : List Zg) (a2 : Zr) : Zr × Bool := (bif (((decide ((Zj a1 a2.Authority) < 0)) || (decide (a2.Seq < 0))) || (!(jr a2.Time))) then ((Zr.mk 0 0 0 0 0), false) else (bif (decide ((YK a0 (nth a1 (Zj a1 a2.Authority).toNat).Key) < 0)) then ((Zr.mk 0 0 0 0 0), false) else ((Zr.mk a2.Authority a2.Seq a2.Time a2.XW (xU (nth a0 (YK a0 (nth a1 (Zj a1 a2.Authority).toNat).Key).toNat) (KI a2))), true)))
def KU (a0 : Int) : Nat -> Int -> List QB -> List Int -> (List QB)
  | 0, _, _, _ => default
  | n1 + 1, J, U, wD => (bif (decide ((wD.length : Int) > 1)) then (bif ((Int.tmod J 2) == 1) then KU a0 n1 (W (Int.tdiv J 2)) (U ++ ([(QB.mk (nth wD (W (J - 1)).toNat) true)] : List QB)) (kZ a0 wD) else (bif (decide ((W (J + 1)) < (wD.length : Int))) then KU a0 n1 (W (Int.tdiv J 2)) (U ++ ([(QB.mk (nth wD (W (J + 1)).toNat) false)] : List QB)) (kZ a0 wD) else KU a0 n1 (W (Int.tdiv J 2)) U (kZ a0 wD))) else (U))
def KP (a0 : Int) (a1 : List Int) (a2 : Int) : List QB := (bif ((decide ((a1.length : Int) > 16)) || (!(YA a2 0 (W ((a1.length : Int) - 1))))) then ([] : List QB) else (match KU a0 (a1.length + 1) a2 ([] : List QB) a1 with | z1_0 => z1_0))
def Xi (a0 : ZZ) (a1 : Zi) : ZZ × Bool := (bif (!(yO (ZZ.mk a0.ZH (a0.ZY ++ ([a1] : List Zi))))) then (a0, false) else ((ZZ.mk a0.ZH (a0.ZY ++ ([a1] : List Zi))), true))
def Qp (a0 : ZJ) (a1 : Int) (a2 : List Zr) : Nat -> Bool -> Nat -> List Zk -> Bool × (List Zk)
  | 0, _, _, _ => (default, default)
  | n1 + 1, J, U, wD => (bif ((decide ((U : Int) < (a0.ZE.length : Int))) && J) then Qp a0 a1 a2 n1 (Xi (nth a0.ZE U).ZL (Zi.mk ((nth a0.ZE U).ZL.ZH.length : Int) a1 (Jp a1 (YM a0 a1)) (KP a1 (YM a0 a1) (U : Int)) a2)).2 (U + 1) (wD.set U (Zk.mk (nth wD U).Id (nth wD U).Yw (nth wD U).Doc (nth wD U).Sig (Xi (nth a0.ZE U).ZL (Zi.mk ((nth a0.ZE U).ZL.ZH.length : Int) a1 (Jp a1 (YM a0 a1)) (KP a1 (YM a0 a1) (U : Int)) a2)).1)) else ((J, wD)))
def Xf (a0 : ZJ) (a1 : Int) (a2 : List Zr) : ZJ × Bool := (match Qp a0 a1 a2 (a0.ZE.length + 1) ((X6 a0) && (decide ((a0.ZE.length : Int) > 0))) 0 a0.ZE with | (z1_0, z1_1) => (bif ((!z1_0) || (!(X6 (ZJ.mk a0.Id z1_1)))) then (a0, false) else ((ZJ.mk a0.Id z1_1), true)))
def z8 (a0 : ZN) (a2 : List Int) : Nat -> Nat -> List Int -> (List Int)
  | 0, _, _ => default
  | n2 + 1, wB, wC => (bif (decide ((wB : Int) < (a2.length : Int))) then z8 a0 a2 n2 (wB + 1) (wC.set (Zj a0.Frame.ZM (nth a2 wB)).toNat (W ((nth a0.QA (Zj a0.Frame.ZM (nth a2 wB)).toNat) + 1))) else (wC))
def Qd (a0 : ZN) (a1 : Int) (a2 : List Int) (a3 : Int) : Nat -> List Zr -> Nat -> Sum (ZN × Bool) (List Zr)
  | 0, _, _ => .inr default
  | n1 + 1, J, U => (bif (decide ((U : Int) < (a2.length : Int))) then (bif (SC a0.XK (nth a2 U)) then (bif (!(Jl a0.Frame.Z6 a0.Frame.ZM (Zr.mk (nth a2 U) (nth a0.QA (Zj a0.Frame.ZM (nth a2 U)).toNat) (PM 10000 (Vz 0 (W (a0.Frame.Now + a3)))) (zn (nth a0.ZB a1.toNat) (Zc a0.Frame.Methods a0.Frame.Now)) 0)).2) then (.inl (a0, false)) else Qd a0 a1 a2 a3 n1 (J ++ ([(Jl a0.Frame.Z6 a0.Frame.ZM (Zr.mk (nth a2 U) (nth a0.QA (Zj a0.Frame.ZM (nth a2 U)).toNat) (PM 10000 (Vz 0 (W (a0.Frame.Now + a3)))) (zn (nth a0.ZB a1.toNat) (Zc a0.Frame.Methods a0.Frame.Now)) 0)).1] : List Zr)) (U + 1)) else (bif (!(Jl a0.Frame.Z6 a0.Frame.ZM (Zr.mk (nth a2 U) (nth a0.QA (Zj a0.Frame.ZM (nth a2 U)).toNat) a0.Frame.Now (zn (nth a0.ZB a1.toNat) (Zc a0.Frame.Methods a0.Frame.Now)) 0)).2) then (.inl (a0, false)) else Qd a0 a1 a2 a3 n1 (J ++ ([(Jl a0.Frame.Z6 a0.Frame.ZM (Zr.mk (nth a2 U) (nth a0.QA (Zj a0.Frame.ZM (nth a2 U)).toNat) a0.Frame.Now (zn (nth a0.ZB a1.toNat) (Zc a0.Frame.Methods a0.Frame.Now)) 0)).1] : List Zr)) (U + 1))) else (.inr J))
def zN (a0 : ZN) (a1 : Int) (a2 : List Int) (a3 : Int) : ZN × Bool := (bif ((((!(Xt a0 a1)) || (decide ((Zc a0.Frame.Methods a0.Frame.Now) < 0))) || (!(UP a0 a2))) || (!(YA a3 (-10000) 10000))) then (a0, false) else (match Qd a0 a1 a2 a3 (a2.length + 1) ([] : List Zr) 0 with | .inl r1 => r1 | .inr z1_0 => (bif (!(Xf (nth a0.ZB a1.toNat) (Zc a0.Frame.Methods a0.Frame.Now) z1_0).2) then (a0, false) else (match z8 a0 a2 (a2.length + 1) 0 a0.QA with | vZ => ((ZN.mk a0.Frame a0.ZT a0.YX (a0.ZB.set a1.toNat (Xf (nth a0.ZB a1.toNat) (Zc a0.Frame.Methods a0.Frame.Now) z1_0).1) vZ a0.XK a0.Next a0.XJ), true)))))
def j6 (a0 : Int) (a1 : Zk) : Nat -> List Int -> Nat -> (List Int)
  | 0, _, _ => default
  | n1 + 1, J, U => (bif (decide ((U : Int) < (a1.ZL.ZY.length : Int))) then j6 a0 a1 n1 (J ++ ([(Kg a0 (nth a1.ZL.ZY U))] : List Int)) (U + 1) else (J))
def VL (a0 : Int) (a1 : Zk) : Int := (match j6 a0 a1 (a1.ZL.ZY.length + 1) ([5, a1.Id, a1.Yw, (JB a0 a1.Doc), (KD a0 a1.ZL.ZH)] : List Int) 0 with | z1_0 => (Ju a0 z1_0))
def Ur (a0 : Int) (a1 : List Zk) : Nat -> List Int -> Nat -> (List Int)
  | 0, _, _ => default
  | n1 + 1, J, U => (bif (decide ((U : Int) < (a1.length : Int))) then Ur a0 a1 n1 (J ++ ([(VL a0 (nth a1 U))] : List Int)) (U + 1) else (J))
def U4 (a0 : Int) (a1 : List Zk) : Int := (match Ur a0 a1 (a1.length + 1) ([] : List Int) 0 with | z1_0 => (Jp a0 z1_0))
def Qj (a0 : ZJ) (a2 : List Int) : Nat -> Nat -> List Zk -> Sum (XG × Bool) (List Zk)
  | 0, _, _ => .inr default
  | n1 + 1, J, U => (bif (decide ((J : Int) < (a2.length : Int))) then (bif (decide ((YU a0 (nth a2 J)) < 0)) then (.inl ((XG.mk 0 0 ([] : List Zk) 0), false)) else Qj a0 a2 n1 (J + 1) (U ++ ([(nth a0.ZE (YU a0 (nth a2 J)).toNat)] : List Zk))) else (.inr U))
def Yq (a0 : ZJ) (a1 : Int) (a2 : List Int) (a3 : Int) : XG × Bool := (match Qj a0 a2 (a2.length + 1) 0 ([] : List Zk) with | .inl r1 => r1 | .inr z1_0 => (bif ((a2.length : Int) == 0) then ((XG.mk 0 0 ([] : List Zk) 0), false) else ((XG.mk a0.Id a1 z1_0 (U4 a3 z1_0)), true)))
def Jb (a0 : XG) : Nat -> Nat -> Sum Bool Unit
  | 0, _ => .inr ()
  | n1 + 1, J => (bif (decide ((J : Int) < (a0.ZE.length : Int))) then (bif (!(SN (nth a0.ZE J))) then (.inl false) else Jb a0 n1 (J + 1)) else (.inr ()))
def JG (a0 : XG) (a1 : Int) : Bool := (match Jb a0 (a0.ZE.length + 1) 0 with | .inl r1 => r1 | .inr _ => ((YA (a0.ZE.length : Int) 1 8) && (a0.XW == (U4 a1 a0.ZE))))
def QV (a1 : XG) : Nat -> Bool -> Nat -> Int -> List Zk -> Bool × Int × (List Zk)
  | 0, _, _, _, _ => (default, default, default)
  | n1 + 1, J, U, wD, wL => (bif ((decide ((U : Int) < (a1.ZE.length : Int))) && J) then QV a1 n1 (XY (ZJ.mk wD wL) (nth a1.ZE U)).2 (U + 1) (XY (ZJ.mk wD wL) (nth a1.ZE U)).1.Id (XY (ZJ.mk wD wL) (nth a1.ZE U)).1.ZE else ((J, wD, wL)))
def Y9 (a0 : ZJ) (a1 : XG) (a2 : Int) : ZJ × Bool := (match QV a1 (a1.ZE.length + 1) ((JG a1 a2) && (a1.To == a0.Id)) 0 a0.Id a0.ZE with | (z1_0, z1_1, z1_2) => (bif (!z1_0) then (a0, false) else ((ZJ.mk z1_1 z1_2), true)))
def KN (a0 : ZJ) (a1 : Int) : Nat -> Nat -> List Zk -> (List Zk)
  | 0, _, _ => default
  | n1 + 1, J, U => (bif (decide ((J : Int) < (a0.ZE.length : Int))) then (bif ((J : Int) != (YU a0 a1)) then KN a0 a1 n1 (J + 1) (U ++ ([(nth a0.ZE J)] : List Zk)) else KN a0 a1 n1 (J + 1) U) else (U))
def zC (a0 : ZJ) (a1 : Int) : ZJ × Bool := (bif (decide ((YU a0 a1) < 0)) then (a0, false) else (match KN a0 a1 (a0.ZE.length + 1) 0 ([] : List Zk) with | z1_0 => ((ZJ.mk a0.Id z1_0), true)))
def Jw (a0 : ZJ) (a1 : ZJ) (a2 : List Int) (a3 : Int) : Nat -> Bool -> Nat -> Int -> List Zk -> Bool × Int × (List Zk)
  | 0, _, _, _, _ => (default, default, default)
  | n1 + 1, J, U, wD, wL => (bif (((decide ((U : Int) < (a2.length : Int))) && (Yq a0 a1.Id a2 a3).2) && J) then Jw a0 a1 a2 a3 n1 (zC (ZJ.mk wD wL) (nth a2 U)).2 (U + 1) (zC (ZJ.mk wD wL) (nth a2 U)).1.Id (zC (ZJ.mk wD wL) (nth a2 U)).1.ZE else ((J, wD, wL)))
def Xb (a0 : ZJ) (a1 : ZJ) (a2 : List Int) (a3 : Int) : ZJ × ZJ × Bool := (match Jw a0 a1 a2 a3 (a2.length + 1) (Y9 a1 (Yq a0 a1.Id a2 a3).1 a3).2 0 a0.Id a0.ZE with | (z1_0, z1_1, z1_2) => (bif ((!(Yq a0 a1.Id a2 a3).2) || (!z1_0)) then (a0, a1, false) else ((ZJ.mk z1_1 z1_2), (Y9 a1 (Yq a0 a1.Id a2 a3).1 a3).1, true)))
def xe (a0 : ZN) (a1 : Int) (a2 : Int) (a3 : Int) : ZN × Bool := (bif ((((!(Xt a0 a1)) || (!(Xt a0 a2))) || (a1 == a2)) || (decide ((Zc a0.Frame.Methods a0.Frame.Now) < 0))) then (a0, false) else ((ZN.mk a0.Frame a0.ZT a0.YX ((a0.ZB.set a1.toNat (Xb (nth a0.ZB a1.toNat) (nth a0.ZB a2.toNat) ([a3] : List Int) (Zc a0.Frame.Methods a0.Frame.Now)).1).set a2.toNat (Xb (nth a0.ZB a1.toNat) (nth a0.ZB a2.toNat) ([a3] : List Int) (Zc a0.Frame.Methods a0.Frame.Now)).2.1) a0.QA a0.XK a0.Next a0.XJ), (Xb (nth a0.ZB a1.toNat) (nth a0.ZB a2.toNat) ([a3] : List Int) (Zc a0.Frame.Methods a0.Frame.Now)).2.2))
def Qg (a0 : ZJ) (a1 : Int) : Nat -> Int -> Nat -> List Zk -> Int × (List Zk)
  | 0, _, _, _ => (default, default)
  | n1 + 1, J, U, wD => (bif (decide ((U : Int) < (a0.ZE.length : Int))) then (bif (decide ((nth a0.ZE U).Yw < a1)) then Qg a0 a1 n1 (W (J + 1)) (U + 1) wD else Qg a0 a1 n1 J (U + 1) (wD ++ ([(nth a0.ZE U)] : List Zk))) else ((J, wD)))
def KV (a0 : ZJ) (a1 : Int) : ZJ × Int := (match Qg a0 a1 (a0.ZE.length + 1) 0 0 ([] : List Zk) with | (z1_0, z1_1) => ((ZJ.mk a0.Id z1_1), z1_0))
def zu (a0 : ZN) (a1 : Int) : ZN × Bool := (bif (!(Xt a0 a1)) then (a0, false) else ((ZN.mk a0.Frame a0.ZT a0.YX (a0.ZB.set a1.toNat (KV (nth a0.ZB a1.toNat) a0.Frame.Now).1) a0.QA a0.XK a0.Next a0.XJ), true))
def xG (a0 : List YJ) (a1 : Int) : Nat -> Nat -> Sum Int Unit
  | 0, _ => .inr ()
  | n1 + 1, J => (bif (decide ((J : Int) < (a0.length : Int))) then (bif ((nth a0 J).Id == a1) then (.inl (J : Int)) else xG a0 a1 n1 (J + 1)) else (.inr ()))
def zd (a0 : List YJ) (a1 : Int) : Int := (match xG a0 a1 (a0.length + 1) 0 with | .inl r1 => r1 | .inr _ => (-1))
def R7 (a0 : List YJ) (a1 : Int) : Int := (bif (decide ((zd a0 a1) < 0)) then 0 else (nth a0 (zd a0 a1).toNat).T3)
def jv (a0 : Ze) (a1 : Int) : Bool := ((decide ((YK a0.Z6 a1) >= 0)) && (decide (a0.Now >= (R7 a0.Methods (nth a0.Z6 (YK a0.Z6 a1).toNat).Method))))
def yX (a0 : ZN) (a1 : Int) (a2 : Int) (a3 : ZV) : ZN × Bool := (bif ((!(Xt a0 a1)) || (!(jv a0.Frame a2))) then (a0, false) else (bif (!(XI a0 a2 a3 0 10000).2) then (a0, false) else (bif (!(XY (nth a0.ZB a1.toNat) (XI a0 a2 a3 0 10000).1).2) then (a0, false) else ((ZN.mk a0.Frame a0.ZT a0.YX (a0.ZB.set a1.toNat (XY (nth a0.ZB a1.toNat) (XI a0 a2 a3 0 10000).1).1) a0.QA a0.XK (W (a0.Next + 1)) (a0.XJ ++ ([a0.Next] : List Int))), true))))
def Qf (a0 : ZN) : Nat -> List Int -> Nat -> (List Int)
  | 0, _, _ => default
  | n1 + 1, J, U => (bif (decide ((U : Int) < (a0.Frame.ZM.length : Int))) then (bif ((SC a0.XK (nth a0.Frame.ZM U).Id) || (jv a0.Frame (nth a0.Frame.ZM U).Key)) then Qf a0 n1 (J ++ ([(nth a0.Frame.ZM U).Id] : List Int)) (U + 1) else Qf a0 n1 J (U + 1)) else (J))
def YB (a0 : ZN) : List Int := (match Qf a0 (a0.Frame.ZM.length + 1) ([] : List Int) 0 with | z1_0 => z1_0)
def X4 (a0 : ZN) (a1 : Int) (a2 : Int) : Nat -> Nat -> List Zr -> Sum (ZN × Bool) (List Zr)
  | 0, _, _ => .inr default
  | n1 + 1, J, U => (bif (decide ((J : Int) < ((YB a0).length : Int))) then (bif (!(Jl a0.Frame.Z6 a0.Frame.ZM (Zr.mk (nth (YB a0) J) 0 a2 (nth (YM (nth a0.ZB (ZA a0 a1).1.toNat) (Zc a0.Frame.Methods a0.Frame.Now)) (ZA a0 a1).2.toNat) 0)).2) then (.inl (a0, false)) else X4 a0 a1 a2 n1 (J + 1) (U ++ ([(Jl a0.Frame.Z6 a0.Frame.ZM (Zr.mk (nth (YB a0) J) 0 a2 (nth (YM (nth a0.ZB (ZA a0 a1).1.toNat) (Zc a0.Frame.Methods a0.Frame.Now)) (ZA a0 a1).2.toNat) 0)).1] : List Zr))) else (.inr U))
def JO (a0 : ZN) (a1 : Int) (a2 : Int) : ZN × Bool := (bif ((((decide ((ZA a0 a1).1 < 0)) || (decide ((Zc a0.Frame.Methods a0.Frame.Now) < 0))) || (!(SC a0.XJ a1))) || (((YB a0).length : Int) == 0)) then (a0, false) else (match X4 a0 a1 a2 ((YB a0).length + 1) 0 ([] : List Zr) with | .inl r1 => r1 | .inr z1_0 => ((ZN.mk a0.Frame a0.ZT a0.YX (a0.ZB.set (ZA a0 a1).1.toNat (ZJ.mk (nth a0.ZB (ZA a0 a1).1.toNat).Id ((nth a0.ZB (ZA a0 a1).1.toNat).ZE.set (ZA a0 a1).2.toNat (Zk.mk (nth (nth a0.ZB (ZA a0 a1).1.toNat).ZE (ZA a0 a1).2.toNat).Id (nth (nth a0.ZB (ZA a0 a1).1.toNat).ZE (ZA a0 a1).2.toNat).Yw (nth (nth a0.ZB (ZA a0 a1).1.toNat).ZE (ZA a0 a1).2.toNat).Doc (nth (nth a0.ZB (ZA a0 a1).1.toNat).ZE (ZA a0 a1).2.toNat).Sig (Xi (nth (nth a0.ZB (ZA a0 a1).1.toNat).ZE (ZA a0 a1).2.toNat).ZL (Zi.mk ((nth (nth a0.ZB (ZA a0 a1).1.toNat).ZE (ZA a0 a1).2.toNat).ZL.ZH.length : Int) (Zc a0.Frame.Methods a0.Frame.Now) (nth (YM (nth a0.ZB (ZA a0 a1).1.toNat) (Zc a0.Frame.Methods a0.Frame.Now)) (ZA a0 a1).2.toNat) ([] : List QB) z1_0)).1)))) a0.QA a0.XK a0.Next a0.XJ), (Xi (nth (nth a0.ZB (ZA a0 a1).1.toNat).ZE (ZA a0 a1).2.toNat).ZL (Zi.mk ((nth (nth a0.ZB (ZA a0 a1).1.toNat).ZE (ZA a0 a1).2.toNat).ZL.ZH.length : Int) (Zc a0.Frame.Methods a0.Frame.Now) (nth (YM (nth a0.ZB (ZA a0 a1).1.toNat) (Zc a0.Frame.Methods a0.Frame.Now)) (ZA a0 a1).2.toNat) ([] : List QB) z1_0)).2)))
def xd (a0 : ZN) (a1 : Int) (a2 : Int) : ZN × Bool := (bif ((decide ((ZA a0 a1).1 < 0)) || (decide (((nth (nth a0.ZB (ZA a0 a1).1.toNat).ZE (ZA a0 a1).2.toNat).ZL.ZH.length : Int) < 2))) then (a0, false) else (bif (((!(ZD (nth (nth (nth a0.ZB (ZA a0 a1).1.toNat).ZE (ZA a0 a1).2.toNat).ZL.ZH 1)).2) || (decide ((ZQ a0.ZT (ZD (nth (nth (nth a0.ZB (ZA a0 a1).1.toNat).ZE (ZA a0 a1).2.toNat).ZL.ZH 1)).1.ZO) < 0))) || (!(jv a0.Frame (nth a0.ZT (ZQ a0.ZT (ZD (nth (nth (nth a0.ZB (ZA a0 a1).1.toNat).ZE (ZA a0 a1).2.toNat).ZL.ZH 1)).1.ZO).toNat).Zq))) then (a0, false) else (bif (!(Zf a0.Frame.Z6 (Zh.mk (ZD (nth (nth (nth a0.ZB (ZA a0 a1).1.toNat).ZE (ZA a0 a1).2.toNat).ZL.ZH 1)).1.ZO a2 (-1) (nth a0.ZT (ZQ a0.ZT (ZD (nth (nth (nth a0.ZB (ZA a0 a1).1.toNat).ZE (ZA a0 a1).2.toNat).ZL.ZH 1)).1.ZO).toNat).Zq 0)).2) then (a0, false) else ((ZN.mk a0.Frame a0.ZT a0.YX (a0.ZB.set (ZA a0 a1).1.toNat (YD (nth a0.ZB (ZA a0 a1).1.toNat) a1 (Zm (Zf a0.Frame.Z6 (Zh.mk (ZD (nth (nth (nth a0.ZB (ZA a0 a1).1.toNat).ZE (ZA a0 a1).2.toNat).ZL.ZH 1)).1.ZO a2 (-1) (nth a0.ZT (ZQ a0.ZT (ZD (nth (nth (nth a0.ZB (ZA a0 a1).1.toNat).ZE (ZA a0 a1).2.toNat).ZL.ZH 1)).1.ZO).toNat).Zq 0)).1)).1) a0.QA a0.XK a0.Next a0.XJ), (YD (nth a0.ZB (ZA a0 a1).1.toNat) a1 (Zm (Zf a0.Frame.Z6 (Zh.mk (ZD (nth (nth (nth a0.ZB (ZA a0 a1).1.toNat).ZE (ZA a0 a1).2.toNat).ZL.ZH 1)).1.ZO a2 (-1) (nth a0.ZT (ZQ a0.ZT (ZD (nth (nth (nth a0.ZB (ZA a0 a1).1.toNat).ZE (ZA a0 a1).2.toNat).ZL.ZH 1)).1.ZO).toNat).Zq 0)).1)).2))))
def XB (a0 : ZN) (a1 : Zn) : ZN × Bool := (bif (a1.Kind == 1) then ((xW a0 a1.A).1, (xW a0 a1.A).2) else (bif (a1.Kind == 2) then ((xS a0 a1.A a1.B a1.Doc a1.C a1.D).1, (xS a0 a1.A a1.B a1.Doc a1.C a1.D).2) else (bif (a1.Kind == 3) then ((zc a0 a1.A).1, (zc a0 a1.A).2) else (bif (a1.Kind == 4) then ((zm a0 a1.A).1, (zm a0 a1.A).2) else (bif (a1.Kind == 5) then ((zN a0 a1.A a1.Ids a1.B).1, (zN a0 a1.A a1.Ids a1.B).2) else (bif (a1.Kind == 6) then ((xe a0 a1.A a1.B a1.C).1, (xe a0 a1.A a1.B a1.C).2) else (bif (a1.Kind == 7) then ((zu a0 a1.A).1, (zu a0 a1.A).2) else (bif (a1.Kind == 8) then ((yX a0 a1.A a1.B a1.Doc).1, (yX a0 a1.A a1.B a1.Doc).2) else (bif (a1.Kind == 9) then ((JO a0 a1.A a1.B).1, (JO a0 a1.A a1.B).2) else (bif (a1.Kind == 10) then ((xd a0 a1.A a1.B).1, (xd a0 a1.A a1.B).2) else (a0, false)))))))))))
def z5 (a1 : List Zn) : Nat -> Nat -> List Yj -> List Zg -> List YJ -> Int -> Int -> List YY -> List Int -> List ZJ -> List Int -> List Int -> Int -> List Int -> (List Yj) × (List Zg) × (List YJ) × Int × Int × (List YY) × (List Int) × (List ZJ) × (List Int) × (List Int) × Int × (List Int)
  | 0, _, _, _, _, _, _, _, _, _, _, _, _, _ => (default, default, default, default, default, default, default, default, default, default, default, default)
  | n1 + 1, J, U, wD, wL, wg, vN, vO, vP, vQ, vm, vF, vG, vH => (bif (decide ((J : Int) < (a1.length : Int))) then z5 a1 n1 (J + 1) (XB (ZN.mk (Ze.mk U wD wL wg vN) vO vP vQ vm vF vG vH) (nth a1 J)).1.Frame.Z6 (XB (ZN.mk (Ze.mk U wD wL wg vN) vO vP vQ vm vF vG vH) (nth a1 J)).1.Frame.ZM (XB (ZN.mk (Ze.mk U wD wL wg vN) vO vP vQ vm vF vG vH) (nth a1 J)).1.Frame.Methods (XB (ZN.mk (Ze.mk U wD wL wg vN) vO vP vQ vm vF vG vH) (nth a1 J)).1.Frame.Kk (XB (ZN.mk (Ze.mk U wD wL wg vN) vO vP vQ vm vF vG vH) (nth a1 J)).1.Frame.Now (XB (ZN.mk (Ze.mk U wD wL wg vN) vO vP vQ vm vF vG vH) (nth a1 J)).1.ZT (XB (ZN.mk (Ze.mk U wD wL wg vN) vO vP vQ vm vF vG vH) (nth a1 J)).1.YX (XB (ZN.mk (Ze.mk U wD wL wg vN) vO vP vQ vm vF vG vH) (nth a1 J)).1.ZB (XB (ZN.mk (Ze.mk U wD wL wg vN) vO vP vQ vm vF vG vH) (nth a1 J)).1.QA (XB (ZN.mk (Ze.mk U wD wL wg vN) vO vP vQ vm vF vG vH) (nth a1 J)).1.XK (XB (ZN.mk (Ze.mk U wD wL wg vN) vO vP vQ vm vF vG vH) (nth a1 J)).1.Next (XB (ZN.mk (Ze.mk U wD wL wg vN) vO vP vQ vm vF vG vH) (nth a1 J)).1.XJ else ((U, wD, wL, wg, vN, vO, vP, vQ, vm, vF, vG, vH)))
def kb (a0 : ZN) (a1 : List Zn) : ZN := (match z5 a1 (a1.length + 1) 0 a0.Frame.Z6 a0.Frame.ZM a0.Frame.Methods a0.Frame.Kk a0.Frame.Now a0.ZT a0.YX a0.ZB a0.QA a0.XK a0.Next a0.XJ with | (z1_0, z1_1, z1_2, z1_3, z1_4, z1_5, z1_6, z1_7, z1_8, z1_9, z1_10, z1_11) => (ZN.mk (Ze.mk z1_0 z1_1 z1_2 z1_3 z1_4) z1_5 z1_6 z1_7 z1_8 z1_9 z1_10 z1_11))
def Yt (a0 : Z1) : Z1 × ZN := ((Jm (ZF a0 2).1 10).1, (kb (yM (ZF a0 2).2) (Jm (ZF a0 2).1 10).2))
def zU (a0 : List UInt8) : ZN := (bif ((ZF (Yt (QH a0)).1 5).2 == 0) then (ZN.mk (Yt (QH a0)).2.Frame (Yt (QH a0)).2.ZT (Yt (QH a0)).2.YX (Yt (QH a0)).2.ZB (Yt (QH a0)).2.QA (Yt (QH a0)).2.XK (Yt (QH a0)).2.Next ([1] : List Int)) else (bif ((ZF (Yt (QH a0)).1 5).2 == 1) then (ZN.mk (Yt (QH a0)).2.Frame (Yt (QH a0)).2.ZT (Yt (QH a0)).2.YX (Yt (QH a0)).2.ZB (Yt (QH a0)).2.QA (Yt (QH a0)).2.XK 1 (Yt (QH a0)).2.XJ) else (Yt (QH a0)).2))
def Zv (a0 : List UInt8) : ZN := (zU a0)
def Zd (a0 : Int) (a1 : Int) (a2 : Int) : Bool := ((decide (a1 <= a0)) && (decide (a0 <= a2)))
def yG (a0 : Int) : Bool := (Zd a0 0 10000)
def VP (a0 : Int) : Bool := (Zd a0 1 2147483646)
def IG (a0 : Yj) : Bool := (((((Zd a0.Number 1 99) && (Zd a0.yv 0 99)) && (Zd a0.Method 0 99)) && (yG a0.NH)) && (VP a0.UA))
def UB (a0 : List Yj) : Nat -> Nat -> Sum Bool Unit
  | 0, _ => .inr ()
  | n1 + 1, J => (bif (decide ((J : Int) < (a0.length : Int))) then (bif ((!(IG (nth a0 J))) || ((decide ((J : Int) > 0)) && (decide ((nth a0 (J - 1)).Number >= (nth a0 J).Number)))) then (.inl false) else UB a0 n1 (J + 1)) else (.inr ()))
def PA (a0 : List Yj) : Bool := (match UB a0 (a0.length + 1) 0 with | .inl r1 => r1 | .inr _ => (decide ((a0.length : Int) <= 12)))
def yP (a0 : List Zg) : Nat -> Nat -> Sum Bool Unit
  | 0, _ => .inr ()
  | n1 + 1, J => (bif (decide ((J : Int) < (a0.length : Int))) then (bif ((((!(Zd (nth a0 J).Id 0 99)) || (!(Zd (nth a0 J).Key 1 99))) || (!(Zd (nth a0 J).Error 0 100))) || ((decide ((J : Int) > 0)) && (decide ((nth a0 (J - 1)).Id >= (nth a0 J).Id)))) then (.inl false) else yP a0 n1 (J + 1)) else (.inr ()))
def xf (a0 : List Zg) : Bool := (match yP a0 (a0.length + 1) 0 with | .inl r1 => r1 | .inr _ => (decide ((a0.length : Int) <= 6)))
def Tu (a0 : YJ) : Bool := ((((((Zd a0.Id 0 99) && (yG a0.Nq)) && (Zd a0.Ends 1 10001)) && (Zd a0.T3 1 10001)) && (decide (a0.Nq < a0.Ends))) && (decide (a0.Nq < a0.T3)))
def jh (a0 : List YJ) : Nat -> Nat -> Sum Bool Unit
  | 0, _ => .inr ()
  | n1 + 1, J => (bif (decide ((J : Int) < (a0.length : Int))) then (bif ((!(Tu (nth a0 J))) || ((decide ((J : Int) > 0)) && (decide ((nth a0 (J - 1)).Id >= (nth a0 J).Id)))) then (.inl false) else jh a0 n1 (J + 1)) else (.inr ()))
def VB (a0 : List YJ) : Bool := (match jh a0 (a0.length + 1) 0 with | .inl r1 => r1 | .inr _ => (decide ((a0.length : Int) <= 8)))
def U5 (a0 : Ze) : Bool := (((((PA a0.Z6) && (xf a0.ZM)) && (VB a0.Methods)) && (Zd a0.Kk 0 6)) && (yG a0.Now))
def WQ (a0 : List Int) : Nat -> Nat -> Sum Bool Unit
  | 0, _ => .inr ()
  | n1 + 1, J => (bif (decide ((J : Int) < (a0.length : Int))) then (bif (decide ((nth a0 (J - 1)) >= (nth a0 J))) then (.inl false) else WQ a0 n1 (J + 1)) else (.inr ()))
def kR (a0 : List Int) : Bool := (match WQ a0 (a0.length + 1) 1 with | .inl r1 => r1 | .inr _ => true)
def xh (a0 : YY) : Za := (Za.mk a0.XU a0.To)
def J1 (a0 : Za) : Bool := (((yG a0.XU) && (yG a0.To)) && (decide (a0.XU <= a0.To)))
def NY (a0 : YY) : Bool := ((((((Zd a0.ZO 1 999) && (Zd a0.Key 1 99)) && (Zd a0.Zq 1 99)) && (a0.Key != a0.Zq)) && (Zd a0.yv 0 99)) && (J1 (xh a0)))
def yQ (a0 : YY) : List Int := ([101, a0.ZO, a0.Key, a0.yv, a0.XU, a0.To, a0.Zq] : List Int)
def kM (a0 : List Yj) (a1 : Int) : Nat -> Nat -> Sum Int Unit
  | 0, _ => .inr ()
  | n1 + 1, J => (bif (decide ((J : Int) < (a0.length : Int))) then (bif ((nth a0 J).Number == a1) then (.inl (J : Int)) else kM a0 a1 n1 (J + 1)) else (.inr ()))
def XE (a0 : List Yj) (a1 : Int) : Int := (match kM a0 a1 (a0.length + 1) 0 with | .inl r1 => r1 | .inr _ => (-1))
def Eu (a0 : Int) (a1 : Int) : Int := (bif (!(Zd a1 1 1000000000000)) then 0 else (Int.tmod (W ((Int.tmod a0 a1) + a1)) a1))
def Nt (a0 : List Int) : Nat -> Int -> Nat -> Int
  | 0, _, _ => default
  | n1 + 1, J, U => (bif (decide ((U : Int) < (a0.length : Int))) then Nt a0 n1 (Int.tmod (W ((W ((W (J * 1000003)) + (Eu (nth a0 U) 2147483647))) + 13)) 2147483647) (U + 1) else (J))
def Iz (a0 : List Int) : Int := (match Nt a0 (a0.length + 1) 11 0 with | z1_0 => z1_0)
def UX (a0 : Int) (a1 : List Int) : Int := (Iz ((([a0] : List Int) ++ a1) ++ ([a0] : List Int)))
def Ty (a0 : Yj) (a1 : List Int) : Int := (UX a0.UA (([a0.Method] : List Int) ++ a1))
def jt (a0 : List Yj) (a1 : Int) (a2 : List Int) : Int × Bool := (bif (decide ((XE a0 a1) < 0)) then (0, false) else ((Ty (nth a0 (XE a0 a1).toNat) a2), true))
def Qh (a0 : List Yj) (a1 : Int) (a2 : List Int) (a3 : Int) : Bool := ((jt a0 a1 a2).2 && ((jt a0 a1 a2).1 == a3))
def TD (a0 : List Yj) (a1 : Int) : Int := (bif (decide ((XE a0 a1) >= 0)) then (nth a0 (XE a0 a1).toNat).yv else (-1))
def km (a0 : List Yj) (a1 : YY) : Bool := (((NY a1) && (Qh a0 a1.Zq (yQ a1) a1.Mark)) && (a1.yv == (TD a0 a1.Key)))
def VT (a0 : List YY) (a1 : Int) : Nat -> Nat -> Sum Int Unit
  | 0, _ => .inr ()
  | n1 + 1, J => (bif (decide ((J : Int) < (a0.length : Int))) then (bif ((nth a0 J).ZO == a1) then (.inl (J : Int)) else VT a0 a1 n1 (J + 1)) else (.inr ()))
def Tp (a0 : List YY) (a1 : Int) : Int := (match VT a0 a1 (a0.length + 1) 0 with | .inl r1 => r1 | .inr _ => (-1))
def yi (a0 : ZV) : Nat -> Nat -> Sum Bool Unit
  | 0, _ => .inr ()
  | n1 + 1, J => (bif (decide ((J : Int) < (a0.Yz.length : Int))) then (bif ((decide (((nth a0.Yz J).size : Int) > 40)) || (!(Zd (nth a0.QQ J) 1 1000000000000))) then (.inl false) else yi a0 n1 (J + 1)) else (.inr ()))
def ze (a0 : ZV) : Bool := (bif (((!(Zd a0.jj 0 999)) || (!(Zd (a0.Yz.length : Int) 1 6))) || ((a0.QQ.length : Int) != (a0.Yz.length : Int))) then false else (match yi a0 (a0.Yz.length + 1) 0 with | .inl r1 => r1 | .inr _ => true))
def WA (a0 : List Int) (a1 : List Int) : Nat -> Nat -> Sum Bool Unit
  | 0, _ => .inr ()
  | n1 + 1, J => (bif (decide ((J : Int) < (a0.length : Int))) then (bif ((nth a0 J) != (nth a1 J)) then (.inl false) else WA a0 a1 n1 (J + 1)) else (.inr ()))
def UQ (a0 : List Int) (a1 : List Int) : Bool := (bif ((a0.length : Int) != (a1.length : Int)) then false else (match WA a0 a1 (a0.length + 1) 0 with | .inl r1 => r1 | .inr _ => true))
def z7 (a0 : ZS) (a1 : ZS) : Bool := (((a0.Key == a1.Key) && (a0.Mark == a1.Mark)) && (UQ a0.Z4 a1.Z4))
def W6 (a0 : List ZS) (a1 : ZS) : Nat -> Nat -> Sum Bool Unit
  | 0, _ => .inr ()
  | n1 + 1, J => (bif (decide ((J : Int) < (a0.length : Int))) then (bif (z7 (nth a0 J) a1) then (.inl true) else W6 a0 a1 n1 (J + 1)) else (.inr ()))
def xm (a0 : List ZS) (a1 : ZS) : Bool := (match W6 a0 a1 (a0.length + 1) 0 with | .inl r1 => r1 | .inr _ => false)
def qe (a0 : ZZ) : Nat -> Nat -> Sum Bool Unit
  | 0, _ => .inr ()
  | n2 + 1, wB => (bif (decide ((wB : Int) < (a0.ZY.length : Int))) then (bif ((!(Zd (nth a0.ZY wB).Count 1 (a0.ZH.length : Int))) || ((decide ((wB : Int) > 0)) && (decide ((nth a0.ZY wB).Count < (nth a0.ZY (wB - 1)).Count)))) then (.inl false) else qe a0 n2 (wB + 1)) else (.inr ()))
def qp (a0 : ZZ) : Nat -> Nat -> Sum Bool Unit
  | 0, _ => .inr ()
  | n1 + 1, J => (bif (decide ((J : Int) < (a0.ZH.length : Int))) then (bif (xm (a0.ZH.take J) (nth a0.ZH J)) then (.inl false) else qp a0 n1 (J + 1)) else (.inr ()))
def jn (a0 : ZZ) : Bool := (bif ((!(Zd (a0.ZH.length : Int) 1 12)) || (decide ((a0.ZY.length : Int) > 8))) then false else (match qp a0 (a0.ZH.length + 1) 0 with | .inl r1 => r1 | .inr _ => (match qe a0 (a0.ZY.length + 1) 0 with | .inl r2 => r2 | .inr _ => true)))
def QO (a0 : Zy) : List Int := ([104, a0.Key, a0.ZO, a0.Method, a0.XW, a0.ky, a0.Org, a0.WD, a0.kG] : List Int)
def Y8 (a0 : Zy) : ZS := (ZS.mk a0.Key (QO a0) a0.Mark)
def NR (a0 : Zk) : Bool := (((((Zd a0.Id 1 999) && (yG a0.Yw)) && (ze a0.Doc)) && (jn a0.ZL)) && (z7 (nth a0.ZL.ZH 0) (Y8 a0.Sig)))
def ko (a0 : ZJ) : Nat -> Nat -> Sum Bool Unit
  | 0, _ => .inr ()
  | n1 + 1, J => (bif (decide ((J : Int) < (a0.ZE.length : Int))) then (bif ((!(NR (nth a0.ZE J))) || ((decide ((J : Int) > 0)) && (decide ((nth a0.ZE (J - 1)).Id >= (nth a0.ZE J).Id)))) then (.inl false) else ko a0 n1 (J + 1)) else (.inr ()))
def Uy (a0 : ZJ) : Bool := (match ko a0 (a0.ZE.length + 1) 0 with | .inl r1 => r1 | .inr _ => ((Zd a0.Id 0 99) && (decide ((a0.ZE.length : Int) <= 8))))
def UL (a0 : List Int) (a1 : Int) : Nat -> Nat -> Sum Int Unit
  | 0, _ => .inr ()
  | n1 + 1, J => (bif (decide ((J : Int) < (a0.length : Int))) then (bif ((nth a0 J) == a1) then (.inl (J : Int)) else UL a0 a1 n1 (J + 1)) else (.inr ()))
def RM (a0 : List Int) (a1 : Int) : Int := (match UL a0 a1 (a0.length + 1) 0 with | .inl r1 => r1 | .inr _ => (-1))
def SW (a0 : List Int) (a1 : Int) : Bool := (decide ((RM a0 a1) >= 0))
def Ky (a0 : List Zg) (a1 : Int) : Nat -> Nat -> Sum Int Unit
  | 0, _ => .inr ()
  | n1 + 1, J => (bif (decide ((J : Int) < (a0.length : Int))) then (bif ((nth a0 J).Id == a1) then (.inl (J : Int)) else Ky a0 a1 n1 (J + 1)) else (.inr ()))
def YE (a0 : List Zg) (a1 : Int) : Int := (match Ky a0 a1 (a0.length + 1) 0 with | .inl r1 => r1 | .inr _ => (-1))
def Uq (a0 : ZN) (wC : Nat) : Nat -> List Int -> Nat -> Sum Bool (List Int)
  | 0, _, _ => .inr default
  | n3 + 1, wZ, wa => (bif (decide ((wa : Int) < ((nth a0.ZB wC).ZE.length : Int))) then (bif ((SW wZ (nth (nth a0.ZB wC).ZE wa).Id) || (decide ((nth (nth a0.ZB wC).ZE wa).Id >= a0.Next))) then (.inl false) else Uq a0 wC n3 (wZ ++ ([(nth (nth a0.ZB wC).ZE wa).Id] : List Int)) (wa + 1)) else (.inr wZ))
def UT (a0 : ZN) : Nat -> Nat -> Sum Bool Unit
  | 0, _ => .inr ()
  | n5 + 1, uw => (bif (decide ((uw : Int) < (a0.XK.length : Int))) then (bif (decide ((YE a0.Frame.ZM (nth a0.XK uw)) < 0)) then (.inl false) else UT a0 n5 (uw + 1)) else (.inr ()))
def U2 (a0 : ZN) : Nat -> Nat -> Sum Bool Unit
  | 0, _ => .inr ()
  | n4 + 1, vz => (bif (decide ((vz : Int) < (a0.QA.length : Int))) then (bif (decide ((nth a0.QA vz) < 0)) then (.inl false) else U2 a0 n4 (vz + 1)) else (.inr ()))
def U3 (a0 : ZN) : Nat -> List Int -> Nat -> Sum Bool Unit
  | 0, _, _ => .inr ()
  | n2 + 1, wB, wC => (bif (decide ((wC : Int) < (a0.ZB.length : Int))) then (bif ((!(Uy (nth a0.ZB wC))) || ((nth a0.ZB wC).Id != (wC : Int))) then (.inl false) else (match Uq a0 wC ((nth a0.ZB wC).ZE.length + 1) wB 0 with | .inl r3 => .inl r3 | .inr z3_0 => U3 a0 n2 z3_0 (wC + 1))) else (.inr ()))
def UI (a0 : ZN) : Nat -> Nat -> Sum Bool Unit
  | 0, _ => .inr ()
  | n1 + 1, J => (bif (decide ((J : Int) < (a0.ZT.length : Int))) then (bif (((!(km a0.Frame.Z6 (nth a0.ZT J))) || ((Tp a0.ZT (nth a0.ZT J).ZO) != (J : Int))) || (!(Zd (nth a0.YX J) (-1) 10001))) then (.inl false) else UI a0 n1 (J + 1)) else (.inr ()))
def jF (a0 : ZN) : Bool := (bif ((((((((!(U5 a0.Frame)) || ((a0.YX.length : Int) != (a0.ZT.length : Int))) || (!(Zd (a0.ZB.length : Int) 1 4))) || ((a0.QA.length : Int) != (a0.Frame.ZM.length : Int))) || (decide ((a0.XK.length : Int) > a0.Frame.Kk))) || (decide (a0.Next < 1))) || (!(kR a0.XK))) || (!(kR a0.XJ))) then false else (match UI a0 (a0.ZT.length + 1) 0 with | .inl r1 => r1 | .inr _ => (match U3 a0 (a0.ZB.length + 1) ([] : List Int) 0 with | .inl r2 => r2 | .inr _ => (match U2 a0 (a0.QA.length + 1) 0 with | .inl r4 => r4 | .inr _ => (match UT a0 (a0.XK.length + 1) 0 with | .inl r5 => r5 | .inr _ => true)))))
def ye (a0 : ZN) : Nat -> List Zk -> Nat -> (List Zk)
  | 0, _, _ => default
  | n1 + 1, J, U => (bif (decide ((U : Int) < (a0.ZB.length : Int))) then ye a0 n1 (J ++ (nth a0.ZB U).ZE) (U + 1) else (J))
def Z5 (a0 : ZN) : List Zk := (match ye a0 (a0.ZB.length + 1) ([] : List Zk) 0 with | z1_0 => z1_0)
def zl (a0 : ZJ) (a1 : Int) : Nat -> Nat -> Sum Int Unit
  | 0, _ => .inr ()
  | n1 + 1, J => (bif (decide ((J : Int) < (a0.ZE.length : Int))) then (bif ((nth a0.ZE J).Id == a1) then (.inl (J : Int)) else zl a0 a1 n1 (J + 1)) else (.inr ()))
def Qq (a0 : ZJ) (a1 : Int) : Int := (match zl a0 a1 (a0.ZE.length + 1) 0 with | .inl r1 => r1 | .inr _ => (-1))
def K8 (a0 : ZN) (a1 : Int) : Nat -> Nat -> Sum (Int × Int) Unit
  | 0, _ => .inr ()
  | n1 + 1, J => (bif (decide ((J : Int) < (a0.ZB.length : Int))) then (bif (decide ((Qq (nth a0.ZB J) a1) >= 0)) then (.inl ((J : Int), (Qq (nth a0.ZB J) a1))) else K8 a0 a1 n1 (J + 1)) else (.inr ()))
def QI (a0 : ZN) (a1 : Int) : Int × Int := (match K8 a0 a1 (a0.ZB.length + 1) 0 with | .inl r1 => r1 | .inr _ => ((-1), (-1)))
def T1 (a0 : List Int) : List Int := a0
def Uj (a0 : ZS) : ZS := a0
def yp (a0 : List ZS) : Nat -> List ZS -> Nat -> (List ZS)
  | 0, _, _ => default
  | n1 + 1, J, U => (bif (decide ((U : Int) < (a0.length : Int))) then yp a0 n1 (J ++ ([(nth a0 U)] : List ZS)) (U + 1) else (J))
def qm (a0 : List ZS) : List ZS := (match yp a0 (a0.length + 1) ([] : List ZS) 0 with | z1_0 => z1_0)
def VH (a0 : List Zr) : List Zr := a0
def WT (a0 : Zi) : Zi := a0
def y5 (a0 : ZZ) : Nat -> Nat -> List Zi -> (List Zi)
  | 0, _, _ => default
  | n1 + 1, J, U => (bif (decide ((J : Int) < (a0.ZY.length : Int))) then y5 a0 n1 (J + 1) (U ++ ([(nth a0.ZY J)] : List Zi)) else (U))
def qv (a0 : ZZ) : ZZ := (match y5 a0 (a0.ZY.length + 1) 0 ([] : List Zi) with | z1_0 => (ZZ.mk a0.ZH z1_0))
def J9 (a0 : Zk) : Zs := (Zs.mk ([a0.ZL] : List ZZ) ([] : List (List Zr)))
def qP (a0 : List UInt8) : Nat -> List Int -> Nat -> (List Int)
  | 0, _, _ => default
  | n1 + 1, J, U => (bif (decide ((U : Int) < (a0.length : Int))) then qP a0 n1 (J ++ ([(W ((nth a0 U).toNat : Int))] : List Int)) (U + 1) else (J))
def jI (a0 : List UInt8) : List Int := (match qP a0 (a0.length + 1) ([] : List Int) 0 with | z1_0 => z1_0)
def JR (a0 : Int) (a1 : List Int) : Int := (Iz (([7, a0] : List Int) ++ a1))
def VO (a0 : Int) (a1 : ByteArray) (a2 : Int) : Int := (JR a0 (([a2] : List Int) ++ (jI a1.data.toList)))
def WX (a0 : Int) (a1 : ZV) : Nat -> List Int -> Nat -> (List Int)
  | 0, _, _ => default
  | n1 + 1, J, U => (bif (decide ((U : Int) < (a1.Yz.length : Int))) then WX a0 a1 n1 (J ++ ([(VO a0 (nth a1.Yz U) (nth a1.QQ U))] : List Int)) (U + 1) else (J))
def yf (a0 : Int) (a1 : ZV) : Int := (bif (!(ze a1)) then (-1) else (match WX a0 a1 (a1.Yz.length + 1) ([a1.jj] : List Int) 0 with | z1_0 => (JR a0 z1_0)))
def zB (a0 : ZZ) (a1 : ZV) : Nat -> List Int -> Nat -> (List Int)
  | 0, _, _ => default
  | n1 + 1, J, U => (bif (decide ((U : Int) < (a0.ZY.length : Int))) then zB a0 a1 n1 (J ++ ([(yf (nth a0.ZY U).Method a1)] : List Int)) (U + 1) else (J))
def za (a0 : ZZ) (a1 : ZV) : List Int := (match zB a0 a1 (a0.ZY.length + 1) ([] : List Int) 0 with | z1_0 => z1_0)
def Jc (a0 : Zs) (a1 : ZV) : Nat -> List (List Int) -> Nat -> (List (List Int))
  | 0, _, _ => default
  | n1 + 1, J, U => (bif (decide ((U : Int) < (a0.Zp.length : Int))) then Jc a0 a1 n1 (J ++ ([(za (nth a0.Zp U) a1)] : List (List Int))) (U + 1) else (J))
def Ja (a0 : Zs) (a1 : ZV) : List (List Int) := (match Jc a0 a1 (a0.Zp.length + 1) ([] : List (List Int)) 0 with | z1_0 => z1_0)
def qW (a0 : Int) : Y0 := (Y0.mk 3 a0 (Za.mk 0 0))
def xx (a0 : Zy) : Bool := ((((((((Zd a0.Key 1 99) && (Zd a0.ZO 1 999)) && (Zd a0.Method 0 99)) && (Zd a0.Org 0 99)) && (Zd a0.ky 1 3)) && (Zd a0.XW 0 1000000000000)) && (Zd a0.WD 0 1000000000000)) && (Zd a0.kG 0 1000000000000))
def zZ (a0 : Int) : Y0 := (Y0.mk 2 a0 (Za.mk 0 0))
def xi (a0 : List Yj) (a1 : Zy) : Bool := ((xx a1) && (Qh a0 a1.Key (QO a1) a1.Mark))
def WJ (a0 : ZZ) (a1 : ZS) : Nat -> Nat -> Sum Int Unit
  | 0, _ => .inr ()
  | n1 + 1, J => (bif (decide ((J : Int) < (a0.ZH.length : Int))) then (bif (z7 (nth a0.ZH J) a1) then (.inl (J : Int)) else WJ a0 a1 n1 (J + 1)) else (.inr ()))
def qE (a0 : ZZ) (a1 : ZS) : Int := (match WJ a0 a1 (a0.ZH.length + 1) 0 with | .inl r1 => r1 | .inr _ => (-1))
def Kb (a0 : Int) (a1 : Int) : Za × Bool := (bif ((decide (a0 > a1)) || (!(J1 (Za.mk (if 0 > a0 then 0 else a0) (if 10000 < a1 then 10000 else a1))))) then ((Za.mk 0 0), false) else ((Za.mk (if 0 > a0 then 0 else a0) (if 10000 < a1 then 10000 else a1)), true))
def qM (a0 : List Zg) (a1 : Zr) : Za × Bool := (bif (((decide ((YE a0 a1.Authority) < 0)) || (decide ((nth a0 (YE a0 a1.Authority).toNat).Error < 0))) || (!(yG a1.Time))) then ((Za.mk 0 0), false) else ((Kb (W (a1.Time - (nth a0 (YE a0 a1.Authority).toNat).Error)) (W (a1.Time + (nth a0 (YE a0 a1.Authority).toNat).Error))).1, (Kb (W (a1.Time - (nth a0 (YE a0 a1.Authority).toNat).Error)) (W (a1.Time + (nth a0 (YE a0 a1.Authority).toNat).Error))).2))
def kF (a0 : List Za) (a1 : Int) : Nat -> Int -> Nat -> Int
  | 0, _, _ => default
  | n1 + 1, J, U => (bif (decide ((U : Int) < (a0.length : Int))) then (bif ((J1 (nth a0 U)) && (Zd a1 (nth a0 U).XU (nth a0 U).To)) then kF a0 a1 n1 (W (J + 1)) (U + 1) else kF a0 a1 n1 J (U + 1)) else (J))
def Rw (a0 : List Za) (a1 : Int) : Int := (match kF a0 a1 (a0.length + 1) 0 0 with | z1_0 => z1_0)
def WM (a0 : List Za) (a1 : Int) (a2 : Int) : Bool := ((Zd a2 0 (W ((a0.length : Int) - 1))) && (decide ((Rw a0 a1) >= (W ((a0.length : Int) - a2)))))
def zF (a0 : List Za) (a1 : Int) : Nat -> Bool -> Nat -> Int -> Int -> Bool × Int × Int
  | 0, _, _, _, _ => (default, default, default)
  | n1 + 1, J, U, wD, wL => (bif (decide ((U : Int) <= 10000)) then (bif (WM a0 (U : Int) a1) then (bif (!J) then zF a0 a1 n1 true (U + 1) (U : Int) (U : Int) else zF a0 a1 n1 true (U + 1) wD (U : Int)) else zF a0 a1 n1 J (U + 1) wD wL) else ((J, wD, wL)))
def xE (a0 : List Za) (a1 : Int) : Za × Bool := (match zF a0 a1 10002 false 0 0 0 with | (z1_0, z1_1, z1_2) => ((Za.mk z1_1 z1_2), z1_0))
def VW (a0 : List Zg) (a1 : List Zr) : Nat -> List Za -> Nat -> Sum (Za × Bool) (List Za)
  | 0, _, _ => .inr default
  | n1 + 1, J, U => (bif (decide ((U : Int) < (a1.length : Int))) then (bif (!(qM a0 (nth a1 U)).2) then (.inl ((Za.mk 0 0), false)) else VW a0 a1 n1 (J ++ ([(qM a0 (nth a1 U)).1] : List Za)) (U + 1)) else (.inr J))
def JQ (a0 : List Zg) (a1 : List Zr) (a2 : Int) : Za × Bool := (match VW a0 a1 (a1.length + 1) ([] : List Za) 0 with | .inl r1 => r1 | .inr z1_0 => ((xE z1_0 a2).1, (xE z1_0 a2).2))
def yF (a0 : List Zg) (a1 : Zi) (a2 : Int) : Za × Bool := ((JQ a0 a1.YR a2).1, (JQ a0 a1.YR a2).2)
def Qi (a0 : Ze) (a1 : Zi) : Za × Bool := ((yF a0.ZM a1 a0.Kk).1, (yF a0.ZM a1 a0.Kk).2)
def JC (a0 : Zr) : List Int := ([103, a0.Authority, a0.Seq, a0.Time, a0.XW] : List Int)
def yx (a1 : Zi) : Nat -> List Int -> Nat -> (List Int)
  | 0, _, _ => default
  | n2 + 1, wB, wC => (bif (decide ((wC : Int) < (a1.YR.length : Int))) then yx a1 n2 ((wB ++ (JC (nth a1.YR wC))) ++ ([(nth a1.YR wC).Mark] : List Int)) (wC + 1) else (wB))
def K2 (a1 : Zi) : Nat -> List Int -> Nat -> (List Int)
  | 0, _, _ => default
  | n1 + 1, J, U => (bif (decide ((U : Int) < (a1.Path.length : Int))) then (bif (nth a1.Path U).Left then K2 a1 n1 (J ++ ([(nth a1.Path U).XW, 1] : List Int)) (U + 1) else K2 a1 n1 (J ++ ([(nth a1.Path U).XW, 0] : List Int)) (U + 1)) else (J))
def Kh (a0 : Int) (a1 : Zi) : Int := (match K2 a1 (a1.Path.length + 1) ([4, a1.Count, a1.Method, a1.Hp] : List Int) 0 with | z1_0 => (match yx a1 (a1.YR.length + 1) (z1_0 ++ ([(a1.YR.length : Int)] : List Int)) 0 with | vZ => (JR a0 vZ)))
def xp (a0 : Int) (a1 : List ZS) : Nat -> List Int -> Nat -> (List Int)
  | 0, _, _ => default
  | n1 + 1, J, U => (bif (decide ((U : Int) < (a1.length : Int))) then xp a0 a1 n1 (J ++ ([(JR a0 (([(nth a1 U).Key, (nth a1 U).Mark] : List Int) ++ (nth a1 U).Z4))] : List Int)) (U + 1) else (J))
def yo (a0 : Int) (a1 : List ZS) : Int := (match xp a0 a1 (a1.length + 1) ([2] : List Int) 0 with | z1_0 => (JR a0 z1_0))
def S5 (a0 : Int) (a1 : Int) (a2 : List ZS) (a3 : Int) : Int := (JR a0 ([3, a1, (yo a0 a2), a3] : List Int))
def Si (a0 : ZZ) (a1 : List Int) (a2 : Int) : Int := (bif (((!(Zd a2 0 (W ((a0.ZY.length : Int) - 1)))) || ((a1.length : Int) != (a0.ZY.length : Int))) || (!(Zd (nth a0.ZY a2.toNat).Count 0 (a0.ZH.length : Int)))) then (-1) else (bif (decide (a2 > 0)) then (S5 (nth a0.ZY a2.toNat).Method (nth a1 a2.toNat) (a0.ZH.take (nth a0.ZY a2.toNat).Count.toNat) (Kh (nth a0.ZY a2.toNat).Method (nth a0.ZY (W (a2 - 1)).toNat))) else (S5 (nth a0.ZY a2.toNat).Method (nth a1 a2.toNat) (a0.ZH.take (nth a0.ZY a2.toNat).Count.toNat) 0)))
def qy (a0 : Int) (a1 : Int) (a2 : Int) : Int := (JR a0 ([1, a1, a2] : List Int))
def yq (a0 : Int) (a2 : List QB) : Nat -> Int -> Nat -> Int
  | 0, _, _ => default
  | n1 + 1, J, U => (bif (decide ((U : Int) < (a2.length : Int))) then (bif (nth a2 U).Left then yq a0 a2 n1 (qy a0 (nth a2 U).XW J) (U + 1) else yq a0 a2 n1 (qy a0 J (nth a2 U).XW) (U + 1)) else (J))
def VI (a0 : Int) (a1 : Int) (a2 : List QB) : Int := (match yq a0 a2 (a2.length + 1) a1 0 with | z1_0 => z1_0)
def Kt (a0 : List Zr) : Nat -> Nat -> Sum Bool Unit
  | 0, _ => .inr ()
  | n1 + 1, J => (bif (decide ((J : Int) < (a0.length : Int))) then (bif (decide ((nth a0 (J - 1)).Authority >= (nth a0 J).Authority)) then (.inl false) else Kt a0 n1 (J + 1)) else (.inr ()))
def Qu (a0 : List Zr) : Bool := (match Kt a0 (a0.length + 1) 1 with | .inl r1 => r1 | .inr _ => true)
def Jo (a0 : List Yj) (a1 : List Zg) (a2 : Zr) : Zr × Bool := (bif (((decide ((YE a1 a2.Authority) < 0)) || (decide (a2.Seq < 0))) || (!(yG a2.Time))) then ((Zr.mk 0 0 0 0 0), false) else (bif (!(jt a0 (nth a1 (YE a1 a2.Authority).toNat).Key (JC a2)).2) then ((Zr.mk 0 0 0 0 0), false) else ((Zr.mk a2.Authority a2.Seq a2.Time a2.XW (jt a0 (nth a1 (YE a1 a2.Authority).toNat).Key (JC a2)).1), true)))
def Vl (a0 : List Yj) (a1 : List Zg) (a2 : Zr) : Bool := ((Jo a0 a1 a2).2 && (((Jo a0 a1 a2).1.Authority == a2.Authority) && (((Jo a0 a1 a2).1.Seq == a2.Seq) && (((Jo a0 a1 a2).1.Time == a2.Time) && (((Jo a0 a1 a2).1.XW == a2.XW) && ((Jo a0 a1 a2).1.Mark == a2.Mark))))))
def xj (a0 : List Yj) (a1 : List Zg) (a2 : Zi) : Nat -> Nat -> Sum Bool Unit
  | 0, _ => .inr ()
  | n1 + 1, J => (bif (decide ((J : Int) < (a2.YR.length : Int))) then (bif (((nth a2.YR J).XW != a2.Hp) || (!(Vl a0 a1 (nth a2.YR J)))) then (.inl false) else xj a0 a1 a2 n1 (J + 1)) else (.inr ()))
def jQ (a0 : List Yj) (a1 : List Zg) (a2 : Zi) (a3 : Int) : Bool := (bif ((((decide ((a2.Path.length : Int) > 4)) || ((VI a2.Method a3 a2.Path) != a2.Hp)) || (!(Zd (a2.YR.length : Int) 1 6))) || (!(Qu a2.YR))) then false else (match xj a0 a1 a2 (a2.YR.length + 1) 0 with | .inl r1 => r1 | .inr _ => true))
def yz (a0 : List YJ) (a1 : Int) : Nat -> Nat -> Sum Int Unit
  | 0, _ => .inr ()
  | n1 + 1, J => (bif (decide ((J : Int) < (a0.length : Int))) then (bif ((nth a0 J).Id == a1) then (.inl (J : Int)) else yz a0 a1 n1 (J + 1)) else (.inr ()))
def zo (a0 : List YJ) (a1 : Int) : Int := (match yz a0 a1 (a0.length + 1) 0 with | .inl r1 => r1 | .inr _ => (-1))
def yd (a0 : List YJ) (a1 : Int) : Int := (bif (decide ((zo a0 a1) >= 0)) then (nth a0 (zo a0 a1).toNat).T3 else 0)
def X0 (a0 : List Zg) (a1 : Zr) : Int := (bif (decide ((YE a0 a1.Authority) >= 0)) then (nth a0 (YE a0 a1.Authority).toNat).Key else 0)
def xX (a0 : List Yj) (a1 : List Zg) (a2 : List YJ) (a3 : Zi) : Nat -> Int -> Nat -> Sum Int Int
  | 0, _, _ => .inr default
  | n1 + 1, J, U => (bif (decide ((U : Int) < (a3.YR.length : Int))) then (bif (decide ((XE a0 (X0 a1 (nth a3.YR U))) < 0)) then (.inl 0) else xX a0 a1 a2 a3 n1 (if (yd a2 (nth a0 (XE a0 (X0 a1 (nth a3.YR U))).toNat).Method) < J then (yd a2 (nth a0 (XE a0 (X0 a1 (nth a3.YR U))).toNat).Method) else J) (U + 1)) else (.inr J))
def yw (a0 : List Yj) (a1 : List Zg) (a2 : List YJ) (a3 : Zi) : Int := (match xX a0 a1 a2 a3 (a3.YR.length + 1) (yd a2 a3.Method) 0 with | .inl r1 => r1 | .inr z1_0 => z1_0)
def UD (a0 : Ze) (a1 : ZZ) (a2 : Int) : Bool := (bif (!(Zd a2 0 (W ((a1.ZY.length : Int) - 1)))) then false else (bif (a2 == (W ((a1.ZY.length : Int) - 1))) then (decide (a0.Now < (yw a0.Z6 a0.ZM a0.Methods (nth a1.ZY a2.toNat)))) else ((Qi a0 (nth a1.ZY (W (a2 + 1)).toNat)).2 && (decide ((Qi a0 (nth a1.ZY (W (a2 + 1)).toNat)).1.To < (yw a0.Z6 a0.ZM a0.Methods (nth a1.ZY a2.toNat)))))))
def yB (a0 : Ze) (a1 : ZZ) (a2 : List Int) : Nat -> Nat -> Nat
  | 0, _ => default
  | n1 + 1, J => (bif (decide ((J : Int) > 0)) then (bif (((!(Qi a0 (nth a1.ZY (J - 1))).2) || (!(jQ a0.Z6 a0.ZM (nth a1.ZY (J - 1)) (Si a1 a2 (W ((J : Int) - 1)))))) || (!(UD a0 a1 (W ((J : Int) - 1))))) then (J) else yB a0 a1 a2 n1 (J - 1)) else (J))
def zR (a0 : Ze) (a1 : ZZ) (a2 : List Int) : Int := (match yB a0 a1 a2 (a1.ZY.length + 1) a1.ZY.length with | z1_0 => (z1_0 : Int))
def kC (a0 : Ze) (a1 : ZZ) (a3 : Int) : Nat -> Int -> Int -> Int
  | 0, _, _ => default
  | n1 + 1, J, U => (bif (decide (U < (a1.ZY.length : Int))) then (bif (decide ((nth a1.ZY U.toNat).Count > a3)) then kC a0 a1 a3 n1 (if (Qi a0 (nth a1.ZY U.toNat)).1.To < J then (Qi a0 (nth a1.ZY U.toNat)).1.To else J) (W (U + 1)) else kC a0 a1 a3 n1 J (W (U + 1))) else (J))
def RT (a0 : Ze) (a1 : ZZ) (a2 : List Int) (a3 : Int) : Int := (match kC a0 a1 a3 (a1.ZY.length + 2) a0.Now (zR a0 a1 a2) with | z1_0 => z1_0)
def q8 (a0 : Ze) (a1 : ZZ) (a2 : List Int) (a3 : ZS) : Int := (bif (decide ((qE a1 a3) < 0)) then a0.Now else (RT a0 a1 a2 (qE a1 a3)))
def Kz (a0 : Ze) (a1 : Zs) (a2 : List (List Int)) (a3 : ZS) : Nat -> Int -> Nat -> Int
  | 0, _, _ => default
  | n1 + 1, J, U => (bif (decide ((U : Int) < (a1.Zp.length : Int))) then (bif (decide ((U : Int) < (a2.length : Int))) then Kz a0 a1 a2 a3 n1 (if (q8 a0 (nth a1.Zp U) (nth a2 U) a3) < J then (q8 a0 (nth a1.Zp U) (nth a2 U) a3) else J) (U + 1) else Kz a0 a1 a2 a3 n1 J (U + 1)) else (J))
def Ym (a0 : Ze) (a1 : Zs) (a2 : List (List Int)) (a3 : ZS) : Int := (match Kz a0 a1 a2 a3 (a1.Zp.length + 1) a0.Now 0 with | z1_0 => z1_0)
def qk (a0 : Ze) (a1 : Int) : Int := (bif (decide ((XE a0.Z6 a1) < 0)) then 0 else (yd a0.Methods (nth a0.Z6 (XE a0.Z6 a1).toNat).Method))
def Yn (a0 : ZS) : Int := (bif ((((a0.Z4.length : Int) == 0) || (!(Zd (nth a0.Z4 0) 101 105))) || ((a0.Z4.length : Int) != (nth ([7, 5, 5, 9, 6] : List Int) (W ((nth a0.Z4 0) - 101)).toNat))) then 0 else (nth a0.Z4 0))
def XP (a0 : ZS) : YY × Bool := (bif (((Yn a0) != 101) || ((nth a0.Z4 6) != a0.Key)) then ((YY.mk 0 0 0 0 0 0 0), false) else ((YY.mk (nth a0.Z4 1) (nth a0.Z4 2) (nth a0.Z4 3) (nth a0.Z4 4) (nth a0.Z4 5) (nth a0.Z4 6) a0.Mark), true))
def Q7 (a0 : ZS) : Zh × Bool := (bif (((Yn a0) != 102) || ((nth a0.Z4 4) != a0.Key)) then ((Zh.mk 0 0 0 0 0), false) else ((Zh.mk (nth a0.Z4 1) (nth a0.Z4 2) (nth a0.Z4 3) (nth a0.Z4 4) a0.Mark), true))
def qf (a0 : ZS) : Zr × Bool := (bif ((Yn a0) != 103) then ((Zr.mk 0 0 0 0 0), false) else ((Zr.mk (nth a0.Z4 1) (nth a0.Z4 2) (nth a0.Z4 3) (nth a0.Z4 4) a0.Mark), true))
def kg (a0 : ZS) : Zy × Bool := (bif (((Yn a0) != 104) || ((nth a0.Z4 1) != a0.Key)) then ((Zy.mk 0 0 0 0 0 0 0 0 0), false) else ((Zy.mk (nth a0.Z4 1) (nth a0.Z4 2) (nth a0.Z4 3) (nth a0.Z4 4) (nth a0.Z4 5) (nth a0.Z4 6) (nth a0.Z4 7) (nth a0.Z4 8) a0.Mark), true))
def J6 (a0 : ZS) : Ys × Bool := (bif (((Yn a0) != 105) || ((nth a0.Z4 5) != a0.Key)) then ((Ys.mk 0 0 0 0 0 0), false) else ((Ys.mk (nth a0.Z4 1) (nth a0.Z4 2) (nth a0.Z4 3) (nth a0.Z4 4) (nth a0.Z4 5) a0.Mark), true))
def VN (a0 : List Yj) (a1 : ZS) : Bool := (bif ((Yn a1) == 101) then ((XP a1).2 && (Qh a0 a1.Key a1.Z4 a1.Mark)) else (bif ((Yn a1) == 102) then ((Q7 a1).2 && (Qh a0 a1.Key a1.Z4 a1.Mark)) else (bif ((Yn a1) == 103) then ((qf a1).2 && (Qh a0 a1.Key a1.Z4 a1.Mark)) else (bif ((Yn a1) == 104) then ((kg a1).2 && (Qh a0 a1.Key a1.Z4 a1.Mark)) else (bif ((Yn a1) == 105) then ((J6 a1).2 && (Qh a0 a1.Key a1.Z4 a1.Mark)) else (false && (Qh a0 a1.Key a1.Z4 a1.Mark)))))))
def qa (a0 : ZS) (a1 : ZS) : Nat -> Nat -> Sum Bool Unit
  | 0, _ => .inr ()
  | n1 + 1, J => (bif ((decide ((J : Int) < (a0.Z4.length : Int))) && (decide ((J : Int) < (a1.Z4.length : Int)))) then (bif ((nth a0.Z4 J) != (nth a1.Z4 J)) then (.inl (decide ((nth a0.Z4 J) < (nth a1.Z4 J)))) else qa a0 a1 n1 (J + 1)) else (.inr ()))
def WK (a0 : ZS) (a1 : ZS) : Bool := (match qa a0 a1 (a0.Z4.length + 1) 0 with | .inl r1 => r1 | .inr _ => (bif ((a0.Z4.length : Int) != (a1.Z4.length : Int)) then (decide ((a0.Z4.length : Int) < (a1.Z4.length : Int))) else (bif (a0.Key != a1.Key) then (decide (a0.Key < a1.Key)) else (decide (a0.Mark < a1.Mark)))))
def zg (a1 : Zs) (U : Nat) (wB : List ZS) (wC : Nat) : Nat -> Nat -> Nat
  | 0, _ => default
  | n3 + 1, wZ => (bif ((decide ((wZ : Int) < (wB.length : Int))) && (WK (nth wB wZ) (nth (nth a1.Zp U).ZH wC))) then zg a1 U wB wC n3 (wZ + 1) else (wZ))
def QT (a0 : Ze) (a1 : Zs) (a2 : List (List Int)) (U : Nat) : Nat -> List ZS -> Nat -> (List ZS)
  | 0, _, _ => default
  | n2 + 1, wB, wC => (bif (decide ((wC : Int) < ((nth a1.Zp U).ZH.length : Int))) then (bif (((xm wB (nth (nth a1.Zp U).ZH wC)) || (!(VN a0.Z6 (nth (nth a1.Zp U).ZH wC)))) || (decide ((Ym a0 a1 a2 (nth (nth a1.Zp U).ZH wC)) >= (qk a0 (nth (nth a1.Zp U).ZH wC).Key)))) then QT a0 a1 a2 U n2 wB (wC + 1) else (match zg a1 U wB wC (wB.length + 1) 0 with | z3_0 => QT a0 a1 a2 U n2 (((wB.take z3_0) ++ ([(nth (nth a1.Zp U).ZH wC)] : List ZS)) ++ ((wB.drop z3_0).take (wB.length - z3_0))) (wC + 1))) else (wB))
def J7 (a0 : Ze) (a1 : Zs) (a2 : List (List Int)) : Nat -> List ZS -> Nat -> (List ZS)
  | 0, _, _ => default
  | n1 + 1, J, U => (bif (decide ((U : Int) < (a1.Zp.length : Int))) then (match QT a0 a1 a2 U ((nth a1.Zp U).ZH.length + 1) J 0 with | vZ => J7 a0 a1 a2 n1 vZ (U + 1)) else (J))
def Zx (a0 : Ze) (a1 : Zs) (a2 : List (List Int)) : List ZS := (match J7 a0 a1 a2 (a1.Zp.length + 1) ([] : List ZS) 0 with | z1_0 => z1_0)
def kh (a0 : Ze) (a1 : List ZS) (a2 : Zy) : Nat -> Int -> Nat -> Int -> Int -> Int -> Int -> Int -> Int -> Int -> Int × Int × Int × Int × Int × Int × Int × Int
  | 0, _, _, _, _, _, _, _, _, _ => (default, default, default, default, default, default, default, default)
  | n1 + 1, J, U, wD, wL, wg, vN, vO, vP, vQ => (bif (decide ((U : Int) < (a1.length : Int))) then (bif ((((XP (nth a1 U)).2 && (km a0.Z6 (XP (nth a1 U)).1)) && ((XP (nth a1 U)).1.ZO == a2.ZO)) && ((XP (nth a1 U)).1.Key == a2.Key)) then kh a0 a1 a2 n1 (W (J + 1)) (U + 1) (XP (nth a1 U)).1.ZO (XP (nth a1 U)).1.Key (XP (nth a1 U)).1.yv (XP (nth a1 U)).1.XU (XP (nth a1 U)).1.To (XP (nth a1 U)).1.Zq (XP (nth a1 U)).1.Mark else kh a0 a1 a2 n1 J (U + 1) wD wL wg vN vO vP vQ) else ((J, wD, wL, wg, vN, vO, vP, vQ)))
def QU (a0 : Ze) (a1 : List ZS) (a2 : Zy) : YY × Bool := (match kh a0 a1 a2 (a1.length + 1) 0 0 0 0 0 0 0 0 0 with | (z1_0, z1_1, z1_2, z1_3, z1_4, z1_5, z1_6, z1_7) => (bif (z1_0 != 1) then ((YY.mk 0 0 0 0 0 0 0), false) else ((YY.mk z1_1 z1_2 z1_3 z1_4 z1_5 z1_6 z1_7), true)))
def EN (a0 : Int) (a1 : Int) : Int := (if a1 > a0 then a1 else a0)
def xg (a1 : List Zr) : Nat -> List Int -> Nat -> (List Int)
  | 0, _, _ => default
  | n1 + 1, J, U => (bif (decide ((U : Int) < (a1.length : Int))) then xg a1 n1 (J ++ ([(nth a1 U).Mark] : List Int)) (U + 1) else (J))
def xJ (a0 : Int) (a1 : List Zr) : Int := (bif ((a1.length : Int) == 0) then 0 else (match xg a1 (a1.length + 1) ([] : List Int) 0 with | z1_0 => (EN 1 (JR a0 z1_0))))
def zh (a0 : Int) (a1 : Zr) : ZS := (ZS.mk a0 (JC a1) a1.Mark)
def kx (a0 : Ze) (a1 : Zs) (a2 : List ZS) (U : Nat) : Nat -> Bool -> Nat -> Bool
  | 0, _, _ => default
  | n2 + 1, wB, wC => (bif (decide ((wC : Int) < ((nth a1.Yh U).length : Int))) then kx a0 a1 a2 U n2 (wB && (xm a2 (zh (X0 a0.ZM (nth (nth a1.Yh U) wC)) (nth (nth a1.Yh U) wC)))) (wC + 1) else (wB))
def z9 (a0 : Ze) (a1 : Zs) (a2 : List ZS) (a3 : Zy) : Nat -> Int -> Nat -> Int
  | 0, _, _ => default
  | n1 + 1, J, U => (bif (decide ((U : Int) < (a1.Yh.length : Int))) then (bif (((a3.kG == 0) || (!(Qu (nth a1.Yh U)))) || ((xJ a3.Method (nth a1.Yh U)) != a3.kG)) then z9 a0 a1 a2 a3 n1 J (U + 1) else (match kx a0 a1 a2 U ((nth a1.Yh U).length + 1) true 0 with | vZ => (bif (vZ && (JQ a0.ZM (nth a1.Yh U) a0.Kk).2) then z9 a0 a1 a2 a3 n1 (if (JQ a0.ZM (nth a1.Yh U) a0.Kk).1.XU > J then (JQ a0.ZM (nth a1.Yh U) a0.Kk).1.XU else J) (U + 1) else z9 a0 a1 a2 a3 n1 J (U + 1)))) else (J))
def ku (a0 : Ze) (a1 : Zs) (a2 : List ZS) (wa : Nat) : Nat -> Bool -> Nat -> Bool
  | 0, _, _ => default
  | n4 + 1, vz, uB => (bif (decide ((uB : Int) < ((nth a1.Yh wa).length : Int))) then ku a0 a1 a2 wa n4 (vz && (xm a2 (zh (X0 a0.ZM (nth (nth a1.Yh wa) uB)) (nth (nth a1.Yh wa) uB)))) (uB + 1) else (vz))
def yD (a0 : Ze) (a1 : Zs) (a2 : List ZS) (a3 : Zy) : Nat -> Int -> Nat -> Int
  | 0, _, _ => default
  | n3 + 1, wZ, wa => (bif (decide ((wa : Int) < (a1.Yh.length : Int))) then (bif (((a3.kG == 0) || (!(Qu (nth a1.Yh wa)))) || ((xJ a3.Method (nth a1.Yh wa)) != a3.kG)) then yD a0 a1 a2 a3 n3 wZ (wa + 1) else (match ku a0 a1 a2 wa ((nth a1.Yh wa).length + 1) true 0 with | z4_0 => (bif (z4_0 && (JQ a0.ZM (nth a1.Yh wa) a0.Kk).2) then yD a0 a1 a2 a3 n3 (if (JQ a0.ZM (nth a1.Yh wa) a0.Kk).1.XU > wZ then (JQ a0.ZM (nth a1.Yh wa) a0.Kk).1.XU else wZ) (wa + 1) else yD a0 a1 a2 a3 n3 wZ (wa + 1)))) else (wZ))
def X7 (a0 : Ze) (a1 : Zs) (a2 : List ZS) (a3 : Zy) : Int := (bif (decide ((XE a0.Z6 a3.Key) >= 0)) then (match z9 a0 a1 a2 a3 (a1.Yh.length + 1) (nth a0.Z6 (XE a0.Z6 a3.Key).toNat).NH 0 with | z1_0 => z1_0) else (match yD a0 a1 a2 a3 (a1.Yh.length + 1) 0 0 with | z3_0 => z3_0))
def Kf (a0 : List ZS) (a1 : YY) : Nat -> List Zh -> Nat -> (List Zh)
  | 0, _, _ => default
  | n1 + 1, J, U => (bif (decide ((U : Int) < (a0.length : Int))) then (bif (((Q7 (nth a0 U)).2 && ((Q7 (nth a0 U)).1.ZO == a1.ZO)) && ((Q7 (nth a0 U)).1.Zq == a1.Zq)) then Kf a0 a1 n1 (J ++ ([(Q7 (nth a0 U)).1] : List Zh)) (U + 1) else Kf a0 a1 n1 J (U + 1)) else (J))
def Jx (a0 : List ZS) (a1 : YY) : List Zh := (match Kf a0 a1 (a0.length + 1) ([] : List Zh) 0 with | z1_0 => z1_0)
def Zl (a0 : Int) (a1 : Int) (a2 : List Za) : List Za := (bif (Kb a0 a1).2 then (a2 ++ ([(Kb a0 a1).1] : List Za)) else a2)
def Wq (a0 : List Zh) (a1 : Int) : Nat -> Int -> Int -> Int -> Nat -> Int × Int × Int
  | 0, _, _, _, _ => (default, default, default)
  | n1 + 1, J, U, wD, wL => (bif (decide ((wL : Int) < (a0.length : Int))) then (bif ((nth a0 wL).ZO != a1) then Wq a0 a1 n1 J U wD (wL + 1) else (bif (decide ((nth a0 wL).YX < 0)) then Wq a0 a1 n1 J U (if (nth a0 wL).Mz > wD then (nth a0 wL).Mz else wD) (wL + 1) else (bif ((decide (J < 0)) || (decide ((nth a0 wL).YX < J))) then Wq a0 a1 n1 (nth a0 wL).YX (if (nth a0 wL).YX > U then (nth a0 wL).YX else U) wD (wL + 1) else Wq a0 a1 n1 J (if (nth a0 wL).YX > U then (nth a0 wL).YX else U) wD (wL + 1)))) else ((J, U, wD)))
def qb (a0 : List Zh) (a1 : Int) : Int × Int × Int := (match Wq a0 a1 (a0.length + 1) (-1) (-1) (-1) 0 with | (z1_0, z1_1, z1_2) => (z1_0, z1_1, z1_2))
def Xo (a0 : List Zh) (a1 : Int) : Int := (bif (decide ((qb a0 a1).2.1 < 0)) then 10001 else (if (W ((qb a0 a1).2.2 + 1)) > (qb a0 a1).2.1 then (W ((qb a0 a1).2.2 + 1)) else (qb a0 a1).2.1))
def UE (vZ : List Za) (se : Int) : Nat -> Nat -> Nat
  | 0, _ => default
  | n3 + 1, wZ => (bif ((decide ((wZ : Int) < (vZ.length : Int))) && (decide ((nth vZ wZ).XU < se))) then UE vZ se n3 (wZ + 1) else (wZ))
def yY (J : List Za) : Nat -> List Za -> Nat -> Int -> Int -> (List Za) × Int × Int
  | 0, _, _, _, _ => (default, default, default)
  | n2 + 1, wB, wC, vd, vg => (bif (decide ((wC : Int) < (J.length : Int))) then (bif ((decide ((W ((nth J wC).To + 1)) < vd)) || (decide ((W (vg + 1)) < (nth J wC).XU))) then yY J n2 (wB ++ ([(nth J wC)] : List Za)) (wC + 1) vd vg else yY J n2 wB (wC + 1) (if (nth J wC).XU < vd then (nth J wC).XU else vd) (if (nth J wC).To > vg then (nth J wC).To else vg)) else ((wB, vd, vg)))
def yT (a0 : List Za) : Nat -> List Za -> Nat -> (List Za)
  | 0, _, _ => default
  | n1 + 1, J, U => (bif (decide ((U : Int) < (a0.length : Int))) then (bif (!(J1 (nth a0 U))) then yT a0 n1 J (U + 1) else (match yY J (J.length + 1) ([] : List Za) 0 (nth a0 U).XU (nth a0 U).To with | (vZ, se, z2_2) => (match UE vZ se (vZ.length + 1) 0 with | z3_0 => yT a0 n1 (((vZ.take z3_0) ++ ([(Za.mk se z2_2)] : List Za)) ++ ((vZ.drop z3_0).take (vZ.length - z3_0))) (U + 1)))) else (J))
def XX (a0 : List Za) : List Za := (match yT a0 (a0.length + 1) ([] : List Za) 0 with | z1_0 => z1_0)
def xk (a0 : YY) (a1 : List Zh) : List Za := (bif (decide (a0.XU > 0)) then (bif (decide (a0.To < 10000)) then (XX (Zl (Xo a1 a0.ZO) 10000 (Zl (W (a0.To + 1)) 10000 (Zl 0 (W (a0.XU - 1)) ([] : List Za))))) else (XX (Zl (Xo a1 a0.ZO) 10000 (Zl 0 (W (a0.XU - 1)) ([] : List Za))))) else (bif (decide (a0.To < 10000)) then (XX (Zl (Xo a1 a0.ZO) 10000 (Zl (W (a0.To + 1)) 10000 ([] : List Za)))) else (XX (Zl (Xo a1 a0.ZO) 10000 ([] : List Za)))))
def Tl (a0 : Za) (a1 : Za) : Bool := ((((J1 a0) && (J1 a1)) && (decide (a1.XU <= a0.XU))) && (decide (a0.To <= a1.To)))
def js (a0 : List Za) (a1 : Za) : Nat -> Nat -> Sum Bool Unit
  | 0, _ => .inr ()
  | n1 + 1, J => (bif (decide ((J : Int) < ((XX a0).length : Int))) then (bif (Tl a1 (nth (XX a0) J)) then (.inl true) else js a0 a1 n1 (J + 1)) else (.inr ()))
def y7 (a0 : List Za) (a1 : Za) : Bool := (match js a0 a1 ((XX a0).length + 1) 0 with | .inl r1 => r1 | .inr _ => false)
def T7 (a0 : YY) (a1 : List Zh) (a2 : Za) : Bool := (y7 (xk a0 a1) a2)
def kA (a0 : List Zh) (a1 : Int) : Int := (bif (decide ((qb a0 a1).1 >= 0)) then (W ((qb a0 a1).1 - 1)) else (qb a0 a1).2.2)
def zA (a0 : Za) (a1 : Za) : Za × Bool := (bif (((!(J1 a0)) || (!(J1 a1))) || (!(J1 (Za.mk (if a1.XU > a0.XU then a1.XU else a0.XU) (if a1.To < a0.To then a1.To else a0.To))))) then ((Za.mk 0 0), false) else ((Za.mk (if a1.XU > a0.XU then a1.XU else a0.XU) (if a1.To < a0.To then a1.To else a0.To)), true))
def kD (a0 : List Za) (a1 : List Za) (U : Nat) : Nat -> List Za -> Nat -> (List Za)
  | 0, _, _ => default
  | n2 + 1, wB, wC => (bif (decide ((wC : Int) < (a1.length : Int))) then (bif (zA (nth a0 U) (nth a1 wC)).2 then kD a0 a1 U n2 (wB ++ ([(zA (nth a0 U) (nth a1 wC)).1] : List Za)) (wC + 1) else kD a0 a1 U n2 wB (wC + 1)) else (wB))
def Ua (a0 : List Za) (a1 : List Za) : Nat -> List Za -> Nat -> (List Za)
  | 0, _, _ => default
  | n1 + 1, J, U => (bif (decide ((U : Int) < (a0.length : Int))) then (match kD a0 a1 U (a1.length + 1) J 0 with | vZ => Ua a0 a1 n1 vZ (U + 1)) else (J))
def U6 (a0 : List Za) (a1 : List Za) : List Za := (match Ua a0 a1 (a0.length + 1) ([] : List Za) 0 with | z1_0 => (XX z1_0))
def yV (a0 : YY) (a1 : List Zh) : List Za := (U6 ([(xh a0)] : List Za) ([(Za.mk 0 (kA a1 a0.ZO))] : List Za))
def VF (a0 : YY) (a1 : List Zh) (a2 : Za) : Bool := (y7 (yV a0 a1) a2)
def K5 (a0 : List ZS) : Nat -> List Ys -> Nat -> (List Ys)
  | 0, _, _ => default
  | n1 + 1, J, U => (bif (decide ((U : Int) < (a0.length : Int))) then (bif (J6 (nth a0 U)).2 then K5 a0 n1 (J ++ ([(J6 (nth a0 U)).1] : List Ys)) (U + 1) else K5 a0 n1 J (U + 1)) else (J))
def xI (a0 : List ZS) : List Ys := (match K5 a0 (a0.length + 1) ([] : List Ys) 0 with | z1_0 => z1_0)
def UG (a0 : Ys) : Bool := ((((Zd a0.Org 1 99) && (Zd a0.Rk 0 99)) && (Zd a0.Key 1 99)) && (J1 (Za.mk a0.XU a0.To)))
def Jt (a0 : Ys) : List Int := ([105, a0.Org, a0.Rk, a0.XU, a0.To, a0.Key] : List Int)
def jf (a0 : List Yj) (a1 : Ys) : Bool := (((UG a1) && ((TD a0 a1.Key) == a1.Org)) && (Qh a0 a1.Key (Jt a1) a1.Mark))
def J2 (a0 : List Yj) (a1 : List Ys) (a2 : Int) (a3 : Int) : Nat -> List Za -> Nat -> (List Za)
  | 0, _, _ => default
  | n1 + 1, J, U => (bif (decide ((U : Int) < (a1.length : Int))) then (bif ((((nth a1 U).Org == a2) && ((nth a1 U).Rk == a3)) && (jf a0 (nth a1 U))) then J2 a0 a1 a2 a3 n1 (J ++ ([(Za.mk (nth a1 U).XU (nth a1 U).To)] : List Za)) (U + 1) else J2 a0 a1 a2 a3 n1 J (U + 1)) else (J))
def zK (a0 : List Yj) (a1 : List Ys) (a2 : Int) (a3 : Int) : List Za := (match J2 a0 a1 a2 a3 (a1.length + 1) ([] : List Za) 0 with | z1_0 => (XX z1_0))
def W7 (a0 : List Yj) (a1 : List Ys) (a2 : Int) (a3 : Int) (a4 : Za) : Bool := (((a2 == 0) && (J1 a4)) || (y7 (zK a0 a1 a2 a3) a4))
def ym (a0 : Ze) (a1 : Zs) (a2 : List (List Int)) (a3 : Int) (a4 : Zy) : Y0 := (bif (!(U5 a0)) then (qW 1) else (bif (!(xx a4)) then (zZ 1) else (bif (decide (a3 < 0)) then (qW 2) else (bif (a3 != a4.XW) then (zZ 2) else (bif (decide ((XE a0.Z6 a4.Key) < 0)) then (qW 3) else (bif (!(xi a0.Z6 a4)) then (zZ 4) else (bif ((decide ((Ym a0 a1 a2 (Y8 a4)) >= (qk a0 a4.Key))) || (decide ((Ym a0 a1 a2 (Y8 a4)) >= (yd a0.Methods a4.Method)))) then (qW 5) else (bif (!(QU a0 (Zx a0 a1 a2) a4).2) then (qW 6) else (bif (decide ((X7 a0 a1 (Zx a0 a1 a2) a4) > (Ym a0 a1 a2 (Y8 a4)))) then (qW 7) else (bif (T7 (QU a0 (Zx a0 a1 a2) a4).1 (Jx (Zx a0 a1 a2) (QU a0 (Zx a0 a1 a2) a4).1) (Za.mk (X7 a0 a1 (Zx a0 a1 a2) a4) (Ym a0 a1 a2 (Y8 a4)))) then (Y0.mk 2 8 (Za.mk (X7 a0 a1 (Zx a0 a1 a2) a4) (Ym a0 a1 a2 (Y8 a4)))) else (bif (!(VF (QU a0 (Zx a0 a1 a2) a4).1 (Jx (Zx a0 a1 a2) (QU a0 (Zx a0 a1 a2) a4).1) (Za.mk (X7 a0 a1 (Zx a0 a1 a2) a4) (Ym a0 a1 a2 (Y8 a4))))) then (Y0.mk 3 7 (Za.mk (X7 a0 a1 (Zx a0 a1 a2) a4) (Ym a0 a1 a2 (Y8 a4)))) else (bif (!(W7 a0.Z6 (xI (Zx a0 a1 a2)) a4.Org (QU a0 (Zx a0 a1 a2) a4).1.yv (Za.mk (X7 a0 a1 (Zx a0 a1 a2) a4) (Ym a0 a1 a2 (Y8 a4))))) then (Y0.mk 3 9 (Za.mk (X7 a0 a1 (Zx a0 a1 a2) a4) (Ym a0 a1 a2 (Y8 a4)))) else (Y0.mk 1 0 (Za.mk (X7 a0 a1 (Zx a0 a1 a2) a4) (Ym a0 a1 a2 (Y8 a4))))))))))))))))
def OZ (a0 : Ze) (a1 : Zs) (a2 : ZV) (a3 : Zy) : Y0 := (ym a0 a1 (Ja a1 a2) (yf a3.Method a2) a3)
def zS (a0 : Ze) (a1 : Zk) : Y0 := (OZ a0 (J9 a1) a1.Doc a1.Sig)
def XO (a0 : ZN) (a1 : Int) : Y0 := (bif (decide ((QI a0 a1).1 < 0)) then (Y0.mk 0 0 (Za.mk 0 0)) else (zS a0.Frame (nth (nth a0.ZB (QI a0 a1).1.toNat).ZE (QI a0 a1).2.toNat)))
def JN (a0 : ZN) : Nat -> List Int -> Nat -> (List Int)
  | 0, _, _ => default
  | n1 + 1, J, U => (bif (decide ((U : Int) < ((Z5 a0).length : Int))) then (bif ((XO a0 (nth (Z5 a0) U).Id).Code == 1) then JN a0 n1 (J ++ ([(nth (Z5 a0) U).Id] : List Int)) (U + 1) else JN a0 n1 J (U + 1)) else (J))
def Y2 (a0 : ZN) : List Int := (match JN a0 ((Z5 a0).length + 1) ([] : List Int) 0 with | z1_0 => z1_0)
def yH (a0 : ZN) : Nat -> List Int -> Nat -> (List Int)
  | 0, _, _ => default
  | n1 + 1, J, U => (bif (decide ((U : Int) < ((Y2 a0).length : Int))) then (bif (SW a0.XJ (nth (Y2 a0) U)) then yH a0 n1 (J ++ ([(nth (Y2 a0) U)] : List Int)) (U + 1) else yH a0 n1 J (U + 1)) else (J))
def Kr (a0 : ZN) : List Int := (match yH a0 ((Y2 a0).length + 1) ([] : List Int) 0 with | z1_0 => z1_0)
def jH (a0 : ZN) : ByteArray := (bif (!(jF a0)) then (⟨#[119, 111, 114, 108, 100]⟩ : ByteArray) else (bif (decide (((Kr a0).length : Int) > 0)) then (⟨#[102, 111, 114, 103, 101, 100]⟩ : ByteArray) else (⟨#[]⟩ : ByteArray)))
def Qo (a0 : ZN) (a1 : Int) : Nat -> Int -> Nat -> Int
  | 0, _, _ => default
  | n1 + 1, J, U => (bif (decide ((U : Int) < ((Z5 a0).length : Int))) then (bif ((XO a0 (nth (Z5 a0) U).Id).Code == a1) then Qo a0 a1 n1 (W (J + 1)) (U + 1) else Qo a0 a1 n1 J (U + 1)) else (J))
def Qr (a0 : ZN) (a1 : Int) : Int := (match Qo a0 a1 ((Z5 a0).length + 1) 0 0 with | z1_0 => z1_0)
def yA (a0 : List UInt8) : Nat -> Int -> Nat -> Int
  | 0, _, _ => default
  | n1 + 1, J, U => (bif (decide ((U : Int) < ((Zv a0).ZB.length : Int))) then yA a0 n1 (W (J + ((nth (Zv a0).ZB U).ZE.length : Int))) (U + 1) else (J))
def qL (a0 : List UInt8) : Bool := (bif (H5 a0) then true else (match yA a0 ((Zv a0).ZB.length + 1) 0 0 with | z1_0 => (bif (!((decide ((jH (Zv a0)) = (⟨#[]⟩ : ByteArray))) == ((jF (Zv a0)) && (((Kr (Zv a0)).length : Int) == 0)))) then false else (((W ((W ((Qr (Zv a0) 1) + (Qr (Zv a0) 2))) + (Qr (Zv a0) 3))) == z1_0) && (((Y2 (Zv a0)).length : Int) == (Qr (Zv a0) 1))))))
end Go.Mo
