/- Models of the functions: what each computes, on typed data. No condition. -/
import Derived.Test.YthjkhlcbpfnobaaGreatMo
namespace Go.Mo
open Go.Vm
def E7 (a0 : List UInt8) : Bool := (decide ((a0.length : Int) > 1048576))
def Pf (a0 : List UInt8) : Nat -> Int -> Nat -> Int
  | 0, _, _ => default
  | n1 + 1, J, U => (bif ((decide ((U : Int) < (a0.length : Int))) && (decide ((U : Int) < 4000))) then Pf a0 n1 (L8 .i64 (W ((W ((W (J * 137)) + (W ((nth a0 U).toNat : Int)))) + 11)) 1073741823) (U + 1) else (J))
def YY (a0 : List UInt8) : YC := (match Pf a0 4001 (W (193017 + (a0.length : Int))) 0 with | z1_0 => (YC.mk a0 0 z1_0))
def YP (a0 : YC) : YC × Int := (bif (decide ((a0.i : Int) < (a0.b.length : Int))) then ((YC.mk a0.b (a0.i + 1) (W ((W (a0.h * 6364136223846793005)) + 1442695040888963407))), (L8 .i64 (W ((L8 .i64 (Ch .i64 ((W ((W (a0.h * 6364136223846793005)) + 1442695040888963407)).fdiv (2 ^ (min 33 IntKind.i64.bits))) ((W ((W (a0.h * 6364136223846793005)) + 1442695040888963407)).fdiv (2 ^ (min 47 IntKind.i64.bits)))) 255) + (W ((nth a0.b a0.i).toNat : Int)))) 255)) else ((YC.mk a0.b a0.i (W ((W (a0.h * 6364136223846793005)) + 1442695040888963407))), (L8 .i64 (Ch .i64 ((W ((W (a0.h * 6364136223846793005)) + 1442695040888963407)).fdiv (2 ^ (min 33 IntKind.i64.bits))) ((W ((W (a0.h * 6364136223846793005)) + 1442695040888963407)).fdiv (2 ^ (min 47 IntKind.i64.bits)))) 255)))
def ZH (a0 : YC) (a1 : Int) : YC × Int := (bif (decide (a1 <= 0)) then (a0, 0) else (bif (decide (a1 <= 256)) then ((YP a0).1, (Int.tmod (YP a0).2 a1)) else ((YP (YP (YP a0).1).1).1, (Int.tmod (W ((W ((W ((YP a0).2 * 65536)) + (W ((YP (YP a0).1).2 * 256)))) + (YP (YP (YP a0).1).1).2)) a1))))
def xV (a0 : Int) (a1 : Int) : Int := (bif (decide (a1 > a0)) then a1 else a0)
def Vl (a0 : Int) (a1 : Int) : Int := (bif (decide (a1 < a0)) then a1 else a0)
def zM : List XD := ([(XD.mk 1 90 1 0 501), (XD.mk 2 90 3 40 502), (XD.mk 11 1 1 0 511), (XD.mk 12 1 2 20 512), (XD.mk 13 2 3 40 513), (XD.mk 21 50 1 0 521), (XD.mk 31 81 1 0 531), (XD.mk 32 82 2 20 532), (XD.mk 33 83 3 40 533), (XD.mk 34 84 4 60 534)] : List XD)
def Jh : List Zw := ([(Zw.mk 1 31 1), (Zw.mk 2 32 2), (Zw.mk 3 33 1), (Zw.mk 4 34 0)] : List Zw)
def kB : List YE := ([(YE.mk 1 0 40 50), (YE.mk 2 20 80 70), (YE.mk 3 40 120 200), (YE.mk 4 60 10001 10001)] : List YE)
def Wl (a0 : List XD) (a1 : Int) : Nat -> Nat -> Sum Int Unit
  | 0, _ => .inr ()
  | n1 + 1, J => (bif (decide ((J : Int) < (a0.length : Int))) then (bif ((nth a0 J).Number == a1) then (.inl (J : Int)) else Wl a0 a1 n1 (J + 1)) else (.inr ()))
def YT (a0 : List XD) (a1 : Int) : Int := (match Wl a0 a1 (a0.length + 1) 0 with | .inl r1 => r1 | .inr _ => (-1))
def YJ (a0 : Int) (a1 : Int) (a2 : Int) : Bool := ((decide (a0 >= a1)) && (decide (a0 <= a2)))
def Vw (a0 : Yi) : WG := (WG.mk a0.qR a0.To)
def kX (a0 : Int) : Bool := (YJ a0 0 10000)
def Mc (a0 : WG) : Bool := (((kX a0.qR) && (kX a0.To)) && (decide (a0.qR <= a0.To)))
def Ny (a0 : Yi) : Bool := ((((((YJ a0.ZQ 1 999) && (YJ a0.Key 1 99)) && (YJ a0.Zm 1 99)) && (a0.Key != a0.Zm)) && (YJ a0.zf 0 99)) && (Mc (Vw a0)))
def yD (a0 : Yi) : List Int := ([101, a0.ZQ, a0.Key, a0.zf, a0.qR, a0.To, a0.Zm] : List Int)
def Cx (a0 : Int) (a1 : Int) : Int := (bif (!(YJ a1 1 1000000000000)) then 0 else (Int.tmod (W ((Int.tmod a0 a1) + a1)) a1))
def Lc (a0 : List Int) : Nat -> Int -> Nat -> Int
  | 0, _, _ => default
  | n1 + 1, J, U => (bif (decide ((U : Int) < (a0.length : Int))) then Lc a0 n1 (Int.tmod (W ((W ((W (J * 1000003)) + (Cx (nth a0 U) 2147483647))) + 13)) 2147483647) (U + 1) else (J))
def Hx (a0 : List Int) : Int := (match Lc a0 (a0.length + 1) 11 0 with | z1_0 => z1_0)
def xS (a0 : Int) (a1 : List Int) : Int := (Hx ((([a0] : List Int) ++ a1) ++ ([a0] : List Int)))
def qj (a0 : XD) (a1 : List Int) : Int := (xS a0.ja (([a0.Method] : List Int) ++ a1))
def xO (a0 : List XD) (a1 : Yi) : Yi × Bool := (bif (((!(Ny a1)) || (decide ((YT a0 a1.Zm) < 0))) || (decide ((YT a0 a1.Key) < 0))) then ((Yi.mk 0 0 0 0 0 0 0), false) else ((Yi.mk a1.ZQ a1.Key a1.zf a1.qR a1.To a1.Zm (qj (nth a0 (YT a0 a1.Zm).toNat) (yD a1))), true))
def qU : List Yi := ([(xO zM (Yi.mk 1 11 1 0 60 1 0)).1, (xO zM (Yi.mk 2 12 1 20 100 1 0)).1, (xO zM (Yi.mk 3 13 2 40 150 2 0)).1] : List Yi)
def XS (a0 : Int) : ZG := (bif ((Vl 1 (xV 0 a0)) == 1) then (ZG.mk (Zu.mk zM Jh kB (Vl 1 (xV 0 a0)) 0) qU ([(-1), (-1), (-1)] : List Int) ([(ZE.mk 0 ([] : List ZV)), (ZE.mk 1 ([] : List ZV))] : List ZE) ([0, 0, 0, 0] : List Int) ([1] : List Int) 1 ([] : List Int)) else (ZG.mk (Zu.mk zM Jh kB (Vl 1 (xV 0 a0)) 0) qU ([(-1), (-1), (-1)] : List Int) ([(ZE.mk 0 ([] : List ZV)), (ZE.mk 1 ([] : List ZV))] : List ZE) ([0, 0, 0, 0] : List Int) ([] : List Int) 1 ([] : List Int)))
def Z8 (a0 : YC) (a1 : Int) : YC × Bool := ((ZH a0 a1).1, ((ZH a0 a1).2 == 0))
def Z2 (a0 : YC) (a1 : List Int) : YC × Int := ((ZH a0 (a1.length : Int)).1, (nth a1 (ZH a0 (a1.length : Int)).2.toNat))
def Ti (a0 : YC) (a1 : List ByteArray) : YC × ByteArray := ((ZH a0 (a1.length : Int)).1, (nth a1 (ZH a0 (a1.length : Int)).2.toNat))
def Ku (a0 : YC) : YC × ByteArray := ((Ti a0 ([(⟨#[]⟩ : ByteArray), (⟨#[97]⟩ : ByteArray), (⟨#[98]⟩ : ByteArray), (⟨#[97, 98]⟩ : ByteArray), (⟨#[121, 101, 115]⟩ : ByteArray), (⟨#[110, 111]⟩ : ByteArray), (⟨#[111, 110, 101, 32, 104, 117, 110, 100, 114, 101, 100]⟩ : ByteArray)] : List ByteArray)).1, (Ti a0 ([(⟨#[]⟩ : ByteArray), (⟨#[97]⟩ : ByteArray), (⟨#[98]⟩ : ByteArray), (⟨#[97, 98]⟩ : ByteArray), (⟨#[121, 101, 115]⟩ : ByteArray), (⟨#[110, 111]⟩ : ByteArray), (⟨#[111, 110, 101, 32, 104, 117, 110, 100, 114, 101, 100]⟩ : ByteArray)] : List ByteArray)).2)
def zx (a0 : ZU) : Nat -> Nat -> Sum Bool Unit
  | 0, _ => .inr ()
  | n2 + 1, uI => (bif (decide ((uI : Int) < (a0.QL.length : Int))) then (bif (!(YJ (nth a0.QL uI) 1 1000000000000)) then (.inl false) else zx a0 n2 (uI + 1)) else (.inr ()))
def yN (a0 : ZU) : Nat -> Nat -> Sum Bool Unit
  | 0, _ => .inr ()
  | n1 + 1, J => (bif (decide ((J : Int) < (a0.Y3.length : Int))) then (bif (decide (((nth a0.Y3 J).size : Int) > 40)) then (.inl false) else yN a0 n1 (J + 1)) else (.inr ()))
def K9 (a0 : ZU) : Bool := (match yN a0 (a0.Y3.length + 1) 0 with | .inl r1 => r1 | .inr _ => (match zx a0 (a0.QL.length + 1) 0 with | .inl r2 => r2 | .inr _ => (((YJ a0.jL 0 999) && (YJ (a0.Y3.length : Int) 1 6)) && ((a0.QL.length : Int) == (a0.Y3.length : Int)))))
def V0 (a0 : Int) : Bool := (YJ a0 1 2147483646)
def Kp (a0 : Int) (a1 : List ByteArray) (a2 : Int) : Nat -> Nat -> List Int -> (List Int)
  | 0, _, _ => default
  | n1 + 1, J, U => (bif (decide ((J : Int) < (a1.length : Int))) then Kp a0 a1 a2 n1 (J + 1) (U ++ ([(xV 1 (xS a2 ([a0, (J : Int)] : List Int)))] : List Int)) else (U))
def Kr (a0 : Int) (a1 : List ByteArray) (a2 : Int) : ZU × Bool := (match Kp a0 a1 a2 (a1.length + 1) 0 ([] : List Int) with | z1_0 => (bif ((!(K9 (ZU.mk a0 a1 z1_0))) || (!(V0 a2))) then ((ZU.mk 0 ([] : List ByteArray) ([] : List Int)), false) else ((ZU.mk a0 a1 z1_0), true)))
def qb : Nat -> List ByteArray -> Int -> List UInt8 -> Nat -> Int -> (List ByteArray) × (List UInt8) × Nat × Int
  | 0, _, _, _, _, _ => (default, default, default, default)
  | n1 + 1, J, U, uF, uR, ud => (bif (decide (U > 0)) then qb n1 (J ++ ([(Ku (YC.mk uF uR ud)).2] : List ByteArray)) (W (U - 1)) (Ku (YC.mk uF uR ud)).1.b (Ku (YC.mk uF uR ud)).1.i (Ku (YC.mk uF uR ud)).1.h else ((J, uF, uR, ud)))
def XO (a0 : YC) : YC × ZU := (match qb 5 ([] : List ByteArray) (W (1 + (ZH a0 3).2)) (ZH a0 3).1.b (ZH a0 3).1.i (ZH a0 3).1.h with | (z1_0, z1_1, z1_2, z1_3) => ((ZH (YC.mk z1_1 z1_2 z1_3) 5).1, (Kr (ZH (YC.mk z1_1 z1_2 z1_3) 5).2 z1_0 11).1))
def Yv (a0 : YC) (a1 : Int) : YC × Zg := (bif (decide (a1 >= 20)) then (bif (decide (a1 >= 40)) then (bif (decide (a1 >= 60)) then ((Z2 a0 ([0, (-10), 40] : List Int)).1, (Zg.mk 5 0 (Z2 a0 ([0, (-10), 40] : List Int)).2 0 0 (ZU.mk 0 ([] : List ByteArray) ([] : List Int)) ([2, 3, 4] : List Int))) else ((Z2 a0 ([0, (-10), 40] : List Int)).1, (Zg.mk 5 0 (Z2 a0 ([0, (-10), 40] : List Int)).2 0 0 (ZU.mk 0 ([] : List ByteArray) ([] : List Int)) ([1, 2, 3] : List Int)))) else (bif (decide (a1 >= 60)) then ((Z2 a0 ([0, (-10), 40] : List Int)).1, (Zg.mk 5 0 (Z2 a0 ([0, (-10), 40] : List Int)).2 0 0 (ZU.mk 0 ([] : List ByteArray) ([] : List Int)) ([2, 3, 4] : List Int))) else ((Z2 a0 ([0, (-10), 40] : List Int)).1, (Zg.mk 5 0 (Z2 a0 ([0, (-10), 40] : List Int)).2 0 0 (ZU.mk 0 ([] : List ByteArray) ([] : List Int)) ([1, 2] : List Int))))) else (bif (decide (a1 >= 40)) then (bif (decide (a1 >= 60)) then ((Z2 a0 ([0, (-10), 40] : List Int)).1, (Zg.mk 5 0 (Z2 a0 ([0, (-10), 40] : List Int)).2 0 0 (ZU.mk 0 ([] : List ByteArray) ([] : List Int)) ([2, 3, 4] : List Int))) else ((Z2 a0 ([0, (-10), 40] : List Int)).1, (Zg.mk 5 0 (Z2 a0 ([0, (-10), 40] : List Int)).2 0 0 (ZU.mk 0 ([] : List ByteArray) ([] : List Int)) ([1, 2, 3] : List Int)))) else (bif (decide (a1 >= 60)) then ((Z2 a0 ([0, (-10), 40] : List Int)).1, (Zg.mk 5 0 (Z2 a0 ([0, (-10), 40] : List Int)).2 0 0 (ZU.mk 0 ([] : List ByteArray) ([] : List Int)) ([2, 3, 4] : List Int))) else ((Z2 a0 ([0, (-10), 40] : List Int)).1, (Zg.mk 5 0 (Z2 a0 ([0, (-10), 40] : List Int)).2 0 0 (ZU.mk 0 ([] : List ByteArray) ([] : List Int)) ([1] : List Int))))))
def Zt (a0 : YC) : YC × List Zg := ((Yv (Yv (Yv (XO (Z2 a0 ([11, 12] : List Int)).1).1 25).1 43).1 65).1, (((([(Zg.mk 1 22 0 0 0 (ZU.mk 0 ([] : List ByteArray) ([] : List Int)) ([] : List Int)), (Zg.mk 2 0 (Z2 a0 ([11, 12] : List Int)).2 0 10000 (XO (Z2 a0 ([11, 12] : List Int)).1).2 ([] : List Int)), (Zg.mk 1 3 0 0 0 (ZU.mk 0 ([] : List ByteArray) ([] : List Int)) ([] : List Int)), (Zg.mk 3 1 0 0 0 (ZU.mk 0 ([] : List ByteArray) ([] : List Int)) ([] : List Int))] : List Zg) ++ ([(Yv (XO (Z2 a0 ([11, 12] : List Int)).1).1 25).2, (Zg.mk 1 18 0 0 0 (ZU.mk 0 ([] : List ByteArray) ([] : List Int)) ([] : List Int))] : List Zg)) ++ ([(Yv (Yv (XO (Z2 a0 ([11, 12] : List Int)).1).1 25).1 43).2, (Zg.mk 1 22 0 0 0 (ZU.mk 0 ([] : List ByteArray) ([] : List Int)) ([] : List Int))] : List Zg)) ++ ([(Yv (Yv (Yv (XO (Z2 a0 ([11, 12] : List Int)).1).1 25).1 43).1 65).2, (Zg.mk 1 20 0 0 0 (ZU.mk 0 ([] : List ByteArray) ([] : List Int)) ([] : List Int))] : List Zg)))
def Z0 (a0 : YC) : YC × Zg := (bif ((ZH a0 16).2 == 0) then ((Z2 (ZH a0 16).1 ([1, 5, 10, 20, 30] : List Int)).1, (Zg.mk 1 (Z2 (ZH a0 16).1 ([1, 5, 10, 20, 30] : List Int)).2 0 0 0 (ZU.mk 0 ([] : List ByteArray) ([] : List Int)) ([] : List Int))) else (bif ((ZH a0 16).2 == 1) then ((Z2 (ZH a0 16).1 ([1, 5, 10, 20, 30] : List Int)).1, (Zg.mk 1 (Z2 (ZH a0 16).1 ([1, 5, 10, 20, 30] : List Int)).2 0 0 0 (ZU.mk 0 ([] : List ByteArray) ([] : List Int)) ([] : List Int))) else (bif ((ZH a0 16).2 == 2) then ((Z2 (ZH a0 16).1 ([1, 5, 10, 20, 30] : List Int)).1, (Zg.mk 1 (Z2 (ZH a0 16).1 ([1, 5, 10, 20, 30] : List Int)).2 0 0 0 (ZU.mk 0 ([] : List ByteArray) ([] : List Int)) ([] : List Int))) else (bif ((ZH a0 16).2 == 3) then ((XO (Z2 (Z2 (ZH (ZH a0 16).1 2).1 ([11, 12, 13] : List Int)).1 ([30, 10000] : List Int)).1).1, (Zg.mk 2 (ZH (ZH a0 16).1 2).2 (Z2 (ZH (ZH a0 16).1 2).1 ([11, 12, 13] : List Int)).2 0 (Z2 (Z2 (ZH (ZH a0 16).1 2).1 ([11, 12, 13] : List Int)).1 ([30, 10000] : List Int)).2 (XO (Z2 (Z2 (ZH (ZH a0 16).1 2).1 ([11, 12, 13] : List Int)).1 ([30, 10000] : List Int)).1).2 ([] : List Int))) else (bif ((ZH a0 16).2 == 4) then ((XO (Z2 (Z2 (ZH (ZH a0 16).1 2).1 ([11, 12, 13] : List Int)).1 ([30, 10000] : List Int)).1).1, (Zg.mk 2 (ZH (ZH a0 16).1 2).2 (Z2 (ZH (ZH a0 16).1 2).1 ([11, 12, 13] : List Int)).2 0 (Z2 (Z2 (ZH (ZH a0 16).1 2).1 ([11, 12, 13] : List Int)).1 ([30, 10000] : List Int)).2 (XO (Z2 (Z2 (ZH (ZH a0 16).1 2).1 ([11, 12, 13] : List Int)).1 ([30, 10000] : List Int)).1).2 ([] : List Int))) else (bif ((ZH a0 16).2 == 5) then ((ZH (ZH a0 16).1 3).1, (Zg.mk 3 (W (1 + (ZH (ZH a0 16).1 3).2)) 0 0 0 (ZU.mk 0 ([] : List ByteArray) ([] : List Int)) ([] : List Int))) else (bif ((ZH a0 16).2 == 6) then ((ZH (ZH a0 16).1 3).1, (Zg.mk 3 (W (1 + (ZH (ZH a0 16).1 3).2)) 0 0 0 (ZU.mk 0 ([] : List ByteArray) ([] : List Int)) ([] : List Int))) else (bif ((ZH a0 16).2 == 7) then ((ZH (ZH a0 16).1 3).1, (Zg.mk 4 (ZH (ZH a0 16).1 3).2 0 0 0 (ZU.mk 0 ([] : List ByteArray) ([] : List Int)) ([] : List Int))) else (bif ((ZH a0 16).2 == 8) then ((ZH (ZH (ZH (ZH a0 16).1 2).1 2).1 3).1, (Zg.mk 6 (ZH (ZH a0 16).1 2).2 (ZH (ZH (ZH a0 16).1 2).1 2).2 (W (1 + (ZH (ZH (ZH (ZH a0 16).1 2).1 2).1 3).2)) 0 (ZU.mk 0 ([] : List ByteArray) ([] : List Int)) ([] : List Int))) else (bif ((ZH a0 16).2 == 9) then ((ZH (ZH a0 16).1 2).1, (Zg.mk 7 (ZH (ZH a0 16).1 2).2 0 0 0 (ZU.mk 0 ([] : List ByteArray) ([] : List Int)) ([] : List Int))) else (bif ((ZH a0 16).2 == 10) then ((XO (Z2 (ZH (ZH a0 16).1 2).1 ([11, 12] : List Int)).1).1, (Zg.mk 8 (ZH (ZH a0 16).1 2).2 (Z2 (ZH (ZH a0 16).1 2).1 ([11, 12] : List Int)).2 0 0 (XO (Z2 (ZH (ZH a0 16).1 2).1 ([11, 12] : List Int)).1).2 ([] : List Int))) else (bif ((ZH a0 16).2 == 11) then ((Z2 (ZH (ZH a0 16).1 4).1 ([5, 25, 60] : List Int)).1, (Zg.mk 9 (W (1 + (ZH (ZH a0 16).1 4).2)) (Z2 (ZH (ZH a0 16).1 4).1 ([5, 25, 60] : List Int)).2 0 0 (ZU.mk 0 ([] : List ByteArray) ([] : List Int)) ([] : List Int))) else (bif ((ZH a0 16).2 == 12) then ((Z2 (ZH (ZH a0 16).1 3).1 ([10, 40, 60] : List Int)).1, (Zg.mk 10 (W (1 + (ZH (ZH a0 16).1 3).2)) (Z2 (ZH (ZH a0 16).1 3).1 ([10, 40, 60] : List Int)).2 0 0 (ZU.mk 0 ([] : List ByteArray) ([] : List Int)) ([] : List Int))) else ((ZH (Z2 (ZH (ZH a0 16).1 2).1 ([0, (-10), 40] : List Int)).1 3).1, (Zg.mk 5 (ZH (ZH a0 16).1 2).2 (Z2 (ZH (ZH a0 16).1 2).1 ([0, (-10), 40] : List Int)).2 0 0 (ZU.mk 0 ([] : List ByteArray) ([] : List Int)) ((([1, 2, 3, 4] : List Int).drop (ZH (Z2 (ZH (ZH a0 16).1 2).1 ([0, (-10), 40] : List Int)).1 3).2.toNat).take (4 - (ZH (Z2 (ZH (ZH a0 16).1 2).1 ([0, (-10), 40] : List Int)).1 3).2.toNat)))))))))))))))))
def Jd : Nat -> List Zg -> Int -> List UInt8 -> Nat -> Int -> (List Zg) × (List UInt8) × Nat × Int
  | 0, _, _, _, _, _ => (default, default, default, default)
  | n1 + 1, J, U, uF, uR, ud => (bif (decide (U > 0)) then Jd n1 (J ++ ([(Z0 (YC.mk uF uR ud)).2] : List Zg)) (W (U - 1)) (Z0 (YC.mk uF uR ud)).1.b (Z0 (YC.mk uF uR ud)).1.i (Z0 (YC.mk uF uR ud)).1.h else ((J, uF, uR, ud)))
def JZ : Nat -> List Zg -> Int -> List UInt8 -> Nat -> Int -> (List Zg) × (List UInt8) × Nat × Int
  | 0, _, _, _, _, _ => (default, default, default, default)
  | n2 + 1, uI, uS, rh, ri, rj => (bif (decide (uS > 0)) then JZ n2 (uI ++ ([(Z0 (YC.mk rh ri rj)).2] : List Zg)) (W (uS - 1)) (Z0 (YC.mk rh ri rj)).1.b (Z0 (YC.mk rh ri rj)).1.i (Z0 (YC.mk rh ri rj)).1.h else ((uI, rh, ri, rj)))
def Z7 (a0 : YC) (a1 : Int) : YC × List Zg := (bif (Z8 a0 2).2 then (match Jd ((ZH (ZH (Zt (Z8 a0 2).1).1 (W (((Zt (Z8 a0 2).1).2.length : Int) + 1))).1 a1).2.toNat + 2) ((Zt (Z8 a0 2).1).2.take (ZH (Zt (Z8 a0 2).1).1 (W (((Zt (Z8 a0 2).1).2.length : Int) + 1))).2.toNat) (ZH (ZH (Zt (Z8 a0 2).1).1 (W (((Zt (Z8 a0 2).1).2.length : Int) + 1))).1 a1).2 (ZH (ZH (Zt (Z8 a0 2).1).1 (W (((Zt (Z8 a0 2).1).2.length : Int) + 1))).1 a1).1.b (ZH (ZH (Zt (Z8 a0 2).1).1 (W (((Zt (Z8 a0 2).1).2.length : Int) + 1))).1 a1).1.i (ZH (ZH (Zt (Z8 a0 2).1).1 (W (((Zt (Z8 a0 2).1).2.length : Int) + 1))).1 a1).1.h with | (z1_0, z1_1, z1_2, z1_3) => ((YC.mk z1_1 z1_2 z1_3), z1_0)) else (match JZ ((ZH (Z8 a0 2).1 a1).2.toNat + 2) ([] : List Zg) (ZH (Z8 a0 2).1 a1).2 (ZH (Z8 a0 2).1 a1).1.b (ZH (Z8 a0 2).1 a1).1.i (ZH (Z8 a0 2).1 a1).1.h with | (z2_0, z2_1, z2_2, z2_3) => ((YC.mk z2_1 z2_2 z2_3), z2_0)))
def ZS (a0 : List UInt8) : ZG × (List Zg) := ((XS (ZH (YY a0) 2).2), (Z7 (ZH (YY a0) 2).1 12).2)
def U8 (a0 : Zu) : Zu := a0
def RB (a0 : List Int) : List Int := a0
def kp (a0 : ZU) : ZU := a0
def Ut (a0 : Ze) : Ze := a0
def qC (a0 : List Ze) : Nat -> List Ze -> Nat -> (List Ze)
  | 0, _, _ => default
  | n1 + 1, J, U => (bif (decide ((U : Int) < (a0.length : Int))) then qC a0 n1 (J ++ ([(nth a0 U)] : List Ze)) (U + 1) else (J))
def ju (a0 : List Ze) : List Ze := (match qC a0 (a0.length + 1) ([] : List Ze) 0 with | z1_0 => z1_0)
def UH (a0 : List Zp) : List Zp := a0
def Ww (a0 : Zb) : Zb := a0
def xn (a0 : Zi) : Nat -> Nat -> List Zb -> (List Zb)
  | 0, _, _ => default
  | n1 + 1, J, U => (bif (decide ((J : Int) < (a0.Zl.length : Int))) then xn a0 n1 (J + 1) (U ++ ([(nth a0.Zl J)] : List Zb)) else (U))
def j7 (a0 : Zi) : Zi := (match xn a0 (a0.Zl.length + 1) 0 ([] : List Zb) with | z1_0 => (Zi.mk a0.ZL z1_0))
def Sv (a0 : ZV) : ZV := a0
def y8 (a0 : ZE) : Nat -> Nat -> List ZV -> (List ZV)
  | 0, _, _ => default
  | n1 + 1, J, U => (bif (decide ((J : Int) < (a0.ZC.length : Int))) then y8 a0 n1 (J + 1) (U ++ ([(nth a0.ZC J)] : List ZV)) else (U))
def jF (a0 : ZE) : ZE := (match y8 a0 (a0.ZC.length + 1) 0 ([] : List ZV) with | z1_0 => (ZE.mk a0.Id z1_0))
def jH (a0 : ZG) : Nat -> Nat -> List ZE -> (List ZE)
  | 0, _, _ => default
  | n1 + 1, J, U => (bif (decide ((J : Int) < (a0.ZA.length : Int))) then jH a0 n1 (J + 1) (U ++ ([(nth a0.ZA J)] : List ZE)) else (U))
def Wb (a0 : ZG) : ZG := (match jH a0 (a0.ZA.length + 1) 0 ([] : List ZE) with | z1_0 => (ZG.mk a0.Frame a0.ZM a0.Zy z1_0 a0.Yb a0.YO a0.Next a0.YF))
def ZZ (a0 : Int) (a1 : Int) (a2 : Int) : Bool := ((decide (a1 <= a0)) && (decide (a0 <= a2)))
def KZ (a0 : ZG) (a1 : Int) : ZG × Bool := (bif ((!(ZZ a1 0 100)) || (decide ((W (a0.Frame.Now + a1)) > 10000))) then (a0, false) else ((ZG.mk (Zu.mk a0.Frame.Zq a0.Frame.ZF a0.Frame.Methods a0.Frame.KE (W (a0.Frame.Now + a1))) a0.ZM a0.Zy a0.ZA a0.Yb a0.YO a0.Next a0.YF), true))
def WL (a0 : List XD) (a1 : Int) : Nat -> Nat -> Sum Int Unit
  | 0, _ => .inr ()
  | n1 + 1, J => (bif (decide ((J : Int) < (a0.length : Int))) then (bif ((nth a0 J).Number == a1) then (.inl (J : Int)) else WL a0 a1 n1 (J + 1)) else (.inr ()))
def Yq (a0 : List XD) (a1 : Int) : Int := (match WL a0 a1 (a0.length + 1) 0 with | .inl r1 => r1 | .inr _ => (-1))
def qA (a0 : List YE) (a1 : Int) : Nat -> Int -> Nat -> Int
  | 0, _, _ => default
  | n1 + 1, J, U => (bif (decide ((U : Int) < (a0.length : Int))) then (bif (((decide ((nth a0 U).Ua <= a1)) && (decide (a1 < (nth a0 U).Ends))) && ((decide (J < 0)) || (decide ((nth a0 U).Ends > (nth a0 J.toNat).Ends)))) then qA a0 a1 n1 (U : Int) (U + 1) else qA a0 a1 n1 J (U + 1)) else (J))
def ZT (a0 : List YE) (a1 : Int) : Int := (match qA a0 a1 (a0.length + 1) (-1) 0 with | z1_0 => (bif (decide (z1_0 < 0)) then (-1) else (nth a0 z1_0.toNat).Id))
def Ya (a0 : ZG) (a1 : Int) : Bool := (ZZ a1 0 (W ((a0.ZA.length : Int) - 1)))
def qE (a0 : ZU) : Nat -> Nat -> Sum Bool Unit
  | 0, _ => .inr ()
  | n1 + 1, J => (bif (decide ((J : Int) < (a0.Y3.length : Int))) then (bif ((decide (((nth a0.Y3 J).size : Int) > 40)) || (!(ZZ (nth a0.QL J) 1 1000000000000))) then (.inl false) else qE a0 n1 (J + 1)) else (.inr ()))
def yf (a0 : ZU) : Bool := (bif (((!(ZZ a0.jL 0 999)) || (!(ZZ (a0.Y3.length : Int) 1 6))) || ((a0.QL.length : Int) != (a0.Y3.length : Int))) then false else (match qE a0 (a0.Y3.length + 1) 0 with | .inl r1 => r1 | .inr _ => true))
def jT (a0 : List UInt8) : Nat -> List Int -> Nat -> (List Int)
  | 0, _, _ => default
  | n1 + 1, J, U => (bif (decide ((U : Int) < (a0.length : Int))) then jT a0 n1 (J ++ ([(W ((nth a0 U).toNat : Int))] : List Int)) (U + 1) else (J))
def j9 (a0 : List UInt8) : List Int := (match jT a0 (a0.length + 1) ([] : List Int) 0 with | z1_0 => z1_0)
def BD (a0 : Int) (a1 : Int) : Int := (bif (!(ZZ a1 1 1000000000000)) then 0 else (Int.tmod (W ((Int.tmod a0 a1) + a1)) a1))
def Ml (a0 : List Int) : Nat -> Int -> Nat -> Int
  | 0, _, _ => default
  | n1 + 1, J, U => (bif (decide ((U : Int) < (a0.length : Int))) then Ml a0 n1 (Int.tmod (W ((W ((W (J * 1000003)) + (BD (nth a0 U) 2147483647))) + 13)) 2147483647) (U + 1) else (J))
def Hw (a0 : List Int) : Int := (match Ml a0 (a0.length + 1) 11 0 with | z1_0 => z1_0)
def Ka (a0 : Int) (a1 : List Int) : Int := (Hw (([7, a0] : List Int) ++ a1))
def Vx (a0 : Int) (a1 : ByteArray) (a2 : Int) : Int := (Ka a0 (([a2] : List Int) ++ (j9 a1.data.toList)))
def VB (a0 : Int) (a1 : ZU) : Nat -> List Int -> Nat -> (List Int)
  | 0, _, _ => default
  | n1 + 1, J, U => (bif (decide ((U : Int) < (a1.Y3.length : Int))) then VB a0 a1 n1 (J ++ ([(Vx a0 (nth a1.Y3 U) (nth a1.QL U))] : List Int)) (U + 1) else (J))
def Yo (a0 : Int) (a1 : ZU) : Int := (bif (!(yf a1)) then (-1) else (match VB a0 a1 (a1.Y3.length + 1) ([a1.jL] : List Int) 0 with | z1_0 => (Ka a0 z1_0)))
def QC (a0 : Zv) : List Int := ([104, a0.Key, a0.ZQ, a0.Method, a0.XJ, a0.xI, a0.Org, a0.xL, a0.km] : List Int)
def TA (a0 : Int) (a1 : List Int) : Int := (Hw ((([a0] : List Int) ++ a1) ++ ([a0] : List Int)))
def RF (a0 : XD) (a1 : List Int) : Int := (TA a0.ja (([a0.Method] : List Int) ++ a1))
def zz (a0 : List XD) (a1 : Int) (a2 : List Int) : Int × Bool := (bif (decide ((Yq a0 a1) < 0)) then (0, false) else ((RF (nth a0 (Yq a0 a1).toNat) a2), true))
def W5 (a0 : Zv) : Bool := ((((((((ZZ a0.Key 1 99) && (ZZ a0.ZQ 1 999)) && (ZZ a0.Method 0 99)) && (ZZ a0.Org 0 99)) && (ZZ a0.xI 1 3)) && (ZZ a0.XJ 0 1000000000000)) && (ZZ a0.xL 0 1000000000000)) && (ZZ a0.km 0 1000000000000))
def Y8 (a0 : List XD) (a1 : Zv) : Zv × Bool := (bif ((!(W5 a1)) || (!(zz a0 a1.Key (QC a1)).2)) then ((Zv.mk 0 0 0 0 0 0 0 0 0), false) else ((Zv.mk a1.Key a1.ZQ a1.Method a1.XJ a1.xI a1.Org a1.xL a1.km (zz a0 a1.Key (QC a1)).1), true))
def Qo (a0 : Zv) : Ze := (Ze.mk a0.Key (QC a0) a0.Mark)
def z5 (a0 : Yi) : List Int := ([101, a0.ZQ, a0.Key, a0.zf, a0.qR, a0.To, a0.Zm] : List Int)
def Ja (a0 : Yi) : Ze := (Ze.mk a0.Zm (z5 a0) a0.Mark)
def xq (a0 : ZE) (a1 : Int) : Nat -> Nat -> Sum Int Unit
  | 0, _ => .inr ()
  | n1 + 1, J => (bif (decide ((J : Int) < (a0.ZC.length : Int))) then (bif ((nth a0.ZC J).Id == a1) then (.inl (J : Int)) else xq a0 a1 n1 (J + 1)) else (.inr ()))
def Za (a0 : ZE) (a1 : Int) : Int := (match xq a0 a1 (a0.ZC.length + 1) 0 with | .inl r1 => r1 | .inr _ => (-1))
def zP (a0 : Int) : Bool := (ZZ a0 0 10000)
def qu (a0 : List Int) (a1 : List Int) : Nat -> Nat -> Sum Bool Unit
  | 0, _ => .inr ()
  | n1 + 1, J => (bif (decide ((J : Int) < (a0.length : Int))) then (bif ((nth a0 J) != (nth a1 J)) then (.inl false) else qu a0 a1 n1 (J + 1)) else (.inr ()))
def J8 (a0 : List Int) (a1 : List Int) : Bool := (bif ((a0.length : Int) != (a1.length : Int)) then false else (match qu a0 a1 (a0.length + 1) 0 with | .inl r1 => r1 | .inr _ => true))
def Jg (a0 : Ze) (a1 : Ze) : Bool := (((a0.Key == a1.Key) && (a0.Mark == a1.Mark)) && (J8 a0.XC a1.XC))
def Vv (a0 : List Ze) (a1 : Ze) : Nat -> Nat -> Sum Bool Unit
  | 0, _ => .inr ()
  | n1 + 1, J => (bif (decide ((J : Int) < (a0.length : Int))) then (bif (Jg (nth a0 J) a1) then (.inl true) else Vv a0 a1 n1 (J + 1)) else (.inr ()))
def Sf (a0 : List Ze) (a1 : Ze) : Bool := (match Vv a0 a1 (a0.length + 1) 0 with | .inl r1 => r1 | .inr _ => false)
def j6 (a0 : Zi) : Nat -> Nat -> Sum Bool Unit
  | 0, _ => .inr ()
  | n2 + 1, uI => (bif (decide ((uI : Int) < (a0.Zl.length : Int))) then (bif ((!(ZZ (nth a0.Zl uI).Count 1 (a0.ZL.length : Int))) || ((decide ((uI : Int) > 0)) && (decide ((nth a0.Zl uI).Count < (nth a0.Zl (uI - 1)).Count)))) then (.inl false) else j6 a0 n2 (uI + 1)) else (.inr ()))
def jq (a0 : Zi) : Nat -> Nat -> Sum Bool Unit
  | 0, _ => .inr ()
  | n1 + 1, J => (bif (decide ((J : Int) < (a0.ZL.length : Int))) then (bif (Sf (a0.ZL.take J) (nth a0.ZL J)) then (.inl false) else jq a0 n1 (J + 1)) else (.inr ()))
def Qe (a0 : Zi) : Bool := (bif ((!(ZZ (a0.ZL.length : Int) 1 12)) || (decide ((a0.Zl.length : Int) > 8))) then false else (match jq a0 (a0.ZL.length + 1) 0 with | .inl r1 => r1 | .inr _ => (match j6 a0 (a0.Zl.length + 1) 0 with | .inl r2 => r2 | .inr _ => true)))
def KG (a0 : ZV) : Bool := (((((ZZ a0.Id 1 999) && (zP a0.Yr)) && (yf a0.Doc)) && (Qe a0.ZJ)) && (Jg (nth a0.ZJ.ZL 0) (Qo a0.Sig)))
def jD (a0 : ZE) : Nat -> Nat -> Sum Bool Unit
  | 0, _ => .inr ()
  | n1 + 1, J => (bif (decide ((J : Int) < (a0.ZC.length : Int))) then (bif ((!(KG (nth a0.ZC J))) || ((decide ((J : Int) > 0)) && (decide ((nth a0.ZC (J - 1)).Id >= (nth a0.ZC J).Id)))) then (.inl false) else jD a0 n1 (J + 1)) else (.inr ()))
def YX (a0 : ZE) : Bool := (match jD a0 (a0.ZC.length + 1) 0 with | .inl r1 => r1 | .inr _ => ((ZZ a0.Id 0 99) && (decide ((a0.ZC.length : Int) <= 8))))
def jW (a0 : ZE) (a1 : ZV) : Nat -> Nat -> Nat
  | 0, _ => default
  | n1 + 1, J => (bif ((decide ((J : Int) < (a0.ZC.length : Int))) && (decide ((nth a0.ZC J).Id < a1.Id))) then jW a0 a1 n1 (J + 1) else (J))
def Yd (a0 : ZE) (a1 : ZV) : ZE × Bool := (bif ((decide ((Za a0 a1.Id) >= 0)) || (!(YX a0))) then (a0, false) else (match jW a0 a1 (a0.ZC.length + 1) 0 with | z1_0 => (bif (!(YX (ZE.mk a0.Id (((a0.ZC.take z1_0) ++ ([a1] : List ZV)) ++ (a0.ZC.drop z1_0))))) then (a0, false) else ((ZE.mk a0.Id (((a0.ZC.take z1_0) ++ ([a1] : List ZV)) ++ (a0.ZC.drop z1_0))), true))))
def QE (a0 : ZG) (a1 : Int) (a2 : Int) (a3 : ZU) (a4 : Int) (a5 : Int) : Nat -> Nat -> Sum (ZG × Bool) Unit
  | 0, _ => .inr ()
  | n1 + 1, J => (bif (decide ((J : Int) < (a0.ZM.length : Int))) then (bif ((nth a0.ZM J).Key != a2) then QE a0 a1 a2 a3 a4 a5 n1 (J + 1) else (bif ((!(Y8 a0.Frame.Zq (Zv.mk a2 (nth a0.ZM J).ZQ (ZT a0.Frame.Methods a0.Frame.Now) (Yo (ZT a0.Frame.Methods a0.Frame.Now) a3) 1 a4 0 0 0)).2) || (!(Yd (nth a0.ZA a1.toNat) (ZV.mk a0.Next a5 a3 (Y8 a0.Frame.Zq (Zv.mk a2 (nth a0.ZM J).ZQ (ZT a0.Frame.Methods a0.Frame.Now) (Yo (ZT a0.Frame.Methods a0.Frame.Now) a3) 1 a4 0 0 0)).1 (Zi.mk ([(Qo (Y8 a0.Frame.Zq (Zv.mk a2 (nth a0.ZM J).ZQ (ZT a0.Frame.Methods a0.Frame.Now) (Yo (ZT a0.Frame.Methods a0.Frame.Now) a3) 1 a4 0 0 0)).1), (Ja (nth a0.ZM J))] : List Ze) ([] : List Zb)))).2)) then (.inl (a0, false)) else (.inl ((ZG.mk a0.Frame a0.ZM a0.Zy (a0.ZA.set a1.toNat (Yd (nth a0.ZA a1.toNat) (ZV.mk a0.Next a5 a3 (Y8 a0.Frame.Zq (Zv.mk a2 (nth a0.ZM J).ZQ (ZT a0.Frame.Methods a0.Frame.Now) (Yo (ZT a0.Frame.Methods a0.Frame.Now) a3) 1 a4 0 0 0)).1 (Zi.mk ([(Qo (Y8 a0.Frame.Zq (Zv.mk a2 (nth a0.ZM J).ZQ (ZT a0.Frame.Methods a0.Frame.Now) (Yo (ZT a0.Frame.Methods a0.Frame.Now) a3) 1 a4 0 0 0)).1), (Ja (nth a0.ZM J))] : List Ze) ([] : List Zb)))).1) a0.Yb a0.YO (W (a0.Next + 1)) a0.YF), true)))) else (.inr ()))
def Yt (a0 : ZG) (a1 : Int) (a2 : Int) (a3 : ZU) (a4 : Int) (a5 : Int) : ZG × Bool := (bif (((!(Ya a0 a1)) || (decide ((Yq a0.Frame.Zq a2) < 0))) || (decide ((ZT a0.Frame.Methods a0.Frame.Now) < 0))) then (a0, false) else (match QE a0 a1 a2 a3 a4 a5 (a0.ZM.length + 1) 0 with | .inl r1 => r1 | .inr _ => (a0, false)))
def JN (a0 : ZG) (a1 : Int) (a2 : Int) (a3 : ZU) (a4 : Int) (a5 : Int) : ZG × Bool := (bif ((decide ((Yq a0.Frame.Zq a2) < 0)) || (decide ((nth a0.Frame.Zq (Yq a0.Frame.Zq a2).toNat).Uj > a0.Frame.Now))) then (a0, false) else ((Yt a0 a1 a2 a3 a4 a5).1, (Yt a0 a1 a2 a3 a4 a5).2))
def qe (a0 : ZG) (a1 : Int) : Nat -> Nat -> Sum (Int × Int) Unit
  | 0, _ => .inr ()
  | n1 + 1, J => (bif (decide ((J : Int) < (a0.ZA.length : Int))) then (bif (decide ((Za (nth a0.ZA J) a1) >= 0)) then (.inl ((J : Int), (Za (nth a0.ZA J) a1))) else qe a0 a1 n1 (J + 1)) else (.inr ()))
def ZW (a0 : ZG) (a1 : Int) : Int × Int := (match qe a0 a1 (a0.ZA.length + 1) 0 with | .inl r1 => r1 | .inr _ => ((-1), (-1)))
def Qc (a0 : Ze) : Int := (bif ((((a0.XC.length : Int) == 0) || (!(ZZ (nth a0.XC 0) 101 105))) || ((a0.XC.length : Int) != (nth ([7, 5, 5, 9, 6] : List Int) (W ((nth a0.XC 0) - 101)).toNat))) then 0 else (nth a0.XC 0))
def z9 (a0 : Ze) : Yi × Bool := (bif (((Qc a0) != 101) || ((nth a0.XC 6) != a0.Key)) then ((Yi.mk 0 0 0 0 0 0 0), false) else ((Yi.mk (nth a0.XC 1) (nth a0.XC 2) (nth a0.XC 3) (nth a0.XC 4) (nth a0.XC 5) (nth a0.XC 6) a0.Mark), true))
def jv (a0 : List Yi) (a1 : Int) : Nat -> Nat -> Sum Int Unit
  | 0, _ => .inr ()
  | n1 + 1, J => (bif (decide ((J : Int) < (a0.length : Int))) then (bif ((nth a0 J).ZQ == a1) then (.inl (J : Int)) else jv a0 a1 n1 (J + 1)) else (.inr ()))
def xN (a0 : List Yi) (a1 : Int) : Int := (match jv a0 a1 (a0.length + 1) 0 with | .inl r1 => r1 | .inr _ => (-1))
def YB (a0 : ZG) (a1 : Int) : Int × Int × Bool := (bif ((decide ((ZW a0 a1).1 < 0)) || (decide (((nth (nth a0.ZA (ZW a0 a1).1.toNat).ZC (ZW a0 a1).2.toNat).ZJ.ZL.length : Int) < 2))) then (0, 0, false) else ((ZW a0 a1).1, (xN a0.ZM (z9 (nth (nth (nth a0.ZA (ZW a0 a1).1.toNat).ZC (ZW a0 a1).2.toNat).ZJ.ZL 1)).1.ZQ), ((z9 (nth (nth (nth a0.ZA (ZW a0 a1).1.toNat).ZC (ZW a0 a1).2.toNat).ZJ.ZL 1)).2 && (decide ((xN a0.ZM (z9 (nth (nth (nth a0.ZA (ZW a0 a1).1.toNat).ZC (ZW a0 a1).2.toNat).ZJ.ZL 1)).1.ZQ) >= 0)))))
def JV (a0 : Zn) : List Int := ([102, a0.ZQ, a0.Rm, a0.Zy, a0.Zm] : List Int)
def Sj (a0 : Zn) : Bool := ((((ZZ a0.ZQ 1 999) && (zP a0.Rm)) && (ZZ a0.Zy (-1) (W (a0.Rm + 1)))) && (ZZ a0.Zm 1 99))
def Xb (a0 : List XD) (a1 : Zn) : Zn × Bool := (bif ((!(Sj a1)) || (!(zz a0 a1.Zm (JV a1)).2)) then ((Zn.mk 0 0 0 0 0), false) else ((Zn.mk a1.ZQ a1.Rm a1.Zy a1.Zm (zz a0 a1.Zm (JV a1)).1), true))
def Xu (a0 : Zn) : Ze := (Ze.mk a0.Zm (JV a0) a0.Mark)
def Qw (a0 : Zi) (a1 : Ze) : Zi × Bool := (bif (!(Qe (Zi.mk (a0.ZL ++ ([a1] : List Ze)) a0.Zl))) then (a0, false) else ((Zi.mk (a0.ZL ++ ([a1] : List Ze)) a0.Zl), true))
def Qq (a0 : ZE) (a1 : Int) (a2 : Ze) : ZE × Bool := (bif (decide ((Za a0 a1) < 0)) then (a0, false) else ((ZE.mk a0.Id (a0.ZC.set (Za a0 a1).toNat (ZV.mk (nth a0.ZC (Za a0 a1).toNat).Id (nth a0.ZC (Za a0 a1).toNat).Yr (nth a0.ZC (Za a0 a1).toNat).Doc (nth a0.ZC (Za a0 a1).toNat).Sig (Qw (nth a0.ZC (Za a0 a1).toNat).ZJ a2).1))), (Qw (nth a0.ZC (Za a0 a1).toNat).ZJ a2).2))
def Qf (a0 : ZG) (a1 : Int) (a2 : Int) (a3 : Zn) : ZG × Bool := (bif ((!(Xb a0.Frame.Zq a3).2) || (!(Qq (nth a0.ZA a1.toNat) a2 (Xu (Xb a0.Frame.Zq a3).1)).2)) then (a0, false) else ((ZG.mk a0.Frame a0.ZM a0.Zy (a0.ZA.set a1.toNat (Qq (nth a0.ZA a1.toNat) a2 (Xu (Xb a0.Frame.Zq a3).1)).1) a0.Yb a0.YO a0.Next a0.YF), true))
def Qk (a0 : ZG) (a1 : Int) : ZG × Bool := (bif ((!(YB a0 a1).2.2) || (decide ((YB a0 a1).2.1 >= (a0.Zy.length : Int)))) then (a0, false) else (bif ((decide ((Yq a0.Frame.Zq (nth a0.ZM (YB a0 a1).2.1.toNat).Zm) < 0)) || (decide ((nth a0.Frame.Zq (Yq a0.Frame.Zq (nth a0.ZM (YB a0 a1).2.1.toNat).Zm).toNat).Uj > a0.Frame.Now))) then (a0, false) else (bif (decide ((nth a0.Zy (YB a0 a1).2.1.toNat) > (W (a0.Frame.Now + 1)))) then ((Qf a0 (YB a0 a1).1 a1 (Zn.mk (nth a0.ZM (YB a0 a1).2.1.toNat).ZQ a0.Frame.Now (-1) (nth a0.ZM (YB a0 a1).2.1.toNat).Zm 0)).1, (Qf a0 (YB a0 a1).1 a1 (Zn.mk (nth a0.ZM (YB a0 a1).2.1.toNat).ZQ a0.Frame.Now (-1) (nth a0.ZM (YB a0 a1).2.1.toNat).Zm 0)).2) else ((Qf a0 (YB a0 a1).1 a1 (Zn.mk (nth a0.ZM (YB a0 a1).2.1.toNat).ZQ a0.Frame.Now (nth a0.Zy (YB a0 a1).2.1.toNat) (nth a0.ZM (YB a0 a1).2.1.toNat).Zm 0)).1, (Qf a0 (YB a0 a1).1 a1 (Zn.mk (nth a0.ZM (YB a0 a1).2.1.toNat).ZQ a0.Frame.Now (nth a0.Zy (YB a0 a1).2.1.toNat) (nth a0.ZM (YB a0 a1).2.1.toNat).Zm 0)).2))))
def X1 (a0 : ZG) (a1 : Int) : ZG × Bool := (bif ((!(ZZ a1 0 (W ((a0.Zy.length : Int) - 1)))) || ((nth a0.Zy a1.toNat) != (-1))) then (a0, false) else ((ZG.mk a0.Frame a0.ZM (a0.Zy.set a1.toNat (W (a0.Frame.Now + 1))) a0.ZA a0.Yb a0.YO a0.Next a0.YF), true))
def qv (a0 : List Int) : Nat -> Nat -> Sum Bool Unit
  | 0, _ => .inr ()
  | n1 + 1, J => (bif (decide ((J : Int) < (a0.length : Int))) then (bif (decide ((nth a0 (J - 1)) >= (nth a0 J))) then (.inl false) else qv a0 n1 (J + 1)) else (.inr ()))
def QW (a0 : List Int) : Bool := (match qv a0 (a0.length + 1) 1 with | .inl r1 => r1 | .inr _ => true)
def KA (a0 : Zp) : List Int := ([103, a0.Authority, a0.Seq, a0.Time, a0.XJ] : List Int)
def qJ (a1 : Zb) : Nat -> List Int -> Nat -> (List Int)
  | 0, _, _ => default
  | n2 + 1, uI, uS => (bif (decide ((uS : Int) < (a1.Xh.length : Int))) then qJ a1 n2 ((uI ++ (KA (nth a1.Xh uS))) ++ ([(nth a1.Xh uS).Mark] : List Int)) (uS + 1) else (uI))
def zg (a1 : Zb) : Nat -> List Int -> Nat -> (List Int)
  | 0, _, _ => default
  | n1 + 1, J, U => (bif (decide ((U : Int) < (a1.Path.length : Int))) then (bif (nth a1.Path U).Left then zg a1 n1 (J ++ ([(nth a1.Path U).XJ, 1] : List Int)) (U + 1) else zg a1 n1 (J ++ ([(nth a1.Path U).XJ, 0] : List Int)) (U + 1)) else (J))
def zO (a0 : Int) (a1 : Zb) : Int := (match zg a1 (a1.Path.length + 1) ([4, a1.Count, a1.Method, a1.FI] : List Int) 0 with | z1_0 => (match qJ a1 (a1.Xh.length + 1) (z1_0 ++ ([(a1.Xh.length : Int)] : List Int)) 0 with | z2_0 => (Ka a0 z2_0)))
def qa (a0 : Int) (a1 : List Ze) : Nat -> List Int -> Nat -> (List Int)
  | 0, _, _ => default
  | n1 + 1, J, U => (bif (decide ((U : Int) < (a1.length : Int))) then qa a0 a1 n1 (J ++ ([(Ka a0 (([(nth a1 U).Key, (nth a1 U).Mark] : List Int) ++ (nth a1 U).XC))] : List Int)) (U + 1) else (J))
def Km (a0 : Int) (a1 : List Ze) : Int := (match qa a0 a1 (a1.length + 1) ([2] : List Int) 0 with | z1_0 => (Ka a0 z1_0))
def RY (a0 : Int) (a1 : Int) (a2 : List Ze) (a3 : Int) : Int := (Ka a0 ([3, a1, (Km a0 a2), a3] : List Int))
def JL (a0 : ZV) (a1 : Int) : Int := (bif (decide ((a0.ZJ.Zl.length : Int) > 0)) then (RY a1 (Yo a1 a0.Doc) a0.ZJ.ZL (zO a1 (nth a0.ZJ.Zl (a0.ZJ.Zl.length - 1)))) else (RY a1 (Yo a1 a0.Doc) a0.ZJ.ZL 0))
def qy (a0 : ZE) (a1 : Int) : Nat -> List Int -> Nat -> (List Int)
  | 0, _, _ => default
  | n1 + 1, J, U => (bif (decide ((U : Int) < (a0.ZC.length : Int))) then qy a0 a1 n1 (J ++ ([(JL (nth a0.ZC U) a1)] : List Int)) (U + 1) else (J))
def XZ (a0 : ZE) (a1 : Int) : List Int := (match qy a0 a1 (a0.ZC.length + 1) ([] : List Int) 0 with | z1_0 => z1_0)
def UJ (a0 : Int) (a1 : Int) (a2 : Int) : Int := (Ka a0 ([1, a1, a2] : List Int))
def Jm (a0 : Int) (a1 : List Int) : Nat -> List Int -> Nat -> (List Int)
  | 0, _, _ => default
  | n1 + 1, J, U => (bif (decide ((U : Int) < (a1.length : Int))) then (bif (decide ((W ((U : Int) + 1)) < (a1.length : Int))) then Jm a0 a1 n1 (J ++ ([(UJ a0 (nth a1 U) (nth a1 (W ((U : Int) + 1)).toNat))] : List Int)) (U + 2) else Jm a0 a1 n1 (J ++ ([(nth a1 U)] : List Int)) (U + 2)) else (J))
def KF (a0 : Int) (a1 : List Int) : List Int := (match Jm a0 a1 (a1.length + 1) ([] : List Int) 0 with | z1_0 => z1_0)
def UA (a0 : Int) : Nat -> List Int -> (List Int)
  | 0, _ => default
  | n1 + 1, J => (bif (decide ((J.length : Int) > 1)) then UA a0 n1 (KF a0 J) else (J))
def V5 (a0 : Int) (a1 : List Int) : Int := (bif (!(ZZ (a1.length : Int) 1 16)) then (-1) else (match UA a0 (a1.length + 1) a1 with | z1_0 => (nth z1_0 0)))
def Xk (a0 : ZE) (a1 : Int) : Int := (V5 a1 (XZ a0 a1))
def zj (a0 : List Zw) (a1 : Int) : Nat -> Nat -> Sum Int Unit
  | 0, _ => .inr ()
  | n1 + 1, J => (bif (decide ((J : Int) < (a0.length : Int))) then (bif ((nth a0 J).Id == a1) then (.inl (J : Int)) else zj a0 a1 n1 (J + 1)) else (.inr ()))
def Zo (a0 : List Zw) (a1 : Int) : Int := (match zj a0 a1 (a0.length + 1) 0 with | .inl r1 => r1 | .inr _ => (-1))
def WS (a0 : List Int) (a1 : Int) : Nat -> Nat -> Sum Int Unit
  | 0, _ => .inr ()
  | n1 + 1, J => (bif (decide ((J : Int) < (a0.length : Int))) then (bif ((nth a0 J) == a1) then (.inl (J : Int)) else WS a0 a1 n1 (J + 1)) else (.inr ()))
def Ts (a0 : List Int) (a1 : Int) : Int := (match WS a0 a1 (a0.length + 1) 0 with | .inl r1 => r1 | .inr _ => (-1))
def JP (a0 : List Int) (a1 : Int) : Bool := (decide ((Ts a0 a1) >= 0))
def JF (a0 : List XD) (a1 : List Zw) (a2 : Zp) : Zp × Bool := (bif (((decide ((Zo a1 a2.Authority) < 0)) || (decide (a2.Seq < 0))) || (!(zP a2.Time))) then ((Zp.mk 0 0 0 0 0), false) else (bif (!(zz a0 (nth a1 (Zo a1 a2.Authority).toNat).Key (KA a2)).2) then ((Zp.mk 0 0 0 0 0), false) else ((Zp.mk a2.Authority a2.Seq a2.Time a2.XJ (zz a0 (nth a1 (Zo a1 a2.Authority).toNat).Key (KA a2)).1), true)))
def zH (a0 : Int) : Nat -> List Int -> Int -> List XY -> (List XY)
  | 0, _, _, _ => default
  | n1 + 1, J, U, uF => (bif (decide ((J.length : Int) > 1)) then (bif ((Int.tmod U 2) == 1) then zH a0 n1 (KF a0 J) (W (Int.tdiv U 2)) (uF ++ ([(XY.mk (nth J (W (U - 1)).toNat) true)] : List XY)) else (bif (decide ((W (U + 1)) < (J.length : Int))) then zH a0 n1 (KF a0 J) (W (Int.tdiv U 2)) (uF ++ ([(XY.mk (nth J (W (U + 1)).toNat) false)] : List XY)) else zH a0 n1 (KF a0 J) (W (Int.tdiv U 2)) uF)) else (uF))
def Qu (a0 : Int) (a1 : List Int) (a2 : Int) : List XY := (bif ((!(ZZ a2 0 (W ((a1.length : Int) - 1)))) || (decide ((a1.length : Int) > 16))) then ([] : List XY) else (match zH a0 (a1.length + 1) a1 a2 ([] : List XY) with | z1_0 => z1_0))
def Ym (a0 : Zi) (a1 : Zb) : Zi × Bool := (bif (!(Qe (Zi.mk a0.ZL (a0.Zl ++ ([a1] : List Zb))))) then (a0, false) else ((Zi.mk a0.ZL (a0.Zl ++ ([a1] : List Zb))), true))
def Xg (a0 : ZE) (a1 : Int) (a2 : List Zp) : Nat -> Nat -> List ZV -> Sum (ZE × Bool) (List ZV)
  | 0, _, _ => .inr default
  | n1 + 1, J, U => (bif (decide ((J : Int) < (a0.ZC.length : Int))) then (bif (!(Ym (nth a0.ZC J).ZJ (Zb.mk ((nth a0.ZC J).ZJ.ZL.length : Int) a1 (Xk a0 a1) (Qu a1 (XZ a0 a1) (J : Int)) a2)).2) then (.inl (a0, false)) else Xg a0 a1 a2 n1 (J + 1) (U.set J (ZV.mk (nth U J).Id (nth U J).Yr (nth U J).Doc (nth U J).Sig (Ym (nth a0.ZC J).ZJ (Zb.mk ((nth a0.ZC J).ZJ.ZL.length : Int) a1 (Xk a0 a1) (Qu a1 (XZ a0 a1) (J : Int)) a2)).1))) else (.inr U))
def Yw (a0 : ZE) (a1 : Int) (a2 : List Zp) : ZE × Bool := (bif (((a0.ZC.length : Int) == 0) || (!(YX a0))) then (a0, false) else (match Xg a0 a1 a2 (a0.ZC.length + 1) 0 a0.ZC with | .inl r1 => r1 | .inr z1_0 => (bif (!(YX (ZE.mk a0.Id z1_0))) then (a0, false) else ((ZE.mk a0.Id z1_0), true))))
def XW (a0 : ZG) (a1 : Int) (a2 : List Int) (a3 : Int) : Nat -> List Zp -> Nat -> List Int -> Sum (ZG × Bool) ((List Zp) × (List Int))
  | 0, _, _, _ => .inr (default, default)
  | n1 + 1, J, U, uF => (bif (decide ((U : Int) < (a2.length : Int))) then (bif ((decide ((Zo a0.Frame.ZF (nth a2 U)) < 0)) || (decide ((Zo a0.Frame.ZF (nth a2 U)) >= (a0.Yb.length : Int)))) then (.inl (a0, false)) else (bif ((decide ((Yq a0.Frame.Zq (nth a0.Frame.ZF (Zo a0.Frame.ZF (nth a2 U)).toNat).Key) < 0)) || (decide ((nth a0.Frame.Zq (Yq a0.Frame.Zq (nth a0.Frame.ZF (Zo a0.Frame.ZF (nth a2 U)).toNat).Key).toNat).Uj > a0.Frame.Now))) then (.inl (a0, false)) else (bif (JP a0.YO (nth a2 U)) then (bif (!(JF a0.Frame.Zq a0.Frame.ZF (Zp.mk (nth a2 U) (nth a0.Yb (Zo a0.Frame.ZF (nth a2 U)).toNat) (if (if (W (a0.Frame.Now + a3)) < 10000 then (W (a0.Frame.Now + a3)) else 10000) > 0 then (if (W (a0.Frame.Now + a3)) < 10000 then (W (a0.Frame.Now + a3)) else 10000) else 0) (Xk (nth a0.ZA a1.toNat) (ZT a0.Frame.Methods a0.Frame.Now)) 0)).2) then (.inl (a0, false)) else XW a0 a1 a2 a3 n1 (J ++ ([(JF a0.Frame.Zq a0.Frame.ZF (Zp.mk (nth a2 U) (nth a0.Yb (Zo a0.Frame.ZF (nth a2 U)).toNat) (if (if (W (a0.Frame.Now + a3)) < 10000 then (W (a0.Frame.Now + a3)) else 10000) > 0 then (if (W (a0.Frame.Now + a3)) < 10000 then (W (a0.Frame.Now + a3)) else 10000) else 0) (Xk (nth a0.ZA a1.toNat) (ZT a0.Frame.Methods a0.Frame.Now)) 0)).1] : List Zp)) (U + 1) (uF.set (Zo a0.Frame.ZF (nth a2 U)).toNat (W ((nth uF (Zo a0.Frame.ZF (nth a2 U)).toNat) + 1)))) else (bif (!(JF a0.Frame.Zq a0.Frame.ZF (Zp.mk (nth a2 U) (nth a0.Yb (Zo a0.Frame.ZF (nth a2 U)).toNat) a0.Frame.Now (Xk (nth a0.ZA a1.toNat) (ZT a0.Frame.Methods a0.Frame.Now)) 0)).2) then (.inl (a0, false)) else XW a0 a1 a2 a3 n1 (J ++ ([(JF a0.Frame.Zq a0.Frame.ZF (Zp.mk (nth a2 U) (nth a0.Yb (Zo a0.Frame.ZF (nth a2 U)).toNat) a0.Frame.Now (Xk (nth a0.ZA a1.toNat) (ZT a0.Frame.Methods a0.Frame.Now)) 0)).1] : List Zp)) (U + 1) (uF.set (Zo a0.Frame.ZF (nth a2 U)).toNat (W ((nth uF (Zo a0.Frame.ZF (nth a2 U)).toNat) + 1))))))) else (.inr (J, uF)))
def QS (a0 : ZG) (a1 : Int) (a2 : List Int) (a3 : Int) : ZG × Bool := (bif (((((!(Ya a0 a1)) || (decide ((ZT a0.Frame.Methods a0.Frame.Now) < 0))) || (!(QW a2))) || ((a2.length : Int) == 0)) || (!(ZZ a3 (-10000) 10000))) then (a0, false) else (match XW a0 a1 a2 a3 (a2.length + 1) ([] : List Zp) 0 a0.Yb with | .inl r1 => r1 | .inr (z1_0, z1_1) => (bif (!(Yw (nth a0.ZA a1.toNat) (ZT a0.Frame.Methods a0.Frame.Now) z1_0).2) then (a0, false) else ((ZG.mk a0.Frame a0.ZM a0.Zy (a0.ZA.set a1.toNat (Yw (nth a0.ZA a1.toNat) (ZT a0.Frame.Methods a0.Frame.Now) z1_0).1) z1_1 a0.YO a0.Next a0.YF), true))))
def kJ (a0 : Int) (a1 : ZV) : Nat -> List Int -> Nat -> (List Int)
  | 0, _, _ => default
  | n1 + 1, J, U => (bif (decide ((U : Int) < (a1.ZJ.Zl.length : Int))) then kJ a0 a1 n1 (J ++ ([(zO a0 (nth a1.ZJ.Zl U))] : List Int)) (U + 1) else (J))
def UL (a0 : Int) (a1 : ZV) : Int := (match kJ a0 a1 (a1.ZJ.Zl.length + 1) ([5, a1.Id, a1.Yr, (Yo a0 a1.Doc), (Km a0 a1.ZJ.ZL)] : List Int) 0 with | z1_0 => (Ka a0 z1_0))
def xe (a0 : Int) (a1 : List ZV) : Nat -> List Int -> Nat -> (List Int)
  | 0, _, _ => default
  | n1 + 1, J, U => (bif (decide ((U : Int) < (a1.length : Int))) then xe a0 a1 n1 (J ++ ([(UL a0 (nth a1 U))] : List Int)) (U + 1) else (J))
def QD (a0 : Int) (a1 : List ZV) : Int := (match xe a0 a1 (a1.length + 1) ([] : List Int) 0 with | z1_0 => (V5 a0 z1_0))
def QA (a0 : ZE) (a2 : List Int) : Nat -> Nat -> List ZV -> Sum (YS × Bool) (List ZV)
  | 0, _, _ => .inr default
  | n1 + 1, J, U => (bif (decide ((J : Int) < (a2.length : Int))) then (bif (decide ((Za a0 (nth a2 J)) < 0)) then (.inl ((YS.mk 0 0 ([] : List ZV) 0), false)) else QA a0 a2 n1 (J + 1) (U ++ ([(nth a0.ZC (Za a0 (nth a2 J)).toNat)] : List ZV))) else (.inr U))
def Y9 (a0 : ZE) (a1 : Int) (a2 : List Int) (a3 : Int) : YS × Bool := (match QA a0 a2 (a2.length + 1) 0 ([] : List ZV) with | .inl r1 => r1 | .inr z1_0 => (bif ((a2.length : Int) == 0) then ((YS.mk 0 0 ([] : List ZV) 0), false) else ((YS.mk a0.Id a1 z1_0 (QD a3 z1_0)), true)))
def Jz (a0 : YS) : Nat -> Nat -> Sum Bool Unit
  | 0, _ => .inr ()
  | n1 + 1, J => (bif (decide ((J : Int) < (a0.ZC.length : Int))) then (bif (!(KG (nth a0.ZC J))) then (.inl false) else Jz a0 n1 (J + 1)) else (.inr ()))
def zX (a0 : YS) (a1 : Int) : Bool := (match Jz a0 (a0.ZC.length + 1) 0 with | .inl r1 => r1 | .inr _ => ((ZZ (a0.ZC.length : Int) 1 8) && (a0.XJ == (QD a1 a0.ZC))))
def X0 (a0 : ZE) (a1 : YS) : Nat -> Nat -> Int -> List ZV -> Sum (ZE × Bool) (Int × (List ZV))
  | 0, _, _, _ => .inr (default, default)
  | n1 + 1, J, U, uF => (bif (decide ((J : Int) < (a1.ZC.length : Int))) then (bif (!(Yd (ZE.mk U uF) (nth a1.ZC J)).2) then (.inl (a0, false)) else X0 a0 a1 n1 (J + 1) (Yd (ZE.mk U uF) (nth a1.ZC J)).1.Id (Yd (ZE.mk U uF) (nth a1.ZC J)).1.ZC) else (.inr (U, uF)))
def XH (a0 : ZE) (a1 : YS) (a2 : Int) : ZE × Bool := (bif ((!(zX a1 a2)) || (a1.To != a0.Id)) then (a0, false) else (match X0 a0 a1 (a1.ZC.length + 1) 0 a0.Id a0.ZC with | .inl r1 => r1 | .inr (z1_0, z1_1) => ((ZE.mk z1_0 z1_1), true)))
def X4 (a0 : ZE) (a1 : Int) : ZE × Bool := (bif (decide ((Za a0 a1) < 0)) then (a0, false) else ((ZE.mk a0.Id (a0.ZC.take (Za a0 a1).toNat ++ (a0.ZC.drop (W ((Za a0 a1) + 1)).toNat))), true))
def Qz (a0 : ZE) (a1 : ZE) (a2 : List Int) : Nat -> Nat -> Int -> List ZV -> Sum (ZE × ZE × Bool) (Int × (List ZV))
  | 0, _, _, _ => .inr (default, default)
  | n1 + 1, J, U, uF => (bif (decide ((J : Int) < (a2.length : Int))) then (bif (!(X4 (ZE.mk U uF) (nth a2 J)).2) then (.inl (a0, a1, false)) else Qz a0 a1 a2 n1 (J + 1) (X4 (ZE.mk U uF) (nth a2 J)).1.Id (X4 (ZE.mk U uF) (nth a2 J)).1.ZC) else (.inr (U, uF)))
def Yy (a0 : ZE) (a1 : ZE) (a2 : List Int) (a3 : Int) : ZE × ZE × Bool := (bif ((!(Y9 a0 a1.Id a2 a3).2) || (!(XH a1 (Y9 a0 a1.Id a2 a3).1 a3).2)) then (a0, a1, false) else (match Qz a0 a1 a2 (a2.length + 1) 0 a0.Id a0.ZC with | .inl r1 => r1 | .inr (z1_0, z1_1) => ((ZE.mk z1_0 z1_1), (XH a1 (Y9 a0 a1.Id a2 a3).1 a3).1, true)))
def Kc (a0 : ZG) (a1 : Int) (a2 : Int) (a3 : Int) : ZG × Bool := (bif ((((!(Ya a0 a1)) || (!(Ya a0 a2))) || (a1 == a2)) || (decide ((ZT a0.Frame.Methods a0.Frame.Now) < 0))) then (a0, false) else (bif (Yy (nth a0.ZA a1.toNat) (nth a0.ZA a2.toNat) ([a3] : List Int) (ZT a0.Frame.Methods a0.Frame.Now)).2.2 then ((ZG.mk a0.Frame a0.ZM a0.Zy ((a0.ZA.set a1.toNat (Yy (nth a0.ZA a1.toNat) (nth a0.ZA a2.toNat) ([a3] : List Int) (ZT a0.Frame.Methods a0.Frame.Now)).1).set a2.toNat (Yy (nth a0.ZA a1.toNat) (nth a0.ZA a2.toNat) ([a3] : List Int) (ZT a0.Frame.Methods a0.Frame.Now)).2.1) a0.Yb a0.YO a0.Next a0.YF), (Yy (nth a0.ZA a1.toNat) (nth a0.ZA a2.toNat) ([a3] : List Int) (ZT a0.Frame.Methods a0.Frame.Now)).2.2) else (a0, (Yy (nth a0.ZA a1.toNat) (nth a0.ZA a2.toNat) ([a3] : List Int) (ZT a0.Frame.Methods a0.Frame.Now)).2.2)))
def X7 (a0 : ZE) (a1 : Int) : Nat -> Nat -> List ZV -> (List ZV)
  | 0, _, _ => default
  | n1 + 1, J, U => (bif (decide ((J : Int) < (a0.ZC.length : Int))) then (bif (decide ((nth a0.ZC J).Yr >= a1)) then X7 a0 a1 n1 (J + 1) (U ++ ([(nth a0.ZC J)] : List ZV)) else X7 a0 a1 n1 (J + 1) U) else (U))
def KJ (a0 : ZE) (a1 : Int) : ZE × Int := (match X7 a0 a1 (a0.ZC.length + 1) 0 ([] : List ZV) with | z1_0 => ((ZE.mk a0.Id z1_0), (W ((a0.ZC.length : Int) - (z1_0.length : Int)))))
def Q9 (a0 : ZG) (a1 : Int) : ZG × Bool := (bif (!(Ya a0 a1)) then (a0, false) else ((ZG.mk a0.Frame a0.ZM a0.Zy (a0.ZA.set a1.toNat (KJ (nth a0.ZA a1.toNat) a0.Frame.Now).1) a0.Yb a0.YO a0.Next a0.YF), true))
def qG (a0 : List YE) (a1 : Int) : Nat -> Nat -> Sum Int Unit
  | 0, _ => .inr ()
  | n1 + 1, J => (bif (decide ((J : Int) < (a0.length : Int))) then (bif ((nth a0 J).Id == a1) then (.inl (J : Int)) else qG a0 a1 n1 (J + 1)) else (.inr ()))
def yX (a0 : List YE) (a1 : Int) : Int := (match qG a0 a1 (a0.length + 1) 0 with | .inl r1 => r1 | .inr _ => (-1))
def P2 (a0 : List YE) (a1 : Int) : Int := (bif (decide ((yX a0 a1) >= 0)) then (nth a0 (yX a0 a1).toNat).kZ else 0)
def V4 (a0 : Zu) (a1 : Int) : Int := (bif (decide ((Yq a0.Zq a1) < 0)) then 0 else (P2 a0.Methods (nth a0.Zq (Yq a0.Zq a1).toNat).Method))
def qk (a0 : Zu) (a1 : Int) : Bool := ((decide ((Yq a0.Zq a1) >= 0)) && (decide (a0.Now >= (V4 a0 a1))))
def JI (a0 : ZG) (a1 : Int) (a2 : Int) (a3 : ZU) : ZG × Bool := (bif (!(qk a0.Frame a2)) then (a0, false) else (bif (Yt a0 a1 a2 a3 0 10000).2 then ((ZG.mk (Yt a0 a1 a2 a3 0 10000).1.Frame (Yt a0 a1 a2 a3 0 10000).1.ZM (Yt a0 a1 a2 a3 0 10000).1.Zy (Yt a0 a1 a2 a3 0 10000).1.ZA (Yt a0 a1 a2 a3 0 10000).1.Yb (Yt a0 a1 a2 a3 0 10000).1.YO (Yt a0 a1 a2 a3 0 10000).1.Next ((Yt a0 a1 a2 a3 0 10000).1.YF ++ ([a0.Next] : List Int))), (Yt a0 a1 a2 a3 0 10000).2) else ((Yt a0 a1 a2 a3 0 10000).1, (Yt a0 a1 a2 a3 0 10000).2)))
def JA (a0 : ZG) : Nat -> List Int -> Nat -> (List Int)
  | 0, _, _ => default
  | n1 + 1, J, U => (bif (decide ((U : Int) < (a0.Frame.ZF.length : Int))) then (bif ((JP a0.YO (nth a0.Frame.ZF U).Id) || (qk a0.Frame (nth a0.Frame.ZF U).Key)) then JA a0 n1 (J ++ ([(nth a0.Frame.ZF U).Id] : List Int)) (U + 1) else JA a0 n1 J (U + 1)) else (J))
def Z1 (a0 : ZG) : List Int := (match JA a0 (a0.Frame.ZF.length + 1) ([] : List Int) 0 with | z1_0 => z1_0)
def XV (a0 : ZG) (a1 : Int) (a2 : Int) : Nat -> Nat -> List Zp -> Sum (ZG × Bool) (List Zp)
  | 0, _, _ => .inr default
  | n1 + 1, J, U => (bif (decide ((J : Int) < ((Z1 a0).length : Int))) then (bif (!(JF a0.Frame.Zq a0.Frame.ZF (Zp.mk (nth (Z1 a0) J) 0 a2 (JL (nth (nth a0.ZA (ZW a0 a1).1.toNat).ZC (ZW a0 a1).2.toNat) (ZT a0.Frame.Methods a0.Frame.Now)) 0)).2) then (.inl (a0, false)) else XV a0 a1 a2 n1 (J + 1) (U ++ ([(JF a0.Frame.Zq a0.Frame.ZF (Zp.mk (nth (Z1 a0) J) 0 a2 (JL (nth (nth a0.ZA (ZW a0 a1).1.toNat).ZC (ZW a0 a1).2.toNat) (ZT a0.Frame.Methods a0.Frame.Now)) 0)).1] : List Zp))) else (.inr U))
def Xr (a0 : ZG) (a1 : Int) (a2 : Int) : ZG × Bool := (bif ((((!(JP a0.YF a1)) || (decide ((ZW a0 a1).1 < 0))) || (decide ((ZT a0.Frame.Methods a0.Frame.Now) < 0))) || (((Z1 a0).length : Int) == 0)) then (a0, false) else (match XV a0 a1 a2 ((Z1 a0).length + 1) 0 ([] : List Zp) with | .inl r1 => r1 | .inr z1_0 => ((ZG.mk a0.Frame a0.ZM a0.Zy (a0.ZA.set (ZW a0 a1).1.toNat (ZE.mk (nth a0.ZA (ZW a0 a1).1.toNat).Id ((nth a0.ZA (ZW a0 a1).1.toNat).ZC.set (ZW a0 a1).2.toNat (ZV.mk (nth (nth a0.ZA (ZW a0 a1).1.toNat).ZC (ZW a0 a1).2.toNat).Id (nth (nth a0.ZA (ZW a0 a1).1.toNat).ZC (ZW a0 a1).2.toNat).Yr (nth (nth a0.ZA (ZW a0 a1).1.toNat).ZC (ZW a0 a1).2.toNat).Doc (nth (nth a0.ZA (ZW a0 a1).1.toNat).ZC (ZW a0 a1).2.toNat).Sig (Ym (nth (nth a0.ZA (ZW a0 a1).1.toNat).ZC (ZW a0 a1).2.toNat).ZJ (Zb.mk ((nth (nth a0.ZA (ZW a0 a1).1.toNat).ZC (ZW a0 a1).2.toNat).ZJ.ZL.length : Int) (ZT a0.Frame.Methods a0.Frame.Now) (JL (nth (nth a0.ZA (ZW a0 a1).1.toNat).ZC (ZW a0 a1).2.toNat) (ZT a0.Frame.Methods a0.Frame.Now)) ([] : List XY) z1_0)).1)))) a0.Yb a0.YO a0.Next a0.YF), (Ym (nth (nth a0.ZA (ZW a0 a1).1.toNat).ZC (ZW a0 a1).2.toNat).ZJ (Zb.mk ((nth (nth a0.ZA (ZW a0 a1).1.toNat).ZC (ZW a0 a1).2.toNat).ZJ.ZL.length : Int) (ZT a0.Frame.Methods a0.Frame.Now) (JL (nth (nth a0.ZA (ZW a0 a1).1.toNat).ZC (ZW a0 a1).2.toNat) (ZT a0.Frame.Methods a0.Frame.Now)) ([] : List XY) z1_0)).2)))
def Jo (a0 : ZG) (a1 : Int) (a2 : Int) : ZG × Bool := (bif ((!(YB a0 a1).2.2) || (!(qk a0.Frame (nth a0.ZM (YB a0 a1).2.1.toNat).Zm))) then (a0, false) else ((Qf a0 (YB a0 a1).1 a1 (Zn.mk (nth a0.ZM (YB a0 a1).2.1.toNat).ZQ a2 (-1) (nth a0.ZM (YB a0 a1).2.1.toNat).Zm 0)).1, (Qf a0 (YB a0 a1).1 a1 (Zn.mk (nth a0.ZM (YB a0 a1).2.1.toNat).ZQ a2 (-1) (nth a0.ZM (YB a0 a1).2.1.toNat).Zm 0)).2))
def Z4 (a0 : ZG) (a1 : Zg) : ZG × Bool := (bif (a1.Kind == 1) then ((KZ a0 a1.A).1, (KZ a0 a1.A).2) else (bif (a1.Kind == 2) then ((JN a0 a1.A a1.B a1.Doc a1.C a1.D).1, (JN a0 a1.A a1.B a1.Doc a1.C a1.D).2) else (bif (a1.Kind == 3) then ((Qk a0 a1.A).1, (Qk a0 a1.A).2) else (bif (a1.Kind == 4) then ((X1 a0 a1.A).1, (X1 a0 a1.A).2) else (bif (a1.Kind == 5) then ((QS a0 a1.A a1.Ids a1.B).1, (QS a0 a1.A a1.Ids a1.B).2) else (bif (a1.Kind == 6) then ((Kc a0 a1.A a1.B a1.C).1, (Kc a0 a1.A a1.B a1.C).2) else (bif (a1.Kind == 7) then ((Q9 a0 a1.A).1, (Q9 a0 a1.A).2) else (bif (a1.Kind == 8) then ((JI a0 a1.A a1.B a1.Doc).1, (JI a0 a1.A a1.B a1.Doc).2) else (bif (a1.Kind == 9) then ((Xr a0 a1.A a1.B).1, (Xr a0 a1.A a1.B).2) else (bif (a1.Kind == 10) then ((Jo a0 a1.A a1.B).1, (Jo a0 a1.A a1.B).2) else (a0, false)))))))))))
def KW (a1 : List Zg) : Nat -> Nat -> List XD -> List Zw -> List YE -> Int -> Int -> List Yi -> List Int -> List ZE -> List Int -> List Int -> Int -> List Int -> (List XD) × (List Zw) × (List YE) × Int × Int × (List Yi) × (List Int) × (List ZE) × (List Int) × (List Int) × Int × (List Int)
  | 0, _, _, _, _, _, _, _, _, _, _, _, _, _ => (default, default, default, default, default, default, default, default, default, default, default, default)
  | n1 + 1, J, U, uF, uR, ud, u7, uz, u3, u4, u5, ue, uh, uf => (bif (decide ((J : Int) < (a1.length : Int))) then KW a1 n1 (J + 1) (Z4 (ZG.mk (Zu.mk U uF uR ud u7) uz u3 u4 u5 ue uh uf) (nth a1 J)).1.Frame.Zq (Z4 (ZG.mk (Zu.mk U uF uR ud u7) uz u3 u4 u5 ue uh uf) (nth a1 J)).1.Frame.ZF (Z4 (ZG.mk (Zu.mk U uF uR ud u7) uz u3 u4 u5 ue uh uf) (nth a1 J)).1.Frame.Methods (Z4 (ZG.mk (Zu.mk U uF uR ud u7) uz u3 u4 u5 ue uh uf) (nth a1 J)).1.Frame.KE (Z4 (ZG.mk (Zu.mk U uF uR ud u7) uz u3 u4 u5 ue uh uf) (nth a1 J)).1.Frame.Now (Z4 (ZG.mk (Zu.mk U uF uR ud u7) uz u3 u4 u5 ue uh uf) (nth a1 J)).1.ZM (Z4 (ZG.mk (Zu.mk U uF uR ud u7) uz u3 u4 u5 ue uh uf) (nth a1 J)).1.Zy (Z4 (ZG.mk (Zu.mk U uF uR ud u7) uz u3 u4 u5 ue uh uf) (nth a1 J)).1.ZA (Z4 (ZG.mk (Zu.mk U uF uR ud u7) uz u3 u4 u5 ue uh uf) (nth a1 J)).1.Yb (Z4 (ZG.mk (Zu.mk U uF uR ud u7) uz u3 u4 u5 ue uh uf) (nth a1 J)).1.YO (Z4 (ZG.mk (Zu.mk U uF uR ud u7) uz u3 u4 u5 ue uh uf) (nth a1 J)).1.Next (Z4 (ZG.mk (Zu.mk U uF uR ud u7) uz u3 u4 u5 ue uh uf) (nth a1 J)).1.YF else ((U, uF, uR, ud, u7, uz, u3, u4, u5, ue, uh, uf)))
def Ys (a0 : ZG) (a1 : List Zg) : ZG := (match KW a1 (a1.length + 1) 0 a0.Frame.Zq a0.Frame.ZF a0.Frame.Methods a0.Frame.KE a0.Frame.Now a0.ZM a0.Zy a0.ZA a0.Yb a0.YO a0.Next a0.YF with | (z1_0, z1_1, z1_2, z1_3, z1_4, z1_5, z1_6, z1_7, z1_8, z1_9, z1_10, z1_11) => (ZG.mk (Zu.mk z1_0 z1_1 z1_2 z1_3 z1_4) z1_5 z1_6 z1_7 z1_8 z1_9 z1_10 z1_11))
def PN (a0 : List UInt8) (a1 : Int) : Int := (bif (decide (a1 < (a0.length : Int))) then (W ((nth a0 a1.toNat).toNat : Int)) else (Int.tmod (W ((W (a1 * 31)) + (W ((a0.length : Int) * 7)))) 256))
def US (a0 : Int) : Bool := (ZZ a0 1 2147483646)
def GN (a0 : XD) : Bool := (((((ZZ a0.Number 1 99) && (ZZ a0.zf 0 99)) && (ZZ a0.Method 0 99)) && (zP a0.Uj)) && (US a0.ja))
def TF (a0 : List XD) : Nat -> Nat -> Sum Bool Unit
  | 0, _ => .inr ()
  | n1 + 1, J => (bif (decide ((J : Int) < (a0.length : Int))) then (bif ((!(GN (nth a0 J))) || ((decide ((J : Int) > 0)) && (decide ((nth a0 (J - 1)).Number >= (nth a0 J).Number)))) then (.inl false) else TF a0 n1 (J + 1)) else (.inr ()))
def P0 (a0 : List XD) : Bool := (match TF a0 (a0.length + 1) 0 with | .inl r1 => r1 | .inr _ => (decide ((a0.length : Int) <= 12)))
def xK (a0 : List Zw) : Nat -> Nat -> Sum Bool Unit
  | 0, _ => .inr ()
  | n1 + 1, J => (bif (decide ((J : Int) < (a0.length : Int))) then (bif ((((!(ZZ (nth a0 J).Id 0 99)) || (!(ZZ (nth a0 J).Key 1 99))) || (!(ZZ (nth a0 J).Error 0 100))) || ((decide ((J : Int) > 0)) && (decide ((nth a0 (J - 1)).Id >= (nth a0 J).Id)))) then (.inl false) else xK a0 n1 (J + 1)) else (.inr ()))
def qi (a0 : List Zw) : Bool := (match xK a0 (a0.length + 1) 0 with | .inl r1 => r1 | .inr _ => (decide ((a0.length : Int) <= 6)))
def RG (a0 : YE) : Bool := ((((((ZZ a0.Id 0 99) && (zP a0.Ua)) && (ZZ a0.Ends 1 10001)) && (ZZ a0.kZ 1 10001)) && (decide (a0.Ua < a0.Ends))) && (decide (a0.Ua < a0.kZ)))
def kL (a0 : List YE) : Nat -> Nat -> Sum Bool Unit
  | 0, _ => .inr ()
  | n1 + 1, J => (bif (decide ((J : Int) < (a0.length : Int))) then (bif ((!(RG (nth a0 J))) || ((decide ((J : Int) > 0)) && (decide ((nth a0 (J - 1)).Id >= (nth a0 J).Id)))) then (.inl false) else kL a0 n1 (J + 1)) else (.inr ()))
def V8 (a0 : List YE) : Bool := (match kL a0 (a0.length + 1) 0 with | .inl r1 => r1 | .inr _ => (decide ((a0.length : Int) <= 8)))
def yk (a0 : Zu) : Bool := (((((P0 a0.Zq) && (qi a0.ZF)) && (V8 a0.Methods)) && (ZZ a0.KE 0 6)) && (zP a0.Now))
def V1 (a0 : Yi) : WG := (WG.mk a0.qR a0.To)
def LK (a0 : WG) : Bool := (((zP a0.qR) && (zP a0.To)) && (decide (a0.qR <= a0.To)))
def Ns (a0 : Yi) : Bool := ((((((ZZ a0.ZQ 1 999) && (ZZ a0.Key 1 99)) && (ZZ a0.Zm 1 99)) && (a0.Key != a0.Zm)) && (ZZ a0.zf 0 99)) && (LK (V1 a0)))
def Ta (a0 : List XD) (a1 : Int) (a2 : List Int) (a3 : Int) : Bool := ((zz a0 a1 a2).2 && ((zz a0 a1 a2).1 == a3))
def PH (a0 : List XD) (a1 : Int) : Int := (bif (decide ((Yq a0 a1) >= 0)) then (nth a0 (Yq a0 a1).toNat).zf else (-1))
def WX (a0 : List XD) (a1 : Yi) : Bool := (((Ns a1) && (Ta a0 a1.Zm (z5 a1) a1.Mark)) && (a1.zf == (PH a0 a1.Key)))
def KI (a0 : ZG) (uS : Nat) : Nat -> List Int -> Nat -> Sum Bool (List Int)
  | 0, _, _ => .inr default
  | n3 + 1, tJ, se => (bif (decide ((se : Int) < ((nth a0.ZA uS).ZC.length : Int))) then (bif ((JP tJ (nth (nth a0.ZA uS).ZC se).Id) || (decide ((nth (nth a0.ZA uS).ZC se).Id >= a0.Next))) then (.inl false) else KI a0 uS n3 (tJ ++ ([(nth (nth a0.ZA uS).ZC se).Id] : List Int)) (se + 1)) else (.inr tJ))
def jS (a0 : ZG) : Nat -> Nat -> Sum Bool Unit
  | 0, _ => .inr ()
  | n5 + 1, rP => (bif (decide ((rP : Int) < (a0.YO.length : Int))) then (bif (decide ((Zo a0.Frame.ZF (nth a0.YO rP)) < 0)) then (.inl false) else jS a0 n5 (rP + 1)) else (.inr ()))
def jU (a0 : ZG) : Nat -> Nat -> Sum Bool Unit
  | 0, _ => .inr ()
  | n4 + 1, rp => (bif (decide ((rp : Int) < (a0.Yb.length : Int))) then (bif (decide ((nth a0.Yb rp) < 0)) then (.inl false) else jU a0 n4 (rp + 1)) else (.inr ()))
def K0 (a0 : ZG) : Nat -> List Int -> Nat -> Sum Bool Unit
  | 0, _, _ => .inr ()
  | n2 + 1, uI, uS => (bif (decide ((uS : Int) < (a0.ZA.length : Int))) then (bif ((!(YX (nth a0.ZA uS))) || ((nth a0.ZA uS).Id != (uS : Int))) then (.inl false) else (match KI a0 uS ((nth a0.ZA uS).ZC.length + 1) uI 0 with | .inl r3 => .inl r3 | .inr z3_0 => K0 a0 n2 z3_0 (uS + 1))) else (.inr ()))
def jM (a0 : ZG) : Nat -> Nat -> Sum Bool Unit
  | 0, _ => .inr ()
  | n1 + 1, J => (bif (decide ((J : Int) < (a0.ZM.length : Int))) then (bif (((!(WX a0.Frame.Zq (nth a0.ZM J))) || ((xN a0.ZM (nth a0.ZM J).ZQ) != (J : Int))) || (!(ZZ (nth a0.Zy J) (-1) 10001))) then (.inl false) else jM a0 n1 (J + 1)) else (.inr ()))
def qh (a0 : ZG) : Bool := (bif ((((((((!(yk a0.Frame)) || ((a0.Zy.length : Int) != (a0.ZM.length : Int))) || (!(ZZ (a0.ZA.length : Int) 1 4))) || ((a0.Yb.length : Int) != (a0.Frame.ZF.length : Int))) || (decide ((a0.YO.length : Int) > a0.Frame.KE))) || (decide (a0.Next < 1))) || (!(QW a0.YO))) || (!(QW a0.YF))) then false else (match jM a0 (a0.ZM.length + 1) 0 with | .inl r1 => r1 | .inr _ => (match K0 a0 (a0.ZA.length + 1) ([] : List Int) 0 with | .inl r2 => r2 | .inr _ => (match jU a0 (a0.Yb.length + 1) 0 with | .inl r4 => r4 | .inr _ => (match jS a0 (a0.YO.length + 1) 0 with | .inl r5 => r5 | .inr _ => true)))))
def xF (a0 : Zu) (a1 : Zu) : Nat -> Nat -> Sum Bool Unit
  | 0, _ => .inr ()
  | n3 + 1, tJ => (bif (decide ((tJ : Int) < (a0.Methods.length : Int))) then (bif (!(((nth a0.Methods tJ).Id == (nth a1.Methods tJ).Id) && (((nth a0.Methods tJ).Ua == (nth a1.Methods tJ).Ua) && (((nth a0.Methods tJ).Ends == (nth a1.Methods tJ).Ends) && ((nth a0.Methods tJ).kZ == (nth a1.Methods tJ).kZ))))) then (.inl false) else xF a0 a1 n3 (tJ + 1)) else (.inr ()))
def xA (a0 : Zu) (a1 : Zu) : Nat -> Nat -> Sum Bool Unit
  | 0, _ => .inr ()
  | n2 + 1, uI => (bif (decide ((uI : Int) < (a0.ZF.length : Int))) then (bif (!(((nth a0.ZF uI).Id == (nth a1.ZF uI).Id) && (((nth a0.ZF uI).Key == (nth a1.ZF uI).Key) && ((nth a0.ZF uI).Error == (nth a1.ZF uI).Error)))) then (.inl false) else xA a0 a1 n2 (uI + 1)) else (.inr ()))
def y6 (a0 : Zu) (a1 : Zu) : Nat -> Nat -> Sum Bool Unit
  | 0, _ => .inr ()
  | n1 + 1, J => (bif (decide ((J : Int) < (a0.Zq.length : Int))) then (bif (!(((nth a0.Zq J).Number == (nth a1.Zq J).Number) && (((nth a0.Zq J).zf == (nth a1.Zq J).zf) && (((nth a0.Zq J).Method == (nth a1.Zq J).Method) && (((nth a0.Zq J).Uj == (nth a1.Zq J).Uj) && ((nth a0.Zq J).ja == (nth a1.Zq J).ja)))))) then (.inl false) else y6 a0 a1 n1 (J + 1)) else (.inr ()))
def yw (a0 : Zu) (a1 : Zu) : Bool := (bif ((((((a0.Zq.length : Int) != (a1.Zq.length : Int)) || ((a0.ZF.length : Int) != (a1.ZF.length : Int))) || ((a0.Methods.length : Int) != (a1.Methods.length : Int))) || (a0.KE != a1.KE)) || (a0.Now != a1.Now)) then false else (match y6 a0 a1 (a0.Zq.length + 1) 0 with | .inl r1 => r1 | .inr _ => (match xA a0 a1 (a0.ZF.length + 1) 0 with | .inl r2 => r2 | .inr _ => (match xF a0 a1 (a0.Methods.length + 1) 0 with | .inl r3 => r3 | .inr _ => true))))
def yj (a0 : List ByteArray) (a1 : List ByteArray) : Nat -> Nat -> Sum Bool Unit
  | 0, _ => .inr ()
  | n1 + 1, J => (bif (decide ((J : Int) < (a0.length : Int))) then (bif (!decide ((nth a0 J) = (nth a1 J))) then (.inl false) else yj a0 a1 n1 (J + 1)) else (.inr ()))
def xr (a0 : List ByteArray) (a1 : List ByteArray) : Bool := (bif ((a0.length : Int) != (a1.length : Int)) then false else (match yj a0 a1 (a0.length + 1) 0 with | .inl r1 => r1 | .inr _ => true))
def Ki (a0 : ZU) (a1 : ZU) : Bool := (((a0.jL == a1.jL) && (xr a0.Y3 a1.Y3)) && (J8 a0.QL a1.QL))
def Kd (a0 : List Ze) (a1 : List Ze) : Nat -> Nat -> Sum Bool Unit
  | 0, _ => .inr ()
  | n1 + 1, J => (bif (decide ((J : Int) < (a0.length : Int))) then (bif (!(Jg (nth a0 J) (nth a1 J))) then (.inl false) else Kd a0 a1 n1 (J + 1)) else (.inr ()))
def zl (a0 : List Ze) (a1 : List Ze) : Bool := (bif ((a0.length : Int) != (a1.length : Int)) then false else (match Kd a0 a1 (a0.length + 1) 0 with | .inl r1 => r1 | .inr _ => true))
def xC (a0 : List Zp) (a1 : List Zp) : Nat -> Nat -> Sum Bool Unit
  | 0, _ => .inr ()
  | n1 + 1, J => (bif (decide ((J : Int) < (a0.length : Int))) then (bif (!(((nth a0 J).Authority == (nth a1 J).Authority) && (((nth a0 J).Seq == (nth a1 J).Seq) && (((nth a0 J).Time == (nth a1 J).Time) && (((nth a0 J).XJ == (nth a1 J).XJ) && ((nth a0 J).Mark == (nth a1 J).Mark)))))) then (.inl false) else xC a0 a1 n1 (J + 1)) else (.inr ()))
def jE (a0 : List Zp) (a1 : List Zp) : Bool := (bif ((a0.length : Int) != (a1.length : Int)) then false else (match xC a0 a1 (a0.length + 1) 0 with | .inl r1 => r1 | .inr _ => true))
def zh (a0 : Zb) (a1 : Zb) : Nat -> Nat -> Sum Bool Unit
  | 0, _ => .inr ()
  | n1 + 1, J => (bif (decide ((J : Int) < (a0.Path.length : Int))) then (bif (!(((nth a0.Path J).XJ == (nth a1.Path J).XJ) && ((nth a0.Path J).Left == (nth a1.Path J).Left))) then (.inl false) else zh a0 a1 n1 (J + 1)) else (.inr ()))
def J3 (a0 : Zb) (a1 : Zb) : Bool := (bif ((((a0.Count != a1.Count) || (a0.Method != a1.Method)) || (a0.FI != a1.FI)) || ((a0.Path.length : Int) != (a1.Path.length : Int))) then false else (match zh a0 a1 (a0.Path.length + 1) 0 with | .inl r1 => r1 | .inr _ => (jE a0.Xh a1.Xh)))
def yT (a0 : Zi) (a1 : Zi) : Nat -> Nat -> Sum Bool Unit
  | 0, _ => .inr ()
  | n1 + 1, J => (bif (decide ((J : Int) < (a0.Zl.length : Int))) then (bif (!(J3 (nth a0.Zl J) (nth a1.Zl J))) then (.inl false) else yT a0 a1 n1 (J + 1)) else (.inr ()))
def yB (a0 : Zi) (a1 : Zi) : Bool := (bif ((!(zl a0.ZL a1.ZL)) || ((a0.Zl.length : Int) != (a1.Zl.length : Int))) then false else (match yT a0 a1 (a0.Zl.length + 1) 0 with | .inl r1 => r1 | .inr _ => true))
def yZ (a0 : ZV) (a1 : ZV) : Bool := (((((a0.Id == a1.Id) && (a0.Yr == a1.Yr)) && (Ki a0.Doc a1.Doc)) && ((a0.Sig.Key == a1.Sig.Key) && ((a0.Sig.ZQ == a1.Sig.ZQ) && ((a0.Sig.Method == a1.Sig.Method) && ((a0.Sig.XJ == a1.Sig.XJ) && ((a0.Sig.xI == a1.Sig.xI) && ((a0.Sig.Org == a1.Sig.Org) && ((a0.Sig.xL == a1.Sig.xL) && ((a0.Sig.km == a1.Sig.km) && (a0.Sig.Mark == a1.Sig.Mark)))))))))) && (yB a0.ZJ a1.ZJ))
def zk (a0 : ZE) (a1 : ZE) : Nat -> Nat -> Sum Bool Unit
  | 0, _ => .inr ()
  | n1 + 1, J => (bif (decide ((J : Int) < (a0.ZC.length : Int))) then (bif (!(yZ (nth a0.ZC J) (nth a1.ZC J))) then (.inl false) else zk a0 a1 n1 (J + 1)) else (.inr ()))
def J2 (a0 : ZE) (a1 : ZE) : Bool := (bif ((a0.Id != a1.Id) || ((a0.ZC.length : Int) != (a1.ZC.length : Int))) then false else (match zk a0 a1 (a0.ZC.length + 1) 0 with | .inl r1 => r1 | .inr _ => true))
def y5 (a0 : ZG) (a1 : ZG) : Nat -> Nat -> Sum Bool Unit
  | 0, _ => .inr ()
  | n2 + 1, uI => (bif (decide ((uI : Int) < (a0.ZA.length : Int))) then (bif (!(J2 (nth a0.ZA uI) (nth a1.ZA uI))) then (.inl false) else y5 a0 a1 n2 (uI + 1)) else (.inr ()))
def xE (a0 : ZG) (a1 : ZG) : Nat -> Nat -> Sum Bool Unit
  | 0, _ => .inr ()
  | n1 + 1, J => (bif (decide ((J : Int) < (a0.ZM.length : Int))) then (bif (!(((nth a0.ZM J).ZQ == (nth a1.ZM J).ZQ) && (((nth a0.ZM J).Key == (nth a1.ZM J).Key) && (((nth a0.ZM J).zf == (nth a1.ZM J).zf) && (((nth a0.ZM J).qR == (nth a1.ZM J).qR) && (((nth a0.ZM J).To == (nth a1.ZM J).To) && (((nth a0.ZM J).Zm == (nth a1.ZM J).Zm) && ((nth a0.ZM J).Mark == (nth a1.ZM J).Mark)))))))) then (.inl false) else xE a0 a1 n1 (J + 1)) else (.inr ()))
def QY (a0 : ZG) (a1 : ZG) : Bool := (bif ((((((((!(yw a0.Frame a1.Frame)) || ((a0.ZM.length : Int) != (a1.ZM.length : Int))) || ((a0.ZA.length : Int) != (a1.ZA.length : Int))) || (!(J8 a0.Zy a1.Zy))) || (!(J8 a0.Yb a1.Yb))) || (!(J8 a0.YO a1.YO))) || (a0.Next != a1.Next)) || (!(J8 a0.YF a1.YF))) then false else (match xE a0 a1 (a0.ZM.length + 1) 0 with | .inl r1 => r1 | .inr _ => (match y5 a0 a1 (a0.ZA.length + 1) 0 with | .inl r2 => r2 | .inr _ => true)))
def Sl (a0 : Zu) : Zu := a0
def MR (a0 : ZU) : ZU := a0
def P9 (a0 : Ze) : Ze := a0
def Vt (a0 : List Ze) : Nat -> List Ze -> Nat -> (List Ze)
  | 0, _, _ => default
  | n1 + 1, J, U => (bif (decide ((U : Int) < (a0.length : Int))) then Vt a0 n1 (J ++ ([(nth a0 U)] : List Ze)) (U + 1) else (J))
def RN (a0 : List Ze) : List Ze := (match Vt a0 (a0.length + 1) ([] : List Ze) 0 with | z1_0 => z1_0)
def PJ (a0 : Zb) : Zb := a0
def WJ (a0 : Zi) : Nat -> Nat -> List Zb -> (List Zb)
  | 0, _, _ => default
  | n1 + 1, J, U => (bif (decide ((J : Int) < (a0.Zl.length : Int))) then WJ a0 n1 (J + 1) (U ++ ([(nth a0.Zl J)] : List Zb)) else (U))
def Tp (a0 : Zi) : Zi := (match WJ a0 (a0.Zl.length + 1) 0 ([] : List Zb) with | z1_0 => (Zi.mk a0.ZL z1_0))
def Pl (a0 : ZV) : ZV := a0
def Wr (a0 : ZE) : Nat -> Nat -> List ZV -> (List ZV)
  | 0, _, _ => default
  | n1 + 1, J, U => (bif (decide ((J : Int) < (a0.ZC.length : Int))) then Wr a0 n1 (J + 1) (U ++ ([(nth a0.ZC J)] : List ZV)) else (U))
def Tk (a0 : ZE) : ZE := (match Wr a0 (a0.ZC.length + 1) 0 ([] : List ZV) with | z1_0 => (ZE.mk a0.Id z1_0))
def WY (a0 : ZG) : Nat -> Nat -> List ZE -> (List ZE)
  | 0, _, _ => default
  | n1 + 1, J, U => (bif (decide ((J : Int) < (a0.ZA.length : Int))) then WY a0 n1 (J + 1) (U ++ ([(nth a0.ZA J)] : List ZE)) else (U))
def Tl (a0 : ZG) : ZG := (match WY a0 (a0.ZA.length + 1) 0 ([] : List ZE) with | z1_0 => (ZG.mk a0.Frame a0.ZM a0.Zy z1_0 a0.Yb a0.YO a0.Next a0.YF))
def qn (a0 : ZG) (a1 : Int) : ZG × Bool := (bif ((!(YJ a1 0 100)) || (decide ((W (a0.Frame.Now + a1)) > 10000))) then (a0, false) else ((ZG.mk (Zu.mk a0.Frame.Zq a0.Frame.ZF a0.Frame.Methods a0.Frame.KE (W (a0.Frame.Now + a1))) a0.ZM a0.Zy a0.ZA a0.Yb a0.YO a0.Next a0.YF), true))
def X9 (a0 : ZG) (a1 : Int) : Bool := (YJ a1 0 (W ((a0.ZA.length : Int) - 1)))
def qK (a0 : List YE) (a1 : Int) : Nat -> Int -> Nat -> Int
  | 0, _, _ => default
  | n1 + 1, J, U => (bif (decide ((U : Int) < (a0.length : Int))) then (bif (((decide (a1 >= (nth a0 U).Ua)) && (decide (a1 < (nth a0 U).Ends))) && ((decide (J < 0)) || (decide ((nth a0 U).Ends > (nth a0 J.toNat).Ends)))) then qK a0 a1 n1 (U : Int) (U + 1) else qK a0 a1 n1 J (U + 1)) else (J))
def Zf (a0 : List YE) (a1 : Int) : Int := (match qK a0 a1 (a0.length + 1) (-1) 0 with | z1_0 => (bif (decide (z1_0 < 0)) then (-1) else (nth a0 z1_0.toNat).Id))
def jC (a0 : ZG) (a1 : Int) : Nat -> Nat -> Sum Int Unit
  | 0, _ => .inr ()
  | n1 + 1, J => (bif (decide ((J : Int) < (a0.ZM.length : Int))) then (bif ((nth a0.ZM J).Key == a1) then (.inl (J : Int)) else jC a0 a1 n1 (J + 1)) else (.inr ()))
def QV (a0 : ZG) (a1 : Int) : Int := (match jC a0 a1 (a0.ZM.length + 1) 0 with | .inl r1 => r1 | .inr _ => (-1))
def KS (a0 : Int) (a1 : List Int) : Int := (Hx (([7, a0] : List Int) ++ a1))
def kQ (a1 : ByteArray) : Nat -> List Int -> Nat -> (List Int)
  | 0, _, _ => default
  | n1 + 1, J, U => (bif (decide ((U : Int) < (a1.size : Int))) then kQ a1 n1 (J ++ ([(W ((bAt a1 U) : Int))] : List Int)) (U + 1) else (J))
def UD (a0 : Int) (a1 : ByteArray) (a2 : Int) : Int := (match kQ a1 (a1.size + 1) ([a2] : List Int) 0 with | z1_0 => (KS a0 z1_0))
def W7 (a0 : Int) (a1 : ZU) : Nat -> List Int -> Nat -> (List Int)
  | 0, _, _ => default
  | n1 + 1, J, U => (bif (decide ((U : Int) < (a1.Y3.length : Int))) then W7 a0 a1 n1 (J ++ ([(UD a0 (nth a1.Y3 U) (nth a1.QL U))] : List Int)) (U + 1) else (J))
def JY (a0 : Int) (a1 : ZU) : Int := (bif (!(K9 a1)) then (-1) else (match W7 a0 a1 (a1.Y3.length + 1) ([a1.jL] : List Int) 0 with | z1_0 => (KS a0 z1_0)))
def W2 (a0 : Zv) : Bool := ((((((((YJ a0.Key 1 99) && (YJ a0.ZQ 1 999)) && (YJ a0.Method 0 99)) && (YJ a0.Org 0 99)) && (YJ a0.xI 1 3)) && (YJ a0.XJ 0 1000000000000)) && (YJ a0.xL 0 1000000000000)) && (YJ a0.km 0 1000000000000))
def Qn (a0 : Zv) : List Int := ([104, a0.Key, a0.ZQ, a0.Method, a0.XJ, a0.xI, a0.Org, a0.xL, a0.km] : List Int)
def zF (a0 : List XD) (a1 : Zv) : Zv × Bool := (bif ((!(W2 a1)) || (decide ((YT a0 a1.Key) < 0))) then ((Zv.mk 0 0 0 0 0 0 0 0 0), false) else ((Zv.mk a1.Key a1.ZQ a1.Method a1.XJ a1.xI a1.Org a1.xL a1.km (qj (nth a0 (YT a0 a1.Key).toNat) (Qn a1))), true))
def xT (a0 : Zv) : Ze := (Ze.mk a0.Key (Qn a0) a0.Mark)
def Wo (a0 : Yi) : Ze := (Ze.mk a0.Zm (yD a0) a0.Mark)
def Xa (a0 : ZG) (a1 : Int) (a2 : ZU) (a3 : Int) (a4 : Int) : ZV × Bool := (bif ((decide ((Zf a0.Frame.Methods a0.Frame.Now) < 0)) || (decide ((QV a0 a1) < 0))) then ((ZV.mk 0 0 (ZU.mk 0 ([] : List ByteArray) ([] : List Int)) (Zv.mk 0 0 0 0 0 0 0 0 0) (Zi.mk ([] : List Ze) ([] : List Zb))), false) else ((ZV.mk a0.Next a4 a2 (zF a0.Frame.Zq (Zv.mk a1 (nth a0.ZM (QV a0 a1).toNat).ZQ (Zf a0.Frame.Methods a0.Frame.Now) (JY (Zf a0.Frame.Methods a0.Frame.Now) a2) 1 a3 0 0 0)).1 (Zi.mk ([(xT (zF a0.Frame.Zq (Zv.mk a1 (nth a0.ZM (QV a0 a1).toNat).ZQ (Zf a0.Frame.Methods a0.Frame.Now) (JY (Zf a0.Frame.Methods a0.Frame.Now) a2) 1 a3 0 0 0)).1), (Wo (nth a0.ZM (QV a0 a1).toNat))] : List Ze) ([] : List Zb))), (zF a0.Frame.Zq (Zv.mk a1 (nth a0.ZM (QV a0 a1).toNat).ZQ (Zf a0.Frame.Methods a0.Frame.Now) (JY (Zf a0.Frame.Methods a0.Frame.Now) a2) 1 a3 0 0 0)).2))
def VH (a0 : List Int) (a1 : List Int) : Nat -> Nat -> Sum Bool Unit
  | 0, _ => .inr ()
  | n1 + 1, J => (bif (decide ((J : Int) < (a0.length : Int))) then (bif ((nth a0 J) != (nth a1 J)) then (.inl false) else VH a0 a1 n1 (J + 1)) else (.inr ()))
def Uu (a0 : List Int) (a1 : List Int) : Bool := (bif ((a0.length : Int) != (a1.length : Int)) then false else (match VH a0 a1 (a0.length + 1) 0 with | .inl r1 => r1 | .inr _ => true))
def qx (a0 : Ze) (a1 : Ze) : Bool := (((a0.Key == a1.Key) && (a0.Mark == a1.Mark)) && (Uu a0.XC a1.XC))
def W1 (a0 : Zi) (a1 : Ze) : Nat -> Nat -> Sum Int Unit
  | 0, _ => .inr ()
  | n1 + 1, J => (bif (decide ((J : Int) < (a0.ZL.length : Int))) then (bif (qx (nth a0.ZL J) a1) then (.inl (J : Int)) else W1 a0 a1 n1 (J + 1)) else (.inr ()))
def WQ (a0 : Zi) (a1 : Ze) : Int := (match W1 a0 a1 (a0.ZL.length + 1) 0 with | .inl r1 => r1 | .inr _ => (-1))
def xv (a0 : Zi) : Nat -> Nat -> Sum Bool Unit
  | 0, _ => .inr ()
  | n2 + 1, uI => (bif (decide ((uI : Int) < (a0.Zl.length : Int))) then (bif ((!(YJ (nth a0.Zl uI).Count 1 (a0.ZL.length : Int))) || ((decide ((uI : Int) > 0)) && (decide ((nth a0.Zl (uI - 1)).Count > (nth a0.Zl uI).Count)))) then (.inl false) else xv a0 n2 (uI + 1)) else (.inr ()))
def qD (a0 : Zi) : Nat -> Nat -> Sum Bool Unit
  | 0, _ => .inr ()
  | n1 + 1, J => (bif (decide ((J : Int) < (a0.ZL.length : Int))) then (bif (decide ((WQ a0 (nth a0.ZL J)) < (J : Int))) then (.inl false) else qD a0 n1 (J + 1)) else (.inr ()))
def xJ (a0 : Zi) : Bool := (match qD a0 (a0.ZL.length + 1) 0 with | .inl r1 => r1 | .inr _ => (match xv a0 (a0.Zl.length + 1) 0 with | .inl r2 => r2 | .inr _ => ((YJ (a0.ZL.length : Int) 1 12) && (decide ((a0.Zl.length : Int) <= 8)))))
def RQ (a0 : ZV) : Bool := (((((YJ a0.Id 1 999) && (kX a0.Yr)) && (K9 a0.Doc)) && (xJ a0.ZJ)) && (qx (nth a0.ZJ.ZL 0) (xT a0.Sig)))
def W6 (a0 : ZE) : Nat -> Nat -> Sum Bool Unit
  | 0, _ => .inr ()
  | n1 + 1, J => (bif (decide ((J : Int) < (a0.ZC.length : Int))) then (bif ((!(RQ (nth a0.ZC J))) || ((decide ((J : Int) > 0)) && (decide ((nth a0.ZC (J - 1)).Id >= (nth a0.ZC J).Id)))) then (.inl false) else W6 a0 n1 (J + 1)) else (.inr ()))
def QT (a0 : ZE) : Bool := (match W6 a0 (a0.ZC.length + 1) 0 with | .inl r1 => r1 | .inr _ => ((YJ a0.Id 0 99) && (decide ((a0.ZC.length : Int) <= 8))))
def jx (a0 : ZE) (a1 : Int) : Nat -> Nat -> Sum Int Unit
  | 0, _ => .inr ()
  | n1 + 1, J => (bif (decide ((J : Int) < (a0.ZC.length : Int))) then (bif ((nth a0.ZC J).Id == a1) then (.inl (J : Int)) else jx a0 a1 n1 (J + 1)) else (.inr ()))
def Yf (a0 : ZE) (a1 : Int) : Int := (match jx a0 a1 (a0.ZC.length + 1) 0 with | .inl r1 => r1 | .inr _ => (-1))
def J5 (a0 : ZE) (a1 : ZV) : Nat -> Bool -> Nat -> List ZV -> Bool × (List ZV)
  | 0, _, _, _ => (default, default)
  | n1 + 1, J, U, uF => (bif (decide ((U : Int) < (a0.ZC.length : Int))) then (bif ((!J) && (decide (a1.Id < (nth a0.ZC U).Id))) then J5 a0 a1 n1 true (U + 1) ((uF ++ ([a1] : List ZV)) ++ ([(nth a0.ZC U)] : List ZV)) else J5 a0 a1 n1 J (U + 1) (uF ++ ([(nth a0.ZC U)] : List ZV))) else ((J, uF)))
def Xo (a0 : ZE) (a1 : ZV) : ZE × Bool := (bif ((!(QT a0)) || (decide ((Yf a0 a1.Id) >= 0))) then (a0, false) else (match J5 a0 a1 (a0.ZC.length + 1) false 0 ([] : List ZV) with | (z1_0, z1_1) => (bif (!z1_0) then (bif (!(QT (ZE.mk a0.Id (z1_1 ++ ([a1] : List ZV))))) then (a0, false) else ((ZE.mk a0.Id (z1_1 ++ ([a1] : List ZV))), true)) else (bif (!(QT (ZE.mk a0.Id z1_1))) then (a0, false) else ((ZE.mk a0.Id z1_1), true)))))
def qW (a0 : ZG) (a1 : Int) (a2 : Int) (a3 : ZU) (a4 : Int) (a5 : Int) : ZG × Bool := (bif (((!(X9 a0 a1)) || (decide ((YT a0.Frame.Zq a2) < 0))) || (decide ((nth a0.Frame.Zq (YT a0.Frame.Zq a2).toNat).Uj > a0.Frame.Now))) then (a0, false) else (bif (!(Xa a0 a2 a3 a4 a5).2) then (a0, false) else (bif (!(Xo (nth a0.ZA a1.toNat) (Xa a0 a2 a3 a4 a5).1).2) then (a0, false) else ((ZG.mk a0.Frame a0.ZM a0.Zy (a0.ZA.set a1.toNat (Xo (nth a0.ZA a1.toNat) (Xa a0 a2 a3 a4 a5).1).1) a0.Yb a0.YO (W (a0.Next + 1)) a0.YF), true))))
def qX (a0 : ZG) (a1 : Int) : Nat -> Nat -> Sum (Int × Int) Unit
  | 0, _ => .inr ()
  | n1 + 1, J => (bif (decide ((J : Int) < (a0.ZA.length : Int))) then (bif (decide ((Yf (nth a0.ZA J) a1) >= 0)) then (.inl ((J : Int), (Yf (nth a0.ZA J) a1))) else qX a0 a1 n1 (J + 1)) else (.inr ()))
def ZB (a0 : ZG) (a1 : Int) : Int × Int := (match qX a0 a1 (a0.ZA.length + 1) 0 with | .inl r1 => r1 | .inr _ => ((-1), (-1)))
def QZ (a0 : Ze) : Int := (bif (((a0.XC.length : Int) == 0) || (!(YJ (nth a0.XC 0) 101 105))) then 0 else (bif ((a0.XC.length : Int) != (nth ([7, 5, 5, 9, 6] : List Int) (W ((nth a0.XC 0) - 101)).toNat)) then 0 else (nth a0.XC 0)))
def ZI (a0 : Ze) : Yi × Bool := (bif (((QZ a0) != 101) || ((nth a0.XC 6) != a0.Key)) then ((Yi.mk 0 0 0 0 0 0 0), false) else ((Yi.mk (nth a0.XC 1) (nth a0.XC 2) (nth a0.XC 3) (nth a0.XC 4) (nth a0.XC 5) (nth a0.XC 6) a0.Mark), true))
def jn (a0 : List Yi) (a1 : Int) : Nat -> Nat -> Sum Int Unit
  | 0, _ => .inr ()
  | n1 + 1, J => (bif (decide ((J : Int) < (a0.length : Int))) then (bif ((nth a0 J).ZQ == a1) then (.inl (J : Int)) else jn a0 a1 n1 (J + 1)) else (.inr ()))
def ZX (a0 : List Yi) (a1 : Int) : Int := (match jn a0 a1 (a0.length + 1) 0 with | .inl r1 => r1 | .inr _ => (-1))
def V7 (a0 : Zn) : Bool := ((((YJ a0.ZQ 1 999) && (kX a0.Rm)) && (YJ a0.Zy (-1) (W (a0.Rm + 1)))) && (YJ a0.Zm 1 99))
def KM (a0 : Zn) : List Int := ([102, a0.ZQ, a0.Rm, a0.Zy, a0.Zm] : List Int)
def Zj (a0 : List XD) (a1 : Zn) : Zn × Bool := (bif ((!(V7 a1)) || (decide ((YT a0 a1.Zm) < 0))) then ((Zn.mk 0 0 0 0 0), false) else ((Zn.mk a1.ZQ a1.Rm a1.Zy a1.Zm (qj (nth a0 (YT a0 a1.Zm).toNat) (KM a1))), true))
def Zr (a0 : Zn) : Ze := (Ze.mk a0.Zm (KM a0) a0.Mark)
def K8 (a0 : Zi) (a1 : Ze) : Zi × Bool := (bif (!(xJ (Zi.mk (a0.ZL ++ ([a1] : List Ze)) a0.Zl))) then (a0, false) else ((Zi.mk (a0.ZL ++ ([a1] : List Ze)) a0.Zl), true))
def YL (a0 : ZE) (a1 : Int) (a2 : Ze) : ZE × Bool := (bif (decide ((Yf a0 a1) < 0)) then (a0, false) else ((ZE.mk a0.Id (a0.ZC.set (Yf a0 a1).toNat (ZV.mk (nth a0.ZC (Yf a0 a1).toNat).Id (nth a0.ZC (Yf a0 a1).toNat).Yr (nth a0.ZC (Yf a0 a1).toNat).Doc (nth a0.ZC (Yf a0 a1).toNat).Sig (K8 (nth a0.ZC (Yf a0 a1).toNat).ZJ a2).1))), (K8 (nth a0.ZC (Yf a0 a1).toNat).ZJ a2).2))
def yU (a0 : ZG) (a1 : Int) : ZG × Bool := (bif ((decide ((ZB a0 a1).1 < 0)) || (decide (((nth (nth a0.ZA (ZB a0 a1).1.toNat).ZC (ZB a0 a1).2.toNat).ZJ.ZL.length : Int) < 2))) then (a0, false) else (bif (((!(ZI (nth (nth (nth a0.ZA (ZB a0 a1).1.toNat).ZC (ZB a0 a1).2.toNat).ZJ.ZL 1)).2) || (decide ((ZX a0.ZM (ZI (nth (nth (nth a0.ZA (ZB a0 a1).1.toNat).ZC (ZB a0 a1).2.toNat).ZJ.ZL 1)).1.ZQ) < 0))) || (decide ((ZX a0.ZM (ZI (nth (nth (nth a0.ZA (ZB a0 a1).1.toNat).ZC (ZB a0 a1).2.toNat).ZJ.ZL 1)).1.ZQ) >= (a0.Zy.length : Int)))) then (a0, false) else (bif (decide ((nth a0.Zy (ZX a0.ZM (ZI (nth (nth (nth a0.ZA (ZB a0 a1).1.toNat).ZC (ZB a0 a1).2.toNat).ZJ.ZL 1)).1.ZQ).toNat) <= (W (a0.Frame.Now + 1)))) then (bif ((!(Zj a0.Frame.Zq (Zn.mk (ZI (nth (nth (nth a0.ZA (ZB a0 a1).1.toNat).ZC (ZB a0 a1).2.toNat).ZJ.ZL 1)).1.ZQ a0.Frame.Now (nth a0.Zy (ZX a0.ZM (ZI (nth (nth (nth a0.ZA (ZB a0 a1).1.toNat).ZC (ZB a0 a1).2.toNat).ZJ.ZL 1)).1.ZQ).toNat) (nth a0.ZM (ZX a0.ZM (ZI (nth (nth (nth a0.ZA (ZB a0 a1).1.toNat).ZC (ZB a0 a1).2.toNat).ZJ.ZL 1)).1.ZQ).toNat).Zm 0)).2) || (decide ((nth a0.Frame.Zq (YT a0.Frame.Zq (nth a0.ZM (ZX a0.ZM (ZI (nth (nth (nth a0.ZA (ZB a0 a1).1.toNat).ZC (ZB a0 a1).2.toNat).ZJ.ZL 1)).1.ZQ).toNat).Zm).toNat).Uj > a0.Frame.Now))) then (a0, false) else ((ZG.mk a0.Frame a0.ZM a0.Zy (a0.ZA.set (ZB a0 a1).1.toNat (YL (nth a0.ZA (ZB a0 a1).1.toNat) a1 (Zr (Zj a0.Frame.Zq (Zn.mk (ZI (nth (nth (nth a0.ZA (ZB a0 a1).1.toNat).ZC (ZB a0 a1).2.toNat).ZJ.ZL 1)).1.ZQ a0.Frame.Now (nth a0.Zy (ZX a0.ZM (ZI (nth (nth (nth a0.ZA (ZB a0 a1).1.toNat).ZC (ZB a0 a1).2.toNat).ZJ.ZL 1)).1.ZQ).toNat) (nth a0.ZM (ZX a0.ZM (ZI (nth (nth (nth a0.ZA (ZB a0 a1).1.toNat).ZC (ZB a0 a1).2.toNat).ZJ.ZL 1)).1.ZQ).toNat).Zm 0)).1)).1) a0.Yb a0.YO a0.Next a0.YF), (YL (nth a0.ZA (ZB a0 a1).1.toNat) a1 (Zr (Zj a0.Frame.Zq (Zn.mk (ZI (nth (nth (nth a0.ZA (ZB a0 a1).1.toNat).ZC (ZB a0 a1).2.toNat).ZJ.ZL 1)).1.ZQ a0.Frame.Now (nth a0.Zy (ZX a0.ZM (ZI (nth (nth (nth a0.ZA (ZB a0 a1).1.toNat).ZC (ZB a0 a1).2.toNat).ZJ.ZL 1)).1.ZQ).toNat) (nth a0.ZM (ZX a0.ZM (ZI (nth (nth (nth a0.ZA (ZB a0 a1).1.toNat).ZC (ZB a0 a1).2.toNat).ZJ.ZL 1)).1.ZQ).toNat).Zm 0)).1)).2)) else (bif ((!(Zj a0.Frame.Zq (Zn.mk (ZI (nth (nth (nth a0.ZA (ZB a0 a1).1.toNat).ZC (ZB a0 a1).2.toNat).ZJ.ZL 1)).1.ZQ a0.Frame.Now (-1) (nth a0.ZM (ZX a0.ZM (ZI (nth (nth (nth a0.ZA (ZB a0 a1).1.toNat).ZC (ZB a0 a1).2.toNat).ZJ.ZL 1)).1.ZQ).toNat).Zm 0)).2) || (decide ((nth a0.Frame.Zq (YT a0.Frame.Zq (nth a0.ZM (ZX a0.ZM (ZI (nth (nth (nth a0.ZA (ZB a0 a1).1.toNat).ZC (ZB a0 a1).2.toNat).ZJ.ZL 1)).1.ZQ).toNat).Zm).toNat).Uj > a0.Frame.Now))) then (a0, false) else ((ZG.mk a0.Frame a0.ZM a0.Zy (a0.ZA.set (ZB a0 a1).1.toNat (YL (nth a0.ZA (ZB a0 a1).1.toNat) a1 (Zr (Zj a0.Frame.Zq (Zn.mk (ZI (nth (nth (nth a0.ZA (ZB a0 a1).1.toNat).ZC (ZB a0 a1).2.toNat).ZJ.ZL 1)).1.ZQ a0.Frame.Now (-1) (nth a0.ZM (ZX a0.ZM (ZI (nth (nth (nth a0.ZA (ZB a0 a1).1.toNat).ZC (ZB a0 a1).2.toNat).ZJ.ZL 1)).1.ZQ).toNat).Zm 0)).1)).1) a0.Yb a0.YO a0.Next a0.YF), (YL (nth a0.ZA (ZB a0 a1).1.toNat) a1 (Zr (Zj a0.Frame.Zq (Zn.mk (ZI (nth (nth (nth a0.ZA (ZB a0 a1).1.toNat).ZC (ZB a0 a1).2.toNat).ZJ.ZL 1)).1.ZQ a0.Frame.Now (-1) (nth a0.ZM (ZX a0.ZM (ZI (nth (nth (nth a0.ZA (ZB a0 a1).1.toNat).ZC (ZB a0 a1).2.toNat).ZJ.ZL 1)).1.ZQ).toNat).Zm 0)).1)).2)))))
def yl (a0 : ZG) (a1 : Int) : ZG × Bool := (bif ((!(YJ a1 0 (W ((a0.Zy.length : Int) - 1)))) || ((nth a0.Zy a1.toNat) != (-1))) then (a0, false) else ((ZG.mk a0.Frame a0.ZM (a0.Zy.set a1.toNat (W (a0.Frame.Now + 1))) a0.ZA a0.Yb a0.YO a0.Next a0.YF), true))
def ze (a0 : List Zw) (a1 : Int) : Nat -> Nat -> Sum Int Unit
  | 0, _ => .inr ()
  | n1 + 1, J => (bif (decide ((J : Int) < (a0.length : Int))) then (bif ((nth a0 J).Id == a1) then (.inl (J : Int)) else ze a0 a1 n1 (J + 1)) else (.inr ()))
def Zk (a0 : List Zw) (a1 : Int) : Int := (match ze a0 a1 (a0.length + 1) 0 with | .inl r1 => r1 | .inr _ => (-1))
def qm (a0 : ZG) (a1 : List Int) : Nat -> Nat -> Sum Bool Unit
  | 0, _ => .inr ()
  | n1 + 1, J => (bif (decide ((J : Int) < (a1.length : Int))) then (bif (((decide ((Zk a0.Frame.ZF (nth a1 J)) < 0)) || (decide ((Zk a0.Frame.ZF (nth a1 J)) >= (a0.Yb.length : Int)))) || ((decide ((J : Int) > 0)) && (decide ((nth a1 (J - 1)) >= (nth a1 J))))) then (.inl false) else (bif ((decide ((YT a0.Frame.Zq (nth a0.Frame.ZF (Zk a0.Frame.ZF (nth a1 J)).toNat).Key) < 0)) || (decide ((nth a0.Frame.Zq (YT a0.Frame.Zq (nth a0.Frame.ZF (Zk a0.Frame.ZF (nth a1 J)).toNat).Key).toNat).Uj > a0.Frame.Now))) then (.inl false) else qm a0 a1 n1 (J + 1))) else (.inr ()))
def U4 (a0 : ZG) (a1 : List Int) : Bool := (match qm a0 a1 (a1.length + 1) 0 with | .inl r1 => r1 | .inr _ => (decide ((a1.length : Int) > 0)))
def zw (a0 : Zi) (a1 : ZU) : Nat -> List Int -> Nat -> (List Int)
  | 0, _, _ => default
  | n1 + 1, J, U => (bif (decide ((U : Int) < (a0.Zl.length : Int))) then zw a0 a1 n1 (J ++ ([(JY (nth a0.Zl U).Method a1)] : List Int)) (U + 1) else (J))
def ya (a0 : Zi) (a1 : ZU) : List Int := (match zw a0 a1 (a0.Zl.length + 1) ([] : List Int) 0 with | z1_0 => z1_0)
def Kv (a0 : Zp) : List Int := ([103, a0.Authority, a0.Seq, a0.Time, a0.XJ] : List Int)
def xo (a1 : Zb) : Nat -> List Int -> Nat -> (List Int)
  | 0, _, _ => default
  | n2 + 1, uI, uS => (bif (decide ((uS : Int) < (a1.Xh.length : Int))) then xo a1 n2 ((uI ++ (Kv (nth a1.Xh uS))) ++ ([(nth a1.Xh uS).Mark] : List Int)) (uS + 1) else (uI))
def zi (a1 : Zb) : Nat -> List Int -> Nat -> (List Int)
  | 0, _, _ => default
  | n1 + 1, J, U => (bif (decide ((U : Int) < (a1.Path.length : Int))) then (bif (nth a1.Path U).Left then zi a1 n1 ((J ++ ([(nth a1.Path U).XJ] : List Int)) ++ ([1] : List Int)) (U + 1) else zi a1 n1 ((J ++ ([(nth a1.Path U).XJ] : List Int)) ++ ([0] : List Int)) (U + 1)) else (J))
def zJ (a0 : Int) (a1 : Zb) : Int := (match zi a1 (a1.Path.length + 1) ([4, a1.Count, a1.Method, a1.FI] : List Int) 0 with | z1_0 => (match xo a1 (a1.Xh.length + 1) (z1_0 ++ ([(a1.Xh.length : Int)] : List Int)) 0 with | z2_0 => (KS a0 z2_0)))
def qg (a0 : Int) (a1 : List Ze) : Nat -> List Int -> Nat -> (List Int)
  | 0, _, _ => default
  | n1 + 1, J, U => (bif (decide ((U : Int) < (a1.length : Int))) then qg a0 a1 n1 (J ++ ([(KS a0 (([(nth a1 U).Key, (nth a1 U).Mark] : List Int) ++ (nth a1 U).XC))] : List Int)) (U + 1) else (J))
def Kl (a0 : Int) (a1 : List Ze) : Int := (match qg a0 a1 (a1.length + 1) ([2] : List Int) 0 with | z1_0 => (KS a0 z1_0))
def Ra (a0 : Int) (a1 : Int) (a2 : List Ze) (a3 : Int) : Int := (KS a0 ([3, a1, (Kl a0 a2), a3] : List Int))
def LO (a0 : Zi) (a1 : List Int) (a2 : Int) : Int := (bif (((!(YJ a2 0 (W ((a0.Zl.length : Int) - 1)))) || ((a1.length : Int) != (a0.Zl.length : Int))) || (!(YJ (nth a0.Zl a2.toNat).Count 0 (a0.ZL.length : Int)))) then (-1) else (bif (decide (a2 > 0)) then (Ra (nth a0.Zl a2.toNat).Method (nth a1 a2.toNat) (a0.ZL.take (nth a0.Zl a2.toNat).Count.toNat) (zJ (nth a0.Zl a2.toNat).Method (nth a0.Zl (W (a2 - 1)).toNat))) else (Ra (nth a0.Zl a2.toNat).Method (nth a1 a2.toNat) (a0.ZL.take (nth a0.Zl a2.toNat).Count.toNat) 0)))
def zW (a0 : ZE) (a1 : Int) : Nat -> List Int -> Nat -> (List Int)
  | 0, _, _ => default
  | n1 + 1, J, U => (bif (decide ((U : Int) < (a0.ZC.length : Int))) then zW a0 a1 n1 (J ++ ([(LO (Zi.mk (nth a0.ZC U).ZJ.ZL ((nth a0.ZC U).ZJ.Zl ++ ([(Zb.mk ((nth a0.ZC U).ZJ.ZL.length : Int) a1 0 ([] : List XY) ([] : List Zp))] : List Zb))) (ya (Zi.mk (nth a0.ZC U).ZJ.ZL ((nth a0.ZC U).ZJ.Zl ++ ([(Zb.mk ((nth a0.ZC U).ZJ.ZL.length : Int) a1 0 ([] : List XY) ([] : List Zp))] : List Zb))) (nth a0.ZC U).Doc) (W ((((nth a0.ZC U).ZJ.Zl ++ ([(Zb.mk ((nth a0.ZC U).ZJ.ZL.length : Int) a1 0 ([] : List XY) ([] : List Zp))] : List Zb)).length : Int) - 1)))] : List Int)) (U + 1) else (J))
def YW (a0 : ZE) (a1 : Int) : List Int := (match zW a0 a1 (a0.ZC.length + 1) ([] : List Int) 0 with | z1_0 => z1_0)
def UB (a0 : Int) (a1 : Int) (a2 : Int) : Int := (KS a0 ([1, a1, a2] : List Int))
def qV (a0 : Int) (a1 : List Int) : Nat -> List Int -> Nat -> (List Int)
  | 0, _, _ => default
  | n1 + 1, J, U => (bif (decide ((U : Int) < (a1.length : Int))) then (bif (decide ((W ((U : Int) + 1)) < (a1.length : Int))) then qV a0 a1 n1 (J ++ ([(UB a0 (nth a1 U) (nth a1 (W ((U : Int) + 1)).toNat))] : List Int)) (U + 2) else qV a0 a1 n1 (J ++ ([(nth a1 U)] : List Int)) (U + 2)) else (J))
def Ws (a0 : Int) (a1 : List Int) : List Int := (match qV a0 a1 (a1.length + 1) ([] : List Int) 0 with | z1_0 => z1_0)
def V9 (a0 : Int) : Nat -> List Int -> (List Int)
  | 0, _ => default
  | n1 + 1, J => (bif (decide ((J.length : Int) > 1)) then V9 a0 n1 (Ws a0 J) else (J))
def Kb (a0 : Int) (a1 : List Int) : Int := (bif (!(YJ (a1.length : Int) 1 16)) then (-1) else (match V9 a0 (a1.length + 1) a1 with | z1_0 => (nth z1_0 0)))
def yh (a0 : ZE) (a1 : Int) : Int := (Kb a1 (YW a0 a1))
def PY (a0 : List Int) (a1 : Int) : Nat -> Nat -> Sum Bool Unit
  | 0, _ => .inr ()
  | n1 + 1, J => (bif (decide ((J : Int) < (a0.length : Int))) then (bif ((nth a0 J) == a1) then (.inl true) else PY a0 a1 n1 (J + 1)) else (.inr ()))
def RX (a0 : List Int) (a1 : Int) : Bool := (match PY a0 a1 (a0.length + 1) 0 with | .inl r1 => r1 | .inr _ => false)
def KK (a0 : List XD) (a1 : List Zw) (a2 : Zp) : Zp × Bool := (bif (((decide ((Zk a1 a2.Authority) < 0)) || (decide (a2.Seq < 0))) || (!(kX a2.Time))) then ((Zp.mk 0 0 0 0 0), false) else (bif (decide ((YT a0 (nth a1 (Zk a1 a2.Authority).toNat).Key) < 0)) then ((Zp.mk 0 0 0 0 0), false) else ((Zp.mk a2.Authority a2.Seq a2.Time a2.XJ (qj (nth a0 (YT a0 (nth a1 (Zk a1 a2.Authority).toNat).Key).toNat) (Kv a2))), true)))
def K2 (a0 : Int) : Nat -> Int -> List XY -> List Int -> (List XY)
  | 0, _, _, _ => default
  | n1 + 1, J, U, uF => (bif (decide ((uF.length : Int) > 1)) then (bif ((Int.tmod J 2) == 1) then K2 a0 n1 (W (Int.tdiv J 2)) (U ++ ([(XY.mk (nth uF (W (J - 1)).toNat) true)] : List XY)) (Ws a0 uF) else (bif (decide ((W (J + 1)) < (uF.length : Int))) then K2 a0 n1 (W (Int.tdiv J 2)) (U ++ ([(XY.mk (nth uF (W (J + 1)).toNat) false)] : List XY)) (Ws a0 uF) else K2 a0 n1 (W (Int.tdiv J 2)) U (Ws a0 uF))) else (U))
def zA (a0 : Int) (a1 : List Int) (a2 : Int) : List XY := (bif ((decide ((a1.length : Int) > 16)) || (!(YJ a2 0 (W ((a1.length : Int) - 1))))) then ([] : List XY) else (match K2 a0 (a1.length + 1) a2 ([] : List XY) a1 with | z1_0 => z1_0))
def Xz (a0 : Zi) (a1 : Zb) : Zi × Bool := (bif (!(xJ (Zi.mk a0.ZL (a0.Zl ++ ([a1] : List Zb))))) then (a0, false) else ((Zi.mk a0.ZL (a0.Zl ++ ([a1] : List Zb))), true))
def JM (a0 : ZE) (a1 : Int) (a2 : List Zp) : Nat -> Bool -> Nat -> List ZV -> Bool × (List ZV)
  | 0, _, _, _ => (default, default)
  | n1 + 1, J, U, uF => (bif ((decide ((U : Int) < (a0.ZC.length : Int))) && J) then JM a0 a1 a2 n1 (Xz (nth a0.ZC U).ZJ (Zb.mk ((nth a0.ZC U).ZJ.ZL.length : Int) a1 (Kb a1 (YW a0 a1)) (zA a1 (YW a0 a1) (U : Int)) a2)).2 (U + 1) (uF.set U (ZV.mk (nth uF U).Id (nth uF U).Yr (nth uF U).Doc (nth uF U).Sig (Xz (nth a0.ZC U).ZJ (Zb.mk ((nth a0.ZC U).ZJ.ZL.length : Int) a1 (Kb a1 (YW a0 a1)) (zA a1 (YW a0 a1) (U : Int)) a2)).1)) else ((J, uF)))
def Xw (a0 : ZE) (a1 : Int) (a2 : List Zp) : ZE × Bool := (match JM a0 a1 a2 (a0.ZC.length + 1) ((QT a0) && (decide ((a0.ZC.length : Int) > 0))) 0 a0.ZC with | (z1_0, z1_1) => (bif ((!z1_0) || (!(QT (ZE.mk a0.Id z1_1)))) then (a0, false) else ((ZE.mk a0.Id z1_1), true)))
def yq (a0 : ZG) (a2 : List Int) : Nat -> Nat -> List Int -> (List Int)
  | 0, _, _ => default
  | n2 + 1, uI, uS => (bif (decide ((uI : Int) < (a2.length : Int))) then yq a0 a2 n2 (uI + 1) (uS.set (Zk a0.Frame.ZF (nth a2 uI)).toNat (W ((nth a0.Yb (Zk a0.Frame.ZF (nth a2 uI)).toNat) + 1))) else (uS))
def Qy (a0 : ZG) (a1 : Int) (a2 : List Int) (a3 : Int) : Nat -> List Zp -> Nat -> Sum (ZG × Bool) (List Zp)
  | 0, _, _ => .inr default
  | n1 + 1, J, U => (bif (decide ((U : Int) < (a2.length : Int))) then (bif (RX a0.YO (nth a2 U)) then (bif (!(KK a0.Frame.Zq a0.Frame.ZF (Zp.mk (nth a2 U) (nth a0.Yb (Zk a0.Frame.ZF (nth a2 U)).toNat) (Vl 10000 (xV 0 (W (a0.Frame.Now + a3)))) (yh (nth a0.ZA a1.toNat) (Zf a0.Frame.Methods a0.Frame.Now)) 0)).2) then (.inl (a0, false)) else Qy a0 a1 a2 a3 n1 (J ++ ([(KK a0.Frame.Zq a0.Frame.ZF (Zp.mk (nth a2 U) (nth a0.Yb (Zk a0.Frame.ZF (nth a2 U)).toNat) (Vl 10000 (xV 0 (W (a0.Frame.Now + a3)))) (yh (nth a0.ZA a1.toNat) (Zf a0.Frame.Methods a0.Frame.Now)) 0)).1] : List Zp)) (U + 1)) else (bif (!(KK a0.Frame.Zq a0.Frame.ZF (Zp.mk (nth a2 U) (nth a0.Yb (Zk a0.Frame.ZF (nth a2 U)).toNat) a0.Frame.Now (yh (nth a0.ZA a1.toNat) (Zf a0.Frame.Methods a0.Frame.Now)) 0)).2) then (.inl (a0, false)) else Qy a0 a1 a2 a3 n1 (J ++ ([(KK a0.Frame.Zq a0.Frame.ZF (Zp.mk (nth a2 U) (nth a0.Yb (Zk a0.Frame.ZF (nth a2 U)).toNat) a0.Frame.Now (yh (nth a0.ZA a1.toNat) (Zf a0.Frame.Methods a0.Frame.Now)) 0)).1] : List Zp)) (U + 1))) else (.inr J))
def z4 (a0 : ZG) (a1 : Int) (a2 : List Int) (a3 : Int) : ZG × Bool := (bif ((((!(X9 a0 a1)) || (decide ((Zf a0.Frame.Methods a0.Frame.Now) < 0))) || (!(U4 a0 a2))) || (!(YJ a3 (-10000) 10000))) then (a0, false) else (match Qy a0 a1 a2 a3 (a2.length + 1) ([] : List Zp) 0 with | .inl r1 => r1 | .inr z1_0 => (bif (!(Xw (nth a0.ZA a1.toNat) (Zf a0.Frame.Methods a0.Frame.Now) z1_0).2) then (a0, false) else (match yq a0 a2 (a2.length + 1) 0 a0.Yb with | z2_0 => ((ZG.mk a0.Frame a0.ZM a0.Zy (a0.ZA.set a1.toNat (Xw (nth a0.ZA a1.toNat) (Zf a0.Frame.Methods a0.Frame.Now) z1_0).1) z2_0 a0.YO a0.Next a0.YF), true)))))
def kv (a0 : Int) (a1 : ZV) : Nat -> List Int -> Nat -> (List Int)
  | 0, _, _ => default
  | n1 + 1, J, U => (bif (decide ((U : Int) < (a1.ZJ.Zl.length : Int))) then kv a0 a1 n1 (J ++ ([(zJ a0 (nth a1.ZJ.Zl U))] : List Int)) (U + 1) else (J))
def Vy (a0 : Int) (a1 : ZV) : Int := (match kv a0 a1 (a1.ZJ.Zl.length + 1) ([5, a1.Id, a1.Yr, (JY a0 a1.Doc), (Kl a0 a1.ZJ.ZL)] : List Int) 0 with | z1_0 => (KS a0 z1_0))
def Tb (a0 : Int) (a1 : List ZV) : Nat -> List Int -> Nat -> (List Int)
  | 0, _, _ => default
  | n1 + 1, J, U => (bif (decide ((U : Int) < (a1.length : Int))) then Tb a0 a1 n1 (J ++ ([(Vy a0 (nth a1 U))] : List Int)) (U + 1) else (J))
def Tq (a0 : Int) (a1 : List ZV) : Int := (match Tb a0 a1 (a1.length + 1) ([] : List Int) 0 with | z1_0 => (Kb a0 z1_0))
def JC (a0 : ZE) (a2 : List Int) : Nat -> Nat -> List ZV -> Sum (YS × Bool) (List ZV)
  | 0, _, _ => .inr default
  | n1 + 1, J, U => (bif (decide ((J : Int) < (a2.length : Int))) then (bif (decide ((Yf a0 (nth a2 J)) < 0)) then (.inl ((YS.mk 0 0 ([] : List ZV) 0), false)) else JC a0 a2 n1 (J + 1) (U ++ ([(nth a0.ZC (Yf a0 (nth a2 J)).toNat)] : List ZV))) else (.inr U))
def Yz (a0 : ZE) (a1 : Int) (a2 : List Int) (a3 : Int) : YS × Bool := (match JC a0 a2 (a2.length + 1) 0 ([] : List ZV) with | .inl r1 => r1 | .inr z1_0 => (bif ((a2.length : Int) == 0) then ((YS.mk 0 0 ([] : List ZV) 0), false) else ((YS.mk a0.Id a1 z1_0 (Tq a3 z1_0)), true)))
def J4 (a0 : YS) : Nat -> Nat -> Sum Bool Unit
  | 0, _ => .inr ()
  | n1 + 1, J => (bif (decide ((J : Int) < (a0.ZC.length : Int))) then (bif (!(RQ (nth a0.ZC J))) then (.inl false) else J4 a0 n1 (J + 1)) else (.inr ()))
def Jb (a0 : YS) (a1 : Int) : Bool := (match J4 a0 (a0.ZC.length + 1) 0 with | .inl r1 => r1 | .inr _ => ((YJ (a0.ZC.length : Int) 1 8) && (a0.XJ == (Tq a1 a0.ZC))))
def Qv (a1 : YS) : Nat -> Bool -> Nat -> Int -> List ZV -> Bool × Int × (List ZV)
  | 0, _, _, _, _ => (default, default, default)
  | n1 + 1, J, U, uF, uR => (bif ((decide ((U : Int) < (a1.ZC.length : Int))) && J) then Qv a1 n1 (Xo (ZE.mk uF uR) (nth a1.ZC U)).2 (U + 1) (Xo (ZE.mk uF uR) (nth a1.ZC U)).1.Id (Xo (ZE.mk uF uR) (nth a1.ZC U)).1.ZC else ((J, uF, uR)))
def XP (a0 : ZE) (a1 : YS) (a2 : Int) : ZE × Bool := (match Qv a1 (a1.ZC.length + 1) ((Jb a1 a2) && (a1.To == a0.Id)) 0 a0.Id a0.ZC with | (z1_0, z1_1, z1_2) => (bif (!z1_0) then (a0, false) else ((ZE.mk z1_1 z1_2), true)))
def K3 (a0 : ZE) (a1 : Int) : Nat -> Nat -> List ZV -> (List ZV)
  | 0, _, _ => default
  | n1 + 1, J, U => (bif (decide ((J : Int) < (a0.ZC.length : Int))) then (bif ((J : Int) != (Yf a0 a1)) then K3 a0 a1 n1 (J + 1) (U ++ ([(nth a0.ZC J)] : List ZV)) else K3 a0 a1 n1 (J + 1) U) else (U))
def yG (a0 : ZE) (a1 : Int) : ZE × Bool := (bif (decide ((Yf a0 a1) < 0)) then (a0, false) else (match K3 a0 a1 (a0.ZC.length + 1) 0 ([] : List ZV) with | z1_0 => ((ZE.mk a0.Id z1_0), true)))
def KT (a0 : ZE) (a1 : ZE) (a2 : List Int) (a3 : Int) : Nat -> Bool -> Nat -> Int -> List ZV -> Bool × Int × (List ZV)
  | 0, _, _, _, _ => (default, default, default)
  | n1 + 1, J, U, uF, uR => (bif (((decide ((U : Int) < (a2.length : Int))) && (Yz a0 a1.Id a2 a3).2) && J) then KT a0 a1 a2 a3 n1 (yG (ZE.mk uF uR) (nth a2 U)).2 (U + 1) (yG (ZE.mk uF uR) (nth a2 U)).1.Id (yG (ZE.mk uF uR) (nth a2 U)).1.ZC else ((J, uF, uR)))
def Xs (a0 : ZE) (a1 : ZE) (a2 : List Int) (a3 : Int) : ZE × ZE × Bool := (match KT a0 a1 a2 a3 (a2.length + 1) (XP a1 (Yz a0 a1.Id a2 a3).1 a3).2 0 a0.Id a0.ZC with | (z1_0, z1_1, z1_2) => (bif ((!(Yz a0 a1.Id a2 a3).2) || (!z1_0)) then (a0, a1, false) else ((ZE.mk z1_1 z1_2), (XP a1 (Yz a0 a1.Id a2 a3).1 a3).1, true)))
def qP (a0 : ZG) (a1 : Int) (a2 : Int) (a3 : Int) : ZG × Bool := (bif ((((!(X9 a0 a1)) || (!(X9 a0 a2))) || (a1 == a2)) || (decide ((Zf a0.Frame.Methods a0.Frame.Now) < 0))) then (a0, false) else ((ZG.mk a0.Frame a0.ZM a0.Zy ((a0.ZA.set a1.toNat (Xs (nth a0.ZA a1.toNat) (nth a0.ZA a2.toNat) ([a3] : List Int) (Zf a0.Frame.Methods a0.Frame.Now)).1).set a2.toNat (Xs (nth a0.ZA a1.toNat) (nth a0.ZA a2.toNat) ([a3] : List Int) (Zf a0.Frame.Methods a0.Frame.Now)).2.1) a0.Yb a0.YO a0.Next a0.YF), (Xs (nth a0.ZA a1.toNat) (nth a0.ZA a2.toNat) ([a3] : List Int) (Zf a0.Frame.Methods a0.Frame.Now)).2.2))
def JB (a0 : ZE) (a1 : Int) : Nat -> Int -> Nat -> List ZV -> Int × (List ZV)
  | 0, _, _, _ => (default, default)
  | n1 + 1, J, U, uF => (bif (decide ((U : Int) < (a0.ZC.length : Int))) then (bif (decide ((nth a0.ZC U).Yr < a1)) then JB a0 a1 n1 (W (J + 1)) (U + 1) uF else JB a0 a1 n1 J (U + 1) (uF ++ ([(nth a0.ZC U)] : List ZV))) else ((J, uF)))
def zG (a0 : ZE) (a1 : Int) : ZE × Int := (match JB a0 a1 (a0.ZC.length + 1) 0 0 ([] : List ZV) with | (z1_0, z1_1) => ((ZE.mk a0.Id z1_1), z1_0))
def yb (a0 : ZG) (a1 : Int) : ZG × Bool := (bif (!(X9 a0 a1)) then (a0, false) else ((ZG.mk a0.Frame a0.ZM a0.Zy (a0.ZA.set a1.toNat (zG (nth a0.ZA a1.toNat) a0.Frame.Now).1) a0.Yb a0.YO a0.Next a0.YF), true))
def qL (a0 : List YE) (a1 : Int) : Nat -> Nat -> Sum Int Unit
  | 0, _ => .inr ()
  | n1 + 1, J => (bif (decide ((J : Int) < (a0.length : Int))) then (bif ((nth a0 J).Id == a1) then (.inl (J : Int)) else qL a0 a1 n1 (J + 1)) else (.inr ()))
def ym (a0 : List YE) (a1 : Int) : Int := (match qL a0 a1 (a0.length + 1) 0 with | .inl r1 => r1 | .inr _ => (-1))
def PF (a0 : List YE) (a1 : Int) : Int := (bif (decide ((ym a0 a1) < 0)) then 0 else (nth a0 (ym a0 a1).toNat).kZ)
def ks (a0 : Zu) (a1 : Int) : Bool := ((decide ((YT a0.Zq a1) >= 0)) && (decide (a0.Now >= (PF a0.Methods (nth a0.Zq (YT a0.Zq a1).toNat).Method))))
def xX (a0 : ZG) (a1 : Int) (a2 : Int) (a3 : ZU) : ZG × Bool := (bif ((!(X9 a0 a1)) || (!(ks a0.Frame a2))) then (a0, false) else (bif (!(Xa a0 a2 a3 0 10000).2) then (a0, false) else (bif (!(Xo (nth a0.ZA a1.toNat) (Xa a0 a2 a3 0 10000).1).2) then (a0, false) else ((ZG.mk a0.Frame a0.ZM a0.Zy (a0.ZA.set a1.toNat (Xo (nth a0.ZA a1.toNat) (Xa a0 a2 a3 0 10000).1).1) a0.Yb a0.YO (W (a0.Next + 1)) (a0.YF ++ ([a0.Next] : List Int))), true))))
def JE (a0 : ZG) : Nat -> List Int -> Nat -> (List Int)
  | 0, _, _ => default
  | n1 + 1, J, U => (bif (decide ((U : Int) < (a0.Frame.ZF.length : Int))) then (bif ((RX a0.YO (nth a0.Frame.ZF U).Id) || (ks a0.Frame (nth a0.Frame.ZF U).Key)) then JE a0 n1 (J ++ ([(nth a0.Frame.ZF U).Id] : List Int)) (U + 1) else JE a0 n1 J (U + 1)) else (J))
def YK (a0 : ZG) : List Int := (match JE a0 (a0.Frame.ZF.length + 1) ([] : List Int) 0 with | z1_0 => z1_0)
def QX (a0 : ZG) (a1 : Int) (a2 : Int) : Nat -> Nat -> List Zp -> Sum (ZG × Bool) (List Zp)
  | 0, _, _ => .inr default
  | n1 + 1, J, U => (bif (decide ((J : Int) < ((YK a0).length : Int))) then (bif (!(KK a0.Frame.Zq a0.Frame.ZF (Zp.mk (nth (YK a0) J) 0 a2 (nth (YW (nth a0.ZA (ZB a0 a1).1.toNat) (Zf a0.Frame.Methods a0.Frame.Now)) (ZB a0 a1).2.toNat) 0)).2) then (.inl (a0, false)) else QX a0 a1 a2 n1 (J + 1) (U ++ ([(KK a0.Frame.Zq a0.Frame.ZF (Zp.mk (nth (YK a0) J) 0 a2 (nth (YW (nth a0.ZA (ZB a0 a1).1.toNat) (Zf a0.Frame.Methods a0.Frame.Now)) (ZB a0 a1).2.toNat) 0)).1] : List Zp))) else (.inr U))
def Jp (a0 : ZG) (a1 : Int) (a2 : Int) : ZG × Bool := (bif ((((decide ((ZB a0 a1).1 < 0)) || (decide ((Zf a0.Frame.Methods a0.Frame.Now) < 0))) || (!(RX a0.YF a1))) || (((YK a0).length : Int) == 0)) then (a0, false) else (match QX a0 a1 a2 ((YK a0).length + 1) 0 ([] : List Zp) with | .inl r1 => r1 | .inr z1_0 => ((ZG.mk a0.Frame a0.ZM a0.Zy (a0.ZA.set (ZB a0 a1).1.toNat (ZE.mk (nth a0.ZA (ZB a0 a1).1.toNat).Id ((nth a0.ZA (ZB a0 a1).1.toNat).ZC.set (ZB a0 a1).2.toNat (ZV.mk (nth (nth a0.ZA (ZB a0 a1).1.toNat).ZC (ZB a0 a1).2.toNat).Id (nth (nth a0.ZA (ZB a0 a1).1.toNat).ZC (ZB a0 a1).2.toNat).Yr (nth (nth a0.ZA (ZB a0 a1).1.toNat).ZC (ZB a0 a1).2.toNat).Doc (nth (nth a0.ZA (ZB a0 a1).1.toNat).ZC (ZB a0 a1).2.toNat).Sig (Xz (nth (nth a0.ZA (ZB a0 a1).1.toNat).ZC (ZB a0 a1).2.toNat).ZJ (Zb.mk ((nth (nth a0.ZA (ZB a0 a1).1.toNat).ZC (ZB a0 a1).2.toNat).ZJ.ZL.length : Int) (Zf a0.Frame.Methods a0.Frame.Now) (nth (YW (nth a0.ZA (ZB a0 a1).1.toNat) (Zf a0.Frame.Methods a0.Frame.Now)) (ZB a0 a1).2.toNat) ([] : List XY) z1_0)).1)))) a0.Yb a0.YO a0.Next a0.YF), (Xz (nth (nth a0.ZA (ZB a0 a1).1.toNat).ZC (ZB a0 a1).2.toNat).ZJ (Zb.mk ((nth (nth a0.ZA (ZB a0 a1).1.toNat).ZC (ZB a0 a1).2.toNat).ZJ.ZL.length : Int) (Zf a0.Frame.Methods a0.Frame.Now) (nth (YW (nth a0.ZA (ZB a0 a1).1.toNat) (Zf a0.Frame.Methods a0.Frame.Now)) (ZB a0 a1).2.toNat) ([] : List XY) z1_0)).2)))
def qT (a0 : ZG) (a1 : Int) (a2 : Int) : ZG × Bool := (bif ((decide ((ZB a0 a1).1 < 0)) || (decide (((nth (nth a0.ZA (ZB a0 a1).1.toNat).ZC (ZB a0 a1).2.toNat).ZJ.ZL.length : Int) < 2))) then (a0, false) else (bif (((!(ZI (nth (nth (nth a0.ZA (ZB a0 a1).1.toNat).ZC (ZB a0 a1).2.toNat).ZJ.ZL 1)).2) || (decide ((ZX a0.ZM (ZI (nth (nth (nth a0.ZA (ZB a0 a1).1.toNat).ZC (ZB a0 a1).2.toNat).ZJ.ZL 1)).1.ZQ) < 0))) || (!(ks a0.Frame (nth a0.ZM (ZX a0.ZM (ZI (nth (nth (nth a0.ZA (ZB a0 a1).1.toNat).ZC (ZB a0 a1).2.toNat).ZJ.ZL 1)).1.ZQ).toNat).Zm))) then (a0, false) else (bif (!(Zj a0.Frame.Zq (Zn.mk (ZI (nth (nth (nth a0.ZA (ZB a0 a1).1.toNat).ZC (ZB a0 a1).2.toNat).ZJ.ZL 1)).1.ZQ a2 (-1) (nth a0.ZM (ZX a0.ZM (ZI (nth (nth (nth a0.ZA (ZB a0 a1).1.toNat).ZC (ZB a0 a1).2.toNat).ZJ.ZL 1)).1.ZQ).toNat).Zm 0)).2) then (a0, false) else ((ZG.mk a0.Frame a0.ZM a0.Zy (a0.ZA.set (ZB a0 a1).1.toNat (YL (nth a0.ZA (ZB a0 a1).1.toNat) a1 (Zr (Zj a0.Frame.Zq (Zn.mk (ZI (nth (nth (nth a0.ZA (ZB a0 a1).1.toNat).ZC (ZB a0 a1).2.toNat).ZJ.ZL 1)).1.ZQ a2 (-1) (nth a0.ZM (ZX a0.ZM (ZI (nth (nth (nth a0.ZA (ZB a0 a1).1.toNat).ZC (ZB a0 a1).2.toNat).ZJ.ZL 1)).1.ZQ).toNat).Zm 0)).1)).1) a0.Yb a0.YO a0.Next a0.YF), (YL (nth a0.ZA (ZB a0 a1).1.toNat) a1 (Zr (Zj a0.Frame.Zq (Zn.mk (ZI (nth (nth (nth a0.ZA (ZB a0 a1).1.toNat).ZC (ZB a0 a1).2.toNat).ZJ.ZL 1)).1.ZQ a2 (-1) (nth a0.ZM (ZX a0.ZM (ZI (nth (nth (nth a0.ZA (ZB a0 a1).1.toNat).ZC (ZB a0 a1).2.toNat).ZJ.ZL 1)).1.ZQ).toNat).Zm 0)).1)).2))))
def XN (a0 : ZG) (a1 : Zg) : ZG × Bool := (bif (a1.Kind == 1) then ((qn a0 a1.A).1, (qn a0 a1.A).2) else (bif (a1.Kind == 2) then ((qW a0 a1.A a1.B a1.Doc a1.C a1.D).1, (qW a0 a1.A a1.B a1.Doc a1.C a1.D).2) else (bif (a1.Kind == 3) then ((yU a0 a1.A).1, (yU a0 a1.A).2) else (bif (a1.Kind == 4) then ((yl a0 a1.A).1, (yl a0 a1.A).2) else (bif (a1.Kind == 5) then ((z4 a0 a1.A a1.Ids a1.B).1, (z4 a0 a1.A a1.Ids a1.B).2) else (bif (a1.Kind == 6) then ((qP a0 a1.A a1.B a1.C).1, (qP a0 a1.A a1.B a1.C).2) else (bif (a1.Kind == 7) then ((yb a0 a1.A).1, (yb a0 a1.A).2) else (bif (a1.Kind == 8) then ((xX a0 a1.A a1.B a1.Doc).1, (xX a0 a1.A a1.B a1.Doc).2) else (bif (a1.Kind == 9) then ((Jp a0 a1.A a1.B).1, (Jp a0 a1.A a1.B).2) else (bif (a1.Kind == 10) then ((qT a0 a1.A a1.B).1, (qT a0 a1.A a1.B).2) else (a0, false)))))))))))
def yx (a1 : List Zg) : Nat -> Nat -> List XD -> List Zw -> List YE -> Int -> Int -> List Yi -> List Int -> List ZE -> List Int -> List Int -> Int -> List Int -> (List XD) × (List Zw) × (List YE) × Int × Int × (List Yi) × (List Int) × (List ZE) × (List Int) × (List Int) × Int × (List Int)
  | 0, _, _, _, _, _, _, _, _, _, _, _, _, _ => (default, default, default, default, default, default, default, default, default, default, default, default)
  | n1 + 1, J, U, uF, uR, ud, u7, uz, u3, u4, u5, ue, uh, uf => (bif (decide ((J : Int) < (a1.length : Int))) then yx a1 n1 (J + 1) (XN (ZG.mk (Zu.mk U uF uR ud u7) uz u3 u4 u5 ue uh uf) (nth a1 J)).1.Frame.Zq (XN (ZG.mk (Zu.mk U uF uR ud u7) uz u3 u4 u5 ue uh uf) (nth a1 J)).1.Frame.ZF (XN (ZG.mk (Zu.mk U uF uR ud u7) uz u3 u4 u5 ue uh uf) (nth a1 J)).1.Frame.Methods (XN (ZG.mk (Zu.mk U uF uR ud u7) uz u3 u4 u5 ue uh uf) (nth a1 J)).1.Frame.KE (XN (ZG.mk (Zu.mk U uF uR ud u7) uz u3 u4 u5 ue uh uf) (nth a1 J)).1.Frame.Now (XN (ZG.mk (Zu.mk U uF uR ud u7) uz u3 u4 u5 ue uh uf) (nth a1 J)).1.ZM (XN (ZG.mk (Zu.mk U uF uR ud u7) uz u3 u4 u5 ue uh uf) (nth a1 J)).1.Zy (XN (ZG.mk (Zu.mk U uF uR ud u7) uz u3 u4 u5 ue uh uf) (nth a1 J)).1.ZA (XN (ZG.mk (Zu.mk U uF uR ud u7) uz u3 u4 u5 ue uh uf) (nth a1 J)).1.Yb (XN (ZG.mk (Zu.mk U uF uR ud u7) uz u3 u4 u5 ue uh uf) (nth a1 J)).1.YO (XN (ZG.mk (Zu.mk U uF uR ud u7) uz u3 u4 u5 ue uh uf) (nth a1 J)).1.Next (XN (ZG.mk (Zu.mk U uF uR ud u7) uz u3 u4 u5 ue uh uf) (nth a1 J)).1.YF else ((U, uF, uR, ud, u7, uz, u3, u4, u5, ue, uh, uf)))
def K1 (a0 : ZG) (a1 : List Zg) : ZG := (match yx a1 (a1.length + 1) 0 a0.Frame.Zq a0.Frame.ZF a0.Frame.Methods a0.Frame.KE a0.Frame.Now a0.ZM a0.Zy a0.ZA a0.Yb a0.YO a0.Next a0.YF with | (z1_0, z1_1, z1_2, z1_3, z1_4, z1_5, z1_6, z1_7, z1_8, z1_9, z1_10, z1_11) => (ZG.mk (Zu.mk z1_0 z1_1 z1_2 z1_3 z1_4) z1_5 z1_6 z1_7 z1_8 z1_9 z1_10 z1_11))
def ZY (a0 : List UInt8) : ZG × Zg := (bif ((ZH (Z0 (Z7 (ZH (YY a0) 2).1 8).1).1 8).2 == 0) then ((K1 (XS (ZH (YY a0) 2).2) (Z7 (ZH (YY a0) 2).1 8).2), (Zg.mk (W ((ZH (ZH (Z0 (Z7 (ZH (YY a0) 2).1 8).1).1 8).1 13).2 - 1)) (Z0 (Z7 (ZH (YY a0) 2).1 8).1).2.A (Z0 (Z7 (ZH (YY a0) 2).1 8).1).2.B (Z0 (Z7 (ZH (YY a0) 2).1 8).1).2.C (Z0 (Z7 (ZH (YY a0) 2).1 8).1).2.D (Z0 (Z7 (ZH (YY a0) 2).1 8).1).2.Doc (Z0 (Z7 (ZH (YY a0) 2).1 8).1).2.Ids)) else (bif ((ZH (Z0 (Z7 (ZH (YY a0) 2).1 8).1).1 8).2 == 1) then ((K1 (XS (ZH (YY a0) 2).2) (Z7 (ZH (YY a0) 2).1 8).2), (Zg.mk (Z0 (Z7 (ZH (YY a0) 2).1 8).1).2.Kind (Z2 (ZH (Z0 (Z7 (ZH (YY a0) 2).1 8).1).1 8).1 ([(-1), 4, 101, 9223372036854775807] : List Int)).2 (Z0 (Z7 (ZH (YY a0) 2).1 8).1).2.B (Z0 (Z7 (ZH (YY a0) 2).1 8).1).2.C (Z0 (Z7 (ZH (YY a0) 2).1 8).1).2.D (Z0 (Z7 (ZH (YY a0) 2).1 8).1).2.Doc (Z0 (Z7 (ZH (YY a0) 2).1 8).1).2.Ids)) else (bif ((ZH (Z0 (Z7 (ZH (YY a0) 2).1 8).1).1 8).2 == 2) then ((K1 (XS (ZH (YY a0) 2).2) (Z7 (ZH (YY a0) 2).1 8).2), (Zg.mk (Z0 (Z7 (ZH (YY a0) 2).1 8).1).2.Kind (Z0 (Z7 (ZH (YY a0) 2).1 8).1).2.A (Z2 (ZH (Z0 (Z7 (ZH (YY a0) 2).1 8).1).1 8).1 ([(-1), 4, 9223372036854775807, (-9223372036854775808)] : List Int)).2 (Z0 (Z7 (ZH (YY a0) 2).1 8).1).2.C (Z0 (Z7 (ZH (YY a0) 2).1 8).1).2.D (Z0 (Z7 (ZH (YY a0) 2).1 8).1).2.Doc (Z0 (Z7 (ZH (YY a0) 2).1 8).1).2.Ids)) else ((K1 (XS (ZH (YY a0) 2).2) (Z7 (ZH (YY a0) 2).1 8).2), (Z0 (Z7 (ZH (YY a0) 2).1 8).1).2))))
def zt (a0 : Int) : ByteArray := (bif (!(ZZ a0 1 10)) then (⟨#[]⟩ : ByteArray) else (nth ([(⟨#[]⟩ : ByteArray), (⟨#[116, 105, 99, 107]⟩ : ByteArray), (⟨#[115, 105, 103, 110]⟩ : ByteArray), (⟨#[97, 110, 115, 119, 101, 114]⟩ : ByteArray), (⟨#[114, 101, 118, 111, 107, 101]⟩ : ByteArray), (⟨#[114, 101, 110, 101, 119]⟩ : ByteArray), (⟨#[109, 111, 118, 101]⟩ : ByteArray), (⟨#[102, 111, 114, 103, 101, 116]⟩ : ByteArray), (⟨#[102, 111, 114, 103, 101]⟩ : ByteArray), (⟨#[98, 97, 99, 107, 100, 97, 116, 101]⟩ : ByteArray), (⟨#[102, 97, 107, 101]⟩ : ByteArray)] : List ByteArray) a0.toNat))
def zR (a0 : List Zg) (a1 : Int) : Nat -> Int -> Nat -> Int
  | 0, _, _ => default
  | n1 + 1, J, U => (bif (decide ((U : Int) < (a0.length : Int))) then (bif ((nth a0 U).Kind == a1) then zR a0 a1 n1 (W (J + 1)) (U + 1) else zR a0 a1 n1 J (U + 1)) else (J))
def yC (a0 : List Zg) (a1 : Int) : Int := (match zR a0 a1 (a0.length + 1) 0 0 with | z1_0 => z1_0)
def j0 (a0 : List Zg) : Nat -> Nat -> Sum Bool Unit
  | 0, _ => .inr ()
  | n1 + 1, J => (bif (decide ((J : Int) < (a0.length : Int))) then (bif (ZZ (nth a0 J).Kind 8 10) then (.inl false) else j0 a0 n1 (J + 1)) else (.inr ()))
def qY (a0 : List Zg) : Bool := (match j0 a0 (a0.length + 1) 0 with | .inl r1 => r1 | .inr _ => true)
def kY (a0 : List UInt8) : Bool := (bif (E7 a0) then true else (bif (decide (((ZS a0).2.length : Int) > 0)) then (bif ((!(qh (Ys (ZS a0).1 (ZS a0).2))) || (!(QY (Ys (ZS a0).1 (ZS a0).2) (Ys (Ys (ZS a0).1 ((ZS a0).2.take (Int.tmod (PN a0 3) ((ZS a0).2.length : Int)).toNat)) ((ZS a0).2.drop (Int.tmod (PN a0 3) ((ZS a0).2.length : Int)).toNat))))) then false else (bif (((!(Z4 (ZY a0).1 (ZY a0).2).2) && (!(QY (ZY a0).1 (Z4 (ZY a0).1 (ZY a0).2).1))) || ((Z4 (ZY a0).1 (ZY a0).2).2 && (decide ((zt (ZY a0).2.Kind) = (⟨#[]⟩ : ByteArray))))) then false else (((yC (ZS a0).2 8) == 0) || (!(qY (ZS a0).2))))) else (bif ((!(qh (Ys (ZS a0).1 (ZS a0).2))) || (!(QY (Ys (ZS a0).1 (ZS a0).2) (Ys (Ys (ZS a0).1 ((ZS a0).2.take 0)) ((ZS a0).2.drop 0))))) then false else (bif (((!(Z4 (ZY a0).1 (ZY a0).2).2) && (!(QY (ZY a0).1 (Z4 (ZY a0).1 (ZY a0).2).1))) || ((Z4 (ZY a0).1 (ZY a0).2).2 && (decide ((zt (ZY a0).2.Kind) = (⟨#[]⟩ : ByteArray))))) then false else (((yC (ZS a0).2 8) == 0) || (!(qY (ZS a0).2)))))))
end Go.Mo
