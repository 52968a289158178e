/- Models of the functions: what each computes, on typed data. No condition. -/
import Derived.Test.YthjkhlcbpfnobaaGreatMo
namespace Go.Mo
open Go.Vm
def w7 (a0 : List UInt8) : Bool := (decide ((a0.length : Int) > 1048576))
def LN (a0 : List UInt8) : Nat -> Int -> Nat -> Int
  | 0, _, _ => default
  | n1 + 1, J, U => (bif ((decide ((U : Int) < (a0.length : Int))) && (decide ((U : Int) < 4000))) then LN a0 n1 (Fb .i64 (W ((W ((W (J * 137)) + (W ((nth a0 U).toNat : Int)))) + 11)) 1073741823) (U + 1) else (J))
def VE (a0 : List UInt8) : YD := (match LN a0 4001 (W (193017 + (a0.length : Int))) 0 with | z1_0 => (YD.mk a0 0 z1_0))
def YY (a0 : YD) : YD × Int := (bif (decide ((a0.i : Int) < (a0.b.length : Int))) then ((YD.mk a0.b (a0.i + 1) (W ((W (a0.h * 6364136223846793005)) + 1442695040888963407))), (Fb .i64 (W ((Fb .i64 (sG .i64 ((W ((W (a0.h * 6364136223846793005)) + 1442695040888963407)).fdiv (2 ^ (min 33 IntKind.i64.bits))) ((W ((W (a0.h * 6364136223846793005)) + 1442695040888963407)).fdiv (2 ^ (min 47 IntKind.i64.bits)))) 255) + (W ((nth a0.b a0.i).toNat : Int)))) 255)) else ((YD.mk a0.b a0.i (W ((W (a0.h * 6364136223846793005)) + 1442695040888963407))), (Fb .i64 (sG .i64 ((W ((W (a0.h * 6364136223846793005)) + 1442695040888963407)).fdiv (2 ^ (min 33 IntKind.i64.bits))) ((W ((W (a0.h * 6364136223846793005)) + 1442695040888963407)).fdiv (2 ^ (min 47 IntKind.i64.bits)))) 255)))
def ZH (a0 : YD) (a1 : Int) : YD × Int := (bif (decide (a1 <= 0)) then (a0, 0) else (bif (decide (a1 <= 256)) then ((YY a0).1, (Int.tmod (YY a0).2 a1)) else ((YY (YY (YY a0).1).1).1, (Int.tmod (W ((W ((W ((YY a0).2 * 65536)) + (W ((YY (YY a0).1).2 * 256)))) + (YY (YY (YY a0).1).1).2)) a1))))
def xn (a0 : Int) (a1 : Int) : Int := (bif (decide (a1 > a0)) then a1 else a0)
def Wn (a0 : Int) (a1 : Int) : Int := (bif (decide (a1 < a0)) then a1 else a0)
def yL : List Yw := ([(Yw.mk 1 90 1 0 501), (Yw.mk 2 90 3 40 502), (Yw.mk 11 1 1 0 511), (Yw.mk 12 1 2 20 512), (Yw.mk 13 2 3 40 513), (Yw.mk 21 50 1 0 521), (Yw.mk 31 81 1 0 531), (Yw.mk 32 82 2 20 532), (Yw.mk 33 83 3 40 533), (Yw.mk 34 84 4 60 534)] : List Yw)
def YK : List Zf := ([(Zf.mk 1 31 1), (Zf.mk 2 32 2), (Zf.mk 3 33 1), (Zf.mk 4 34 0)] : List Zf)
def WC : List Z8 := ([(Z8.mk 1 0 40 50), (Z8.mk 2 20 80 70), (Z8.mk 3 40 120 200), (Z8.mk 4 60 10001 10001)] : List Z8)
def jm (a0 : List Yw) (a1 : Int) : Nat -> Nat -> Sum Int Unit
  | 0, _ => .inr ()
  | n1 + 1, J => (bif (decide ((J : Int) < (a0.length : Int))) then (bif ((nth a0 J).Number == a1) then (.inl (J : Int)) else jm a0 a1 n1 (J + 1)) else (.inr ()))
def Yc (a0 : List Yw) (a1 : Int) : Int := (match jm a0 a1 (a0.length + 1) 0 with | .inl r1 => r1 | .inr _ => (-1))
def YU (a0 : Int) (a1 : Int) (a2 : Int) : Bool := ((decide (a0 >= a1)) && (decide (a0 <= a2)))
def kr (a0 : YX) : Zg := (Zg.mk a0.X5 a0.To)
def Wg (a0 : Int) : Bool := (YU a0 0 10000)
def PH (a0 : Zg) : Bool := (((Wg a0.X5) && (Wg a0.To)) && (decide (a0.X5 <= a0.To)))
def Rk (a0 : YX) : Bool := ((((((YU a0.Zd 1 999) && (YU a0.Key 1 99)) && (YU a0.Z1 1 99)) && (a0.Key != a0.Z1)) && (YU a0.kW 0 99)) && (PH (kr a0)))
def yH (a0 : YX) : List Int := ([101, a0.Zd, a0.Key, a0.kW, a0.X5, a0.To, a0.Z1] : List Int)
def BG (a0 : Int) (a1 : Int) : Int := (bif (!(YU a1 1 1000000000000)) then 0 else (Int.tmod (W ((Int.tmod a0 a1) + a1)) a1))
def Ry (a0 : List Int) : Nat -> Int -> Nat -> Int
  | 0, _, _ => default
  | n1 + 1, J, U => (bif (decide ((U : Int) < (a0.length : Int))) then Ry a0 n1 (Int.tmod (W ((W ((W (J * 1000003)) + (BG (nth a0 U) 2147483647))) + 13)) 2147483647) (U + 1) else (J))
def Md (a0 : List Int) : Int := (match Ry a0 (a0.length + 1) 11 0 with | z1_0 => z1_0)
def yy (a0 : Int) (a1 : List Int) : Int := (Md ((([a0] : List Int) ++ a1) ++ ([a0] : List Int)))
def xr (a0 : Yw) (a1 : List Int) : Int := (yy a0.Rn (([a0.Method] : List Int) ++ a1))
def jo (a0 : List Yw) (a1 : YX) : YX × Bool := (bif (((!(Rk a1)) || (decide ((Yc a0 a1.Z1) < 0))) || (decide ((Yc a0 a1.Key) < 0))) then ((YX.mk 0 0 0 0 0 0 0), false) else ((YX.mk a1.Zd a1.Key a1.kW a1.X5 a1.To a1.Z1 (xr (nth a0 (Yc a0 a1.Z1).toNat) (yH a1))), true))
def ji : List YX := ([(jo yL (YX.mk 1 11 1 0 60 1 0)).1, (jo yL (YX.mk 2 12 1 20 100 1 0)).1, (jo yL (YX.mk 3 13 2 40 150 2 0)).1] : List YX)
def QD (a0 : Int) : ZF := (bif ((Wn 1 (xn 0 a0)) == 1) then (ZF.mk (ZX.mk yL YK WC (Wn 1 (xn 0 a0)) 0) ji ([(-1), (-1), (-1)] : List Int) ([(ZD.mk 0 ([] : List ZQ)), (ZD.mk 1 ([] : List ZQ))] : List ZD) ([0, 0, 0, 0] : List Int) ([1] : List Int) 1 ([] : List Int)) else (ZF.mk (ZX.mk yL YK WC (Wn 1 (xn 0 a0)) 0) ji ([(-1), (-1), (-1)] : List Int) ([(ZD.mk 0 ([] : List ZQ)), (ZD.mk 1 ([] : List ZQ))] : List ZD) ([0, 0, 0, 0] : List Int) ([] : List Int) 1 ([] : List Int)))
def YB (a0 : YD) (a1 : Int) : YD × Bool := ((ZH a0 a1).1, ((ZH a0 a1).2 == 0))
def Z5 (a0 : YD) (a1 : List Int) : YD × Int := ((ZH a0 (a1.length : Int)).1, (nth a1 (ZH a0 (a1.length : Int)).2.toNat))
def PY (a0 : YD) (a1 : List ByteArray) : YD × ByteArray := ((ZH a0 (a1.length : Int)).1, (nth a1 (ZH a0 (a1.length : Int)).2.toNat))
def yV (a0 : YD) : YD × ByteArray := ((PY a0 ([(⟨#[]⟩ : ByteArray), (⟨#[97]⟩ : ByteArray), (⟨#[98]⟩ : ByteArray), (⟨#[97, 98]⟩ : ByteArray), (⟨#[121, 101, 115]⟩ : ByteArray), (⟨#[110, 111]⟩ : ByteArray), (⟨#[111, 110, 101, 32, 104, 117, 110, 100, 114, 101, 100]⟩ : ByteArray)] : List ByteArray)).1, (PY a0 ([(⟨#[]⟩ : ByteArray), (⟨#[97]⟩ : ByteArray), (⟨#[98]⟩ : ByteArray), (⟨#[97, 98]⟩ : ByteArray), (⟨#[121, 101, 115]⟩ : ByteArray), (⟨#[110, 111]⟩ : ByteArray), (⟨#[111, 110, 101, 32, 104, 117, 110, 100, 114, 101, 100]⟩ : ByteArray)] : List ByteArray)).2)
def yO (a0 : ZN) : Nat -> Nat -> Sum Bool Unit
  | 0, _ => .inr ()
  | n2 + 1, m0 => (bif (decide ((m0 : Int) < (a0.KW.length : Int))) then (bif (!(YU (nth a0.KW m0) 1 1000000000000)) then (.inl false) else yO a0 n2 (m0 + 1)) else (.inr ()))
def yR (a0 : ZN) : Nat -> Nat -> Sum Bool Unit
  | 0, _ => .inr ()
  | n1 + 1, J => (bif (decide ((J : Int) < (a0.Xn.length : Int))) then (bif (decide (((nth a0.Xn J).size : Int) > 40)) then (.inl false) else yR a0 n1 (J + 1)) else (.inr ()))
def K2 (a0 : ZN) : Bool := (match yR a0 (a0.Xn.length + 1) 0 with | .inl r1 => r1 | .inr _ => (match yO a0 (a0.KW.length + 1) 0 with | .inl r2 => r2 | .inr _ => (((YU a0.UG 0 999) && (YU (a0.Xn.length : Int) 1 6)) && ((a0.KW.length : Int) == (a0.Xn.length : Int)))))
def j0 (a0 : Int) : Bool := (YU a0 1 2147483646)
def yo (a0 : Int) (a1 : List ByteArray) (a2 : Int) : Nat -> Nat -> List Int -> (List Int)
  | 0, _, _ => default
  | n1 + 1, J, U => (bif (decide ((J : Int) < (a1.length : Int))) then yo a0 a1 a2 n1 (J + 1) (U ++ ([(xn 1 (yy a2 ([a0, (J : Int)] : List Int)))] : List Int)) else (U))
def yT (a0 : Int) (a1 : List ByteArray) (a2 : Int) : ZN × Bool := (match yo a0 a1 a2 (a1.length + 1) 0 ([] : List Int) with | z1_0 => (bif ((!(K2 (ZN.mk a0 a1 z1_0))) || (!(j0 a2))) then ((ZN.mk 0 ([] : List ByteArray) ([] : List Int)), false) else ((ZN.mk a0 a1 z1_0), true)))
def WE : Nat -> List ByteArray -> Int -> List UInt8 -> Nat -> Int -> (List ByteArray) × (List UInt8) × Nat × Int
  | 0, _, _, _, _, _ => (default, default, default, default)
  | n1 + 1, J, U, mz, lG, lh => (bif (decide (U > 0)) then WE n1 (J ++ ([(yV (YD.mk mz lG lh)).2] : List ByteArray)) (W (U - 1)) (yV (YD.mk mz lG lh)).1.b (yV (YD.mk mz lG lh)).1.i (yV (YD.mk mz lG lh)).1.h else ((J, mz, lG, lh)))
def Xu (a0 : YD) : YD × ZN := (match WE 5 ([] : List ByteArray) (W (1 + (ZH a0 3).2)) (ZH a0 3).1.b (ZH a0 3).1.i (ZH a0 3).1.h with | (z1_0, z1_1, z1_2, z1_3) => ((ZH (YD.mk z1_1 z1_2 z1_3) 5).1, (yT (ZH (YD.mk z1_1 z1_2 z1_3) 5).2 z1_0 11).1))
def XP (a0 : YD) (a1 : Int) : YD × Zs := (bif (decide (a1 >= 20)) then (bif (decide (a1 >= 40)) then (bif (decide (a1 >= 60)) then ((Z5 a0 ([0, (-10), 40] : List Int)).1, (Zs.mk 5 0 (Z5 a0 ([0, (-10), 40] : List Int)).2 0 0 (ZN.mk 0 ([] : List ByteArray) ([] : List Int)) ([2, 3, 4] : List Int))) else ((Z5 a0 ([0, (-10), 40] : List Int)).1, (Zs.mk 5 0 (Z5 a0 ([0, (-10), 40] : List Int)).2 0 0 (ZN.mk 0 ([] : List ByteArray) ([] : List Int)) ([1, 2, 3] : List Int)))) else (bif (decide (a1 >= 60)) then ((Z5 a0 ([0, (-10), 40] : List Int)).1, (Zs.mk 5 0 (Z5 a0 ([0, (-10), 40] : List Int)).2 0 0 (ZN.mk 0 ([] : List ByteArray) ([] : List Int)) ([2, 3, 4] : List Int))) else ((Z5 a0 ([0, (-10), 40] : List Int)).1, (Zs.mk 5 0 (Z5 a0 ([0, (-10), 40] : List Int)).2 0 0 (ZN.mk 0 ([] : List ByteArray) ([] : List Int)) ([1, 2] : List Int))))) else (bif (decide (a1 >= 40)) then (bif (decide (a1 >= 60)) then ((Z5 a0 ([0, (-10), 40] : List Int)).1, (Zs.mk 5 0 (Z5 a0 ([0, (-10), 40] : List Int)).2 0 0 (ZN.mk 0 ([] : List ByteArray) ([] : List Int)) ([2, 3, 4] : List Int))) else ((Z5 a0 ([0, (-10), 40] : List Int)).1, (Zs.mk 5 0 (Z5 a0 ([0, (-10), 40] : List Int)).2 0 0 (ZN.mk 0 ([] : List ByteArray) ([] : List Int)) ([1, 2, 3] : List Int)))) else (bif (decide (a1 >= 60)) then ((Z5 a0 ([0, (-10), 40] : List Int)).1, (Zs.mk 5 0 (Z5 a0 ([0, (-10), 40] : List Int)).2 0 0 (ZN.mk 0 ([] : List ByteArray) ([] : List Int)) ([2, 3, 4] : List Int))) else ((Z5 a0 ([0, (-10), 40] : List Int)).1, (Zs.mk 5 0 (Z5 a0 ([0, (-10), 40] : List Int)).2 0 0 (ZN.mk 0 ([] : List ByteArray) ([] : List Int)) ([1] : List Int))))))
def Zw (a0 : YD) : YD × List Zs := ((XP (XP (XP (Xu (Z5 a0 ([11, 12] : List Int)).1).1 25).1 43).1 65).1, (((([(Zs.mk 1 22 0 0 0 (ZN.mk 0 ([] : List ByteArray) ([] : List Int)) ([] : List Int)), (Zs.mk 2 0 (Z5 a0 ([11, 12] : List Int)).2 0 10000 (Xu (Z5 a0 ([11, 12] : List Int)).1).2 ([] : List Int)), (Zs.mk 1 3 0 0 0 (ZN.mk 0 ([] : List ByteArray) ([] : List Int)) ([] : List Int)), (Zs.mk 3 1 0 0 0 (ZN.mk 0 ([] : List ByteArray) ([] : List Int)) ([] : List Int))] : List Zs) ++ ([(XP (Xu (Z5 a0 ([11, 12] : List Int)).1).1 25).2, (Zs.mk 1 18 0 0 0 (ZN.mk 0 ([] : List ByteArray) ([] : List Int)) ([] : List Int))] : List Zs)) ++ ([(XP (XP (Xu (Z5 a0 ([11, 12] : List Int)).1).1 25).1 43).2, (Zs.mk 1 22 0 0 0 (ZN.mk 0 ([] : List ByteArray) ([] : List Int)) ([] : List Int))] : List Zs)) ++ ([(XP (XP (XP (Xu (Z5 a0 ([11, 12] : List Int)).1).1 25).1 43).1 65).2, (Zs.mk 1 20 0 0 0 (ZN.mk 0 ([] : List ByteArray) ([] : List Int)) ([] : List Int))] : List Zs)))
def Xj (a0 : YD) : YD × Zs := (bif ((ZH a0 16).2 == 0) then ((Z5 (ZH a0 16).1 ([1, 5, 10, 20, 30] : List Int)).1, (Zs.mk 1 (Z5 (ZH a0 16).1 ([1, 5, 10, 20, 30] : List Int)).2 0 0 0 (ZN.mk 0 ([] : List ByteArray) ([] : List Int)) ([] : List Int))) else (bif ((ZH a0 16).2 == 1) then ((Z5 (ZH a0 16).1 ([1, 5, 10, 20, 30] : List Int)).1, (Zs.mk 1 (Z5 (ZH a0 16).1 ([1, 5, 10, 20, 30] : List Int)).2 0 0 0 (ZN.mk 0 ([] : List ByteArray) ([] : List Int)) ([] : List Int))) else (bif ((ZH a0 16).2 == 2) then ((Z5 (ZH a0 16).1 ([1, 5, 10, 20, 30] : List Int)).1, (Zs.mk 1 (Z5 (ZH a0 16).1 ([1, 5, 10, 20, 30] : List Int)).2 0 0 0 (ZN.mk 0 ([] : List ByteArray) ([] : List Int)) ([] : List Int))) else (bif ((ZH a0 16).2 == 3) then ((Xu (Z5 (Z5 (ZH (ZH a0 16).1 2).1 ([11, 12, 13] : List Int)).1 ([30, 10000] : List Int)).1).1, (Zs.mk 2 (ZH (ZH a0 16).1 2).2 (Z5 (ZH (ZH a0 16).1 2).1 ([11, 12, 13] : List Int)).2 0 (Z5 (Z5 (ZH (ZH a0 16).1 2).1 ([11, 12, 13] : List Int)).1 ([30, 10000] : List Int)).2 (Xu (Z5 (Z5 (ZH (ZH a0 16).1 2).1 ([11, 12, 13] : List Int)).1 ([30, 10000] : List Int)).1).2 ([] : List Int))) else (bif ((ZH a0 16).2 == 4) then ((Xu (Z5 (Z5 (ZH (ZH a0 16).1 2).1 ([11, 12, 13] : List Int)).1 ([30, 10000] : List Int)).1).1, (Zs.mk 2 (ZH (ZH a0 16).1 2).2 (Z5 (ZH (ZH a0 16).1 2).1 ([11, 12, 13] : List Int)).2 0 (Z5 (Z5 (ZH (ZH a0 16).1 2).1 ([11, 12, 13] : List Int)).1 ([30, 10000] : List Int)).2 (Xu (Z5 (Z5 (ZH (ZH a0 16).1 2).1 ([11, 12, 13] : List Int)).1 ([30, 10000] : List Int)).1).2 ([] : List Int))) else (bif ((ZH a0 16).2 == 5) then ((ZH (ZH a0 16).1 3).1, (Zs.mk 3 (W (1 + (ZH (ZH a0 16).1 3).2)) 0 0 0 (ZN.mk 0 ([] : List ByteArray) ([] : List Int)) ([] : List Int))) else (bif ((ZH a0 16).2 == 6) then ((ZH (ZH a0 16).1 3).1, (Zs.mk 3 (W (1 + (ZH (ZH a0 16).1 3).2)) 0 0 0 (ZN.mk 0 ([] : List ByteArray) ([] : List Int)) ([] : List Int))) else (bif ((ZH a0 16).2 == 7) then ((ZH (ZH a0 16).1 3).1, (Zs.mk 4 (ZH (ZH a0 16).1 3).2 0 0 0 (ZN.mk 0 ([] : List ByteArray) ([] : List Int)) ([] : List Int))) else (bif ((ZH a0 16).2 == 8) then ((ZH (ZH (ZH (ZH a0 16).1 2).1 2).1 3).1, (Zs.mk 6 (ZH (ZH a0 16).1 2).2 (ZH (ZH (ZH a0 16).1 2).1 2).2 (W (1 + (ZH (ZH (ZH (ZH a0 16).1 2).1 2).1 3).2)) 0 (ZN.mk 0 ([] : List ByteArray) ([] : List Int)) ([] : List Int))) else (bif ((ZH a0 16).2 == 9) then ((ZH (ZH a0 16).1 2).1, (Zs.mk 7 (ZH (ZH a0 16).1 2).2 0 0 0 (ZN.mk 0 ([] : List ByteArray) ([] : List Int)) ([] : List Int))) else (bif ((ZH a0 16).2 == 10) then ((Xu (Z5 (ZH (ZH a0 16).1 2).1 ([11, 12] : List Int)).1).1, (Zs.mk 8 (ZH (ZH a0 16).1 2).2 (Z5 (ZH (ZH a0 16).1 2).1 ([11, 12] : List Int)).2 0 0 (Xu (Z5 (ZH (ZH a0 16).1 2).1 ([11, 12] : List Int)).1).2 ([] : List Int))) else (bif ((ZH a0 16).2 == 11) then ((Z5 (ZH (ZH a0 16).1 4).1 ([5, 25, 60] : List Int)).1, (Zs.mk 9 (W (1 + (ZH (ZH a0 16).1 4).2)) (Z5 (ZH (ZH a0 16).1 4).1 ([5, 25, 60] : List Int)).2 0 0 (ZN.mk 0 ([] : List ByteArray) ([] : List Int)) ([] : List Int))) else (bif ((ZH a0 16).2 == 12) then ((Z5 (ZH (ZH a0 16).1 3).1 ([10, 40, 60] : List Int)).1, (Zs.mk 10 (W (1 + (ZH (ZH a0 16).1 3).2)) (Z5 (ZH (ZH a0 16).1 3).1 ([10, 40, 60] : List Int)).2 0 0 (ZN.mk 0 ([] : List ByteArray) ([] : List Int)) ([] : List Int))) else ((ZH (Z5 (ZH (ZH a0 16).1 2).1 ([0, (-10), 40] : List Int)).1 3).1, (Zs.mk 5 (ZH (ZH a0 16).1 2).2 (Z5 (ZH (ZH a0 16).1 2).1 ([0, (-10), 40] : List Int)).2 0 0 (ZN.mk 0 ([] : List ByteArray) ([] : List Int)) ((([1, 2, 3, 4] : List Int).drop (ZH (Z5 (ZH (ZH a0 16).1 2).1 ([0, (-10), 40] : List Int)).1 3).2.toNat).take (4 - (ZH (Z5 (ZH (ZH a0 16).1 2).1 ([0, (-10), 40] : List Int)).1 3).2.toNat)))))))))))))))))
def K8 : Nat -> List Zs -> Int -> List UInt8 -> Nat -> Int -> (List Zs) × (List UInt8) × Nat × Int
  | 0, _, _, _, _, _ => (default, default, default, default)
  | n1 + 1, J, U, mz, lG, lh => (bif (decide (U > 0)) then K8 n1 (J ++ ([(Xj (YD.mk mz lG lh)).2] : List Zs)) (W (U - 1)) (Xj (YD.mk mz lG lh)).1.b (Xj (YD.mk mz lG lh)).1.i (Xj (YD.mk mz lG lh)).1.h else ((J, mz, lG, lh)))
def zF : Nat -> List Zs -> Int -> List UInt8 -> Nat -> Int -> (List Zs) × (List UInt8) × Nat × Int
  | 0, _, _, _, _, _ => (default, default, default, default)
  | n2 + 1, m0, m9, lV, lX, lq => (bif (decide (m9 > 0)) then zF n2 (m0 ++ ([(Xj (YD.mk lV lX lq)).2] : List Zs)) (W (m9 - 1)) (Xj (YD.mk lV lX lq)).1.b (Xj (YD.mk lV lX lq)).1.i (Xj (YD.mk lV lX lq)).1.h else ((m0, lV, lX, lq)))
def je (a0 : YD) (a1 : Int) : YD × List Zs := (bif (YB a0 2).2 then (match K8 ((ZH (ZH (Zw (YB a0 2).1).1 (W (((Zw (YB a0 2).1).2.length : Int) + 1))).1 a1).2.toNat + 2) ((Zw (YB a0 2).1).2.take (ZH (Zw (YB a0 2).1).1 (W (((Zw (YB a0 2).1).2.length : Int) + 1))).2.toNat) (ZH (ZH (Zw (YB a0 2).1).1 (W (((Zw (YB a0 2).1).2.length : Int) + 1))).1 a1).2 (ZH (ZH (Zw (YB a0 2).1).1 (W (((Zw (YB a0 2).1).2.length : Int) + 1))).1 a1).1.b (ZH (ZH (Zw (YB a0 2).1).1 (W (((Zw (YB a0 2).1).2.length : Int) + 1))).1 a1).1.i (ZH (ZH (Zw (YB a0 2).1).1 (W (((Zw (YB a0 2).1).2.length : Int) + 1))).1 a1).1.h with | (z1_0, z1_1, z1_2, z1_3) => ((YD.mk z1_1 z1_2 z1_3), z1_0)) else (match zF ((ZH (YB a0 2).1 a1).2.toNat + 2) ([] : List Zs) (ZH (YB a0 2).1 a1).2 (ZH (YB a0 2).1 a1).1.b (ZH (YB a0 2).1 a1).1.i (ZH (YB a0 2).1 a1).1.h with | (ij, fW, z2_2, z2_3) => ((YD.mk fW z2_2 z2_3), ij)))
def Zb (a0 : List UInt8) : ZF × (List Zs) := ((QD (ZH (VE a0) 2).2), (je (ZH (VE a0) 2).1 12).2)
def Rb (a0 : ZX) : ZX := a0
def Ov (a0 : List Int) : List Int := a0
def Vp (a0 : ZN) : ZN := a0
def RG (a0 : ZT) : ZT := a0
def kH (a0 : List ZT) : Nat -> List ZT -> Nat -> (List ZT)
  | 0, _, _ => default
  | n1 + 1, J, U => (bif (decide ((U : Int) < (a0.length : Int))) then kH a0 n1 (J ++ ([(nth a0 U)] : List ZT)) (U + 1) else (J))
def VO (a0 : List ZT) : List ZT := (match kH a0 (a0.length + 1) ([] : List ZT) 0 with | z1_0 => z1_0)
def Sc (a0 : List Zj) : List Zj := a0
def TP (a0 : ZZ) : ZZ := a0
def kB (a0 : ZU) : Nat -> Nat -> List ZZ -> (List ZZ)
  | 0, _, _ => default
  | n1 + 1, J, U => (bif (decide ((J : Int) < (a0.ZP.length : Int))) then kB a0 n1 (J + 1) (U ++ ([(nth a0.ZP J)] : List ZZ)) else (U))
def VK (a0 : ZU) : ZU := (match kB a0 (a0.ZP.length + 1) 0 ([] : List ZZ) with | z1_0 => (ZU.mk a0.ZJ z1_0))
def OW (a0 : ZQ) : ZQ := a0
def jL (a0 : ZD) : Nat -> Nat -> List ZQ -> (List ZQ)
  | 0, _, _ => default
  | n1 + 1, J, U => (bif (decide ((J : Int) < (a0.ZC.length : Int))) then jL a0 n1 (J + 1) (U ++ ([(nth a0.ZC J)] : List ZQ)) else (U))
def WV (a0 : ZD) : ZD := (match jL a0 (a0.ZC.length + 1) 0 ([] : List ZQ) with | z1_0 => (ZD.mk a0.Id z1_0))
def WW (a0 : ZF) : Nat -> Nat -> List ZD -> (List ZD)
  | 0, _, _ => default
  | n1 + 1, J, U => (bif (decide ((J : Int) < (a0.ZA.length : Int))) then WW a0 n1 (J + 1) (U ++ ([(nth a0.ZA J)] : List ZD)) else (U))
def Up (a0 : ZF) : ZF := (match WW a0 (a0.ZA.length + 1) 0 ([] : List ZD) with | z1_0 => (ZF.mk a0.Frame a0.ZY a0.Zx z1_0 a0.Yt a0.YO a0.Next a0.YE))
def ZS (a0 : Int) (a1 : Int) (a2 : Int) : Bool := ((decide (a1 <= a0)) && (decide (a0 <= a2)))
def YA (a0 : ZF) (a1 : Int) : ZF × Bool := (bif ((!(ZS a1 0 100)) || (decide ((W (a0.Frame.Now + a1)) > 10000))) then (a0, false) else ((ZF.mk (ZX.mk a0.Frame.Zo a0.Frame.ZB a0.Frame.Methods a0.Frame.XT (W (a0.Frame.Now + a1))) a0.ZY a0.Zx a0.ZA a0.Yt a0.YO a0.Next a0.YE), true))
def jk (a0 : List Yw) (a1 : Int) : Nat -> Nat -> Sum Int Unit
  | 0, _ => .inr ()
  | n1 + 1, J => (bif (decide ((J : Int) < (a0.length : Int))) then (bif ((nth a0 J).Number == a1) then (.inl (J : Int)) else jk a0 a1 n1 (J + 1)) else (.inr ()))
def Zt (a0 : List Yw) (a1 : Int) : Int := (match jk a0 a1 (a0.length + 1) 0 with | .inl r1 => r1 | .inr _ => (-1))
def yN (a0 : List Z8) (a1 : Int) : Nat -> Int -> Nat -> Int
  | 0, _, _ => default
  | n1 + 1, J, U => (bif (decide ((U : Int) < (a0.length : Int))) then (bif (((decide ((nth a0 U).MI <= a1)) && (decide (a1 < (nth a0 U).Ends))) && ((decide (J < 0)) || (decide ((nth a0 U).Ends > (nth a0 J.toNat).Ends)))) then yN a0 a1 n1 (U : Int) (U + 1) else yN a0 a1 n1 J (U + 1)) else (J))
def ZO (a0 : List Z8) (a1 : Int) : Int := (match yN a0 a1 (a0.length + 1) (-1) 0 with | z1_0 => (bif (decide (z1_0 < 0)) then (-1) else (nth a0 z1_0.toNat).Id))
def YC (a0 : ZF) (a1 : Int) : Bool := (ZS a1 0 (W ((a0.ZA.length : Int) - 1)))
def qI (a0 : ZN) : Nat -> Nat -> Sum Bool Unit
  | 0, _ => .inr ()
  | n1 + 1, J => (bif (decide ((J : Int) < (a0.Xn.length : Int))) then (bif ((decide (((nth a0.Xn J).size : Int) > 40)) || (!(ZS (nth a0.KW J) 1 1000000000000))) then (.inl false) else qI a0 n1 (J + 1)) else (.inr ()))
def zh (a0 : ZN) : Bool := (bif (((!(ZS a0.UG 0 999)) || (!(ZS (a0.Xn.length : Int) 1 6))) || ((a0.KW.length : Int) != (a0.Xn.length : Int))) then false else (match qI a0 (a0.Xn.length + 1) 0 with | .inl r1 => r1 | .inr _ => true))
def qQ (a0 : List UInt8) : Nat -> List Int -> Nat -> (List Int)
  | 0, _, _ => default
  | n1 + 1, J, U => (bif (decide ((U : Int) < (a0.length : Int))) then qQ a0 n1 (J ++ ([(W ((nth a0 U).toNat : Int))] : List Int)) (U + 1) else (J))
def kh (a0 : List UInt8) : List Int := (match qQ a0 (a0.length + 1) ([] : List Int) 0 with | z1_0 => z1_0)
def Cl (a0 : Int) (a1 : Int) : Int := (bif (!(ZS a1 1 1000000000000)) then 0 else (Int.tmod (W ((Int.tmod a0 a1) + a1)) a1))
def Rf (a0 : List Int) : Nat -> Int -> Nat -> Int
  | 0, _, _ => default
  | n1 + 1, J, U => (bif (decide ((U : Int) < (a0.length : Int))) then Rf a0 n1 (Int.tmod (W ((W ((W (J * 1000003)) + (Cl (nth a0 U) 2147483647))) + 13)) 2147483647) (U + 1) else (J))
def M5 (a0 : List Int) : Int := (match Rf a0 (a0.length + 1) 11 0 with | z1_0 => z1_0)
def Jm (a0 : Int) (a1 : List Int) : Int := (M5 (([7, a0] : List Int) ++ a1))
def kS (a0 : Int) (a1 : ByteArray) (a2 : Int) : Int := (Jm a0 (([a2] : List Int) ++ (kh a1.data.toList)))
def jD (a0 : Int) (a1 : ZN) : Nat -> List Int -> Nat -> (List Int)
  | 0, _, _ => default
  | n1 + 1, J, U => (bif (decide ((U : Int) < (a1.Xn.length : Int))) then jD a0 a1 n1 (J ++ ([(kS a0 (nth a1.Xn U) (nth a1.KW U))] : List Int)) (U + 1) else (J))
def Yb (a0 : Int) (a1 : ZN) : Int := (bif (!(zh a1)) then (-1) else (match jD a0 a1 (a1.Xn.length + 1) ([a1.UG] : List Int) 0 with | z1_0 => (Jm a0 z1_0)))
def Xq (a0 : Zl) : List Int := ([104, a0.Key, a0.Zd, a0.Method, a0.QK, a0.Vk, a0.Org, a0.UR, a0.UT] : List Int)
def Wp (a0 : Int) (a1 : List Int) : Int := (M5 ((([a0] : List Int) ++ a1) ++ ([a0] : List Int)))
def Vl (a0 : Yw) (a1 : List Int) : Int := (Wp a0.Rn (([a0.Method] : List Int) ++ a1))
def zM (a0 : List Yw) (a1 : Int) (a2 : List Int) : Int × Bool := (bif (decide ((Zt a0 a1) < 0)) then (0, false) else ((Vl (nth a0 (Zt a0 a1).toNat) a2), true))
def yI (a0 : Zl) : Bool := ((((((((ZS a0.Key 1 99) && (ZS a0.Zd 1 999)) && (ZS a0.Method 0 99)) && (ZS a0.Org 0 99)) && (ZS a0.Vk 1 3)) && (ZS a0.QK 0 1000000000000)) && (ZS a0.UR 0 1000000000000)) && (ZS a0.UT 0 1000000000000))
def XM (a0 : List Yw) (a1 : Zl) : Zl × Bool := (bif ((!(yI a1)) || (!(zM a0 a1.Key (Xq a1)).2)) then ((Zl.mk 0 0 0 0 0 0 0 0 0), false) else ((Zl.mk a1.Key a1.Zd a1.Method a1.QK a1.Vk a1.Org a1.UR a1.UT (zM a0 a1.Key (Xq a1)).1), true))
def Yu (a0 : Zl) : ZT := (ZT.mk a0.Key (Xq a0) a0.Mark)
def yD (a0 : YX) : List Int := ([101, a0.Zd, a0.Key, a0.kW, a0.X5, a0.To, a0.Z1] : List Int)
def Jf (a0 : YX) : ZT := (ZT.mk a0.Z1 (yD a0) a0.Mark)
def zl (a0 : ZD) (a1 : Int) : Nat -> Nat -> Sum Int Unit
  | 0, _ => .inr ()
  | n1 + 1, J => (bif (decide ((J : Int) < (a0.ZC.length : Int))) then (bif ((nth a0.ZC J).Id == a1) then (.inl (J : Int)) else zl a0 a1 n1 (J + 1)) else (.inr ()))
def ZW (a0 : ZD) (a1 : Int) : Int := (match zl a0 a1 (a0.ZC.length + 1) 0 with | .inl r1 => r1 | .inr _ => (-1))
def Kq (a0 : Int) : Bool := (ZS a0 0 10000)
def WU (a0 : List Int) (a1 : List Int) : Nat -> Nat -> Sum Bool Unit
  | 0, _ => .inr ()
  | n1 + 1, J => (bif (decide ((J : Int) < (a0.length : Int))) then (bif ((nth a0 J) != (nth a1 J)) then (.inl false) else WU a0 a1 n1 (J + 1)) else (.inr ()))
def Uc (a0 : List Int) (a1 : List Int) : Bool := (bif ((a0.length : Int) != (a1.length : Int)) then false else (match WU a0 a1 (a0.length + 1) 0 with | .inl r1 => r1 | .inr _ => true))
def KG (a0 : ZT) (a1 : ZT) : Bool := (((a0.Key == a1.Key) && (a0.Mark == a1.Mark)) && (Uc a0.Yf a1.Yf))
def kN (a0 : List ZT) (a1 : ZT) : Nat -> Nat -> Sum Bool Unit
  | 0, _ => .inr ()
  | n1 + 1, J => (bif (decide ((J : Int) < (a0.length : Int))) then (bif (KG (nth a0 J) a1) then (.inl true) else kN a0 a1 n1 (J + 1)) else (.inr ()))
def Km (a0 : List ZT) (a1 : ZT) : Bool := (match kN a0 a1 (a0.length + 1) 0 with | .inl r1 => r1 | .inr _ => false)
def y7 (a0 : ZU) : Nat -> Nat -> Sum Bool Unit
  | 0, _ => .inr ()
  | n2 + 1, m0 => (bif (decide ((m0 : Int) < (a0.ZP.length : Int))) then (bif ((!(ZS (nth a0.ZP m0).Count 1 (a0.ZJ.length : Int))) || ((decide ((m0 : Int) > 0)) && (decide ((nth a0.ZP m0).Count < (nth a0.ZP (m0 - 1)).Count)))) then (.inl false) else y7 a0 n2 (m0 + 1)) else (.inr ()))
def xG (a0 : ZU) : Nat -> Nat -> Sum Bool Unit
  | 0, _ => .inr ()
  | n1 + 1, J => (bif (decide ((J : Int) < (a0.ZJ.length : Int))) then (bif (Km (a0.ZJ.take J) (nth a0.ZJ J)) then (.inl false) else xG a0 n1 (J + 1)) else (.inr ()))
def Xy (a0 : ZU) : Bool := (bif ((!(ZS (a0.ZJ.length : Int) 1 12)) || (decide ((a0.ZP.length : Int) > 8))) then false else (match xG a0 (a0.ZJ.length + 1) 0 with | .inl r1 => r1 | .inr _ => (match y7 a0 (a0.ZP.length + 1) 0 with | .inl r2 => r2 | .inr _ => true)))
def Jv (a0 : ZQ) : Bool := (((((ZS a0.Id 1 999) && (Kq a0.Y8)) && (zh a0.Doc)) && (Xy a0.ZK)) && (KG (nth a0.ZK.ZJ 0) (Yu a0.Sig)))
def xg (a0 : ZD) : Nat -> Nat -> Sum Bool Unit
  | 0, _ => .inr ()
  | n1 + 1, J => (bif (decide ((J : Int) < (a0.ZC.length : Int))) then (bif ((!(Jv (nth a0.ZC J))) || ((decide ((J : Int) > 0)) && (decide ((nth a0.ZC (J - 1)).Id >= (nth a0.ZC J).Id)))) then (.inl false) else xg a0 n1 (J + 1)) else (.inr ()))
def Yi (a0 : ZD) : Bool := (match xg a0 (a0.ZC.length + 1) 0 with | .inl r1 => r1 | .inr _ => ((ZS a0.Id 0 99) && (decide ((a0.ZC.length : Int) <= 8))))
def Xt (a0 : ZD) (a1 : ZQ) : Nat -> Nat -> Nat
  | 0, _ => default
  | n1 + 1, J => (bif ((decide ((J : Int) < (a0.ZC.length : Int))) && (decide ((nth a0.ZC J).Id < a1.Id))) then Xt a0 a1 n1 (J + 1) else (J))
def YQ (a0 : ZD) (a1 : ZQ) : ZD × Bool := (bif ((decide ((ZW a0 a1.Id) >= 0)) || (!(Yi a0))) then (a0, false) else (match Xt a0 a1 (a0.ZC.length + 1) 0 with | z1_0 => (bif (!(Yi (ZD.mk a0.Id (((a0.ZC.take z1_0) ++ ([a1] : List ZQ)) ++ (a0.ZC.drop z1_0))))) then (a0, false) else ((ZD.mk a0.Id (((a0.ZC.take z1_0) ++ ([a1] : List ZQ)) ++ (a0.ZC.drop z1_0))), true))))
def Qv (a0 : ZF) (a1 : Int) (a2 : Int) (a3 : ZN) (a4 : Int) (a5 : Int) : Nat -> Nat -> Sum (ZF × Bool) Unit
  | 0, _ => .inr ()
  | n1 + 1, J => (bif (decide ((J : Int) < (a0.ZY.length : Int))) then (bif ((nth a0.ZY J).Key != a2) then Qv a0 a1 a2 a3 a4 a5 n1 (J + 1) else (bif ((!(XM a0.Frame.Zo (Zl.mk a2 (nth a0.ZY J).Zd (ZO a0.Frame.Methods a0.Frame.Now) (Yb (ZO a0.Frame.Methods a0.Frame.Now) a3) 1 a4 0 0 0)).2) || (!(YQ (nth a0.ZA a1.toNat) (ZQ.mk a0.Next a5 a3 (XM a0.Frame.Zo (Zl.mk a2 (nth a0.ZY J).Zd (ZO a0.Frame.Methods a0.Frame.Now) (Yb (ZO a0.Frame.Methods a0.Frame.Now) a3) 1 a4 0 0 0)).1 (ZU.mk ([(Yu (XM a0.Frame.Zo (Zl.mk a2 (nth a0.ZY J).Zd (ZO a0.Frame.Methods a0.Frame.Now) (Yb (ZO a0.Frame.Methods a0.Frame.Now) a3) 1 a4 0 0 0)).1), (Jf (nth a0.ZY J))] : List ZT) ([] : List ZZ)))).2)) then (.inl (a0, false)) else (.inl ((ZF.mk a0.Frame a0.ZY a0.Zx (a0.ZA.set a1.toNat (YQ (nth a0.ZA a1.toNat) (ZQ.mk a0.Next a5 a3 (XM a0.Frame.Zo (Zl.mk a2 (nth a0.ZY J).Zd (ZO a0.Frame.Methods a0.Frame.Now) (Yb (ZO a0.Frame.Methods a0.Frame.Now) a3) 1 a4 0 0 0)).1 (ZU.mk ([(Yu (XM a0.Frame.Zo (Zl.mk a2 (nth a0.ZY J).Zd (ZO a0.Frame.Methods a0.Frame.Now) (Yb (ZO a0.Frame.Methods a0.Frame.Now) a3) 1 a4 0 0 0)).1), (Jf (nth a0.ZY J))] : List ZT) ([] : List ZZ)))).1) a0.Yt a0.YO (W (a0.Next + 1)) a0.YE), true)))) else (.inr ()))
def XJ (a0 : ZF) (a1 : Int) (a2 : Int) (a3 : ZN) (a4 : Int) (a5 : Int) : ZF × Bool := (bif (((!(YC a0 a1)) || (decide ((Zt a0.Frame.Zo a2) < 0))) || (decide ((ZO a0.Frame.Methods a0.Frame.Now) < 0))) then (a0, false) else (match Qv a0 a1 a2 a3 a4 a5 (a0.ZY.length + 1) 0 with | .inl r1 => r1 | .inr _ => (a0, false)))
def JY (a0 : ZF) (a1 : Int) (a2 : Int) (a3 : ZN) (a4 : Int) (a5 : Int) : ZF × Bool := (bif ((decide ((Zt a0.Frame.Zo a2) < 0)) || (decide ((nth a0.Frame.Zo (Zt a0.Frame.Zo a2).toNat).VI > a0.Frame.Now))) then (a0, false) else ((XJ a0 a1 a2 a3 a4 a5).1, (XJ a0 a1 a2 a3 a4 a5).2))
def qO (a0 : ZF) (a1 : Int) : Nat -> Nat -> Sum (Int × Int) Unit
  | 0, _ => .inr ()
  | n1 + 1, J => (bif (decide ((J : Int) < (a0.ZA.length : Int))) then (bif (decide ((ZW (nth a0.ZA J) a1) >= 0)) then (.inl ((J : Int), (ZW (nth a0.ZA J) a1))) else qO a0 a1 n1 (J + 1)) else (.inr ()))
def ZL (a0 : ZF) (a1 : Int) : Int × Int := (match qO a0 a1 (a0.ZA.length + 1) 0 with | .inl r1 => r1 | .inr _ => ((-1), (-1)))
def XC (a0 : ZT) : Int := (bif ((((a0.Yf.length : Int) == 0) || (!(ZS (nth a0.Yf 0) 101 105))) || ((a0.Yf.length : Int) != (nth ([7, 5, 5, 9, 6] : List Int) (W ((nth a0.Yf 0) - 101)).toNat))) then 0 else (nth a0.Yf 0))
def XO (a0 : ZT) : YX × Bool := (bif (((XC a0) != 101) || ((nth a0.Yf 6) != a0.Key)) then ((YX.mk 0 0 0 0 0 0 0), false) else ((YX.mk (nth a0.Yf 1) (nth a0.Yf 2) (nth a0.Yf 3) (nth a0.Yf 4) (nth a0.Yf 5) (nth a0.Yf 6) a0.Mark), true))
def xJ (a0 : List YX) (a1 : Int) : Nat -> Nat -> Sum Int Unit
  | 0, _ => .inr ()
  | n1 + 1, J => (bif (decide ((J : Int) < (a0.length : Int))) then (bif ((nth a0 J).Zd == a1) then (.inl (J : Int)) else xJ a0 a1 n1 (J + 1)) else (.inr ()))
def Xp (a0 : List YX) (a1 : Int) : Int := (match xJ a0 a1 (a0.length + 1) 0 with | .inl r1 => r1 | .inr _ => (-1))
def YI (a0 : ZF) (a1 : Int) : Int × Int × Bool := (bif ((decide ((ZL a0 a1).1 < 0)) || (decide (((nth (nth a0.ZA (ZL a0 a1).1.toNat).ZC (ZL a0 a1).2.toNat).ZK.ZJ.length : Int) < 2))) then (0, 0, false) else ((ZL a0 a1).1, (Xp a0.ZY (XO (nth (nth (nth a0.ZA (ZL a0 a1).1.toNat).ZC (ZL a0 a1).2.toNat).ZK.ZJ 1)).1.Zd), ((XO (nth (nth (nth a0.ZA (ZL a0 a1).1.toNat).ZC (ZL a0 a1).2.toNat).ZK.ZJ 1)).2 && (decide ((Xp a0.ZY (XO (nth (nth (nth a0.ZA (ZL a0 a1).1.toNat).ZC (ZL a0 a1).2.toNat).ZK.ZJ 1)).1.Zd) >= 0)))))
def Ju (a0 : Zn) : List Int := ([102, a0.Zd, a0.kU, a0.Zx, a0.Z1] : List Int)
def kg (a0 : Zn) : Bool := ((((ZS a0.Zd 1 999) && (Kq a0.kU)) && (ZS a0.Zx (-1) (W (a0.kU + 1)))) && (ZS a0.Z1 1 99))
def YL (a0 : List Yw) (a1 : Zn) : Zn × Bool := (bif ((!(kg a1)) || (!(zM a0 a1.Z1 (Ju a1)).2)) then ((Zn.mk 0 0 0 0 0), false) else ((Zn.mk a1.Zd a1.kU a1.Zx a1.Z1 (zM a0 a1.Z1 (Ju a1)).1), true))
def XK (a0 : Zn) : ZT := (ZT.mk a0.Z1 (Ju a0) a0.Mark)
def JD (a0 : ZU) (a1 : ZT) : ZU × Bool := (bif (!(Xy (ZU.mk (a0.ZJ ++ ([a1] : List ZT)) a0.ZP))) then (a0, false) else ((ZU.mk (a0.ZJ ++ ([a1] : List ZT)) a0.ZP), true))
def Xc (a0 : ZD) (a1 : Int) (a2 : ZT) : ZD × Bool := (bif (decide ((ZW a0 a1) < 0)) then (a0, false) else ((ZD.mk a0.Id (a0.ZC.set (ZW a0 a1).toNat (ZQ.mk (nth a0.ZC (ZW a0 a1).toNat).Id (nth a0.ZC (ZW a0 a1).toNat).Y8 (nth a0.ZC (ZW a0 a1).toNat).Doc (nth a0.ZC (ZW a0 a1).toNat).Sig (JD (nth a0.ZC (ZW a0 a1).toNat).ZK a2).1))), (JD (nth a0.ZC (ZW a0 a1).toNat).ZK a2).2))
def Qb (a0 : ZF) (a1 : Int) (a2 : Int) (a3 : Zn) : ZF × Bool := (bif ((!(YL a0.Frame.Zo a3).2) || (!(Xc (nth a0.ZA a1.toNat) a2 (XK (YL a0.Frame.Zo a3).1)).2)) then (a0, false) else ((ZF.mk a0.Frame a0.ZY a0.Zx (a0.ZA.set a1.toNat (Xc (nth a0.ZA a1.toNat) a2 (XK (YL a0.Frame.Zo a3).1)).1) a0.Yt a0.YO a0.Next a0.YE), true))
def Qy (a0 : ZF) (a1 : Int) : ZF × Bool := (bif ((!(YI a0 a1).2.2) || (decide ((YI a0 a1).2.1 >= (a0.Zx.length : Int)))) then (a0, false) else (bif ((decide ((Zt a0.Frame.Zo (nth a0.ZY (YI a0 a1).2.1.toNat).Z1) < 0)) || (decide ((nth a0.Frame.Zo (Zt a0.Frame.Zo (nth a0.ZY (YI a0 a1).2.1.toNat).Z1).toNat).VI > a0.Frame.Now))) then (a0, false) else (bif (decide ((nth a0.Zx (YI a0 a1).2.1.toNat) > (W (a0.Frame.Now + 1)))) then ((Qb a0 (YI a0 a1).1 a1 (Zn.mk (nth a0.ZY (YI a0 a1).2.1.toNat).Zd a0.Frame.Now (-1) (nth a0.ZY (YI a0 a1).2.1.toNat).Z1 0)).1, (Qb a0 (YI a0 a1).1 a1 (Zn.mk (nth a0.ZY (YI a0 a1).2.1.toNat).Zd a0.Frame.Now (-1) (nth a0.ZY (YI a0 a1).2.1.toNat).Z1 0)).2) else ((Qb a0 (YI a0 a1).1 a1 (Zn.mk (nth a0.ZY (YI a0 a1).2.1.toNat).Zd a0.Frame.Now (nth a0.Zx (YI a0 a1).2.1.toNat) (nth a0.ZY (YI a0 a1).2.1.toNat).Z1 0)).1, (Qb a0 (YI a0 a1).1 a1 (Zn.mk (nth a0.ZY (YI a0 a1).2.1.toNat).Zd a0.Frame.Now (nth a0.Zx (YI a0 a1).2.1.toNat) (nth a0.ZY (YI a0 a1).2.1.toNat).Z1 0)).2))))
def QJ (a0 : ZF) (a1 : Int) : ZF × Bool := (bif ((!(ZS a1 0 (W ((a0.Zx.length : Int) - 1)))) || ((nth a0.Zx a1.toNat) != (-1))) then (a0, false) else ((ZF.mk a0.Frame a0.ZY (a0.Zx.set a1.toNat (W (a0.Frame.Now + 1))) a0.ZA a0.Yt a0.YO a0.Next a0.YE), true))
def qv (a0 : List Int) : Nat -> Nat -> Sum Bool Unit
  | 0, _ => .inr ()
  | n1 + 1, J => (bif (decide ((J : Int) < (a0.length : Int))) then (bif (decide ((nth a0 (J - 1)) >= (nth a0 J))) then (.inl false) else qv a0 n1 (J + 1)) else (.inr ()))
def QV (a0 : List Int) : Bool := (match qv a0 (a0.length + 1) 1 with | .inl r1 => r1 | .inr _ => true)
def Jc (a0 : Zj) : List Int := ([103, a0.Authority, a0.Seq, a0.Time, a0.QK] : List Int)
def zp (a1 : ZZ) : Nat -> List Int -> Nat -> (List Int)
  | 0, _, _ => default
  | n2 + 1, m0, m9 => (bif (decide ((m9 : Int) < (a1.YH.length : Int))) then zp a1 n2 ((m0 ++ (Jc (nth a1.YH m9))) ++ ([(nth a1.YH m9).Mark] : List Int)) (m9 + 1) else (m0))
def Ki (a1 : ZZ) : Nat -> List Int -> Nat -> (List Int)
  | 0, _, _ => default
  | n1 + 1, J, U => (bif (decide ((U : Int) < (a1.Path.length : Int))) then (bif (nth a1.Path U).Left then Ki a1 n1 (J ++ ([(nth a1.Path U).QK, 1] : List Int)) (U + 1) else Ki a1 n1 (J ++ ([(nth a1.Path U).QK, 0] : List Int)) (U + 1)) else (J))
def JU (a0 : Int) (a1 : ZZ) : Int := (match Ki a1 (a1.Path.length + 1) ([4, a1.Count, a1.Method, a1.BE] : List Int) 0 with | z1_0 => (match zp a1 (a1.YH.length + 1) (z1_0 ++ ([(a1.YH.length : Int)] : List Int)) 0 with | ij => (Jm a0 ij)))
def yl (a0 : Int) (a1 : List ZT) : Nat -> List Int -> Nat -> (List Int)
  | 0, _, _ => default
  | n1 + 1, J, U => (bif (decide ((U : Int) < (a1.length : Int))) then yl a0 a1 n1 (J ++ ([(Jm a0 (([(nth a1 U).Key, (nth a1 U).Mark] : List Int) ++ (nth a1 U).Yf))] : List Int)) (U + 1) else (J))
def KX (a0 : Int) (a1 : List ZT) : Int := (match yl a0 a1 (a1.length + 1) ([2] : List Int) 0 with | z1_0 => (Jm a0 z1_0))
def WX (a0 : Int) (a1 : Int) (a2 : List ZT) (a3 : Int) : Int := (Jm a0 ([3, a1, (KX a0 a2), a3] : List Int))
def Qx (a0 : ZQ) (a1 : Int) : Int := (bif (decide ((a0.ZK.ZP.length : Int) > 0)) then (WX a1 (Yb a1 a0.Doc) a0.ZK.ZJ (JU a1 (nth a0.ZK.ZP (a0.ZK.ZP.length - 1)))) else (WX a1 (Yb a1 a0.Doc) a0.ZK.ZJ 0))
def xi (a0 : ZD) (a1 : Int) : Nat -> List Int -> Nat -> (List Int)
  | 0, _, _ => default
  | n1 + 1, J, U => (bif (decide ((U : Int) < (a0.ZC.length : Int))) then xi a0 a1 n1 (J ++ ([(Qx (nth a0.ZC U) a1)] : List Int)) (U + 1) else (J))
def Xf (a0 : ZD) (a1 : Int) : List Int := (match xi a0 a1 (a0.ZC.length + 1) ([] : List Int) 0 with | z1_0 => z1_0)
def xF (a0 : Int) (a1 : Int) (a2 : Int) : Int := (Jm a0 ([1, a1, a2] : List Int))
def KQ (a0 : Int) (a1 : List Int) : Nat -> List Int -> Nat -> (List Int)
  | 0, _, _ => default
  | n1 + 1, J, U => (bif (decide ((U : Int) < (a1.length : Int))) then (bif (decide ((W ((U : Int) + 1)) < (a1.length : Int))) then KQ a0 a1 n1 (J ++ ([(xF a0 (nth a1 U) (nth a1 (W ((U : Int) + 1)).toNat))] : List Int)) (U + 2) else KQ a0 a1 n1 (J ++ ([(nth a1 U)] : List Int)) (U + 2)) else (J))
def KL (a0 : Int) (a1 : List Int) : List Int := (match KQ a0 a1 (a1.length + 1) ([] : List Int) 0 with | z1_0 => z1_0)
def kA (a0 : Int) : Nat -> List Int -> (List Int)
  | 0, _ => default
  | n1 + 1, J => (bif (decide ((J.length : Int) > 1)) then kA a0 n1 (KL a0 J) else (J))
def jO (a0 : Int) (a1 : List Int) : Int := (bif (!(ZS (a1.length : Int) 1 16)) then (-1) else (match kA a0 (a1.length + 1) a1 with | z1_0 => (nth z1_0 0)))
def QH (a0 : ZD) (a1 : Int) : Int := (jO a1 (Xf a0 a1))
def Jq (a0 : List Zf) (a1 : Int) : Nat -> Nat -> Sum Int Unit
  | 0, _ => .inr ()
  | n1 + 1, J => (bif (decide ((J : Int) < (a0.length : Int))) then (bif ((nth a0 J).Id == a1) then (.inl (J : Int)) else Jq a0 a1 n1 (J + 1)) else (.inr ()))
def ZV (a0 : List Zf) (a1 : Int) : Int := (match Jq a0 a1 (a0.length + 1) 0 with | .inl r1 => r1 | .inr _ => (-1))
def Ug (a0 : List Int) (a1 : Int) : Nat -> Nat -> Sum Int Unit
  | 0, _ => .inr ()
  | n1 + 1, J => (bif (decide ((J : Int) < (a0.length : Int))) then (bif ((nth a0 J) == a1) then (.inl (J : Int)) else Ug a0 a1 n1 (J + 1)) else (.inr ()))
def PR (a0 : List Int) (a1 : Int) : Int := (match Ug a0 a1 (a0.length + 1) 0 with | .inl r1 => r1 | .inr _ => (-1))
def QG (a0 : List Int) (a1 : Int) : Bool := (decide ((PR a0 a1) >= 0))
def Xb (a0 : List Yw) (a1 : List Zf) (a2 : Zj) : Zj × Bool := (bif (((decide ((ZV a1 a2.Authority) < 0)) || (decide (a2.Seq < 0))) || (!(Kq a2.Time))) then ((Zj.mk 0 0 0 0 0), false) else (bif (!(zM a0 (nth a1 (ZV a1 a2.Authority).toNat).Key (Jc a2)).2) then ((Zj.mk 0 0 0 0 0), false) else ((Zj.mk a2.Authority a2.Seq a2.Time a2.QK (zM a0 (nth a1 (ZV a1 a2.Authority).toNat).Key (Jc a2)).1), true)))
def Kt (a0 : Int) : Nat -> List Int -> Int -> List Xx -> (List Xx)
  | 0, _, _, _ => default
  | n1 + 1, J, U, mz => (bif (decide ((J.length : Int) > 1)) then (bif ((Int.tmod U 2) == 1) then Kt a0 n1 (KL a0 J) (W (Int.tdiv U 2)) (mz ++ ([(Xx.mk (nth J (W (U - 1)).toNat) true)] : List Xx)) else (bif (decide ((W (U + 1)) < (J.length : Int))) then Kt a0 n1 (KL a0 J) (W (Int.tdiv U 2)) (mz ++ ([(Xx.mk (nth J (W (U + 1)).toNat) false)] : List Xx)) else Kt a0 n1 (KL a0 J) (W (Int.tdiv U 2)) mz)) else (mz))
def JC (a0 : Int) (a1 : List Int) (a2 : Int) : List Xx := (bif ((!(ZS a2 0 (W ((a1.length : Int) - 1)))) || (decide ((a1.length : Int) > 16))) then ([] : List Xx) else (match Kt a0 (a1.length + 1) a1 a2 ([] : List Xx) with | z1_0 => z1_0))
def Yz (a0 : ZU) (a1 : ZZ) : ZU × Bool := (bif (!(Xy (ZU.mk a0.ZJ (a0.ZP ++ ([a1] : List ZZ))))) then (a0, false) else ((ZU.mk a0.ZJ (a0.ZP ++ ([a1] : List ZZ))), true))
def Xr (a0 : ZD) (a1 : Int) (a2 : List Zj) : Nat -> Nat -> List ZQ -> Sum (ZD × Bool) (List ZQ)
  | 0, _, _ => .inr default
  | n1 + 1, J, U => (bif (decide ((J : Int) < (a0.ZC.length : Int))) then (bif (!(Yz (nth a0.ZC J).ZK (ZZ.mk ((nth a0.ZC J).ZK.ZJ.length : Int) a1 (QH a0 a1) (JC a1 (Xf a0 a1) (J : Int)) a2)).2) then (.inl (a0, false)) else Xr a0 a1 a2 n1 (J + 1) (U.set J (ZQ.mk (nth U J).Id (nth U J).Y8 (nth U J).Doc (nth U J).Sig (Yz (nth a0.ZC J).ZK (ZZ.mk ((nth a0.ZC J).ZK.ZJ.length : Int) a1 (QH a0 a1) (JC a1 (Xf a0 a1) (J : Int)) a2)).1))) else (.inr U))
def XB (a0 : ZD) (a1 : Int) (a2 : List Zj) : ZD × Bool := (bif (((a0.ZC.length : Int) == 0) || (!(Yi a0))) then (a0, false) else (match Xr a0 a1 a2 (a0.ZC.length + 1) 0 a0.ZC with | .inl r1 => r1 | .inr z1_0 => (bif (!(Yi (ZD.mk a0.Id z1_0))) then (a0, false) else ((ZD.mk a0.Id z1_0), true))))
def XY (a0 : ZF) (a1 : Int) (a2 : List Int) (a3 : Int) : Nat -> List Zj -> Nat -> List Int -> Sum (ZF × Bool) ((List Zj) × (List Int))
  | 0, _, _, _ => .inr (default, default)
  | n1 + 1, J, U, mz => (bif (decide ((U : Int) < (a2.length : Int))) then (bif ((decide ((ZV a0.Frame.ZB (nth a2 U)) < 0)) || (decide ((ZV a0.Frame.ZB (nth a2 U)) >= (a0.Yt.length : Int)))) then (.inl (a0, false)) else (bif ((decide ((Zt a0.Frame.Zo (nth a0.Frame.ZB (ZV a0.Frame.ZB (nth a2 U)).toNat).Key) < 0)) || (decide ((nth a0.Frame.Zo (Zt a0.Frame.Zo (nth a0.Frame.ZB (ZV a0.Frame.ZB (nth a2 U)).toNat).Key).toNat).VI > a0.Frame.Now))) then (.inl (a0, false)) else (bif (QG a0.YO (nth a2 U)) then (bif (!(Xb a0.Frame.Zo a0.Frame.ZB (Zj.mk (nth a2 U) (nth a0.Yt (ZV a0.Frame.ZB (nth a2 U)).toNat) (if (if (W (a0.Frame.Now + a3)) < 10000 then (W (a0.Frame.Now + a3)) else 10000) > 0 then (if (W (a0.Frame.Now + a3)) < 10000 then (W (a0.Frame.Now + a3)) else 10000) else 0) (QH (nth a0.ZA a1.toNat) (ZO a0.Frame.Methods a0.Frame.Now)) 0)).2) then (.inl (a0, false)) else XY a0 a1 a2 a3 n1 (J ++ ([(Xb a0.Frame.Zo a0.Frame.ZB (Zj.mk (nth a2 U) (nth a0.Yt (ZV a0.Frame.ZB (nth a2 U)).toNat) (if (if (W (a0.Frame.Now + a3)) < 10000 then (W (a0.Frame.Now + a3)) else 10000) > 0 then (if (W (a0.Frame.Now + a3)) < 10000 then (W (a0.Frame.Now + a3)) else 10000) else 0) (QH (nth a0.ZA a1.toNat) (ZO a0.Frame.Methods a0.Frame.Now)) 0)).1] : List Zj)) (U + 1) (mz.set (ZV a0.Frame.ZB (nth a2 U)).toNat (W ((nth mz (ZV a0.Frame.ZB (nth a2 U)).toNat) + 1)))) else (bif (!(Xb a0.Frame.Zo a0.Frame.ZB (Zj.mk (nth a2 U) (nth a0.Yt (ZV a0.Frame.ZB (nth a2 U)).toNat) a0.Frame.Now (QH (nth a0.ZA a1.toNat) (ZO a0.Frame.Methods a0.Frame.Now)) 0)).2) then (.inl (a0, false)) else XY a0 a1 a2 a3 n1 (J ++ ([(Xb a0.Frame.Zo a0.Frame.ZB (Zj.mk (nth a2 U) (nth a0.Yt (ZV a0.Frame.ZB (nth a2 U)).toNat) a0.Frame.Now (QH (nth a0.ZA a1.toNat) (ZO a0.Frame.Methods a0.Frame.Now)) 0)).1] : List Zj)) (U + 1) (mz.set (ZV a0.Frame.ZB (nth a2 U)).toNat (W ((nth mz (ZV a0.Frame.ZB (nth a2 U)).toNat) + 1))))))) else (.inr (J, mz)))
def Ym (a0 : ZF) (a1 : Int) (a2 : List Int) (a3 : Int) : ZF × Bool := (bif (((((!(YC a0 a1)) || (decide ((ZO a0.Frame.Methods a0.Frame.Now) < 0))) || (!(QV a2))) || ((a2.length : Int) == 0)) || (!(ZS a3 (-10000) 10000))) then (a0, false) else (match XY a0 a1 a2 a3 (a2.length + 1) ([] : List Zj) 0 a0.Yt with | .inl r1 => r1 | .inr (z1_0, z1_1) => (bif (!(XB (nth a0.ZA a1.toNat) (ZO a0.Frame.Methods a0.Frame.Now) z1_0).2) then (a0, false) else ((ZF.mk a0.Frame a0.ZY a0.Zx (a0.ZA.set a1.toNat (XB (nth a0.ZA a1.toNat) (ZO a0.Frame.Methods a0.Frame.Now) z1_0).1) z1_1 a0.YO a0.Next a0.YE), true))))
def qC (a0 : Int) (a1 : ZQ) : Nat -> List Int -> Nat -> (List Int)
  | 0, _, _ => default
  | n1 + 1, J, U => (bif (decide ((U : Int) < (a1.ZK.ZP.length : Int))) then qC a0 a1 n1 (J ++ ([(JU a0 (nth a1.ZK.ZP U))] : List Int)) (U + 1) else (J))
def jx (a0 : Int) (a1 : ZQ) : Int := (match qC a0 a1 (a1.ZK.ZP.length + 1) ([5, a1.Id, a1.Y8, (Yb a0 a1.Doc), (KX a0 a1.ZK.ZJ)] : List Int) 0 with | z1_0 => (Jm a0 z1_0))
def zn (a0 : Int) (a1 : List ZQ) : Nat -> List Int -> Nat -> (List Int)
  | 0, _, _ => default
  | n1 + 1, J, U => (bif (decide ((U : Int) < (a1.length : Int))) then zn a0 a1 n1 (J ++ ([(jx a0 (nth a1 U))] : List Int)) (U + 1) else (J))
def QO (a0 : Int) (a1 : List ZQ) : Int := (match zn a0 a1 (a1.length + 1) ([] : List Int) 0 with | z1_0 => (jO a0 z1_0))
def Qm (a0 : ZD) (a2 : List Int) : Nat -> Nat -> List ZQ -> Sum (YZ × Bool) (List ZQ)
  | 0, _, _ => .inr default
  | n1 + 1, J, U => (bif (decide ((J : Int) < (a2.length : Int))) then (bif (decide ((ZW a0 (nth a2 J)) < 0)) then (.inl ((YZ.mk 0 0 ([] : List ZQ) 0), false)) else Qm a0 a2 n1 (J + 1) (U ++ ([(nth a0.ZC (ZW a0 (nth a2 J)).toNat)] : List ZQ))) else (.inr U))
def Y1 (a0 : ZD) (a1 : Int) (a2 : List Int) (a3 : Int) : YZ × Bool := (match Qm a0 a2 (a2.length + 1) 0 ([] : List ZQ) with | .inl r1 => r1 | .inr z1_0 => (bif ((a2.length : Int) == 0) then ((YZ.mk 0 0 ([] : List ZQ) 0), false) else ((YZ.mk a0.Id a1 z1_0 (QO a3 z1_0)), true)))
def J3 (a0 : YZ) : Nat -> Nat -> Sum Bool Unit
  | 0, _ => .inr ()
  | n1 + 1, J => (bif (decide ((J : Int) < (a0.ZC.length : Int))) then (bif (!(Jv (nth a0.ZC J))) then (.inl false) else J3 a0 n1 (J + 1)) else (.inr ()))
def Qp (a0 : YZ) (a1 : Int) : Bool := (match J3 a0 (a0.ZC.length + 1) 0 with | .inl r1 => r1 | .inr _ => ((ZS (a0.ZC.length : Int) 1 8) && (a0.QK == (QO a1 a0.ZC))))
def X8 (a0 : ZD) (a1 : YZ) : Nat -> Nat -> Int -> List ZQ -> Sum (ZD × Bool) (Int × (List ZQ))
  | 0, _, _, _ => .inr (default, default)
  | n1 + 1, J, U, mz => (bif (decide ((J : Int) < (a1.ZC.length : Int))) then (bif (!(YQ (ZD.mk U mz) (nth a1.ZC J)).2) then (.inl (a0, false)) else X8 a0 a1 n1 (J + 1) (YQ (ZD.mk U mz) (nth a1.ZC J)).1.Id (YQ (ZD.mk U mz) (nth a1.ZC J)).1.ZC) else (.inr (U, mz)))
def XE (a0 : ZD) (a1 : YZ) (a2 : Int) : ZD × Bool := (bif ((!(Qp a1 a2)) || (a1.To != a0.Id)) then (a0, false) else (match X8 a0 a1 (a1.ZC.length + 1) 0 a0.Id a0.ZC with | .inl r1 => r1 | .inr (z1_0, z1_1) => ((ZD.mk z1_0 z1_1), true)))
def X9 (a0 : ZD) (a1 : Int) : ZD × Bool := (bif (decide ((ZW a0 a1) < 0)) then (a0, false) else ((ZD.mk a0.Id (a0.ZC.take (ZW a0 a1).toNat ++ (a0.ZC.drop (W ((ZW a0 a1) + 1)).toNat))), true))
def QT (a0 : ZD) (a1 : ZD) (a2 : List Int) : Nat -> Nat -> Int -> List ZQ -> Sum (ZD × ZD × Bool) (Int × (List ZQ))
  | 0, _, _, _ => .inr (default, default)
  | n1 + 1, J, U, mz => (bif (decide ((J : Int) < (a2.length : Int))) then (bif (!(X9 (ZD.mk U mz) (nth a2 J)).2) then (.inl (a0, a1, false)) else QT a0 a1 a2 n1 (J + 1) (X9 (ZD.mk U mz) (nth a2 J)).1.Id (X9 (ZD.mk U mz) (nth a2 J)).1.ZC) else (.inr (U, mz)))
def Y0 (a0 : ZD) (a1 : ZD) (a2 : List Int) (a3 : Int) : ZD × ZD × Bool := (bif ((!(Y1 a0 a1.Id a2 a3).2) || (!(XE a1 (Y1 a0 a1.Id a2 a3).1 a3).2)) then (a0, a1, false) else (match QT a0 a1 a2 (a2.length + 1) 0 a0.Id a0.ZC with | .inl r1 => r1 | .inr (z1_0, z1_1) => ((ZD.mk z1_0 z1_1), (XE a1 (Y1 a0 a1.Id a2 a3).1 a3).1, true)))
def J8 (a0 : ZF) (a1 : Int) (a2 : Int) (a3 : Int) : ZF × Bool := (bif ((((!(YC a0 a1)) || (!(YC a0 a2))) || (a1 == a2)) || (decide ((ZO a0.Frame.Methods a0.Frame.Now) < 0))) then (a0, false) else (bif (Y0 (nth a0.ZA a1.toNat) (nth a0.ZA a2.toNat) ([a3] : List Int) (ZO a0.Frame.Methods a0.Frame.Now)).2.2 then ((ZF.mk a0.Frame a0.ZY a0.Zx ((a0.ZA.set a1.toNat (Y0 (nth a0.ZA a1.toNat) (nth a0.ZA a2.toNat) ([a3] : List Int) (ZO a0.Frame.Methods a0.Frame.Now)).1).set a2.toNat (Y0 (nth a0.ZA a1.toNat) (nth a0.ZA a2.toNat) ([a3] : List Int) (ZO a0.Frame.Methods a0.Frame.Now)).2.1) a0.Yt a0.YO a0.Next a0.YE), (Y0 (nth a0.ZA a1.toNat) (nth a0.ZA a2.toNat) ([a3] : List Int) (ZO a0.Frame.Methods a0.Frame.Now)).2.2) else (a0, (Y0 (nth a0.ZA a1.toNat) (nth a0.ZA a2.toNat) ([a3] : List Int) (ZO a0.Frame.Methods a0.Frame.Now)).2.2)))
def QP (a0 : ZD) (a1 : Int) : Nat -> Nat -> List ZQ -> (List ZQ)
  | 0, _, _ => default
  | n1 + 1, J, U => (bif (decide ((J : Int) < (a0.ZC.length : Int))) then (bif (decide ((nth a0.ZC J).Y8 >= a1)) then QP a0 a1 n1 (J + 1) (U ++ ([(nth a0.ZC J)] : List ZQ)) else QP a0 a1 n1 (J + 1) U) else (U))
def Ky (a0 : ZD) (a1 : Int) : ZD × Int := (match QP a0 a1 (a0.ZC.length + 1) 0 ([] : List ZQ) with | z1_0 => ((ZD.mk a0.Id z1_0), (W ((a0.ZC.length : Int) - (z1_0.length : Int)))))
def Qw (a0 : ZF) (a1 : Int) : ZF × Bool := (bif (!(YC a0 a1)) then (a0, false) else ((ZF.mk a0.Frame a0.ZY a0.Zx (a0.ZA.set a1.toNat (Ky (nth a0.ZA a1.toNat) a0.Frame.Now).1) a0.Yt a0.YO a0.Next a0.YE), true))
def yd (a0 : List Z8) (a1 : Int) : Nat -> Nat -> Sum Int Unit
  | 0, _ => .inr ()
  | n1 + 1, J => (bif (decide ((J : Int) < (a0.length : Int))) then (bif ((nth a0 J).Id == a1) then (.inl (J : Int)) else yd a0 a1 n1 (J + 1)) else (.inr ()))
def X7 (a0 : List Z8) (a1 : Int) : Int := (match yd a0 a1 (a0.length + 1) 0 with | .inl r1 => r1 | .inr _ => (-1))
def zY (a0 : List Z8) (a1 : Int) : Int := (bif (decide ((X7 a0 a1) >= 0)) then (nth a0 (X7 a0 a1).toNat).R9 else 0)
def X4 (a0 : ZX) (a1 : Int) : Int := (bif (decide ((Zt a0.Zo a1) < 0)) then 0 else (zY a0.Methods (nth a0.Zo (Zt a0.Zo a1).toNat).Method))
def QW (a0 : ZX) (a1 : Int) : Bool := ((decide ((Zt a0.Zo a1) >= 0)) && (decide (a0.Now >= (X4 a0 a1))))
def JI (a0 : ZF) (a1 : Int) (a2 : Int) (a3 : ZN) : ZF × Bool := (bif (!(QW a0.Frame a2)) then (a0, false) else (bif (XJ a0 a1 a2 a3 0 10000).2 then ((ZF.mk (XJ a0 a1 a2 a3 0 10000).1.Frame (XJ a0 a1 a2 a3 0 10000).1.ZY (XJ a0 a1 a2 a3 0 10000).1.Zx (XJ a0 a1 a2 a3 0 10000).1.ZA (XJ a0 a1 a2 a3 0 10000).1.Yt (XJ a0 a1 a2 a3 0 10000).1.YO (XJ a0 a1 a2 a3 0 10000).1.Next ((XJ a0 a1 a2 a3 0 10000).1.YE ++ ([a0.Next] : List Int))), (XJ a0 a1 a2 a3 0 10000).2) else ((XJ a0 a1 a2 a3 0 10000).1, (XJ a0 a1 a2 a3 0 10000).2)))
def Xv (a0 : ZF) : Nat -> List Int -> Nat -> (List Int)
  | 0, _, _ => default
  | n1 + 1, J, U => (bif (decide ((U : Int) < (a0.Frame.ZB.length : Int))) then (bif ((QG a0.YO (nth a0.Frame.ZB U).Id) || (QW a0.Frame (nth a0.Frame.ZB U).Key)) then Xv a0 n1 (J ++ ([(nth a0.Frame.ZB U).Id] : List Int)) (U + 1) else Xv a0 n1 J (U + 1)) else (J))
def Zm (a0 : ZF) : List Int := (match Xv a0 (a0.Frame.ZB.length + 1) ([] : List Int) 0 with | z1_0 => z1_0)
def XG (a0 : ZF) (a1 : Int) (a2 : Int) : Nat -> Nat -> List Zj -> Sum (ZF × Bool) (List Zj)
  | 0, _, _ => .inr default
  | n1 + 1, J, U => (bif (decide ((J : Int) < ((Zm a0).length : Int))) then (bif (!(Xb a0.Frame.Zo a0.Frame.ZB (Zj.mk (nth (Zm a0) J) 0 a2 (Qx (nth (nth a0.ZA (ZL a0 a1).1.toNat).ZC (ZL a0 a1).2.toNat) (ZO a0.Frame.Methods a0.Frame.Now)) 0)).2) then (.inl (a0, false)) else XG a0 a1 a2 n1 (J + 1) (U ++ ([(Xb a0.Frame.Zo a0.Frame.ZB (Zj.mk (nth (Zm a0) J) 0 a2 (Qx (nth (nth a0.ZA (ZL a0 a1).1.toNat).ZC (ZL a0 a1).2.toNat) (ZO a0.Frame.Methods a0.Frame.Now)) 0)).1] : List Zj))) else (.inr U))
def Xs (a0 : ZF) (a1 : Int) (a2 : Int) : ZF × Bool := (bif ((((!(QG a0.YE a1)) || (decide ((ZL a0 a1).1 < 0))) || (decide ((ZO a0.Frame.Methods a0.Frame.Now) < 0))) || (((Zm a0).length : Int) == 0)) then (a0, false) else (match XG a0 a1 a2 ((Zm a0).length + 1) 0 ([] : List Zj) with | .inl r1 => r1 | .inr z1_0 => ((ZF.mk a0.Frame a0.ZY a0.Zx (a0.ZA.set (ZL a0 a1).1.toNat (ZD.mk (nth a0.ZA (ZL a0 a1).1.toNat).Id ((nth a0.ZA (ZL a0 a1).1.toNat).ZC.set (ZL a0 a1).2.toNat (ZQ.mk (nth (nth a0.ZA (ZL a0 a1).1.toNat).ZC (ZL a0 a1).2.toNat).Id (nth (nth a0.ZA (ZL a0 a1).1.toNat).ZC (ZL a0 a1).2.toNat).Y8 (nth (nth a0.ZA (ZL a0 a1).1.toNat).ZC (ZL a0 a1).2.toNat).Doc (nth (nth a0.ZA (ZL a0 a1).1.toNat).ZC (ZL a0 a1).2.toNat).Sig (Yz (nth (nth a0.ZA (ZL a0 a1).1.toNat).ZC (ZL a0 a1).2.toNat).ZK (ZZ.mk ((nth (nth a0.ZA (ZL a0 a1).1.toNat).ZC (ZL a0 a1).2.toNat).ZK.ZJ.length : Int) (ZO a0.Frame.Methods a0.Frame.Now) (Qx (nth (nth a0.ZA (ZL a0 a1).1.toNat).ZC (ZL a0 a1).2.toNat) (ZO a0.Frame.Methods a0.Frame.Now)) ([] : List Xx) z1_0)).1)))) a0.Yt a0.YO a0.Next a0.YE), (Yz (nth (nth a0.ZA (ZL a0 a1).1.toNat).ZC (ZL a0 a1).2.toNat).ZK (ZZ.mk ((nth (nth a0.ZA (ZL a0 a1).1.toNat).ZC (ZL a0 a1).2.toNat).ZK.ZJ.length : Int) (ZO a0.Frame.Methods a0.Frame.Now) (Qx (nth (nth a0.ZA (ZL a0 a1).1.toNat).ZC (ZL a0 a1).2.toNat) (ZO a0.Frame.Methods a0.Frame.Now)) ([] : List Xx) z1_0)).2)))
def J6 (a0 : ZF) (a1 : Int) (a2 : Int) : ZF × Bool := (bif ((!(YI a0 a1).2.2) || (!(QW a0.Frame (nth a0.ZY (YI a0 a1).2.1.toNat).Z1))) then (a0, false) else ((Qb a0 (YI a0 a1).1 a1 (Zn.mk (nth a0.ZY (YI a0 a1).2.1.toNat).Zd a2 (-1) (nth a0.ZY (YI a0 a1).2.1.toNat).Z1 0)).1, (Qb a0 (YI a0 a1).1 a1 (Zn.mk (nth a0.ZY (YI a0 a1).2.1.toNat).Zd a2 (-1) (nth a0.ZY (YI a0 a1).2.1.toNat).Z1 0)).2))
def Yg (a0 : ZF) (a1 : Zs) : ZF × Bool := (bif (a1.Kind == 1) then ((YA a0 a1.A).1, (YA a0 a1.A).2) else (bif (a1.Kind == 2) then ((JY a0 a1.A a1.B a1.Doc a1.C a1.D).1, (JY a0 a1.A a1.B a1.Doc a1.C a1.D).2) else (bif (a1.Kind == 3) then ((Qy a0 a1.A).1, (Qy a0 a1.A).2) else (bif (a1.Kind == 4) then ((QJ a0 a1.A).1, (QJ a0 a1.A).2) else (bif (a1.Kind == 5) then ((Ym a0 a1.A a1.Ids a1.B).1, (Ym a0 a1.A a1.Ids a1.B).2) else (bif (a1.Kind == 6) then ((J8 a0 a1.A a1.B a1.C).1, (J8 a0 a1.A a1.B a1.C).2) else (bif (a1.Kind == 7) then ((Qw a0 a1.A).1, (Qw a0 a1.A).2) else (bif (a1.Kind == 8) then ((JI a0 a1.A a1.B a1.Doc).1, (JI a0 a1.A a1.B a1.Doc).2) else (bif (a1.Kind == 9) then ((Xs a0 a1.A a1.B).1, (Xs a0 a1.A a1.B).2) else (bif (a1.Kind == 10) then ((J6 a0 a1.A a1.B).1, (J6 a0 a1.A a1.B).2) else (a0, false)))))))))))
def Ou (a0 : ZX) : ZX := a0
def Hb (a0 : ZN) : ZN := a0
def LA (a0 : ZT) : ZT := a0
def SS (a0 : List ZT) : Nat -> List ZT -> Nat -> (List ZT)
  | 0, _, _ => default
  | n1 + 1, J, U => (bif (decide ((U : Int) < (a0.length : Int))) then SS a0 n1 (J ++ ([(nth a0 U)] : List ZT)) (U + 1) else (J))
def O6 (a0 : List ZT) : List ZT := (match SS a0 (a0.length + 1) ([] : List ZT) 0 with | z1_0 => z1_0)
def M0 (a0 : ZZ) : ZZ := a0
def Uz (a0 : ZU) : Nat -> Nat -> List ZZ -> (List ZZ)
  | 0, _, _ => default
  | n1 + 1, J, U => (bif (decide ((J : Int) < (a0.ZP.length : Int))) then Uz a0 n1 (J + 1) (U ++ ([(nth a0.ZP J)] : List ZZ)) else (U))
def Ph (a0 : ZU) : ZU := (match Uz a0 (a0.ZP.length + 1) 0 ([] : List ZZ) with | z1_0 => (ZU.mk a0.ZJ z1_0))
def LM (a0 : ZQ) : ZQ := a0
def Uy (a0 : ZD) : Nat -> Nat -> List ZQ -> (List ZQ)
  | 0, _, _ => default
  | n1 + 1, J, U => (bif (decide ((J : Int) < (a0.ZC.length : Int))) then Uy a0 n1 (J + 1) (U ++ ([(nth a0.ZC J)] : List ZQ)) else (U))
def Pa (a0 : ZD) : ZD := (match Uy a0 (a0.ZC.length + 1) 0 ([] : List ZQ) with | z1_0 => (ZD.mk a0.Id z1_0))
def UZ (a0 : ZF) : Nat -> Nat -> List ZD -> (List ZD)
  | 0, _, _ => default
  | n1 + 1, J, U => (bif (decide ((J : Int) < (a0.ZA.length : Int))) then UZ a0 n1 (J + 1) (U ++ ([(nth a0.ZA J)] : List ZD)) else (U))
def Pf (a0 : ZF) : ZF := (match UZ a0 (a0.ZA.length + 1) 0 ([] : List ZD) with | z1_0 => (ZF.mk a0.Frame a0.ZY a0.Zx z1_0 a0.Yt a0.YO a0.Next a0.YE))
def jR (a0 : ZF) (a1 : Int) : ZF × Bool := (bif ((!(YU a1 0 100)) || (decide ((W (a0.Frame.Now + a1)) > 10000))) then (a0, false) else ((ZF.mk (ZX.mk a0.Frame.Zo a0.Frame.ZB a0.Frame.Methods a0.Frame.XT (W (a0.Frame.Now + a1))) a0.ZY a0.Zx a0.ZA a0.Yt a0.YO a0.Next a0.YE), true))
def JB (a0 : ZF) (a1 : Int) : Bool := (YU a1 0 (W ((a0.ZA.length : Int) - 1)))
def yh (a0 : List Z8) (a1 : Int) : Nat -> Int -> Nat -> Int
  | 0, _, _ => default
  | n1 + 1, J, U => (bif (decide ((U : Int) < (a0.length : Int))) then (bif (((decide (a1 >= (nth a0 U).MI)) && (decide (a1 < (nth a0 U).Ends))) && ((decide (J < 0)) || (decide ((nth a0 U).Ends > (nth a0 J.toNat).Ends)))) then yh a0 a1 n1 (U : Int) (U + 1) else yh a0 a1 n1 J (U + 1)) else (J))
def Zk (a0 : List Z8) (a1 : Int) : Int := (match yh a0 a1 (a0.length + 1) (-1) 0 with | z1_0 => (bif (decide (z1_0 < 0)) then (-1) else (nth a0 z1_0.toNat).Id))
def KN (a0 : ZF) (a1 : Int) : Nat -> Nat -> Sum Int Unit
  | 0, _ => .inr ()
  | n1 + 1, J => (bif (decide ((J : Int) < (a0.ZY.length : Int))) then (bif ((nth a0.ZY J).Key == a1) then (.inl (J : Int)) else KN a0 a1 n1 (J + 1)) else (.inr ()))
def Xl (a0 : ZF) (a1 : Int) : Int := (match KN a0 a1 (a0.ZY.length + 1) 0 with | .inl r1 => r1 | .inr _ => (-1))
def Kp (a0 : Int) (a1 : List Int) : Int := (Md (([7, a0] : List Int) ++ a1))
def xu (a1 : ByteArray) : Nat -> List Int -> Nat -> (List Int)
  | 0, _, _ => default
  | n1 + 1, J, U => (bif (decide ((U : Int) < (a1.size : Int))) then xu a1 n1 (J ++ ([(W ((bAt a1 U) : Int))] : List Int)) (U + 1) else (J))
def j8 (a0 : Int) (a1 : ByteArray) (a2 : Int) : Int := (match xu a1 (a1.size + 1) ([a2] : List Int) 0 with | z1_0 => (Kp a0 z1_0))
def q8 (a0 : Int) (a1 : ZN) : Nat -> List Int -> Nat -> (List Int)
  | 0, _, _ => default
  | n1 + 1, J, U => (bif (decide ((U : Int) < (a1.Xn.length : Int))) then q8 a0 a1 n1 (J ++ ([(j8 a0 (nth a1.Xn U) (nth a1.KW U))] : List Int)) (U + 1) else (J))
def JG (a0 : Int) (a1 : ZN) : Int := (bif (!(K2 a1)) then (-1) else (match q8 a0 a1 (a1.Xn.length + 1) ([a1.UG] : List Int) 0 with | z1_0 => (Kp a0 z1_0)))
def q7 (a0 : Zl) : Bool := ((((((((YU a0.Key 1 99) && (YU a0.Zd 1 999)) && (YU a0.Method 0 99)) && (YU a0.Org 0 99)) && (YU a0.Vk 1 3)) && (YU a0.QK 0 1000000000000)) && (YU a0.UR 0 1000000000000)) && (YU a0.UT 0 1000000000000))
def Qo (a0 : Zl) : List Int := ([104, a0.Key, a0.Zd, a0.Method, a0.QK, a0.Vk, a0.Org, a0.UR, a0.UT] : List Int)
def K0 (a0 : List Yw) (a1 : Zl) : Zl × Bool := (bif ((!(q7 a1)) || (decide ((Yc a0 a1.Key) < 0))) then ((Zl.mk 0 0 0 0 0 0 0 0 0), false) else ((Zl.mk a1.Key a1.Zd a1.Method a1.QK a1.Vk a1.Org a1.UR a1.UT (xr (nth a0 (Yc a0 a1.Key).toNat) (Qo a1))), true))
def yv (a0 : Zl) : ZT := (ZT.mk a0.Key (Qo a0) a0.Mark)
def jt (a0 : YX) : ZT := (ZT.mk a0.Z1 (yH a0) a0.Mark)
def QA (a0 : ZF) (a1 : Int) (a2 : ZN) (a3 : Int) (a4 : Int) : ZQ × Bool := (bif ((decide ((Zk a0.Frame.Methods a0.Frame.Now) < 0)) || (decide ((Xl a0 a1) < 0))) then ((ZQ.mk 0 0 (ZN.mk 0 ([] : List ByteArray) ([] : List Int)) (Zl.mk 0 0 0 0 0 0 0 0 0) (ZU.mk ([] : List ZT) ([] : List ZZ))), false) else ((ZQ.mk a0.Next a4 a2 (K0 a0.Frame.Zo (Zl.mk a1 (nth a0.ZY (Xl a0 a1).toNat).Zd (Zk a0.Frame.Methods a0.Frame.Now) (JG (Zk a0.Frame.Methods a0.Frame.Now) a2) 1 a3 0 0 0)).1 (ZU.mk ([(yv (K0 a0.Frame.Zo (Zl.mk a1 (nth a0.ZY (Xl a0 a1).toNat).Zd (Zk a0.Frame.Methods a0.Frame.Now) (JG (Zk a0.Frame.Methods a0.Frame.Now) a2) 1 a3 0 0 0)).1), (jt (nth a0.ZY (Xl a0 a1).toNat))] : List ZT) ([] : List ZZ))), (K0 a0.Frame.Zo (Zl.mk a1 (nth a0.ZY (Xl a0 a1).toNat).Zd (Zk a0.Frame.Methods a0.Frame.Now) (JG (Zk a0.Frame.Methods a0.Frame.Now) a2) 1 a3 0 0 0)).2))
def WT (a0 : List Int) (a1 : List Int) : Nat -> Nat -> Sum Bool Unit
  | 0, _ => .inr ()
  | n1 + 1, J => (bif (decide ((J : Int) < (a0.length : Int))) then (bif ((nth a0 J) != (nth a1 J)) then (.inl false) else WT a0 a1 n1 (J + 1)) else (.inr ()))
def Uo (a0 : List Int) (a1 : List Int) : Bool := (bif ((a0.length : Int) != (a1.length : Int)) then false else (match WT a0 a1 (a0.length + 1) 0 with | .inl r1 => r1 | .inr _ => true))
def xa (a0 : ZT) (a1 : ZT) : Bool := (((a0.Key == a1.Key) && (a0.Mark == a1.Mark)) && (Uo a0.Yf a1.Yf))
def xY (a0 : ZU) (a1 : ZT) : Nat -> Nat -> Sum Int Unit
  | 0, _ => .inr ()
  | n1 + 1, J => (bif (decide ((J : Int) < (a0.ZJ.length : Int))) then (bif (xa (nth a0.ZJ J) a1) then (.inl (J : Int)) else xY a0 a1 n1 (J + 1)) else (.inr ()))
def qM (a0 : ZU) (a1 : ZT) : Int := (match xY a0 a1 (a0.ZJ.length + 1) 0 with | .inl r1 => r1 | .inr _ => (-1))
def ql (a0 : ZU) : Nat -> Nat -> Sum Bool Unit
  | 0, _ => .inr ()
  | n2 + 1, m0 => (bif (decide ((m0 : Int) < (a0.ZP.length : Int))) then (bif ((!(YU (nth a0.ZP m0).Count 1 (a0.ZJ.length : Int))) || ((decide ((m0 : Int) > 0)) && (decide ((nth a0.ZP (m0 - 1)).Count > (nth a0.ZP m0).Count)))) then (.inl false) else ql a0 n2 (m0 + 1)) else (.inr ()))
def qi (a0 : ZU) : Nat -> Nat -> Sum Bool Unit
  | 0, _ => .inr ()
  | n1 + 1, J => (bif (decide ((J : Int) < (a0.ZJ.length : Int))) then (bif (decide ((qM a0 (nth a0.ZJ J)) < (J : Int))) then (.inl false) else qi a0 n1 (J + 1)) else (.inr ()))
def xK (a0 : ZU) : Bool := (match qi a0 (a0.ZJ.length + 1) 0 with | .inl r1 => r1 | .inr _ => (match ql a0 (a0.ZP.length + 1) 0 with | .inl r2 => r2 | .inr _ => ((YU (a0.ZJ.length : Int) 1 12) && (decide ((a0.ZP.length : Int) <= 8)))))
def Tx (a0 : ZQ) : Bool := (((((YU a0.Id 1 999) && (Wg a0.Y8)) && (K2 a0.Doc)) && (xK a0.ZK)) && (xa (nth a0.ZK.ZJ 0) (yv a0.Sig)))
def q9 (a0 : ZD) : Nat -> Nat -> Sum Bool Unit
  | 0, _ => .inr ()
  | n1 + 1, J => (bif (decide ((J : Int) < (a0.ZC.length : Int))) then (bif ((!(Tx (nth a0.ZC J))) || ((decide ((J : Int) > 0)) && (decide ((nth a0.ZC (J - 1)).Id >= (nth a0.ZC J).Id)))) then (.inl false) else q9 a0 n1 (J + 1)) else (.inr ()))
def Jb (a0 : ZD) : Bool := (match q9 a0 (a0.ZC.length + 1) 0 with | .inl r1 => r1 | .inr _ => ((YU a0.Id 0 99) && (decide ((a0.ZC.length : Int) <= 8))))
def qS (a0 : ZD) (a1 : Int) : Nat -> Nat -> Sum Int Unit
  | 0, _ => .inr ()
  | n1 + 1, J => (bif (decide ((J : Int) < (a0.ZC.length : Int))) then (bif ((nth a0.ZC J).Id == a1) then (.inl (J : Int)) else qS a0 a1 n1 (J + 1)) else (.inr ()))
def Ys (a0 : ZD) (a1 : Int) : Int := (match qS a0 a1 (a0.ZC.length + 1) 0 with | .inl r1 => r1 | .inr _ => (-1))
def Qh (a0 : ZD) (a1 : ZQ) : Nat -> Bool -> Nat -> List ZQ -> Bool × (List ZQ)
  | 0, _, _, _ => (default, default)
  | n1 + 1, J, U, mz => (bif (decide ((U : Int) < (a0.ZC.length : Int))) then (bif ((!J) && (decide (a1.Id < (nth a0.ZC U).Id))) then Qh a0 a1 n1 true (U + 1) ((mz ++ ([a1] : List ZQ)) ++ ([(nth a0.ZC U)] : List ZQ)) else Qh a0 a1 n1 J (U + 1) (mz ++ ([(nth a0.ZC U)] : List ZQ))) else ((J, mz)))
def JK (a0 : ZD) (a1 : ZQ) : ZD × Bool := (bif ((!(Jb a0)) || (decide ((Ys a0 a1.Id) >= 0))) then (a0, false) else (match Qh a0 a1 (a0.ZC.length + 1) false 0 ([] : List ZQ) with | (z1_0, z1_1) => (bif (!z1_0) then (bif (!(Jb (ZD.mk a0.Id (z1_1 ++ ([a1] : List ZQ))))) then (a0, false) else ((ZD.mk a0.Id (z1_1 ++ ([a1] : List ZQ))), true)) else (bif (!(Jb (ZD.mk a0.Id z1_1))) then (a0, false) else ((ZD.mk a0.Id z1_1), true)))))
def ja (a0 : ZF) (a1 : Int) (a2 : Int) (a3 : ZN) (a4 : Int) (a5 : Int) : ZF × Bool := (bif (((!(JB a0 a1)) || (decide ((Yc a0.Frame.Zo a2) < 0))) || (decide ((nth a0.Frame.Zo (Yc a0.Frame.Zo a2).toNat).VI > a0.Frame.Now))) then (a0, false) else (bif (!(QA a0 a2 a3 a4 a5).2) then (a0, false) else (bif (!(JK (nth a0.ZA a1.toNat) (QA a0 a2 a3 a4 a5).1).2) then (a0, false) else ((ZF.mk a0.Frame a0.ZY a0.Zx (a0.ZA.set a1.toNat (JK (nth a0.ZA a1.toNat) (QA a0 a2 a3 a4 a5).1).1) a0.Yt a0.YO (W (a0.Next + 1)) a0.YE), true))))
def jc (a0 : ZF) (a1 : Int) : Nat -> Nat -> Sum (Int × Int) Unit
  | 0, _ => .inr ()
  | n1 + 1, J => (bif (decide ((J : Int) < (a0.ZA.length : Int))) then (bif (decide ((Ys (nth a0.ZA J) a1) >= 0)) then (.inl ((J : Int), (Ys (nth a0.ZA J) a1))) else jc a0 a1 n1 (J + 1)) else (.inr ()))
def ZG (a0 : ZF) (a1 : Int) : Int × Int := (match jc a0 a1 (a0.ZA.length + 1) 0 with | .inl r1 => r1 | .inr _ => ((-1), (-1)))
def Qs (a0 : ZT) : Int := (bif (((a0.Yf.length : Int) == 0) || (!(YU (nth a0.Yf 0) 101 105))) then 0 else (bif ((a0.Yf.length : Int) != (nth ([7, 5, 5, 9, 6] : List Int) (W ((nth a0.Yf 0) - 101)).toNat)) then 0 else (nth a0.Yf 0)))
def Ze (a0 : ZT) : YX × Bool := (bif (((Qs a0) != 101) || ((nth a0.Yf 6) != a0.Key)) then ((YX.mk 0 0 0 0 0 0 0), false) else ((YX.mk (nth a0.Yf 1) (nth a0.Yf 2) (nth a0.Yf 3) (nth a0.Yf 4) (nth a0.Yf 5) (nth a0.Yf 6) a0.Mark), true))
def qf (a0 : List YX) (a1 : Int) : Nat -> Nat -> Sum Int Unit
  | 0, _ => .inr ()
  | n1 + 1, J => (bif (decide ((J : Int) < (a0.length : Int))) then (bif ((nth a0 J).Zd == a1) then (.inl (J : Int)) else qf a0 a1 n1 (J + 1)) else (.inr ()))
def Z3 (a0 : List YX) (a1 : Int) : Int := (match qf a0 a1 (a0.length + 1) 0 with | .inl r1 => r1 | .inr _ => (-1))
def Vn (a0 : Zn) : Bool := ((((YU a0.Zd 1 999) && (Wg a0.kU)) && (YU a0.Zx (-1) (W (a0.kU + 1)))) && (YU a0.Z1 1 99))
def KJ (a0 : Zn) : List Int := ([102, a0.Zd, a0.kU, a0.Zx, a0.Z1] : List Int)
def Yl (a0 : List Yw) (a1 : Zn) : Zn × Bool := (bif ((!(Vn a1)) || (decide ((Yc a0 a1.Z1) < 0))) then ((Zn.mk 0 0 0 0 0), false) else ((Zn.mk a1.Zd a1.kU a1.Zx a1.Z1 (xr (nth a0 (Yc a0 a1.Z1).toNat) (KJ a1))), true))
def XL (a0 : Zn) : ZT := (ZT.mk a0.Z1 (KJ a0) a0.Mark)
def xD (a0 : ZU) (a1 : ZT) : ZU × Bool := (bif (!(xK (ZU.mk (a0.ZJ ++ ([a1] : List ZT)) a0.ZP))) then (a0, false) else ((ZU.mk (a0.ZJ ++ ([a1] : List ZT)) a0.ZP), true))
def QE (a0 : ZD) (a1 : Int) (a2 : ZT) : ZD × Bool := (bif (decide ((Ys a0 a1) < 0)) then (a0, false) else ((ZD.mk a0.Id (a0.ZC.set (Ys a0 a1).toNat (ZQ.mk (nth a0.ZC (Ys a0 a1).toNat).Id (nth a0.ZC (Ys a0 a1).toNat).Y8 (nth a0.ZC (Ys a0 a1).toNat).Doc (nth a0.ZC (Ys a0 a1).toNat).Sig (xD (nth a0.ZC (Ys a0 a1).toNat).ZK a2).1))), (xD (nth a0.ZC (Ys a0 a1).toNat).ZK a2).2))
def xC (a0 : ZF) (a1 : Int) : ZF × Bool := (bif ((decide ((ZG a0 a1).1 < 0)) || (decide (((nth (nth a0.ZA (ZG a0 a1).1.toNat).ZC (ZG a0 a1).2.toNat).ZK.ZJ.length : Int) < 2))) then (a0, false) else (bif (((!(Ze (nth (nth (nth a0.ZA (ZG a0 a1).1.toNat).ZC (ZG a0 a1).2.toNat).ZK.ZJ 1)).2) || (decide ((Z3 a0.ZY (Ze (nth (nth (nth a0.ZA (ZG a0 a1).1.toNat).ZC (ZG a0 a1).2.toNat).ZK.ZJ 1)).1.Zd) < 0))) || (decide ((Z3 a0.ZY (Ze (nth (nth (nth a0.ZA (ZG a0 a1).1.toNat).ZC (ZG a0 a1).2.toNat).ZK.ZJ 1)).1.Zd) >= (a0.Zx.length : Int)))) then (a0, false) else (bif (decide ((nth a0.Zx (Z3 a0.ZY (Ze (nth (nth (nth a0.ZA (ZG a0 a1).1.toNat).ZC (ZG a0 a1).2.toNat).ZK.ZJ 1)).1.Zd).toNat) <= (W (a0.Frame.Now + 1)))) then (bif ((!(Yl a0.Frame.Zo (Zn.mk (Ze (nth (nth (nth a0.ZA (ZG a0 a1).1.toNat).ZC (ZG a0 a1).2.toNat).ZK.ZJ 1)).1.Zd a0.Frame.Now (nth a0.Zx (Z3 a0.ZY (Ze (nth (nth (nth a0.ZA (ZG a0 a1).1.toNat).ZC (ZG a0 a1).2.toNat).ZK.ZJ 1)).1.Zd).toNat) (nth a0.ZY (Z3 a0.ZY (Ze (nth (nth (nth a0.ZA (ZG a0 a1).1.toNat).ZC (ZG a0 a1).2.toNat).ZK.ZJ 1)).1.Zd).toNat).Z1 0)).2) || (decide ((nth a0.Frame.Zo (Yc a0.Frame.Zo (nth a0.ZY (Z3 a0.ZY (Ze (nth (nth (nth a0.ZA (ZG a0 a1).1.toNat).ZC (ZG a0 a1).2.toNat).ZK.ZJ 1)).1.Zd).toNat).Z1).toNat).VI > a0.Frame.Now))) then (a0, false) else ((ZF.mk a0.Frame a0.ZY a0.Zx (a0.ZA.set (ZG a0 a1).1.toNat (QE (nth a0.ZA (ZG a0 a1).1.toNat) a1 (XL (Yl a0.Frame.Zo (Zn.mk (Ze (nth (nth (nth a0.ZA (ZG a0 a1).1.toNat).ZC (ZG a0 a1).2.toNat).ZK.ZJ 1)).1.Zd a0.Frame.Now (nth a0.Zx (Z3 a0.ZY (Ze (nth (nth (nth a0.ZA (ZG a0 a1).1.toNat).ZC (ZG a0 a1).2.toNat).ZK.ZJ 1)).1.Zd).toNat) (nth a0.ZY (Z3 a0.ZY (Ze (nth (nth (nth a0.ZA (ZG a0 a1).1.toNat).ZC (ZG a0 a1).2.toNat).ZK.ZJ 1)).1.Zd).toNat).Z1 0)).1)).1) a0.Yt a0.YO a0.Next a0.YE), (QE (nth a0.ZA (ZG a0 a1).1.toNat) a1 (XL (Yl a0.Frame.Zo (Zn.mk (Ze (nth (nth (nth a0.ZA (ZG a0 a1).1.toNat).ZC (ZG a0 a1).2.toNat).ZK.ZJ 1)).1.Zd a0.Frame.Now (nth a0.Zx (Z3 a0.ZY (Ze (nth (nth (nth a0.ZA (ZG a0 a1).1.toNat).ZC (ZG a0 a1).2.toNat).ZK.ZJ 1)).1.Zd).toNat) (nth a0.ZY (Z3 a0.ZY (Ze (nth (nth (nth a0.ZA (ZG a0 a1).1.toNat).ZC (ZG a0 a1).2.toNat).ZK.ZJ 1)).1.Zd).toNat).Z1 0)).1)).2)) else (bif ((!(Yl a0.Frame.Zo (Zn.mk (Ze (nth (nth (nth a0.ZA (ZG a0 a1).1.toNat).ZC (ZG a0 a1).2.toNat).ZK.ZJ 1)).1.Zd a0.Frame.Now (-1) (nth a0.ZY (Z3 a0.ZY (Ze (nth (nth (nth a0.ZA (ZG a0 a1).1.toNat).ZC (ZG a0 a1).2.toNat).ZK.ZJ 1)).1.Zd).toNat).Z1 0)).2) || (decide ((nth a0.Frame.Zo (Yc a0.Frame.Zo (nth a0.ZY (Z3 a0.ZY (Ze (nth (nth (nth a0.ZA (ZG a0 a1).1.toNat).ZC (ZG a0 a1).2.toNat).ZK.ZJ 1)).1.Zd).toNat).Z1).toNat).VI > a0.Frame.Now))) then (a0, false) else ((ZF.mk a0.Frame a0.ZY a0.Zx (a0.ZA.set (ZG a0 a1).1.toNat (QE (nth a0.ZA (ZG a0 a1).1.toNat) a1 (XL (Yl a0.Frame.Zo (Zn.mk (Ze (nth (nth (nth a0.ZA (ZG a0 a1).1.toNat).ZC (ZG a0 a1).2.toNat).ZK.ZJ 1)).1.Zd a0.Frame.Now (-1) (nth a0.ZY (Z3 a0.ZY (Ze (nth (nth (nth a0.ZA (ZG a0 a1).1.toNat).ZC (ZG a0 a1).2.toNat).ZK.ZJ 1)).1.Zd).toNat).Z1 0)).1)).1) a0.Yt a0.YO a0.Next a0.YE), (QE (nth a0.ZA (ZG a0 a1).1.toNat) a1 (XL (Yl a0.Frame.Zo (Zn.mk (Ze (nth (nth (nth a0.ZA (ZG a0 a1).1.toNat).ZC (ZG a0 a1).2.toNat).ZK.ZJ 1)).1.Zd a0.Frame.Now (-1) (nth a0.ZY (Z3 a0.ZY (Ze (nth (nth (nth a0.ZA (ZG a0 a1).1.toNat).ZC (ZG a0 a1).2.toNat).ZK.ZJ 1)).1.Zd).toNat).Z1 0)).1)).2)))))
def y5 (a0 : ZF) (a1 : Int) : ZF × Bool := (bif ((!(YU a1 0 (W ((a0.Zx.length : Int) - 1)))) || ((nth a0.Zx a1.toNat) != (-1))) then (a0, false) else ((ZF.mk a0.Frame a0.ZY (a0.Zx.set a1.toNat (W (a0.Frame.Now + 1))) a0.ZA a0.Yt a0.YO a0.Next a0.YE), true))
def Kc (a0 : List Zf) (a1 : Int) : Nat -> Nat -> Sum Int Unit
  | 0, _ => .inr ()
  | n1 + 1, J => (bif (decide ((J : Int) < (a0.length : Int))) then (bif ((nth a0 J).Id == a1) then (.inl (J : Int)) else Kc a0 a1 n1 (J + 1)) else (.inr ()))
def Zh (a0 : List Zf) (a1 : Int) : Int := (match Kc a0 a1 (a0.length + 1) 0 with | .inl r1 => r1 | .inr _ => (-1))
def jT (a0 : ZF) (a1 : List Int) : Nat -> Nat -> Sum Bool Unit
  | 0, _ => .inr ()
  | n1 + 1, J => (bif (decide ((J : Int) < (a1.length : Int))) then (bif (((decide ((Zh a0.Frame.ZB (nth a1 J)) < 0)) || (decide ((Zh a0.Frame.ZB (nth a1 J)) >= (a0.Yt.length : Int)))) || ((decide ((J : Int) > 0)) && (decide ((nth a1 (J - 1)) >= (nth a1 J))))) then (.inl false) else (bif ((decide ((Yc a0.Frame.Zo (nth a0.Frame.ZB (Zh a0.Frame.ZB (nth a1 J)).toNat).Key) < 0)) || (decide ((nth a0.Frame.Zo (Yc a0.Frame.Zo (nth a0.Frame.ZB (Zh a0.Frame.ZB (nth a1 J)).toNat).Key).toNat).VI > a0.Frame.Now))) then (.inl false) else jT a0 a1 n1 (J + 1))) else (.inr ()))
def zm (a0 : ZF) (a1 : List Int) : Bool := (match jT a0 a1 (a1.length + 1) 0 with | .inl r1 => r1 | .inr _ => (decide ((a1.length : Int) > 0)))
def KP (a0 : ZU) (a1 : ZN) : Nat -> List Int -> Nat -> (List Int)
  | 0, _, _ => default
  | n1 + 1, J, U => (bif (decide ((U : Int) < (a0.ZP.length : Int))) then KP a0 a1 n1 (J ++ ([(JG (nth a0.ZP U).Method a1)] : List Int)) (U + 1) else (J))
def JT (a0 : ZU) (a1 : ZN) : List Int := (match KP a0 a1 (a0.ZP.length + 1) ([] : List Int) 0 with | z1_0 => z1_0)
def zG (a0 : Zj) : List Int := ([103, a0.Authority, a0.Seq, a0.Time, a0.QK] : List Int)
def zi (a1 : ZZ) : Nat -> List Int -> Nat -> (List Int)
  | 0, _, _ => default
  | n2 + 1, m0, m9 => (bif (decide ((m9 : Int) < (a1.YH.length : Int))) then zi a1 n2 ((m0 ++ (zG (nth a1.YH m9))) ++ ([(nth a1.YH m9).Mark] : List Int)) (m9 + 1) else (m0))
def Kd (a1 : ZZ) : Nat -> List Int -> Nat -> (List Int)
  | 0, _, _ => default
  | n1 + 1, J, U => (bif (decide ((U : Int) < (a1.Path.length : Int))) then (bif (nth a1.Path U).Left then Kd a1 n1 ((J ++ ([(nth a1.Path U).QK] : List Int)) ++ ([1] : List Int)) (U + 1) else Kd a1 n1 ((J ++ ([(nth a1.Path U).QK] : List Int)) ++ ([0] : List Int)) (U + 1)) else (J))
def Kl (a0 : Int) (a1 : ZZ) : Int := (match Kd a1 (a1.Path.length + 1) ([4, a1.Count, a1.Method, a1.BE] : List Int) 0 with | z1_0 => (match zi a1 (a1.YH.length + 1) (z1_0 ++ ([(a1.YH.length : Int)] : List Int)) 0 with | ij => (Kp a0 ij)))
def yY (a0 : Int) (a1 : List ZT) : Nat -> List Int -> Nat -> (List Int)
  | 0, _, _ => default
  | n1 + 1, J, U => (bif (decide ((U : Int) < (a1.length : Int))) then yY a0 a1 n1 (J ++ ([(Kp a0 (([(nth a1 U).Key, (nth a1 U).Mark] : List Int) ++ (nth a1 U).Yf))] : List Int)) (U + 1) else (J))
def KZ (a0 : Int) (a1 : List ZT) : Int := (match yY a0 a1 (a1.length + 1) ([2] : List Int) 0 with | z1_0 => (Kp a0 z1_0))
def T2 (a0 : Int) (a1 : Int) (a2 : List ZT) (a3 : Int) : Int := (Kp a0 ([3, a1, (KZ a0 a2), a3] : List Int))
def Wb (a0 : ZU) (a1 : List Int) (a2 : Int) : Int := (bif (((!(YU a2 0 (W ((a0.ZP.length : Int) - 1)))) || ((a1.length : Int) != (a0.ZP.length : Int))) || (!(YU (nth a0.ZP a2.toNat).Count 0 (a0.ZJ.length : Int)))) then (-1) else (bif (decide (a2 > 0)) then (T2 (nth a0.ZP a2.toNat).Method (nth a1 a2.toNat) (a0.ZJ.take (nth a0.ZP a2.toNat).Count.toNat) (Kl (nth a0.ZP a2.toNat).Method (nth a0.ZP (W (a2 - 1)).toNat))) else (T2 (nth a0.ZP a2.toNat).Method (nth a1 a2.toNat) (a0.ZJ.take (nth a0.ZP a2.toNat).Count.toNat) 0)))
def KI (a0 : ZD) (a1 : Int) : Nat -> List Int -> Nat -> (List Int)
  | 0, _, _ => default
  | n1 + 1, J, U => (bif (decide ((U : Int) < (a0.ZC.length : Int))) then KI a0 a1 n1 (J ++ ([(Wb (ZU.mk (nth a0.ZC U).ZK.ZJ ((nth a0.ZC U).ZK.ZP ++ ([(ZZ.mk ((nth a0.ZC U).ZK.ZJ.length : Int) a1 0 ([] : List Xx) ([] : List Zj))] : List ZZ))) (JT (ZU.mk (nth a0.ZC U).ZK.ZJ ((nth a0.ZC U).ZK.ZP ++ ([(ZZ.mk ((nth a0.ZC U).ZK.ZJ.length : Int) a1 0 ([] : List Xx) ([] : List Zj))] : List ZZ))) (nth a0.ZC U).Doc) (W ((((nth a0.ZC U).ZK.ZP ++ ([(ZZ.mk ((nth a0.ZC U).ZK.ZJ.length : Int) a1 0 ([] : List Xx) ([] : List Zj))] : List ZZ)).length : Int) - 1)))] : List Int)) (U + 1) else (J))
def YJ (a0 : ZD) (a1 : Int) : List Int := (match KI a0 a1 (a0.ZC.length + 1) ([] : List Int) 0 with | z1_0 => z1_0)
def kM (a0 : Int) (a1 : Int) (a2 : Int) : Int := (Kp a0 ([1, a1, a2] : List Int))
def jq (a0 : Int) (a1 : List Int) : Nat -> List Int -> Nat -> (List Int)
  | 0, _, _ => default
  | n1 + 1, J, U => (bif (decide ((U : Int) < (a1.length : Int))) then (bif (decide ((W ((U : Int) + 1)) < (a1.length : Int))) then jq a0 a1 n1 (J ++ ([(kM a0 (nth a1 U) (nth a1 (W ((U : Int) + 1)).toNat))] : List Int)) (U + 2) else jq a0 a1 n1 (J ++ ([(nth a1 U)] : List Int)) (U + 2)) else (J))
def WN (a0 : Int) (a1 : List Int) : List Int := (match jq a0 a1 (a1.length + 1) ([] : List Int) 0 with | z1_0 => z1_0)
def kC (a0 : Int) : Nat -> List Int -> (List Int)
  | 0, _ => default
  | n1 + 1, J => (bif (decide ((J.length : Int) > 1)) then kC a0 n1 (WN a0 J) else (J))
def Kk (a0 : Int) (a1 : List Int) : Int := (bif (!(YU (a1.length : Int) 1 16)) then (-1) else (match kC a0 (a1.length + 1) a1 with | z1_0 => (nth z1_0 0)))
def yM (a0 : ZD) (a1 : Int) : Int := (Kk a1 (YJ a0 a1))
def Pb (a0 : List Int) (a1 : Int) : Nat -> Nat -> Sum Bool Unit
  | 0, _ => .inr ()
  | n1 + 1, J => (bif (decide ((J : Int) < (a0.length : Int))) then (bif ((nth a0 J) == a1) then (.inl true) else Pb a0 a1 n1 (J + 1)) else (.inr ()))
def PM (a0 : List Int) (a1 : Int) : Bool := (match Pb a0 a1 (a0.length + 1) 0 with | .inl r1 => r1 | .inr _ => false)
def KR (a0 : List Yw) (a1 : List Zf) (a2 : Zj) : Zj × Bool := (bif (((decide ((Zh a1 a2.Authority) < 0)) || (decide (a2.Seq < 0))) || (!(Wg a2.Time))) then ((Zj.mk 0 0 0 0 0), false) else (bif (decide ((Yc a0 (nth a1 (Zh a1 a2.Authority).toNat).Key) < 0)) then ((Zj.mk 0 0 0 0 0), false) else ((Zj.mk a2.Authority a2.Seq a2.Time a2.QK (xr (nth a0 (Yc a0 (nth a1 (Zh a1 a2.Authority).toNat).Key).toNat) (zG a2))), true)))
def Kv (a0 : Int) : Nat -> Int -> List Xx -> List Int -> (List Xx)
  | 0, _, _, _ => default
  | n1 + 1, J, U, mz => (bif (decide ((mz.length : Int) > 1)) then (bif ((Int.tmod J 2) == 1) then Kv a0 n1 (W (Int.tdiv J 2)) (U ++ ([(Xx.mk (nth mz (W (J - 1)).toNat) true)] : List Xx)) (WN a0 mz) else (bif (decide ((W (J + 1)) < (mz.length : Int))) then Kv a0 n1 (W (Int.tdiv J 2)) (U ++ ([(Xx.mk (nth mz (W (J + 1)).toNat) false)] : List Xx)) (WN a0 mz) else Kv a0 n1 (W (Int.tdiv J 2)) U (WN a0 mz))) else (U))
def zL (a0 : Int) (a1 : List Int) (a2 : Int) : List Xx := (bif ((decide ((a1.length : Int) > 16)) || (!(YU a2 0 (W ((a1.length : Int) - 1))))) then ([] : List Xx) else (match Kv a0 (a1.length + 1) a2 ([] : List Xx) a1 with | z1_0 => z1_0))
def Q0 (a0 : ZU) (a1 : ZZ) : ZU × Bool := (bif (!(xK (ZU.mk a0.ZJ (a0.ZP ++ ([a1] : List ZZ))))) then (a0, false) else ((ZU.mk a0.ZJ (a0.ZP ++ ([a1] : List ZZ))), true))
def J4 (a0 : ZD) (a1 : Int) (a2 : List Zj) : Nat -> Bool -> Nat -> List ZQ -> Bool × (List ZQ)
  | 0, _, _, _ => (default, default)
  | n1 + 1, J, U, mz => (bif ((decide ((U : Int) < (a0.ZC.length : Int))) && J) then J4 a0 a1 a2 n1 (Q0 (nth a0.ZC U).ZK (ZZ.mk ((nth a0.ZC U).ZK.ZJ.length : Int) a1 (Kk a1 (YJ a0 a1)) (zL a1 (YJ a0 a1) (U : Int)) a2)).2 (U + 1) (mz.set U (ZQ.mk (nth mz U).Id (nth mz U).Y8 (nth mz U).Doc (nth mz U).Sig (Q0 (nth a0.ZC U).ZK (ZZ.mk ((nth a0.ZC U).ZK.ZJ.length : Int) a1 (Kk a1 (YJ a0 a1)) (zL a1 (YJ a0 a1) (U : Int)) a2)).1)) else ((J, mz)))
def Qu (a0 : ZD) (a1 : Int) (a2 : List Zj) : ZD × Bool := (match J4 a0 a1 a2 (a0.ZC.length + 1) ((Jb a0) && (decide ((a0.ZC.length : Int) > 0))) 0 a0.ZC with | (z1_0, z1_1) => (bif ((!z1_0) || (!(Jb (ZD.mk a0.Id z1_1)))) then (a0, false) else ((ZD.mk a0.Id z1_1), true)))
def qw (a0 : ZF) (a2 : List Int) : Nat -> Nat -> List Int -> (List Int)
  | 0, _, _ => default
  | n2 + 1, m0, m9 => (bif (decide ((m0 : Int) < (a2.length : Int))) then qw a0 a2 n2 (m0 + 1) (m9.set (Zh a0.Frame.ZB (nth a2 m0)).toNat (W ((nth a0.Yt (Zh a0.Frame.ZB (nth a2 m0)).toNat) + 1))) else (m9))
def z9 (a0 : ZF) (a1 : Int) (a2 : List Int) (a3 : Int) : Nat -> List Zj -> Nat -> Sum (ZF × Bool) (List Zj)
  | 0, _, _ => .inr default
  | n1 + 1, J, U => (bif (decide ((U : Int) < (a2.length : Int))) then (bif (PM a0.YO (nth a2 U)) then (bif (!(KR a0.Frame.Zo a0.Frame.ZB (Zj.mk (nth a2 U) (nth a0.Yt (Zh a0.Frame.ZB (nth a2 U)).toNat) (Wn 10000 (xn 0 (W (a0.Frame.Now + a3)))) (yM (nth a0.ZA a1.toNat) (Zk a0.Frame.Methods a0.Frame.Now)) 0)).2) then (.inl (a0, false)) else z9 a0 a1 a2 a3 n1 (J ++ ([(KR a0.Frame.Zo a0.Frame.ZB (Zj.mk (nth a2 U) (nth a0.Yt (Zh a0.Frame.ZB (nth a2 U)).toNat) (Wn 10000 (xn 0 (W (a0.Frame.Now + a3)))) (yM (nth a0.ZA a1.toNat) (Zk a0.Frame.Methods a0.Frame.Now)) 0)).1] : List Zj)) (U + 1)) else (bif (!(KR a0.Frame.Zo a0.Frame.ZB (Zj.mk (nth a2 U) (nth a0.Yt (Zh a0.Frame.ZB (nth a2 U)).toNat) a0.Frame.Now (yM (nth a0.ZA a1.toNat) (Zk a0.Frame.Methods a0.Frame.Now)) 0)).2) then (.inl (a0, false)) else z9 a0 a1 a2 a3 n1 (J ++ ([(KR a0.Frame.Zo a0.Frame.ZB (Zj.mk (nth a2 U) (nth a0.Yt (Zh a0.Frame.ZB (nth a2 U)).toNat) a0.Frame.Now (yM (nth a0.ZA a1.toNat) (Zk a0.Frame.Methods a0.Frame.Now)) 0)).1] : List Zj)) (U + 1))) else (.inr J))
def xv (a0 : ZF) (a1 : Int) (a2 : List Int) (a3 : Int) : ZF × Bool := (bif ((((!(JB a0 a1)) || (decide ((Zk a0.Frame.Methods a0.Frame.Now) < 0))) || (!(zm a0 a2))) || (!(YU a3 (-10000) 10000))) then (a0, false) else (match z9 a0 a1 a2 a3 (a2.length + 1) ([] : List Zj) 0 with | .inl r1 => r1 | .inr z1_0 => (bif (!(Qu (nth a0.ZA a1.toNat) (Zk a0.Frame.Methods a0.Frame.Now) z1_0).2) then (a0, false) else (match qw a0 a2 (a2.length + 1) 0 a0.Yt with | ij => ((ZF.mk a0.Frame a0.ZY a0.Zx (a0.ZA.set a1.toNat (Qu (nth a0.ZA a1.toNat) (Zk a0.Frame.Methods a0.Frame.Now) z1_0).1) ij a0.YO a0.Next a0.YE), true)))))
def xp (a0 : Int) (a1 : ZQ) : Nat -> List Int -> Nat -> (List Int)
  | 0, _, _ => default
  | n1 + 1, J, U => (bif (decide ((U : Int) < (a1.ZK.ZP.length : Int))) then xp a0 a1 n1 (J ++ ([(Kl a0 (nth a1.ZK.ZP U))] : List Int)) (U + 1) else (J))
def kI (a0 : Int) (a1 : ZQ) : Int := (match xp a0 a1 (a1.ZK.ZP.length + 1) ([5, a1.Id, a1.Y8, (JG a0 a1.Doc), (KZ a0 a1.ZK.ZJ)] : List Int) 0 with | z1_0 => (Kp a0 z1_0))
def We (a0 : Int) (a1 : List ZQ) : Nat -> List Int -> Nat -> (List Int)
  | 0, _, _ => default
  | n1 + 1, J, U => (bif (decide ((U : Int) < (a1.length : Int))) then We a0 a1 n1 (J ++ ([(kI a0 (nth a1 U))] : List Int)) (U + 1) else (J))
def VV (a0 : Int) (a1 : List ZQ) : Int := (match We a0 a1 (a1.length + 1) ([] : List Int) 0 with | z1_0 => (Kk a0 z1_0))
def Jj (a0 : ZD) (a2 : List Int) : Nat -> Nat -> List ZQ -> Sum (YZ × Bool) (List ZQ)
  | 0, _, _ => .inr default
  | n1 + 1, J, U => (bif (decide ((J : Int) < (a2.length : Int))) then (bif (decide ((Ys a0 (nth a2 J)) < 0)) then (.inl ((YZ.mk 0 0 ([] : List ZQ) 0), false)) else Jj a0 a2 n1 (J + 1) (U ++ ([(nth a0.ZC (Ys a0 (nth a2 J)).toNat)] : List ZQ))) else (.inr U))
def Xw (a0 : ZD) (a1 : Int) (a2 : List Int) (a3 : Int) : YZ × Bool := (match Jj a0 a2 (a2.length + 1) 0 ([] : List ZQ) with | .inl r1 => r1 | .inr z1_0 => (bif ((a2.length : Int) == 0) then ((YZ.mk 0 0 ([] : List ZQ) 0), false) else ((YZ.mk a0.Id a1 z1_0 (VV a3 z1_0)), true)))
def J2 (a0 : YZ) : Nat -> Nat -> Sum Bool Unit
  | 0, _ => .inr ()
  | n1 + 1, J => (bif (decide ((J : Int) < (a0.ZC.length : Int))) then (bif (!(Tx (nth a0.ZC J))) then (.inl false) else J2 a0 n1 (J + 1)) else (.inr ()))
def K9 (a0 : YZ) (a1 : Int) : Bool := (match J2 a0 (a0.ZC.length + 1) 0 with | .inl r1 => r1 | .inr _ => ((YU (a0.ZC.length : Int) 1 8) && (a0.QK == (VV a1 a0.ZC))))
def Je (a1 : YZ) : Nat -> Bool -> Nat -> Int -> List ZQ -> Bool × Int × (List ZQ)
  | 0, _, _, _, _ => (default, default, default)
  | n1 + 1, J, U, mz, lG => (bif ((decide ((U : Int) < (a1.ZC.length : Int))) && J) then Je a1 n1 (JK (ZD.mk mz lG) (nth a1.ZC U)).2 (U + 1) (JK (ZD.mk mz lG) (nth a1.ZC U)).1.Id (JK (ZD.mk mz lG) (nth a1.ZC U)).1.ZC else ((J, mz, lG)))
def Qg (a0 : ZD) (a1 : YZ) (a2 : Int) : ZD × Bool := (match Je a1 (a1.ZC.length + 1) ((K9 a1 a2) && (a1.To == a0.Id)) 0 a0.Id a0.ZC with | (z1_0, z1_1, z1_2) => (bif (!z1_0) then (a0, false) else ((ZD.mk z1_1 z1_2), true)))
def Kx (a0 : ZD) (a1 : Int) : Nat -> Nat -> List ZQ -> (List ZQ)
  | 0, _, _ => default
  | n1 + 1, J, U => (bif (decide ((J : Int) < (a0.ZC.length : Int))) then (bif ((J : Int) != (Ys a0 a1)) then Kx a0 a1 n1 (J + 1) (U ++ ([(nth a0.ZC J)] : List ZQ)) else Kx a0 a1 n1 (J + 1) U) else (U))
def z6 (a0 : ZD) (a1 : Int) : ZD × Bool := (bif (decide ((Ys a0 a1) < 0)) then (a0, false) else (match Kx a0 a1 (a0.ZC.length + 1) 0 ([] : List ZQ) with | z1_0 => ((ZD.mk a0.Id z1_0), true)))
def K3 (a0 : ZD) (a1 : ZD) (a2 : List Int) (a3 : Int) : Nat -> Bool -> Nat -> Int -> List ZQ -> Bool × Int × (List ZQ)
  | 0, _, _, _, _ => (default, default, default)
  | n1 + 1, J, U, mz, lG => (bif (((decide ((U : Int) < (a2.length : Int))) && (Xw a0 a1.Id a2 a3).2) && J) then K3 a0 a1 a2 a3 n1 (z6 (ZD.mk mz lG) (nth a2 U)).2 (U + 1) (z6 (ZD.mk mz lG) (nth a2 U)).1.Id (z6 (ZD.mk mz lG) (nth a2 U)).1.ZC else ((J, mz, lG)))
def JF (a0 : ZD) (a1 : ZD) (a2 : List Int) (a3 : Int) : ZD × ZD × Bool := (match K3 a0 a1 a2 a3 (a2.length + 1) (Qg a1 (Xw a0 a1.Id a2 a3).1 a3).2 0 a0.Id a0.ZC with | (z1_0, z1_1, z1_2) => (bif ((!(Xw a0 a1.Id a2 a3).2) || (!z1_0)) then (a0, a1, false) else ((ZD.mk z1_1 z1_2), (Qg a1 (Xw a0 a1.Id a2 a3).1 a3).1, true)))
def jU (a0 : ZF) (a1 : Int) (a2 : Int) (a3 : Int) : ZF × Bool := (bif ((((!(JB a0 a1)) || (!(JB a0 a2))) || (a1 == a2)) || (decide ((Zk a0.Frame.Methods a0.Frame.Now) < 0))) then (a0, false) else ((ZF.mk a0.Frame a0.ZY a0.Zx ((a0.ZA.set a1.toNat (JF (nth a0.ZA a1.toNat) (nth a0.ZA a2.toNat) ([a3] : List Int) (Zk a0.Frame.Methods a0.Frame.Now)).1).set a2.toNat (JF (nth a0.ZA a1.toNat) (nth a0.ZA a2.toNat) ([a3] : List Int) (Zk a0.Frame.Methods a0.Frame.Now)).2.1) a0.Yt a0.YO a0.Next a0.YE), (JF (nth a0.ZA a1.toNat) (nth a0.ZA a2.toNat) ([a3] : List Int) (Zk a0.Frame.Methods a0.Frame.Now)).2.2))
def yX (a0 : ZD) (a1 : Int) : Nat -> Int -> Nat -> List ZQ -> Int × (List ZQ)
  | 0, _, _, _ => (default, default)
  | n1 + 1, J, U, mz => (bif (decide ((U : Int) < (a0.ZC.length : Int))) then (bif (decide ((nth a0.ZC U).Y8 < a1)) then yX a0 a1 n1 (W (J + 1)) (U + 1) mz else yX a0 a1 n1 J (U + 1) (mz ++ ([(nth a0.ZC U)] : List ZQ))) else ((J, mz)))
def qU (a0 : ZD) (a1 : Int) : ZD × Int := (match yX a0 a1 (a0.ZC.length + 1) 0 0 ([] : List ZQ) with | (z1_0, z1_1) => ((ZD.mk a0.Id z1_1), z1_0))
def y8 (a0 : ZF) (a1 : Int) : ZF × Bool := (bif (!(JB a0 a1)) then (a0, false) else ((ZF.mk a0.Frame a0.ZY a0.Zx (a0.ZA.set a1.toNat (qU (nth a0.ZA a1.toNat) a0.Frame.Now).1) a0.Yt a0.YO a0.Next a0.YE), true))
def yp (a0 : List Z8) (a1 : Int) : Nat -> Nat -> Sum Int Unit
  | 0, _ => .inr ()
  | n1 + 1, J => (bif (decide ((J : Int) < (a0.length : Int))) then (bif ((nth a0 J).Id == a1) then (.inl (J : Int)) else yp a0 a1 n1 (J + 1)) else (.inr ()))
def zj (a0 : List Z8) (a1 : Int) : Int := (match yp a0 a1 (a0.length + 1) 0 with | .inl r1 => r1 | .inr _ => (-1))
def Tk (a0 : List Z8) (a1 : Int) : Int := (bif (decide ((zj a0 a1) < 0)) then 0 else (nth a0 (zj a0 a1).toNat).R9)
def jX (a0 : ZX) (a1 : Int) : Bool := ((decide ((Yc a0.Zo a1) >= 0)) && (decide (a0.Now >= (Tk a0.Methods (nth a0.Zo (Yc a0.Zo a1).toNat).Method))))
def qL (a0 : ZF) (a1 : Int) (a2 : Int) (a3 : ZN) : ZF × Bool := (bif ((!(JB a0 a1)) || (!(jX a0.Frame a2))) then (a0, false) else (bif (!(QA a0 a2 a3 0 10000).2) then (a0, false) else (bif (!(JK (nth a0.ZA a1.toNat) (QA a0 a2 a3 0 10000).1).2) then (a0, false) else ((ZF.mk a0.Frame a0.ZY a0.Zx (a0.ZA.set a1.toNat (JK (nth a0.ZA a1.toNat) (QA a0 a2 a3 0 10000).1).1) a0.Yt a0.YO (W (a0.Next + 1)) (a0.YE ++ ([a0.Next] : List Int))), true))))
def Qk (a0 : ZF) : Nat -> List Int -> Nat -> (List Int)
  | 0, _, _ => default
  | n1 + 1, J, U => (bif (decide ((U : Int) < (a0.Frame.ZB.length : Int))) then (bif ((PM a0.YO (nth a0.Frame.ZB U).Id) || (jX a0.Frame (nth a0.Frame.ZB U).Key)) then Qk a0 n1 (J ++ ([(nth a0.Frame.ZB U).Id] : List Int)) (U + 1) else Qk a0 n1 J (U + 1)) else (J))
def Yo (a0 : ZF) : List Int := (match Qk a0 (a0.Frame.ZB.length + 1) ([] : List Int) 0 with | z1_0 => z1_0)
def yW (a0 : ZF) (a1 : Int) (a2 : Int) : Nat -> Nat -> List Zj -> Sum (ZF × Bool) (List Zj)
  | 0, _, _ => .inr default
  | n1 + 1, J, U => (bif (decide ((J : Int) < ((Yo a0).length : Int))) then (bif (!(KR a0.Frame.Zo a0.Frame.ZB (Zj.mk (nth (Yo a0) J) 0 a2 (nth (YJ (nth a0.ZA (ZG a0 a1).1.toNat) (Zk a0.Frame.Methods a0.Frame.Now)) (ZG a0 a1).2.toNat) 0)).2) then (.inl (a0, false)) else yW a0 a1 a2 n1 (J + 1) (U ++ ([(KR a0.Frame.Zo a0.Frame.ZB (Zj.mk (nth (Yo a0) J) 0 a2 (nth (YJ (nth a0.ZA (ZG a0 a1).1.toNat) (Zk a0.Frame.Methods a0.Frame.Now)) (ZG a0 a1).2.toNat) 0)).1] : List Zj))) else (.inr U))
def zS (a0 : ZF) (a1 : Int) (a2 : Int) : ZF × Bool := (bif ((((decide ((ZG a0 a1).1 < 0)) || (decide ((Zk a0.Frame.Methods a0.Frame.Now) < 0))) || (!(PM a0.YE a1))) || (((Yo a0).length : Int) == 0)) then (a0, false) else (match yW a0 a1 a2 ((Yo a0).length + 1) 0 ([] : List Zj) with | .inl r1 => r1 | .inr z1_0 => ((ZF.mk a0.Frame a0.ZY a0.Zx (a0.ZA.set (ZG a0 a1).1.toNat (ZD.mk (nth a0.ZA (ZG a0 a1).1.toNat).Id ((nth a0.ZA (ZG a0 a1).1.toNat).ZC.set (ZG a0 a1).2.toNat (ZQ.mk (nth (nth a0.ZA (ZG a0 a1).1.toNat).ZC (ZG a0 a1).2.toNat).Id (nth (nth a0.ZA (ZG a0 a1).1.toNat).ZC (ZG a0 a1).2.toNat).Y8 (nth (nth a0.ZA (ZG a0 a1).1.toNat).ZC (ZG a0 a1).2.toNat).Doc (nth (nth a0.ZA (ZG a0 a1).1.toNat).ZC (ZG a0 a1).2.toNat).Sig (Q0 (nth (nth a0.ZA (ZG a0 a1).1.toNat).ZC (ZG a0 a1).2.toNat).ZK (ZZ.mk ((nth (nth a0.ZA (ZG a0 a1).1.toNat).ZC (ZG a0 a1).2.toNat).ZK.ZJ.length : Int) (Zk a0.Frame.Methods a0.Frame.Now) (nth (YJ (nth a0.ZA (ZG a0 a1).1.toNat) (Zk a0.Frame.Methods a0.Frame.Now)) (ZG a0 a1).2.toNat) ([] : List Xx) z1_0)).1)))) a0.Yt a0.YO a0.Next a0.YE), (Q0 (nth (nth a0.ZA (ZG a0 a1).1.toNat).ZC (ZG a0 a1).2.toNat).ZK (ZZ.mk ((nth (nth a0.ZA (ZG a0 a1).1.toNat).ZC (ZG a0 a1).2.toNat).ZK.ZJ.length : Int) (Zk a0.Frame.Methods a0.Frame.Now) (nth (YJ (nth a0.ZA (ZG a0 a1).1.toNat) (Zk a0.Frame.Methods a0.Frame.Now)) (ZG a0 a1).2.toNat) ([] : List Xx) z1_0)).2)))
def jV (a0 : ZF) (a1 : Int) (a2 : Int) : ZF × Bool := (bif ((decide ((ZG a0 a1).1 < 0)) || (decide (((nth (nth a0.ZA (ZG a0 a1).1.toNat).ZC (ZG a0 a1).2.toNat).ZK.ZJ.length : Int) < 2))) then (a0, false) else (bif (((!(Ze (nth (nth (nth a0.ZA (ZG a0 a1).1.toNat).ZC (ZG a0 a1).2.toNat).ZK.ZJ 1)).2) || (decide ((Z3 a0.ZY (Ze (nth (nth (nth a0.ZA (ZG a0 a1).1.toNat).ZC (ZG a0 a1).2.toNat).ZK.ZJ 1)).1.Zd) < 0))) || (!(jX a0.Frame (nth a0.ZY (Z3 a0.ZY (Ze (nth (nth (nth a0.ZA (ZG a0 a1).1.toNat).ZC (ZG a0 a1).2.toNat).ZK.ZJ 1)).1.Zd).toNat).Z1))) then (a0, false) else (bif (!(Yl a0.Frame.Zo (Zn.mk (Ze (nth (nth (nth a0.ZA (ZG a0 a1).1.toNat).ZC (ZG a0 a1).2.toNat).ZK.ZJ 1)).1.Zd a2 (-1) (nth a0.ZY (Z3 a0.ZY (Ze (nth (nth (nth a0.ZA (ZG a0 a1).1.toNat).ZC (ZG a0 a1).2.toNat).ZK.ZJ 1)).1.Zd).toNat).Z1 0)).2) then (a0, false) else ((ZF.mk a0.Frame a0.ZY a0.Zx (a0.ZA.set (ZG a0 a1).1.toNat (QE (nth a0.ZA (ZG a0 a1).1.toNat) a1 (XL (Yl a0.Frame.Zo (Zn.mk (Ze (nth (nth (nth a0.ZA (ZG a0 a1).1.toNat).ZC (ZG a0 a1).2.toNat).ZK.ZJ 1)).1.Zd a2 (-1) (nth a0.ZY (Z3 a0.ZY (Ze (nth (nth (nth a0.ZA (ZG a0 a1).1.toNat).ZC (ZG a0 a1).2.toNat).ZK.ZJ 1)).1.Zd).toNat).Z1 0)).1)).1) a0.Yt a0.YO a0.Next a0.YE), (QE (nth a0.ZA (ZG a0 a1).1.toNat) a1 (XL (Yl a0.Frame.Zo (Zn.mk (Ze (nth (nth (nth a0.ZA (ZG a0 a1).1.toNat).ZC (ZG a0 a1).2.toNat).ZK.ZJ 1)).1.Zd a2 (-1) (nth a0.ZY (Z3 a0.ZY (Ze (nth (nth (nth a0.ZA (ZG a0 a1).1.toNat).ZC (ZG a0 a1).2.toNat).ZK.ZJ 1)).1.Zd).toNat).Z1 0)).1)).2))))
def xL (a0 : ZF) (a1 : Zs) : ZF × Bool := (bif (a1.Kind == 1) then ((jR a0 a1.A).1, (jR a0 a1.A).2) else (bif (a1.Kind == 2) then ((ja a0 a1.A a1.B a1.Doc a1.C a1.D).1, (ja a0 a1.A a1.B a1.Doc a1.C a1.D).2) else (bif (a1.Kind == 3) then ((xC a0 a1.A).1, (xC a0 a1.A).2) else (bif (a1.Kind == 4) then ((y5 a0 a1.A).1, (y5 a0 a1.A).2) else (bif (a1.Kind == 5) then ((xv a0 a1.A a1.Ids a1.B).1, (xv a0 a1.A a1.Ids a1.B).2) else (bif (a1.Kind == 6) then ((jU a0 a1.A a1.B a1.C).1, (jU a0 a1.A a1.B a1.C).2) else (bif (a1.Kind == 7) then ((y8 a0 a1.A).1, (y8 a0 a1.A).2) else (bif (a1.Kind == 8) then ((qL a0 a1.A a1.B a1.Doc).1, (qL a0 a1.A a1.B a1.Doc).2) else (bif (a1.Kind == 9) then ((zS a0 a1.A a1.B).1, (zS a0 a1.A a1.B).2) else (bif (a1.Kind == 10) then ((jV a0 a1.A a1.B).1, (jV a0 a1.A a1.B).2) else (a0, false)))))))))))
def U7 (a0 : ZF) : Nat -> List ZQ -> Nat -> (List ZQ)
  | 0, _, _ => default
  | n1 + 1, J, U => (bif (decide ((U : Int) < (a0.ZA.length : Int))) then U7 a0 n1 (J ++ (nth a0.ZA U).ZC) (U + 1) else (J))
def Q6 (a0 : ZF) : List ZQ := (match U7 a0 (a0.ZA.length + 1) ([] : List ZQ) 0 with | z1_0 => z1_0)
def QB (a0 : ZQ) : Z0 := (Z0.mk ([a0.ZK] : List ZU) ([] : List (List Zj)))
def zR (a0 : ZU) (a1 : ZN) : Nat -> List Int -> Nat -> (List Int)
  | 0, _, _ => default
  | n1 + 1, J, U => (bif (decide ((U : Int) < (a0.ZP.length : Int))) then zR a0 a1 n1 (J ++ ([(Yb (nth a0.ZP U).Method a1)] : List Int)) (U + 1) else (J))
def QN (a0 : ZU) (a1 : ZN) : List Int := (match zR a0 a1 (a0.ZP.length + 1) ([] : List Int) 0 with | z1_0 => z1_0)
def Ke (a0 : Z0) (a1 : ZN) : Nat -> List (List Int) -> Nat -> (List (List Int))
  | 0, _, _ => default
  | n1 + 1, J, U => (bif (decide ((U : Int) < (a0.Zy.length : Int))) then Ke a0 a1 n1 (J ++ ([(QN (nth a0.Zy U) a1)] : List (List Int))) (U + 1) else (J))
def Qq (a0 : Z0) (a1 : ZN) : List (List Int) := (match Ke a0 a1 (a0.Zy.length + 1) ([] : List (List Int)) 0 with | z1_0 => z1_0)
def j6 (a0 : Int) : Bool := (ZS a0 1 2147483646)
def DU (a0 : Yw) : Bool := (((((ZS a0.Number 1 99) && (ZS a0.kW 0 99)) && (ZS a0.Method 0 99)) && (Kq a0.VI)) && (j6 a0.Rn))
def RN (a0 : List Yw) : Nat -> Nat -> Sum Bool Unit
  | 0, _ => .inr ()
  | n1 + 1, J => (bif (decide ((J : Int) < (a0.length : Int))) then (bif ((!(DU (nth a0 J))) || ((decide ((J : Int) > 0)) && (decide ((nth a0 (J - 1)).Number >= (nth a0 J).Number)))) then (.inl false) else RN a0 n1 (J + 1)) else (.inr ()))
def LO (a0 : List Yw) : Bool := (match RN a0 (a0.length + 1) 0 with | .inl r1 => r1 | .inr _ => (decide ((a0.length : Int) <= 12)))
def jW (a0 : List Zf) : Nat -> Nat -> Sum Bool Unit
  | 0, _ => .inr ()
  | n1 + 1, J => (bif (decide ((J : Int) < (a0.length : Int))) then (bif ((((!(ZS (nth a0 J).Id 0 99)) || (!(ZS (nth a0 J).Key 1 99))) || (!(ZS (nth a0 J).Error 0 100))) || ((decide ((J : Int) > 0)) && (decide ((nth a0 (J - 1)).Id >= (nth a0 J).Id)))) then (.inl false) else jW a0 n1 (J + 1)) else (.inr ()))
def WD (a0 : List Zf) : Bool := (match jW a0 (a0.length + 1) 0 with | .inl r1 => r1 | .inr _ => (decide ((a0.length : Int) <= 6)))
def Ok (a0 : Z8) : Bool := ((((((ZS a0.Id 0 99) && (Kq a0.MI)) && (ZS a0.Ends 1 10001)) && (ZS a0.R9 1 10001)) && (decide (a0.MI < a0.Ends))) && (decide (a0.MI < a0.R9)))
def V6 (a0 : List Z8) : Nat -> Nat -> Sum Bool Unit
  | 0, _ => .inr ()
  | n1 + 1, J => (bif (decide ((J : Int) < (a0.length : Int))) then (bif ((!(Ok (nth a0 J))) || ((decide ((J : Int) > 0)) && (decide ((nth a0 (J - 1)).Id >= (nth a0 J).Id)))) then (.inl false) else V6 a0 n1 (J + 1)) else (.inr ()))
def T7 (a0 : List Z8) : Bool := (match V6 a0 (a0.length + 1) 0 with | .inl r1 => r1 | .inr _ => (decide ((a0.length : Int) <= 8)))
def xV (a0 : ZX) : Bool := (((((LO a0.Zo) && (WD a0.ZB)) && (T7 a0.Methods)) && (ZS a0.XT 0 6)) && (Kq a0.Now))
def RR (a0 : Int) : QF := (QF.mk 3 a0 (Zg.mk 0 0))
def Tt (a0 : Int) : QF := (QF.mk 2 a0 (Zg.mk 0 0))
def Ka (a0 : List Yw) (a1 : Int) (a2 : List Int) (a3 : Int) : Bool := ((zM a0 a1 a2).2 && ((zM a0 a1 a2).1 == a3))
def ku (a0 : List Yw) (a1 : Zl) : Bool := ((yI a1) && (Ka a0 a1.Key (Xq a1) a1.Mark))
def xd (a0 : ZU) (a1 : ZT) : Nat -> Nat -> Sum Int Unit
  | 0, _ => .inr ()
  | n1 + 1, J => (bif (decide ((J : Int) < (a0.ZJ.length : Int))) then (bif (KG (nth a0.ZJ J) a1) then (.inl (J : Int)) else xd a0 a1 n1 (J + 1)) else (.inr ()))
def ze (a0 : ZU) (a1 : ZT) : Int := (match xd a0 a1 (a0.ZJ.length + 1) 0 with | .inl r1 => r1 | .inr _ => (-1))
def QQ (a0 : Zg) : Bool := (((Kq a0.X5) && (Kq a0.To)) && (decide (a0.X5 <= a0.To)))
def yA (a0 : Int) (a1 : Int) : Zg × Bool := (bif ((decide (a0 > a1)) || (!(QQ (Zg.mk (if 0 > a0 then 0 else a0) (if 10000 < a1 then 10000 else a1))))) then ((Zg.mk 0 0), false) else ((Zg.mk (if 0 > a0 then 0 else a0) (if 10000 < a1 then 10000 else a1)), true))
def Xm (a0 : List Zf) (a1 : Zj) : Zg × Bool := (bif (((decide ((ZV a0 a1.Authority) < 0)) || (decide ((nth a0 (ZV a0 a1.Authority).toNat).Error < 0))) || (!(Kq a1.Time))) then ((Zg.mk 0 0), false) else ((yA (W (a1.Time - (nth a0 (ZV a0 a1.Authority).toNat).Error)) (W (a1.Time + (nth a0 (ZV a0 a1.Authority).toNat).Error))).1, (yA (W (a1.Time - (nth a0 (ZV a0 a1.Authority).toNat).Error)) (W (a1.Time + (nth a0 (ZV a0 a1.Authority).toNat).Error))).2))
def ju (a0 : List Zg) (a1 : Int) : Nat -> Int -> Nat -> Int
  | 0, _, _ => default
  | n1 + 1, J, U => (bif (decide ((U : Int) < (a0.length : Int))) then (bif ((QQ (nth a0 U)) && (ZS a1 (nth a0 U).X5 (nth a0 U).To)) then ju a0 a1 n1 (W (J + 1)) (U + 1) else ju a0 a1 n1 J (U + 1)) else (J))
def PZ (a0 : List Zg) (a1 : Int) : Int := (match ju a0 a1 (a0.length + 1) 0 0 with | z1_0 => z1_0)
def JQ (a0 : List Zg) (a1 : Int) (a2 : Int) : Bool := ((ZS a2 0 (W ((a0.length : Int) - 1))) && (decide ((PZ a0 a1) >= (W ((a0.length : Int) - a2)))))
def Jp (a0 : List Zg) (a1 : Int) : Nat -> Bool -> Nat -> Int -> Int -> Bool × Int × Int
  | 0, _, _, _, _ => (default, default, default)
  | n1 + 1, J, U, mz, lG => (bif (decide ((U : Int) <= 10000)) then (bif (JQ a0 (U : Int) a1) then (bif (!J) then Jp a0 a1 n1 true (U + 1) (U : Int) (U : Int) else Jp a0 a1 n1 true (U + 1) mz (U : Int)) else Jp a0 a1 n1 J (U + 1) mz lG) else ((J, mz, lG)))
def Jk (a0 : List Zg) (a1 : Int) : Zg × Bool := (match Jp a0 a1 10002 false 0 0 0 with | (z1_0, z1_1, z1_2) => ((Zg.mk z1_1 z1_2), z1_0))
def zu (a0 : List Zf) (a1 : List Zj) : Nat -> List Zg -> Nat -> Sum (Zg × Bool) (List Zg)
  | 0, _, _ => .inr default
  | n1 + 1, J, U => (bif (decide ((U : Int) < (a1.length : Int))) then (bif (!(Xm a0 (nth a1 U)).2) then (.inl ((Zg.mk 0 0), false)) else zu a0 a1 n1 (J ++ ([(Xm a0 (nth a1 U)).1] : List Zg)) (U + 1)) else (.inr J))
def QZ (a0 : List Zf) (a1 : List Zj) (a2 : Int) : Zg × Bool := (match zu a0 a1 (a1.length + 1) ([] : List Zg) 0 with | .inl r1 => r1 | .inr z1_0 => ((Jk z1_0 a2).1, (Jk z1_0 a2).2))
def Y3 (a0 : List Zf) (a1 : ZZ) (a2 : Int) : Zg × Bool := ((QZ a0 a1.YH a2).1, (QZ a0 a1.YH a2).2)
def Jr (a0 : ZX) (a1 : ZZ) : Zg × Bool := ((Y3 a0.ZB a1 a0.XT).1, (Y3 a0.ZB a1 a0.XT).2)
def Tr (a0 : ZU) (a1 : List Int) (a2 : Int) : Int := (bif (((!(ZS a2 0 (W ((a0.ZP.length : Int) - 1)))) || ((a1.length : Int) != (a0.ZP.length : Int))) || (!(ZS (nth a0.ZP a2.toNat).Count 0 (a0.ZJ.length : Int)))) then (-1) else (bif (decide (a2 > 0)) then (WX (nth a0.ZP a2.toNat).Method (nth a1 a2.toNat) (a0.ZJ.take (nth a0.ZP a2.toNat).Count.toNat) (JU (nth a0.ZP a2.toNat).Method (nth a0.ZP (W (a2 - 1)).toNat))) else (WX (nth a0.ZP a2.toNat).Method (nth a1 a2.toNat) (a0.ZJ.take (nth a0.ZP a2.toNat).Count.toNat) 0)))
def ka (a0 : Int) (a2 : List Xx) : Nat -> Int -> Nat -> Int
  | 0, _, _ => default
  | n1 + 1, J, U => (bif (decide ((U : Int) < (a2.length : Int))) then (bif (nth a2 U).Left then ka a0 a2 n1 (xF a0 (nth a2 U).QK J) (U + 1) else ka a0 a2 n1 (xF a0 J (nth a2 U).QK) (U + 1)) else (J))
def SJ (a0 : Int) (a1 : Int) (a2 : List Xx) : Int := (match ka a0 a2 (a2.length + 1) a1 0 with | z1_0 => z1_0)
def xj (a0 : List Zj) : Nat -> Nat -> Sum Bool Unit
  | 0, _ => .inr ()
  | n1 + 1, J => (bif (decide ((J : Int) < (a0.length : Int))) then (bif (decide ((nth a0 (J - 1)).Authority >= (nth a0 J).Authority)) then (.inl false) else xj a0 n1 (J + 1)) else (.inr ()))
def Kr (a0 : List Zj) : Bool := (match xj a0 (a0.length + 1) 1 with | .inl r1 => r1 | .inr _ => true)
def SD (a0 : List Yw) (a1 : List Zf) (a2 : Zj) : Bool := ((Xb a0 a1 a2).2 && (((Xb a0 a1 a2).1.Authority == a2.Authority) && (((Xb a0 a1 a2).1.Seq == a2.Seq) && (((Xb a0 a1 a2).1.Time == a2.Time) && (((Xb a0 a1 a2).1.QK == a2.QK) && ((Xb a0 a1 a2).1.Mark == a2.Mark))))))
def WG (a0 : List Yw) (a1 : List Zf) (a2 : ZZ) : Nat -> Nat -> Sum Bool Unit
  | 0, _ => .inr ()
  | n1 + 1, J => (bif (decide ((J : Int) < (a2.YH.length : Int))) then (bif (((nth a2.YH J).QK != a2.BE) || (!(SD a0 a1 (nth a2.YH J)))) then (.inl false) else WG a0 a1 a2 n1 (J + 1)) else (.inr ()))
def V3 (a0 : List Yw) (a1 : List Zf) (a2 : ZZ) (a3 : Int) : Bool := (bif ((((decide ((a2.Path.length : Int) > 4)) || ((SJ a2.Method a3 a2.Path) != a2.BE)) || (!(ZS (a2.YH.length : Int) 1 6))) || (!(Kr a2.YH))) then false else (match WG a0 a1 a2 (a2.YH.length + 1) 0 with | .inl r1 => r1 | .inr _ => true))
def X0 (a0 : List Zf) (a1 : Zj) : Int := (bif (decide ((ZV a0 a1.Authority) >= 0)) then (nth a0 (ZV a0 a1.Authority).toNat).Key else 0)
def yg (a0 : List Yw) (a1 : List Zf) (a2 : List Z8) (a3 : ZZ) : Nat -> Int -> Nat -> Sum Int Int
  | 0, _, _ => .inr default
  | n1 + 1, J, U => (bif (decide ((U : Int) < (a3.YH.length : Int))) then (bif (decide ((Zt a0 (X0 a1 (nth a3.YH U))) < 0)) then (.inl 0) else yg a0 a1 a2 a3 n1 (if (zY a2 (nth a0 (Zt a0 (X0 a1 (nth a3.YH U))).toNat).Method) < J then (zY a2 (nth a0 (Zt a0 (X0 a1 (nth a3.YH U))).toNat).Method) else J) (U + 1)) else (.inr J))
def Js (a0 : List Yw) (a1 : List Zf) (a2 : List Z8) (a3 : ZZ) : Int := (match yg a0 a1 a2 a3 (a3.YH.length + 1) (zY a2 a3.Method) 0 with | .inl r1 => r1 | .inr z1_0 => z1_0)
def zk (a0 : ZX) (a1 : ZU) (a2 : Int) : Bool := (bif (!(ZS a2 0 (W ((a1.ZP.length : Int) - 1)))) then false else (bif (a2 == (W ((a1.ZP.length : Int) - 1))) then (decide (a0.Now < (Js a0.Zo a0.ZB a0.Methods (nth a1.ZP a2.toNat)))) else ((Jr a0 (nth a1.ZP (W (a2 + 1)).toNat)).2 && (decide ((Jr a0 (nth a1.ZP (W (a2 + 1)).toNat)).1.To < (Js a0.Zo a0.ZB a0.Methods (nth a1.ZP a2.toNat)))))))
def K4 (a0 : ZX) (a1 : ZU) (a2 : List Int) : Nat -> Nat -> Nat
  | 0, _ => default
  | n1 + 1, J => (bif (decide ((J : Int) > 0)) then (bif (((!(Jr a0 (nth a1.ZP (J - 1))).2) || (!(V3 a0.Zo a0.ZB (nth a1.ZP (J - 1)) (Tr a1 a2 (W ((J : Int) - 1)))))) || (!(zk a0 a1 (W ((J : Int) - 1))))) then (J) else K4 a0 a1 a2 n1 (J - 1)) else (J))
def z5 (a0 : ZX) (a1 : ZU) (a2 : List Int) : Int := (match K4 a0 a1 a2 (a1.ZP.length + 1) a1.ZP.length with | z1_0 => (z1_0 : Int))
def zf (a0 : ZX) (a1 : ZU) (a3 : Int) : Nat -> Int -> Int -> Int
  | 0, _, _ => default
  | n1 + 1, J, U => (bif (decide (U < (a1.ZP.length : Int))) then (bif (decide ((nth a1.ZP U.toNat).Count > a3)) then zf a0 a1 a3 n1 (if (Jr a0 (nth a1.ZP U.toNat)).1.To < J then (Jr a0 (nth a1.ZP U.toNat)).1.To else J) (W (U + 1)) else zf a0 a1 a3 n1 J (W (U + 1))) else (J))
def xW (a0 : ZX) (a1 : ZU) (a2 : List Int) (a3 : Int) : Int := (match zf a0 a1 a3 (a1.ZP.length + 2) a0.Now (z5 a0 a1 a2) with | z1_0 => z1_0)
def zz (a0 : ZX) (a1 : ZU) (a2 : List Int) (a3 : ZT) : Int := (bif (decide ((ze a1 a3) < 0)) then a0.Now else (xW a0 a1 a2 (ze a1 a3)))
def zt (a0 : ZX) (a1 : Z0) (a2 : List (List Int)) (a3 : ZT) : Nat -> Int -> Nat -> Int
  | 0, _, _ => default
  | n1 + 1, J, U => (bif (decide ((U : Int) < (a1.Zy.length : Int))) then (bif (decide ((U : Int) < (a2.length : Int))) then zt a0 a1 a2 a3 n1 (if (zz a0 (nth a1.Zy U) (nth a2 U) a3) < J then (zz a0 (nth a1.Zy U) (nth a2 U) a3) else J) (U + 1) else zt a0 a1 a2 a3 n1 J (U + 1)) else (J))
def Yr (a0 : ZX) (a1 : Z0) (a2 : List (List Int)) (a3 : ZT) : Int := (match zt a0 a1 a2 a3 (a1.Zy.length + 1) a0.Now 0 with | z1_0 => z1_0)
def K6 (a0 : ZT) : Zn × Bool := (bif (((XC a0) != 102) || ((nth a0.Yf 4) != a0.Key)) then ((Zn.mk 0 0 0 0 0), false) else ((Zn.mk (nth a0.Yf 1) (nth a0.Yf 2) (nth a0.Yf 3) (nth a0.Yf 4) a0.Mark), true))
def VJ (a0 : ZT) : Zj × Bool := (bif ((XC a0) != 103) then ((Zj.mk 0 0 0 0 0), false) else ((Zj.mk (nth a0.Yf 1) (nth a0.Yf 2) (nth a0.Yf 3) (nth a0.Yf 4) a0.Mark), true))
def U4 (a0 : ZT) : Zl × Bool := (bif (((XC a0) != 104) || ((nth a0.Yf 1) != a0.Key)) then ((Zl.mk 0 0 0 0 0 0 0 0 0), false) else ((Zl.mk (nth a0.Yf 1) (nth a0.Yf 2) (nth a0.Yf 3) (nth a0.Yf 4) (nth a0.Yf 5) (nth a0.Yf 6) (nth a0.Yf 7) (nth a0.Yf 8) a0.Mark), true))
def ye (a0 : ZT) : XV × Bool := (bif (((XC a0) != 105) || ((nth a0.Yf 5) != a0.Key)) then ((XV.mk 0 0 0 0 0 0), false) else ((XV.mk (nth a0.Yf 1) (nth a0.Yf 2) (nth a0.Yf 3) (nth a0.Yf 4) (nth a0.Yf 5) a0.Mark), true))
def SN (a0 : List Yw) (a1 : ZT) : Bool := (bif ((XC a1) == 101) then ((XO a1).2 && (Ka a0 a1.Key a1.Yf a1.Mark)) else (bif ((XC a1) == 102) then ((K6 a1).2 && (Ka a0 a1.Key a1.Yf a1.Mark)) else (bif ((XC a1) == 103) then ((VJ a1).2 && (Ka a0 a1.Key a1.Yf a1.Mark)) else (bif ((XC a1) == 104) then ((U4 a1).2 && (Ka a0 a1.Key a1.Yf a1.Mark)) else (bif ((XC a1) == 105) then ((ye a1).2 && (Ka a0 a1.Key a1.Yf a1.Mark)) else (false && (Ka a0 a1.Key a1.Yf a1.Mark)))))))
def W0 (a0 : ZT) (a1 : ZT) : Nat -> Nat -> Sum Bool Unit
  | 0, _ => .inr ()
  | n1 + 1, J => (bif ((decide ((J : Int) < (a0.Yf.length : Int))) && (decide ((J : Int) < (a1.Yf.length : Int)))) then (bif ((nth a0.Yf J) != (nth a1.Yf J)) then (.inl (decide ((nth a0.Yf J) < (nth a1.Yf J)))) else W0 a0 a1 n1 (J + 1)) else (.inr ()))
def TG (a0 : ZT) (a1 : ZT) : Bool := (match W0 a0 a1 (a0.Yf.length + 1) 0 with | .inl r1 => r1 | .inr _ => (bif ((a0.Yf.length : Int) != (a1.Yf.length : Int)) then (decide ((a0.Yf.length : Int) < (a1.Yf.length : Int))) else (bif (a0.Key != a1.Key) then (decide (a0.Key < a1.Key)) else (decide (a0.Mark < a1.Mark)))))
def qm (a1 : Z0) (U : Nat) (m0 : List ZT) (m9 : Nat) : Nat -> Nat -> Nat
  | 0, _ => default
  | n3 + 1, lj => (bif ((decide ((lj : Int) < (m0.length : Int))) && (TG (nth m0 lj) (nth (nth a1.Zy U).ZJ m9))) then qm a1 U m0 m9 n3 (lj + 1) else (lj))
def KB (a0 : ZX) (a1 : Z0) (a2 : List (List Int)) (U : Nat) : Nat -> List ZT -> Nat -> (List ZT)
  | 0, _, _ => default
  | n2 + 1, m0, m9 => (bif (decide ((m9 : Int) < ((nth a1.Zy U).ZJ.length : Int))) then (bif (((Km m0 (nth (nth a1.Zy U).ZJ m9)) || (!(SN a0.Zo (nth (nth a1.Zy U).ZJ m9)))) || (decide ((Yr a0 a1 a2 (nth (nth a1.Zy U).ZJ m9)) >= (X4 a0 (nth (nth a1.Zy U).ZJ m9).Key)))) then KB a0 a1 a2 U n2 m0 (m9 + 1) else (match qm a1 U m0 m9 (m0.length + 1) 0 with | z3_0 => KB a0 a1 a2 U n2 (((m0.take z3_0) ++ ([(nth (nth a1.Zy U).ZJ m9)] : List ZT)) ++ ((m0.drop z3_0).take (m0.length - z3_0))) (m9 + 1))) else (m0))
def yf (a0 : ZX) (a1 : Z0) (a2 : List (List Int)) : Nat -> List ZT -> Nat -> (List ZT)
  | 0, _, _ => default
  | n1 + 1, J, U => (bif (decide ((U : Int) < (a1.Zy.length : Int))) then (match KB a0 a1 a2 U ((nth a1.Zy U).ZJ.length + 1) J 0 with | ij => yf a0 a1 a2 n1 ij (U + 1)) else (J))
def Z2 (a0 : ZX) (a1 : Z0) (a2 : List (List Int)) : List ZT := (match yf a0 a1 a2 (a1.Zy.length + 1) ([] : List ZT) 0 with | z1_0 => z1_0)
def qG (a0 : YX) : Zg := (Zg.mk a0.X5 a0.To)
def RP (a0 : YX) : Bool := ((((((ZS a0.Zd 1 999) && (ZS a0.Key 1 99)) && (ZS a0.Z1 1 99)) && (a0.Key != a0.Z1)) && (ZS a0.kW 0 99)) && (QQ (qG a0)))
def Pc (a0 : List Yw) (a1 : Int) : Int := (bif (decide ((Zt a0 a1) >= 0)) then (nth a0 (Zt a0 a1).toNat).kW else (-1))
def Wi (a0 : List Yw) (a1 : YX) : Bool := (((RP a1) && (Ka a0 a1.Z1 (yD a1) a1.Mark)) && (a1.kW == (Pc a0 a1.Key)))
def Ux (a0 : ZX) (a1 : List ZT) (a2 : Zl) : Nat -> Int -> Nat -> Int -> Int -> Int -> Int -> Int -> Int -> Int -> Int × Int × Int × Int × Int × Int × Int × Int
  | 0, _, _, _, _, _, _, _, _, _ => (default, default, default, default, default, default, default, default)
  | n1 + 1, J, U, mz, lG, lh, iM, iN, iO, iP => (bif (decide ((U : Int) < (a1.length : Int))) then (bif ((((XO (nth a1 U)).2 && (Wi a0.Zo (XO (nth a1 U)).1)) && ((XO (nth a1 U)).1.Zd == a2.Zd)) && ((XO (nth a1 U)).1.Key == a2.Key)) then Ux a0 a1 a2 n1 (W (J + 1)) (U + 1) (XO (nth a1 U)).1.Zd (XO (nth a1 U)).1.Key (XO (nth a1 U)).1.kW (XO (nth a1 U)).1.X5 (XO (nth a1 U)).1.To (XO (nth a1 U)).1.Z1 (XO (nth a1 U)).1.Mark else Ux a0 a1 a2 n1 J (U + 1) mz lG lh iM iN iO iP) else ((J, mz, lG, lh, iM, iN, iO, iP)))
def J7 (a0 : ZX) (a1 : List ZT) (a2 : Zl) : YX × Bool := (match Ux a0 a1 a2 (a1.length + 1) 0 0 0 0 0 0 0 0 0 with | (z1_0, z1_1, z1_2, z1_3, z1_4, z1_5, z1_6, z1_7) => (bif (z1_0 != 1) then ((YX.mk 0 0 0 0 0 0 0), false) else ((YX.mk z1_1 z1_2 z1_3 z1_4 z1_5 z1_6 z1_7), true)))
def u6 (a0 : Int) (a1 : Int) : Int := (if a1 > a0 then a1 else a0)
def kj (a1 : List Zj) : Nat -> List Int -> Nat -> (List Int)
  | 0, _, _ => default
  | n1 + 1, J, U => (bif (decide ((U : Int) < (a1.length : Int))) then kj a1 n1 (J ++ ([(nth a1 U).Mark] : List Int)) (U + 1) else (J))
def kQ (a0 : Int) (a1 : List Zj) : Int := (bif ((a1.length : Int) == 0) then 0 else (match kj a1 (a1.length + 1) ([] : List Int) 0 with | z1_0 => (u6 1 (Jm a0 z1_0))))
def qX (a0 : Int) (a1 : Zj) : ZT := (ZT.mk a0 (Jc a1) a1.Mark)
def TR (a0 : ZX) (a1 : Z0) (a2 : List ZT) (U : Nat) : Nat -> Bool -> Nat -> Bool
  | 0, _, _ => default
  | n2 + 1, m0, m9 => (bif (decide ((m9 : Int) < ((nth a1.XA U).length : Int))) then TR a0 a1 a2 U n2 (m0 && (Km a2 (qX (X0 a0.ZB (nth (nth a1.XA U) m9)) (nth (nth a1.XA U) m9)))) (m9 + 1) else (m0))
def jA (a0 : ZX) (a1 : Z0) (a2 : List ZT) (a3 : Zl) : Nat -> Int -> Nat -> Int
  | 0, _, _ => default
  | n1 + 1, J, U => (bif (decide ((U : Int) < (a1.XA.length : Int))) then (bif (((a3.UT == 0) || (!(Kr (nth a1.XA U)))) || ((kQ a3.Method (nth a1.XA U)) != a3.UT)) then jA a0 a1 a2 a3 n1 J (U + 1) else (match TR a0 a1 a2 U ((nth a1.XA U).length + 1) true 0 with | ij => (bif (ij && (QZ a0.ZB (nth a1.XA U) a0.XT).2) then jA a0 a1 a2 a3 n1 (if (QZ a0.ZB (nth a1.XA U) a0.XT).1.X5 > J then (QZ a0.ZB (nth a1.XA U) a0.XT).1.X5 else J) (U + 1) else jA a0 a1 a2 a3 n1 J (U + 1)))) else (J))
def TK (a0 : ZX) (a1 : Z0) (a2 : List ZT) (lg : Nat) : Nat -> Bool -> Nat -> Bool
  | 0, _, _ => default
  | n4 + 1, gQ, gV => (bif (decide ((gV : Int) < ((nth a1.XA lg).length : Int))) then TK a0 a1 a2 lg n4 (gQ && (Km a2 (qX (X0 a0.ZB (nth (nth a1.XA lg) gV)) (nth (nth a1.XA lg) gV)))) (gV + 1) else (gQ))
def jC (a0 : ZX) (a1 : Z0) (a2 : List ZT) (a3 : Zl) : Nat -> Int -> Nat -> Int
  | 0, _, _ => default
  | n3 + 1, lj, lg => (bif (decide ((lg : Int) < (a1.XA.length : Int))) then (bif (((a3.UT == 0) || (!(Kr (nth a1.XA lg)))) || ((kQ a3.Method (nth a1.XA lg)) != a3.UT)) then jC a0 a1 a2 a3 n3 lj (lg + 1) else (match TK a0 a1 a2 lg ((nth a1.XA lg).length + 1) true 0 with | z4_0 => (bif (z4_0 && (QZ a0.ZB (nth a1.XA lg) a0.XT).2) then jC a0 a1 a2 a3 n3 (if (QZ a0.ZB (nth a1.XA lg) a0.XT).1.X5 > lj then (QZ a0.ZB (nth a1.XA lg) a0.XT).1.X5 else lj) (lg + 1) else jC a0 a1 a2 a3 n3 lj (lg + 1)))) else (lj))
def Jd (a0 : ZX) (a1 : Z0) (a2 : List ZT) (a3 : Zl) : Int := (bif (decide ((Zt a0.Zo a3.Key) >= 0)) then (match jA a0 a1 a2 a3 (a1.XA.length + 1) (nth a0.Zo (Zt a0.Zo a3.Key).toNat).VI 0 with | z1_0 => z1_0) else (match jC a0 a1 a2 a3 (a1.XA.length + 1) 0 0 with | z3_0 => z3_0))
def xQ (a0 : List ZT) (a1 : YX) : Nat -> List Zn -> Nat -> (List Zn)
  | 0, _, _ => default
  | n1 + 1, J, U => (bif (decide ((U : Int) < (a0.length : Int))) then (bif (((K6 (nth a0 U)).2 && ((K6 (nth a0 U)).1.Zd == a1.Zd)) && ((K6 (nth a0 U)).1.Z1 == a1.Z1)) then xQ a0 a1 n1 (J ++ ([(K6 (nth a0 U)).1] : List Zn)) (U + 1) else xQ a0 a1 n1 J (U + 1)) else (J))
def yC (a0 : List ZT) (a1 : YX) : List Zn := (match xQ a0 a1 (a0.length + 1) ([] : List Zn) 0 with | z1_0 => z1_0)
def Zr (a0 : Int) (a1 : Int) (a2 : List Zg) : List Zg := (bif (yA a0 a1).2 then (a2 ++ ([(yA a0 a1).1] : List Zg)) else a2)
def Tw (a0 : List Zn) (a1 : Int) : Nat -> Int -> Int -> Int -> Nat -> Int × Int × Int
  | 0, _, _, _, _ => (default, default, default)
  | n1 + 1, J, U, mz, lG => (bif (decide ((lG : Int) < (a0.length : Int))) then (bif ((nth a0 lG).Zd != a1) then Tw a0 a1 n1 J U mz (lG + 1) else (bif (decide ((nth a0 lG).Zx < 0)) then Tw a0 a1 n1 J U (if (nth a0 lG).kU > mz then (nth a0 lG).kU else mz) (lG + 1) else (bif ((decide (J < 0)) || (decide ((nth a0 lG).Zx < J))) then Tw a0 a1 n1 (nth a0 lG).Zx (if (nth a0 lG).Zx > U then (nth a0 lG).Zx else U) mz (lG + 1) else Tw a0 a1 n1 J (if (nth a0 lG).Zx > U then (nth a0 lG).Zx else U) mz (lG + 1)))) else ((J, U, mz)))
def W2 (a0 : List Zn) (a1 : Int) : Int × Int × Int := (match Tw a0 a1 (a0.length + 1) (-1) (-1) (-1) 0 with | (z1_0, z1_1, z1_2) => (z1_0, z1_1, z1_2))
def JJ (a0 : List Zn) (a1 : Int) : Int := (bif (decide ((W2 a0 a1).2.1 < 0)) then 10001 else (if (W ((W2 a0 a1).2.2 + 1)) > (W2 a0 a1).2.1 then (W ((W2 a0 a1).2.2 + 1)) else (W2 a0 a1).2.1))
def R6 (ij : List Zg) (fW : Int) : Nat -> Nat -> Nat
  | 0, _ => default
  | n3 + 1, lj => (bif ((decide ((lj : Int) < (ij.length : Int))) && (decide ((nth ij lj).X5 < fW))) then R6 ij fW n3 (lj + 1) else (lj))
def jn (J : List Zg) : Nat -> List Zg -> Nat -> Int -> Int -> (List Zg) × Int × Int
  | 0, _, _, _, _ => (default, default, default)
  | n2 + 1, m0, m9, lV, lX => (bif (decide ((m9 : Int) < (J.length : Int))) then (bif ((decide ((W ((nth J m9).To + 1)) < lV)) || (decide ((W (lX + 1)) < (nth J m9).X5))) then jn J n2 (m0 ++ ([(nth J m9)] : List Zg)) (m9 + 1) lV lX else jn J n2 m0 (m9 + 1) (if (nth J m9).X5 < lV then (nth J m9).X5 else lV) (if (nth J m9).To > lX then (nth J m9).To else lX)) else ((m0, lV, lX)))
def jj (a0 : List Zg) : Nat -> List Zg -> Nat -> (List Zg)
  | 0, _, _ => default
  | n1 + 1, J, U => (bif (decide ((U : Int) < (a0.length : Int))) then (bif (!(QQ (nth a0 U))) then jj a0 n1 J (U + 1) else (match jn J (J.length + 1) ([] : List Zg) 0 (nth a0 U).X5 (nth a0 U).To with | (ij, fW, z2_2) => (match R6 ij fW (ij.length + 1) 0 with | z3_0 => jj a0 n1 (((ij.take z3_0) ++ ([(Zg.mk fW z2_2)] : List Zg)) ++ ((ij.drop z3_0).take (ij.length - z3_0))) (U + 1)))) else (J))
def Qf (a0 : List Zg) : List Zg := (match jj a0 (a0.length + 1) ([] : List Zg) 0 with | z1_0 => z1_0)
def kz (a0 : YX) (a1 : List Zn) : List Zg := (bif (decide (a0.X5 > 0)) then (bif (decide (a0.To < 10000)) then (Qf (Zr (JJ a1 a0.Zd) 10000 (Zr (W (a0.To + 1)) 10000 (Zr 0 (W (a0.X5 - 1)) ([] : List Zg))))) else (Qf (Zr (JJ a1 a0.Zd) 10000 (Zr 0 (W (a0.X5 - 1)) ([] : List Zg))))) else (bif (decide (a0.To < 10000)) then (Qf (Zr (JJ a1 a0.Zd) 10000 (Zr (W (a0.To + 1)) 10000 ([] : List Zg)))) else (Qf (Zr (JJ a1 a0.Zd) 10000 ([] : List Zg)))))
def Oa (a0 : Zg) (a1 : Zg) : Bool := ((((QQ a0) && (QQ a1)) && (decide (a1.X5 <= a0.X5))) && (decide (a0.To <= a1.To)))
def V9 (a0 : List Zg) (a1 : Zg) : Nat -> Nat -> Sum Bool Unit
  | 0, _ => .inr ()
  | n1 + 1, J => (bif (decide ((J : Int) < ((Qf a0).length : Int))) then (bif (Oa a1 (nth (Qf a0) J)) then (.inl true) else V9 a0 a1 n1 (J + 1)) else (.inr ()))
def jz (a0 : List Zg) (a1 : Zg) : Bool := (match V9 a0 a1 ((Qf a0).length + 1) 0 with | .inl r1 => r1 | .inr _ => false)
def On (a0 : YX) (a1 : List Zn) (a2 : Zg) : Bool := (jz (kz a0 a1) a2)
def Uu (a0 : List Zn) (a1 : Int) : Int := (bif (decide ((W2 a0 a1).1 >= 0)) then (W ((W2 a0 a1).1 - 1)) else (W2 a0 a1).2.2)
def xw (a0 : Zg) (a1 : Zg) : Zg × Bool := (bif (((!(QQ a0)) || (!(QQ a1))) || (!(QQ (Zg.mk (if a1.X5 > a0.X5 then a1.X5 else a0.X5) (if a1.To < a0.To then a1.To else a0.To))))) then ((Zg.mk 0 0), false) else ((Zg.mk (if a1.X5 > a0.X5 then a1.X5 else a0.X5) (if a1.To < a0.To then a1.To else a0.To)), true))
def Uh (a0 : List Zg) (a1 : List Zg) (U : Nat) : Nat -> List Zg -> Nat -> (List Zg)
  | 0, _, _ => default
  | n2 + 1, m0, m9 => (bif (decide ((m9 : Int) < (a1.length : Int))) then (bif (xw (nth a0 U) (nth a1 m9)).2 then Uh a0 a1 U n2 (m0 ++ ([(xw (nth a0 U) (nth a1 m9)).1] : List Zg)) (m9 + 1) else Uh a0 a1 U n2 m0 (m9 + 1)) else (m0))
def RM (a0 : List Zg) (a1 : List Zg) : Nat -> List Zg -> Nat -> (List Zg)
  | 0, _, _ => default
  | n1 + 1, J, U => (bif (decide ((U : Int) < (a0.length : Int))) then (match Uh a0 a1 U (a1.length + 1) J 0 with | ij => RM a0 a1 n1 ij (U + 1)) else (J))
def Pj (a0 : List Zg) (a1 : List Zg) : List Zg := (match RM a0 a1 (a0.length + 1) ([] : List Zg) 0 with | z1_0 => (Qf z1_0))
def jh (a0 : YX) (a1 : List Zn) : List Zg := (Pj ([(qG a0)] : List Zg) ([(Zg.mk 0 (Uu a1 a0.Zd))] : List Zg))
def T8 (a0 : YX) (a1 : List Zn) (a2 : Zg) : Bool := (jz (jh a0 a1) a2)
def x1 (a0 : List ZT) : Nat -> List XV -> Nat -> (List XV)
  | 0, _, _ => default
  | n1 + 1, J, U => (bif (decide ((U : Int) < (a0.length : Int))) then (bif (ye (nth a0 U)).2 then x1 a0 n1 (J ++ ([(ye (nth a0 U)).1] : List XV)) (U + 1) else x1 a0 n1 J (U + 1)) else (J))
def kG (a0 : List ZT) : List XV := (match x1 a0 (a0.length + 1) ([] : List XV) 0 with | z1_0 => z1_0)
def RO (a0 : XV) : Bool := ((((ZS a0.Org 1 99) && (ZS a0.Mz 0 99)) && (ZS a0.Key 1 99)) && (QQ (Zg.mk a0.X5 a0.To)))
def yG (a0 : XV) : List Int := ([105, a0.Org, a0.Mz, a0.X5, a0.To, a0.Key] : List Int)
def V8 (a0 : List Yw) (a1 : XV) : Bool := (((RO a1) && ((Pc a0 a1.Key) == a1.Org)) && (Ka a0 a1.Key (yG a1) a1.Mark))
def yj (a0 : List Yw) (a1 : List XV) (a2 : Int) (a3 : Int) : Nat -> List Zg -> Nat -> (List Zg)
  | 0, _, _ => default
  | n1 + 1, J, U => (bif (decide ((U : Int) < (a1.length : Int))) then (bif ((((nth a1 U).Org == a2) && ((nth a1 U).Mz == a3)) && (V8 a0 (nth a1 U))) then yj a0 a1 a2 a3 n1 (J ++ ([(Zg.mk (nth a1 U).X5 (nth a1 U).To)] : List Zg)) (U + 1) else yj a0 a1 a2 a3 n1 J (U + 1)) else (J))
def qE (a0 : List Yw) (a1 : List XV) (a2 : Int) (a3 : Int) : List Zg := (match yj a0 a1 a2 a3 (a1.length + 1) ([] : List Zg) 0 with | z1_0 => (Qf z1_0))
def SZ (a0 : List Yw) (a1 : List XV) (a2 : Int) (a3 : Int) (a4 : Zg) : Bool := (((a2 == 0) && (QQ a4)) || (jz (qE a0 a1 a2 a3) a4))
def kP (a0 : ZX) (a1 : Z0) (a2 : List (List Int)) (a3 : Int) (a4 : Zl) : QF := (bif (!(xV a0)) then (RR 1) else (bif (!(yI a4)) then (Tt 1) else (bif (decide (a3 < 0)) then (RR 2) else (bif (a3 != a4.QK) then (Tt 2) else (bif (decide ((Zt a0.Zo a4.Key) < 0)) then (RR 3) else (bif (!(ku a0.Zo a4)) then (Tt 4) else (bif ((decide ((Yr a0 a1 a2 (Yu a4)) >= (X4 a0 a4.Key))) || (decide ((Yr a0 a1 a2 (Yu a4)) >= (zY a0.Methods a4.Method)))) then (RR 5) else (bif (!(J7 a0 (Z2 a0 a1 a2) a4).2) then (RR 6) else (bif (decide ((Jd a0 a1 (Z2 a0 a1 a2) a4) > (Yr a0 a1 a2 (Yu a4)))) then (RR 7) else (bif (On (J7 a0 (Z2 a0 a1 a2) a4).1 (yC (Z2 a0 a1 a2) (J7 a0 (Z2 a0 a1 a2) a4).1) (Zg.mk (Jd a0 a1 (Z2 a0 a1 a2) a4) (Yr a0 a1 a2 (Yu a4)))) then (QF.mk 2 8 (Zg.mk (Jd a0 a1 (Z2 a0 a1 a2) a4) (Yr a0 a1 a2 (Yu a4)))) else (bif (!(T8 (J7 a0 (Z2 a0 a1 a2) a4).1 (yC (Z2 a0 a1 a2) (J7 a0 (Z2 a0 a1 a2) a4).1) (Zg.mk (Jd a0 a1 (Z2 a0 a1 a2) a4) (Yr a0 a1 a2 (Yu a4))))) then (QF.mk 3 7 (Zg.mk (Jd a0 a1 (Z2 a0 a1 a2) a4) (Yr a0 a1 a2 (Yu a4)))) else (bif (!(SZ a0.Zo (kG (Z2 a0 a1 a2)) a4.Org (J7 a0 (Z2 a0 a1 a2) a4).1.kW (Zg.mk (Jd a0 a1 (Z2 a0 a1 a2) a4) (Yr a0 a1 a2 (Yu a4))))) then (QF.mk 3 9 (Zg.mk (Jd a0 a1 (Z2 a0 a1 a2) a4) (Yr a0 a1 a2 (Yu a4)))) else (QF.mk 1 0 (Zg.mk (Jd a0 a1 (Z2 a0 a1 a2) a4) (Yr a0 a1 a2 (Yu a4))))))))))))))))
def HK (a0 : ZX) (a1 : Z0) (a2 : ZN) (a3 : Zl) : QF := (kP a0 a1 (Qq a1 a2) (Yb a3.Method a2) a3)
def Wh (a0 : ZX) (a1 : ZQ) : QF := (HK a0 (QB a1) a1.Doc a1.Sig)
def Qr (a0 : ZF) (a1 : Int) : QF := (bif (decide ((ZL a0 a1).1 < 0)) then (QF.mk 0 0 (Zg.mk 0 0)) else (Wh a0.Frame (nth (nth a0.ZA (ZL a0 a1).1.toNat).ZC (ZL a0 a1).2.toNat)))
def zN (a0 : ZF) : Nat -> List Int -> Nat -> (List Int)
  | 0, _, _ => default
  | n1 + 1, J, U => (bif (decide ((U : Int) < ((Q6 a0).length : Int))) then (bif ((Qr a0 (nth (Q6 a0) U).Id).Code == 1) then zN a0 n1 (J ++ ([(nth (Q6 a0) U).Id] : List Int)) (U + 1) else zN a0 n1 J (U + 1)) else (J))
def XX (a0 : ZF) : List Int := (match zN a0 ((Q6 a0).length + 1) ([] : List Int) 0 with | z1_0 => z1_0)
def za (a0 : ZF) : Nat -> List Int -> Nat -> (List Int)
  | 0, _, _ => default
  | n1 + 1, J, U => (bif (decide ((U : Int) < ((XX a0).length : Int))) then (bif (QG a0.YE (nth (XX a0) U)) then za a0 n1 (J ++ ([(nth (XX a0) U)] : List Int)) (U + 1) else za a0 n1 J (U + 1)) else (J))
def zC (a0 : ZF) : List Int := (match za a0 ((XX a0).length + 1) ([] : List Int) 0 with | z1_0 => z1_0)
def Mg (a0 : List Z8) (a1 : Int) (a2 : Int) : Bool := (((decide ((X7 a0 a1) >= 0)) && (decide ((nth a0 (X7 a0 a1).toNat).MI <= a2))) && (decide (a2 < (nth a0 (X7 a0 a1).toNat).R9)))
def DQ (a0 : ZX) (a1 : Int) : Int := (bif (decide ((X7 a0.Methods a1) >= 0)) then (nth a0.Methods (X7 a0.Methods a1).toNat).Ends else 0)
def X3 (a0 : ZX) : Nat -> List Int -> Nat -> (List Int)
  | 0, _, _ => default
  | n1 + 1, J, U => (bif (decide ((U : Int) < (a0.ZB.length : Int))) then (bif (decide ((Zt a0.Zo (nth a0.ZB U).Key) < 0)) then X3 a0 n1 J (U + 1) else (bif (((decide ((nth a0.Zo (Zt a0.Zo (nth a0.ZB U).Key).toNat).VI <= a0.Now)) && (Mg a0.Methods (nth a0.Zo (Zt a0.Zo (nth a0.ZB U).Key).toNat).Method a0.Now)) && (decide ((DQ a0 (nth a0.Zo (Zt a0.Zo (nth a0.ZB U).Key).toNat).Method) > a0.Now))) then X3 a0 n1 (J ++ ([(nth a0.ZB U).Id] : List Int)) (U + 1) else X3 a0 n1 J (U + 1))) else (J))
def YG (a0 : ZX) : List Int := (match X3 a0 (a0.ZB.length + 1) ([] : List Int) 0 with | z1_0 => z1_0)
def zx (a0 : ZF) (m9 : Nat) : Nat -> List Int -> Nat -> Sum Bool (List Int)
  | 0, _, _ => .inr default
  | n3 + 1, lj, lg => (bif (decide ((lg : Int) < ((nth a0.ZA m9).ZC.length : Int))) then (bif ((QG lj (nth (nth a0.ZA m9).ZC lg).Id) || (decide ((nth (nth a0.ZA m9).ZC lg).Id >= a0.Next))) then (.inl false) else zx a0 m9 n3 (lj ++ ([(nth (nth a0.ZA m9).ZC lg).Id] : List Int)) (lg + 1)) else (.inr lj))
def Wt (a0 : ZF) : Nat -> Nat -> Sum Bool Unit
  | 0, _ => .inr ()
  | n5 + 1, fT => (bif (decide ((fT : Int) < (a0.YO.length : Int))) then (bif (decide ((ZV a0.Frame.ZB (nth a0.YO fT)) < 0)) then (.inl false) else Wt a0 n5 (fT + 1)) else (.inr ()))
def Ws (a0 : ZF) : Nat -> Nat -> Sum Bool Unit
  | 0, _ => .inr ()
  | n4 + 1, gQ => (bif (decide ((gQ : Int) < (a0.Yt.length : Int))) then (bif (decide ((nth a0.Yt gQ) < 0)) then (.inl false) else Ws a0 n4 (gQ + 1)) else (.inr ()))
def yz (a0 : ZF) : Nat -> List Int -> Nat -> Sum Bool Unit
  | 0, _, _ => .inr ()
  | n2 + 1, m0, m9 => (bif (decide ((m9 : Int) < (a0.ZA.length : Int))) then (bif ((!(Yi (nth a0.ZA m9))) || ((nth a0.ZA m9).Id != (m9 : Int))) then (.inl false) else (match zx a0 m9 ((nth a0.ZA m9).ZC.length + 1) m0 0 with | .inl r3 => .inl r3 | .inr z3_0 => yz a0 n2 z3_0 (m9 + 1))) else (.inr ()))
def Wd (a0 : ZF) : Nat -> Nat -> Sum Bool Unit
  | 0, _ => .inr ()
  | n1 + 1, J => (bif (decide ((J : Int) < (a0.ZY.length : Int))) then (bif (((!(Wi a0.Frame.Zo (nth a0.ZY J))) || ((Xp a0.ZY (nth a0.ZY J).Zd) != (J : Int))) || (!(ZS (nth a0.Zx J) (-1) 10001))) then (.inl false) else Wd a0 n1 (J + 1)) else (.inr ()))
def Vj (a0 : ZF) : Bool := (bif ((((((((!(xV a0.Frame)) || ((a0.Zx.length : Int) != (a0.ZY.length : Int))) || (!(ZS (a0.ZA.length : Int) 1 4))) || ((a0.Yt.length : Int) != (a0.Frame.ZB.length : Int))) || (decide ((a0.YO.length : Int) > a0.Frame.XT))) || (decide (a0.Next < 1))) || (!(QV a0.YO))) || (!(QV a0.YE))) then false else (match Wd a0 (a0.ZY.length + 1) 0 with | .inl r1 => r1 | .inr _ => (match yz a0 (a0.ZA.length + 1) ([] : List Int) 0 with | .inl r2 => r2 | .inr _ => (match Ws a0 (a0.Yt.length + 1) 0 with | .inl r4 => r4 | .inr _ => (match Wt a0 (a0.YO.length + 1) 0 with | .inl r5 => r5 | .inr _ => true)))))
def WL (a0 : ZF) : ByteArray := (bif (!(Vj a0)) then (⟨#[119, 111, 114, 108, 100]⟩ : ByteArray) else (bif (decide (((zC a0).length : Int) > 0)) then (⟨#[102, 111, 114, 103, 101, 100]⟩ : ByteArray) else (⟨#[]⟩ : ByteArray)))
def yq : Nat -> Nat -> List Yw -> List Zf -> List Z8 -> Int -> Int -> List YX -> List Int -> List ZD -> List Int -> List Int -> Int -> List Int -> Sum Bool ((List Yw) × (List Zf) × (List Z8) × Int × Int × (List YX) × (List Int) × (List ZD) × (List Int) × (List Int) × Int × (List Int))
  | 0, _, _, _, _, _, _, _, _, _, _, _, _, _ => .inr (default, default, default, default, default, default, default, default, default, default, default, default)
  | n2 + 1, m0, m9, lV, lX, lq, l9, iA, iB, iC, iD, lY, lZ, la => (bif (decide ((m0 : Int) < 3)) then (bif (decide (((zC (Ym (YA (ZF.mk (ZX.mk m9 lV lX lq l9) iA iB iC iD lY lZ la) 10).1 0 (YG (YA (ZF.mk (ZX.mk m9 lV lX lq l9) iA iB iC iD lY lZ la) 10).1.Frame) 0).1).length : Int) > 0)) then (.inl false) else yq n2 (m0 + 1) (Ym (YA (ZF.mk (ZX.mk m9 lV lX lq l9) iA iB iC iD lY lZ la) 10).1 0 (YG (YA (ZF.mk (ZX.mk m9 lV lX lq l9) iA iB iC iD lY lZ la) 10).1.Frame) 0).1.Frame.Zo (Ym (YA (ZF.mk (ZX.mk m9 lV lX lq l9) iA iB iC iD lY lZ la) 10).1 0 (YG (YA (ZF.mk (ZX.mk m9 lV lX lq l9) iA iB iC iD lY lZ la) 10).1.Frame) 0).1.Frame.ZB (Ym (YA (ZF.mk (ZX.mk m9 lV lX lq l9) iA iB iC iD lY lZ la) 10).1 0 (YG (YA (ZF.mk (ZX.mk m9 lV lX lq l9) iA iB iC iD lY lZ la) 10).1.Frame) 0).1.Frame.Methods (Ym (YA (ZF.mk (ZX.mk m9 lV lX lq l9) iA iB iC iD lY lZ la) 10).1 0 (YG (YA (ZF.mk (ZX.mk m9 lV lX lq l9) iA iB iC iD lY lZ la) 10).1.Frame) 0).1.Frame.XT (Ym (YA (ZF.mk (ZX.mk m9 lV lX lq l9) iA iB iC iD lY lZ la) 10).1 0 (YG (YA (ZF.mk (ZX.mk m9 lV lX lq l9) iA iB iC iD lY lZ la) 10).1.Frame) 0).1.Frame.Now (Ym (YA (ZF.mk (ZX.mk m9 lV lX lq l9) iA iB iC iD lY lZ la) 10).1 0 (YG (YA (ZF.mk (ZX.mk m9 lV lX lq l9) iA iB iC iD lY lZ la) 10).1.Frame) 0).1.ZY (Ym (YA (ZF.mk (ZX.mk m9 lV lX lq l9) iA iB iC iD lY lZ la) 10).1 0 (YG (YA (ZF.mk (ZX.mk m9 lV lX lq l9) iA iB iC iD lY lZ la) 10).1.Frame) 0).1.Zx (Ym (YA (ZF.mk (ZX.mk m9 lV lX lq l9) iA iB iC iD lY lZ la) 10).1 0 (YG (YA (ZF.mk (ZX.mk m9 lV lX lq l9) iA iB iC iD lY lZ la) 10).1.Frame) 0).1.ZA (Ym (YA (ZF.mk (ZX.mk m9 lV lX lq l9) iA iB iC iD lY lZ la) 10).1 0 (YG (YA (ZF.mk (ZX.mk m9 lV lX lq l9) iA iB iC iD lY lZ la) 10).1.Frame) 0).1.Yt (Ym (YA (ZF.mk (ZX.mk m9 lV lX lq l9) iA iB iC iD lY lZ la) 10).1 0 (YG (YA (ZF.mk (ZX.mk m9 lV lX lq l9) iA iB iC iD lY lZ la) 10).1.Frame) 0).1.YO (Ym (YA (ZF.mk (ZX.mk m9 lV lX lq l9) iA iB iC iD lY lZ la) 10).1 0 (YG (YA (ZF.mk (ZX.mk m9 lV lX lq l9) iA iB iC iD lY lZ la) 10).1.Frame) 0).1.Next (Ym (YA (ZF.mk (ZX.mk m9 lV lX lq l9) iA iB iC iD lY lZ la) 10).1 0 (YG (YA (ZF.mk (ZX.mk m9 lV lX lq l9) iA iB iC iD lY lZ la) 10).1.Frame) 0).1.YE) else (.inr (m9, lV, lX, lq, l9, iA, iB, iC, iD, lY, lZ, la)))
def qD (a0 : List UInt8) : Nat -> Nat -> List Yw -> List Zf -> List Z8 -> Int -> Int -> List YX -> List Int -> List ZD -> List Int -> List Int -> Int -> List Int -> Sum Bool ((List Yw) × (List Zf) × (List Z8) × Int × Int × (List YX) × (List Int) × (List ZD) × (List Int) × (List Int) × Int × (List Int))
  | 0, _, _, _, _, _, _, _, _, _, _, _, _, _ => .inr (default, default, default, default, default, default, default, default, default, default, default, default)
  | n1 + 1, J, U, mz, lG, lh, iM, iN, iO, iP, iy, iF, iG, iH => (bif (decide ((J : Int) < ((Zb a0).2.length : Int))) then (bif (!((Yg (ZF.mk (ZX.mk U mz lG lh iM) iN iO iP iy iF iG iH) (nth (Zb a0).2 J)).2 == (xL (ZF.mk (ZX.mk U mz lG lh iM) iN iO iP iy iF iG iH) (nth (Zb a0).2 J)).2)) then (.inl false) else (bif (decide (((zC (Yg (ZF.mk (ZX.mk U mz lG lh iM) iN iO iP iy iF iG iH) (nth (Zb a0).2 J)).1).length : Int) > 0)) then (.inl false) else qD a0 n1 (J + 1) (Yg (ZF.mk (ZX.mk U mz lG lh iM) iN iO iP iy iF iG iH) (nth (Zb a0).2 J)).1.Frame.Zo (Yg (ZF.mk (ZX.mk U mz lG lh iM) iN iO iP iy iF iG iH) (nth (Zb a0).2 J)).1.Frame.ZB (Yg (ZF.mk (ZX.mk U mz lG lh iM) iN iO iP iy iF iG iH) (nth (Zb a0).2 J)).1.Frame.Methods (Yg (ZF.mk (ZX.mk U mz lG lh iM) iN iO iP iy iF iG iH) (nth (Zb a0).2 J)).1.Frame.XT (Yg (ZF.mk (ZX.mk U mz lG lh iM) iN iO iP iy iF iG iH) (nth (Zb a0).2 J)).1.Frame.Now (Yg (ZF.mk (ZX.mk U mz lG lh iM) iN iO iP iy iF iG iH) (nth (Zb a0).2 J)).1.ZY (Yg (ZF.mk (ZX.mk U mz lG lh iM) iN iO iP iy iF iG iH) (nth (Zb a0).2 J)).1.Zx (Yg (ZF.mk (ZX.mk U mz lG lh iM) iN iO iP iy iF iG iH) (nth (Zb a0).2 J)).1.ZA (Yg (ZF.mk (ZX.mk U mz lG lh iM) iN iO iP iy iF iG iH) (nth (Zb a0).2 J)).1.Yt (Yg (ZF.mk (ZX.mk U mz lG lh iM) iN iO iP iy iF iG iH) (nth (Zb a0).2 J)).1.YO (Yg (ZF.mk (ZX.mk U mz lG lh iM) iN iO iP iy iF iG iH) (nth (Zb a0).2 J)).1.Next (Yg (ZF.mk (ZX.mk U mz lG lh iM) iN iO iP iy iF iG iH) (nth (Zb a0).2 J)).1.YE)) else (.inr (U, mz, lG, lh, iM, iN, iO, iP, iy, iF, iG, iH)))
def kE (a0 : List UInt8) : Bool := (bif (w7 a0) then true else (match qD a0 ((Zb a0).2.length + 1) 0 (Zb a0).1.Frame.Zo (Zb a0).1.Frame.ZB (Zb a0).1.Frame.Methods (Zb a0).1.Frame.XT (Zb a0).1.Frame.Now (Zb a0).1.ZY (Zb a0).1.Zx (Zb a0).1.ZA (Zb a0).1.Yt (Zb a0).1.YO (Zb a0).1.Next (Zb a0).1.YE with | .inl r1 => r1 | .inr (z1_0, z1_1, z1_2, z1_3, z1_4, z1_5, z1_6, z1_7, z1_8, z1_9, z1_10, z1_11) => (match yq 4 0 z1_0 z1_1 z1_2 z1_3 z1_4 z1_5 z1_6 z1_7 z1_8 z1_9 z1_10 z1_11 with | .inl r2 => r2 | .inr (ij, fW, z2_2, z2_3, z2_4, z2_5, z2_6, z2_7, z2_8, z2_9, z2_10, z2_11) => (decide ((WL (ZF.mk (ZX.mk ij fW z2_2 z2_3 z2_4) z2_5 z2_6 z2_7 z2_8 z2_9 z2_10 z2_11)) = (⟨#[]⟩ : ByteArray))))))
end Go.Mo
