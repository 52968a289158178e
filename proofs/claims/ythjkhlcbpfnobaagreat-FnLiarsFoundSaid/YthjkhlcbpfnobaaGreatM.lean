/- Models of the functions: what each computes, on typed data. No condition. -/
import Derived.Test.YthjkhlcbpfnobaaGreatMo
namespace Go.Mo
open Go.Vm
def La (a0 : List UInt8) : Bool := (decide ((a0.length : Int) > 1048576))
def Ue (a0 : List UInt8) : Nat -> Int -> Nat -> Int
  | 0, _, _ => default
  | n1 + 1, J, U => (bif ((decide ((U : Int) < (a0.length : Int))) && (decide ((U : Int) < 4000))) then Ue a0 n1 (PS .i64 (W ((W ((W (J * 137)) + (W ((nth a0 U).toNat : Int)))) + 11)) 1073741823) (U + 1) else (J))
def yp (a0 : List UInt8) : Zj := (match Ue a0 4001 (W (193017 + (a0.length : Int))) 0 with | wQ => (Zj.mk a0 0 wQ))
def Zu (a0 : Zj) : Zj × Int := (bif (decide ((a0.i : Int) < (a0.b.length : Int))) then ((Zj.mk a0.b (a0.i + 1) (W ((W (a0.h * 6364136223846793005)) + 1442695040888963407))), (PS .i64 (W ((PS .i64 (H6 .i64 ((W ((W (a0.h * 6364136223846793005)) + 1442695040888963407)).fdiv (2 ^ (min 33 IntKind.i64.bits))) ((W ((W (a0.h * 6364136223846793005)) + 1442695040888963407)).fdiv (2 ^ (min 47 IntKind.i64.bits)))) 255) + (W ((nth a0.b a0.i).toNat : Int)))) 255)) else ((Zj.mk a0.b a0.i (W ((W (a0.h * 6364136223846793005)) + 1442695040888963407))), (PS .i64 (H6 .i64 ((W ((W (a0.h * 6364136223846793005)) + 1442695040888963407)).fdiv (2 ^ (min 33 IntKind.i64.bits))) ((W ((W (a0.h * 6364136223846793005)) + 1442695040888963407)).fdiv (2 ^ (min 47 IntKind.i64.bits)))) 255)))
def ZB (a0 : Zj) (a1 : Int) : Zj × Int := (bif (decide (a1 <= 0)) then (a0, 0) else (bif (decide (a1 <= 256)) then ((Zu a0).1, (Int.tmod (Zu a0).2 a1)) else ((Zu (Zu (Zu a0).1).1).1, (Int.tmod (W ((W ((W ((Zu a0).2 * 65536)) + (W ((Zu (Zu a0).1).2 * 256)))) + (Zu (Zu (Zu a0).1).1).2)) a1))))
def yb (a0 : Int) (a1 : Int) : Int := (bif (decide (a1 > a0)) then a1 else a0)
def WN (a0 : Int) (a1 : Int) : Int := (bif (decide (a1 < a0)) then a1 else a0)
def J1 : List Yq := ([(Yq.mk 1 90 1 0 501), (Yq.mk 2 90 3 40 502), (Yq.mk 11 1 1 0 511), (Yq.mk 12 1 2 20 512), (Yq.mk 13 2 3 40 513), (Yq.mk 21 50 1 0 521), (Yq.mk 31 81 1 0 531), (Yq.mk 32 82 2 20 532), (Yq.mk 33 83 3 40 533), (Yq.mk 34 84 4 60 534)] : List Yq)
def Qm : List ZZ := ([(ZZ.mk 1 31 1), (ZZ.mk 2 32 2), (ZZ.mk 3 33 1), (ZZ.mk 4 34 0)] : List ZZ)
def yw : List YJ := ([(YJ.mk 1 0 40 50), (YJ.mk 2 20 80 70), (YJ.mk 3 40 120 200), (YJ.mk 4 60 10001 10001)] : List YJ)
def xv (a0 : List Yq) (a1 : Int) : Nat -> Nat -> Sum Int Unit
  | 0, _ => .inr ()
  | n1 + 1, J => (bif (decide ((J : Int) < (a0.length : Int))) then (bif ((nth a0 J).Number == a1) then (.inl (J : Int)) else xv a0 a1 n1 (J + 1)) else (.inr ()))
def zG (a0 : List Yq) (a1 : Int) : Int := (match xv a0 a1 (a0.length + 1) 0 with | .inl r1 => r1 | .inr _ => (-1))
def Jo (a0 : Int) (a1 : Int) (a2 : Int) : Bool := ((decide (a0 >= a1)) && (decide (a0 <= a2)))
def jA (a0 : Ym) : qI := (qI.mk a0.xb a0.To)
def VK (a0 : Int) : Bool := (Jo a0 0 10000)
def T7 (a0 : qI) : Bool := (((VK a0.xb) && (VK a0.To)) && (decide (a0.xb <= a0.To)))
def Sv (a0 : Ym) : Bool := ((((((Jo a0.YD 1 999) && (Jo a0.Key 1 99)) && (Jo a0.YZ 1 99)) && (a0.Key != a0.YZ)) && (Jo a0.xi 0 99)) && (T7 (jA a0)))
def Kx (a0 : Ym) : List Int := ([101, a0.YD, a0.Key, a0.xi, a0.xb, a0.To, a0.YZ] : List Int)
def H7 (a0 : Int) (a1 : Int) : Int := (bif (!(Jo a1 1 1000000000000)) then 0 else (Int.tmod (W ((Int.tmod a0 a1) + a1)) a1))
def Sh (a0 : List Int) : Nat -> Int -> Nat -> Int
  | 0, _, _ => default
  | n1 + 1, J, U => (bif (decide ((U : Int) < (a0.length : Int))) then Sh a0 n1 (Int.tmod (W ((W ((W (J * 1000003)) + (H7 (nth a0 U) 2147483647))) + 13)) 2147483647) (U + 1) else (J))
def Mt (a0 : List Int) : Int := (match Sh a0 (a0.length + 1) 11 0 with | wQ => wQ)
def zC (a0 : Int) (a1 : List Int) : Int := (Mt ((([a0] : List Int) ++ a1) ++ ([a0] : List Int)))
def Wr (a0 : Yq) (a1 : List Int) : Int := (zC a0.W5 (([a0.Method] : List Int) ++ a1))
def zA (a0 : List Yq) (a1 : Ym) : Ym × Bool := (bif (((!(Sv a1)) || (decide ((zG a0 a1.YZ) < 0))) || (decide ((zG a0 a1.Key) < 0))) then ((Ym.mk 0 0 0 0 0 0 0), false) else ((Ym.mk a1.YD a1.Key a1.xi a1.xb a1.To a1.YZ (Wr (nth a0 (zG a0 a1.YZ).toNat) (Kx a1))), true))
def z5 : List Ym := ([(zA J1 (Ym.mk 1 11 1 0 60 1 0)).1, (zA J1 (Ym.mk 2 12 1 20 100 1 0)).1, (zA J1 (Ym.mk 3 13 2 40 150 2 0)).1] : List Ym)
def Yl (a0 : Int) : ZE := (bif ((WN 1 (yb 0 a0)) == 1) then (ZE.mk (Z2.mk J1 Qm yw (WN 1 (yb 0 a0)) 0) z5 ([(-1), (-1), (-1)] : List Int) ([(ZD.mk 0 ([] : List ZS)), (ZD.mk 1 ([] : List ZS))] : List ZD) ([0, 0, 0, 0] : List Int) ([1] : List Int) 1 ([] : List Int)) else (ZE.mk (Z2.mk J1 Qm yw (WN 1 (yb 0 a0)) 0) z5 ([(-1), (-1), (-1)] : List Int) ([(ZD.mk 0 ([] : List ZS)), (ZD.mk 1 ([] : List ZS))] : List ZD) ([0, 0, 0, 0] : List Int) ([] : List Int) 1 ([] : List Int)))
def Zh (a0 : Zj) (a1 : Int) : Zj × Bool := ((ZB a0 a1).1, ((ZB a0 a1).2 == 0))
def Ze (a0 : Zj) (a1 : List Int) : Zj × Int := ((ZB a0 (a1.length : Int)).1, (nth a1 (ZB a0 (a1.length : Int)).2.toNat))
def kv (a0 : Zj) (a1 : List ByteArray) : Zj × ByteArray := ((ZB a0 (a1.length : Int)).1, (nth a1 (ZB a0 (a1.length : Int)).2.toNat))
def JS (a0 : Zj) : Zj × ByteArray := ((kv a0 ([(⟨#[]⟩ : ByteArray), (⟨#[97]⟩ : ByteArray), (⟨#[98]⟩ : ByteArray), (⟨#[97, 98]⟩ : ByteArray), (⟨#[121, 101, 115]⟩ : ByteArray), (⟨#[110, 111]⟩ : ByteArray), (⟨#[111, 110, 101, 32, 104, 117, 110, 100, 114, 101, 100]⟩ : ByteArray)] : List ByteArray)).1, (kv a0 ([(⟨#[]⟩ : ByteArray), (⟨#[97]⟩ : ByteArray), (⟨#[98]⟩ : ByteArray), (⟨#[97, 98]⟩ : ByteArray), (⟨#[121, 101, 115]⟩ : ByteArray), (⟨#[110, 111]⟩ : ByteArray), (⟨#[111, 110, 101, 32, 104, 117, 110, 100, 114, 101, 100]⟩ : ByteArray)] : List ByteArray)).2)
def xU (a0 : ZP) : Nat -> Nat -> Sum Bool Unit
  | 0, _ => .inr ()
  | n2 + 1, wR => (bif (decide ((wR : Int) < (a0.Qr.length : Int))) then (bif (!(Jo (nth a0.Qr wR) 1 1000000000000)) then (.inl false) else xU a0 n2 (wR + 1)) else (.inr ()))
def xH (a0 : ZP) : Nat -> Nat -> Sum Bool Unit
  | 0, _ => .inr ()
  | n1 + 1, J => (bif (decide ((J : Int) < (a0.XA.length : Int))) then (bif (decide (((nth a0.XA J).size : Int) > 40)) then (.inl false) else xH a0 n1 (J + 1)) else (.inr ()))
def jG (a0 : ZP) : Bool := (match xH a0 (a0.XA.length + 1) 0 with | .inl r1 => r1 | .inr _ => (match xU a0 (a0.Qr.length + 1) 0 with | .inl r2 => r2 | .inr _ => (((Jo a0.qn 0 999) && (Jo (a0.XA.length : Int) 1 6)) && ((a0.Qr.length : Int) == (a0.XA.length : Int)))))
def jW (a0 : Int) : Bool := (Jo a0 1 2147483646)
def Ja (a0 : Int) (a1 : List ByteArray) (a2 : Int) : Nat -> Nat -> List Int -> (List Int)
  | 0, _, _ => default
  | n1 + 1, J, U => (bif (decide ((J : Int) < (a1.length : Int))) then Ja a0 a1 a2 n1 (J + 1) (U ++ ([(yb 1 (zC a2 ([a0, (J : Int)] : List Int)))] : List Int)) else (U))
def Ji (a0 : Int) (a1 : List ByteArray) (a2 : Int) : ZP × Bool := (match Ja a0 a1 a2 (a1.length + 1) 0 ([] : List Int) with | wQ => (bif ((!(jG (ZP.mk a0 a1 wQ))) || (!(jW a2))) then ((ZP.mk 0 ([] : List ByteArray) ([] : List Int)), false) else ((ZP.mk a0 a1 wQ), true)))
def zp : Nat -> List ByteArray -> Int -> List UInt8 -> Nat -> Int -> (List ByteArray) × (List UInt8) × Nat × Int
  | 0, _, _, _, _, _ => (default, default, default, default)
  | n1 + 1, J, U, wJ, wx, wy => (bif (decide (U > 0)) then zp n1 (J ++ ([(JS (Zj.mk wJ wx wy)).2] : List ByteArray)) (W (U - 1)) (JS (Zj.mk wJ wx wy)).1.b (JS (Zj.mk wJ wx wy)).1.i (JS (Zj.mk wJ wx wy)).1.h else ((J, wJ, wx, wy)))
def Yp (a0 : Zj) : Zj × ZP := (match zp 5 ([] : List ByteArray) (W (1 + (ZB a0 3).2)) (ZB a0 3).1.b (ZB a0 3).1.i (ZB a0 3).1.h with | (wQ, z1_1, z1_2, z1_3) => ((ZB (Zj.mk z1_1 z1_2 z1_3) 5).1, (Ji (ZB (Zj.mk z1_1 z1_2 z1_3) 5).2 wQ 11).1))
def YL (a0 : Zj) (a1 : Int) : Zj × ZR := (bif (decide (a1 >= 20)) then (bif (decide (a1 >= 40)) then (bif (decide (a1 >= 60)) then ((Ze a0 ([0, (-10), 40] : List Int)).1, (ZR.mk 5 0 (Ze a0 ([0, (-10), 40] : List Int)).2 0 0 (ZP.mk 0 ([] : List ByteArray) ([] : List Int)) ([2, 3, 4] : List Int))) else ((Ze a0 ([0, (-10), 40] : List Int)).1, (ZR.mk 5 0 (Ze a0 ([0, (-10), 40] : List Int)).2 0 0 (ZP.mk 0 ([] : List ByteArray) ([] : List Int)) ([1, 2, 3] : List Int)))) else (bif (decide (a1 >= 60)) then ((Ze a0 ([0, (-10), 40] : List Int)).1, (ZR.mk 5 0 (Ze a0 ([0, (-10), 40] : List Int)).2 0 0 (ZP.mk 0 ([] : List ByteArray) ([] : List Int)) ([2, 3, 4] : List Int))) else ((Ze a0 ([0, (-10), 40] : List Int)).1, (ZR.mk 5 0 (Ze a0 ([0, (-10), 40] : List Int)).2 0 0 (ZP.mk 0 ([] : List ByteArray) ([] : List Int)) ([1, 2] : List Int))))) else (bif (decide (a1 >= 40)) then (bif (decide (a1 >= 60)) then ((Ze a0 ([0, (-10), 40] : List Int)).1, (ZR.mk 5 0 (Ze a0 ([0, (-10), 40] : List Int)).2 0 0 (ZP.mk 0 ([] : List ByteArray) ([] : List Int)) ([2, 3, 4] : List Int))) else ((Ze a0 ([0, (-10), 40] : List Int)).1, (ZR.mk 5 0 (Ze a0 ([0, (-10), 40] : List Int)).2 0 0 (ZP.mk 0 ([] : List ByteArray) ([] : List Int)) ([1, 2, 3] : List Int)))) else (bif (decide (a1 >= 60)) then ((Ze a0 ([0, (-10), 40] : List Int)).1, (ZR.mk 5 0 (Ze a0 ([0, (-10), 40] : List Int)).2 0 0 (ZP.mk 0 ([] : List ByteArray) ([] : List Int)) ([2, 3, 4] : List Int))) else ((Ze a0 ([0, (-10), 40] : List Int)).1, (ZR.mk 5 0 (Ze a0 ([0, (-10), 40] : List Int)).2 0 0 (ZP.mk 0 ([] : List ByteArray) ([] : List Int)) ([1] : List Int))))))
def ZV (a0 : Zj) : Zj × List ZR := ((YL (YL (YL (Yp (Ze a0 ([11, 12] : List Int)).1).1 25).1 43).1 65).1, (((([(ZR.mk 1 22 0 0 0 (ZP.mk 0 ([] : List ByteArray) ([] : List Int)) ([] : List Int)), (ZR.mk 2 0 (Ze a0 ([11, 12] : List Int)).2 0 10000 (Yp (Ze a0 ([11, 12] : List Int)).1).2 ([] : List Int)), (ZR.mk 1 3 0 0 0 (ZP.mk 0 ([] : List ByteArray) ([] : List Int)) ([] : List Int)), (ZR.mk 3 1 0 0 0 (ZP.mk 0 ([] : List ByteArray) ([] : List Int)) ([] : List Int))] : List ZR) ++ ([(YL (Yp (Ze a0 ([11, 12] : List Int)).1).1 25).2, (ZR.mk 1 18 0 0 0 (ZP.mk 0 ([] : List ByteArray) ([] : List Int)) ([] : List Int))] : List ZR)) ++ ([(YL (YL (Yp (Ze a0 ([11, 12] : List Int)).1).1 25).1 43).2, (ZR.mk 1 22 0 0 0 (ZP.mk 0 ([] : List ByteArray) ([] : List Int)) ([] : List Int))] : List ZR)) ++ ([(YL (YL (YL (Yp (Ze a0 ([11, 12] : List Int)).1).1 25).1 43).1 65).2, (ZR.mk 1 20 0 0 0 (ZP.mk 0 ([] : List ByteArray) ([] : List Int)) ([] : List Int))] : List ZR)))
def Ye (a0 : Zj) : Zj × ZR := (bif ((ZB a0 16).2 == 0) then ((Ze (ZB a0 16).1 ([1, 5, 10, 20, 30] : List Int)).1, (ZR.mk 1 (Ze (ZB a0 16).1 ([1, 5, 10, 20, 30] : List Int)).2 0 0 0 (ZP.mk 0 ([] : List ByteArray) ([] : List Int)) ([] : List Int))) else (bif ((ZB a0 16).2 == 1) then ((Ze (ZB a0 16).1 ([1, 5, 10, 20, 30] : List Int)).1, (ZR.mk 1 (Ze (ZB a0 16).1 ([1, 5, 10, 20, 30] : List Int)).2 0 0 0 (ZP.mk 0 ([] : List ByteArray) ([] : List Int)) ([] : List Int))) else (bif ((ZB a0 16).2 == 2) then ((Ze (ZB a0 16).1 ([1, 5, 10, 20, 30] : List Int)).1, (ZR.mk 1 (Ze (ZB a0 16).1 ([1, 5, 10, 20, 30] : List Int)).2 0 0 0 (ZP.mk 0 ([] : List ByteArray) ([] : List Int)) ([] : List Int))) else (bif ((ZB a0 16).2 == 3) then ((Yp (Ze (Ze (ZB (ZB a0 16).1 2).1 ([11, 12, 13] : List Int)).1 ([30, 10000] : List Int)).1).1, (ZR.mk 2 (ZB (ZB a0 16).1 2).2 (Ze (ZB (ZB a0 16).1 2).1 ([11, 12, 13] : List Int)).2 0 (Ze (Ze (ZB (ZB a0 16).1 2).1 ([11, 12, 13] : List Int)).1 ([30, 10000] : List Int)).2 (Yp (Ze (Ze (ZB (ZB a0 16).1 2).1 ([11, 12, 13] : List Int)).1 ([30, 10000] : List Int)).1).2 ([] : List Int))) else (bif ((ZB a0 16).2 == 4) then ((Yp (Ze (Ze (ZB (ZB a0 16).1 2).1 ([11, 12, 13] : List Int)).1 ([30, 10000] : List Int)).1).1, (ZR.mk 2 (ZB (ZB a0 16).1 2).2 (Ze (ZB (ZB a0 16).1 2).1 ([11, 12, 13] : List Int)).2 0 (Ze (Ze (ZB (ZB a0 16).1 2).1 ([11, 12, 13] : List Int)).1 ([30, 10000] : List Int)).2 (Yp (Ze (Ze (ZB (ZB a0 16).1 2).1 ([11, 12, 13] : List Int)).1 ([30, 10000] : List Int)).1).2 ([] : List Int))) else (bif ((ZB a0 16).2 == 5) then ((ZB (ZB a0 16).1 3).1, (ZR.mk 3 (W (1 + (ZB (ZB a0 16).1 3).2)) 0 0 0 (ZP.mk 0 ([] : List ByteArray) ([] : List Int)) ([] : List Int))) else (bif ((ZB a0 16).2 == 6) then ((ZB (ZB a0 16).1 3).1, (ZR.mk 3 (W (1 + (ZB (ZB a0 16).1 3).2)) 0 0 0 (ZP.mk 0 ([] : List ByteArray) ([] : List Int)) ([] : List Int))) else (bif ((ZB a0 16).2 == 7) then ((ZB (ZB a0 16).1 3).1, (ZR.mk 4 (ZB (ZB a0 16).1 3).2 0 0 0 (ZP.mk 0 ([] : List ByteArray) ([] : List Int)) ([] : List Int))) else (bif ((ZB a0 16).2 == 8) then ((ZB (ZB (ZB (ZB a0 16).1 2).1 2).1 3).1, (ZR.mk 6 (ZB (ZB a0 16).1 2).2 (ZB (ZB (ZB a0 16).1 2).1 2).2 (W (1 + (ZB (ZB (ZB (ZB a0 16).1 2).1 2).1 3).2)) 0 (ZP.mk 0 ([] : List ByteArray) ([] : List Int)) ([] : List Int))) else (bif ((ZB a0 16).2 == 9) then ((ZB (ZB a0 16).1 2).1, (ZR.mk 7 (ZB (ZB a0 16).1 2).2 0 0 0 (ZP.mk 0 ([] : List ByteArray) ([] : List Int)) ([] : List Int))) else (bif ((ZB a0 16).2 == 10) then ((Yp (Ze (ZB (ZB a0 16).1 2).1 ([11, 12] : List Int)).1).1, (ZR.mk 8 (ZB (ZB a0 16).1 2).2 (Ze (ZB (ZB a0 16).1 2).1 ([11, 12] : List Int)).2 0 0 (Yp (Ze (ZB (ZB a0 16).1 2).1 ([11, 12] : List Int)).1).2 ([] : List Int))) else (bif ((ZB a0 16).2 == 11) then ((Ze (ZB (ZB a0 16).1 4).1 ([5, 25, 60] : List Int)).1, (ZR.mk 9 (W (1 + (ZB (ZB a0 16).1 4).2)) (Ze (ZB (ZB a0 16).1 4).1 ([5, 25, 60] : List Int)).2 0 0 (ZP.mk 0 ([] : List ByteArray) ([] : List Int)) ([] : List Int))) else (bif ((ZB a0 16).2 == 12) then ((Ze (ZB (ZB a0 16).1 3).1 ([10, 40, 60] : List Int)).1, (ZR.mk 10 (W (1 + (ZB (ZB a0 16).1 3).2)) (Ze (ZB (ZB a0 16).1 3).1 ([10, 40, 60] : List Int)).2 0 0 (ZP.mk 0 ([] : List ByteArray) ([] : List Int)) ([] : List Int))) else ((ZB (Ze (ZB (ZB a0 16).1 2).1 ([0, (-10), 40] : List Int)).1 3).1, (ZR.mk 5 (ZB (ZB a0 16).1 2).2 (Ze (ZB (ZB a0 16).1 2).1 ([0, (-10), 40] : List Int)).2 0 0 (ZP.mk 0 ([] : List ByteArray) ([] : List Int)) ((([1, 2, 3, 4] : List Int).drop (ZB (Ze (ZB (ZB a0 16).1 2).1 ([0, (-10), 40] : List Int)).1 3).2.toNat).take (4 - (ZB (Ze (ZB (ZB a0 16).1 2).1 ([0, (-10), 40] : List Int)).1 3).2.toNat)))))))))))))))))
def Qi : Nat -> List ZR -> Int -> List UInt8 -> Nat -> Int -> (List ZR) × (List UInt8) × Nat × Int
  | 0, _, _, _, _, _ => (default, default, default, default)
  | n1 + 1, J, U, wJ, wx, wy => (bif (decide (U > 0)) then Qi n1 (J ++ ([(Ye (Zj.mk wJ wx wy)).2] : List ZR)) (W (U - 1)) (Ye (Zj.mk wJ wx wy)).1.b (Ye (Zj.mk wJ wx wy)).1.i (Ye (Zj.mk wJ wx wy)).1.h else ((J, wJ, wx, wy)))
def Qj : Nat -> List ZR -> Int -> List UInt8 -> Nat -> Int -> (List ZR) × (List UInt8) × Nat × Int
  | 0, _, _, _, _, _ => (default, default, default, default)
  | n2 + 1, wR, wT, tK, tL, tM => (bif (decide (wT > 0)) then Qj n2 (wR ++ ([(Ye (Zj.mk tK tL tM)).2] : List ZR)) (W (wT - 1)) (Ye (Zj.mk tK tL tM)).1.b (Ye (Zj.mk tK tL tM)).1.i (Ye (Zj.mk tK tL tM)).1.h else ((wR, tK, tL, tM)))
def K6 (a0 : Zj) (a1 : Int) : Zj × List ZR := (bif (Zh a0 2).2 then (match Qi ((ZB (ZB (ZV (Zh a0 2).1).1 (W (((ZV (Zh a0 2).1).2.length : Int) + 1))).1 a1).2.toNat + 2) ((ZV (Zh a0 2).1).2.take (ZB (ZV (Zh a0 2).1).1 (W (((ZV (Zh a0 2).1).2.length : Int) + 1))).2.toNat) (ZB (ZB (ZV (Zh a0 2).1).1 (W (((ZV (Zh a0 2).1).2.length : Int) + 1))).1 a1).2 (ZB (ZB (ZV (Zh a0 2).1).1 (W (((ZV (Zh a0 2).1).2.length : Int) + 1))).1 a1).1.b (ZB (ZB (ZV (Zh a0 2).1).1 (W (((ZV (Zh a0 2).1).2.length : Int) + 1))).1 a1).1.i (ZB (ZB (ZV (Zh a0 2).1).1 (W (((ZV (Zh a0 2).1).2.length : Int) + 1))).1 a1).1.h with | (wQ, z1_1, z1_2, z1_3) => ((Zj.mk z1_1 z1_2 z1_3), wQ)) else (match Qj ((ZB (Zh a0 2).1 a1).2.toNat + 2) ([] : List ZR) (ZB (Zh a0 2).1 a1).2 (ZB (Zh a0 2).1 a1).1.b (ZB (Zh a0 2).1 a1).1.i (ZB (Zh a0 2).1 a1).1.h with | (z2_0, z2_1, z2_2, z2_3) => ((Zj.mk z2_1 z2_2 z2_3), z2_0)))
def ZC (a0 : List UInt8) : ZE × (List ZR) := ((Yl (ZB (yp a0) 2).2), (K6 (ZB (yp a0) 2).1 12).2)
def ZO (a0 : Int) (a1 : Int) (a2 : Int) : Bool := ((decide (a1 <= a0)) && (decide (a0 <= a2)))
def Ke (a0 : List ZR) : Nat -> Nat -> Sum Bool Unit
  | 0, _ => .inr ()
  | n1 + 1, J => (bif (decide ((J : Int) < (a0.length : Int))) then (bif (ZO (nth a0 J).Kind 8 10) then (.inl false) else Ke a0 n1 (J + 1)) else (.inr ()))
def Ky (a0 : List ZR) : Bool := (match Ke a0 (a0.length + 1) 0 with | .inl r1 => r1 | .inr _ => true)
def zh (a0 : List ZR) : Nat -> Nat -> Sum Bool Unit
  | 0, _ => .inr ()
  | n1 + 1, J => (bif (decide ((J : Int) < (a0.length : Int))) then (bif (Jo (nth a0 J).Kind 8 10) then (.inl false) else zh a0 n1 (J + 1)) else (.inr ()))
def xW (a0 : List ZR) : Bool := (match zh a0 (a0.length + 1) 0 with | .inl r1 => r1 | .inr _ => true)
def ka (a0 : Z2) : Z2 := a0
def Wm (a0 : List Int) : List Int := a0
def xN (a0 : ZP) : ZP := a0
def kN (a0 : Zl) : Zl := a0
def zR (a0 : List Zl) : Nat -> List Zl -> Nat -> (List Zl)
  | 0, _, _ => default
  | n1 + 1, J, U => (bif (decide ((U : Int) < (a0.length : Int))) then zR a0 n1 (J ++ ([(nth a0 U)] : List Zl)) (U + 1) else (J))
def yu (a0 : List Zl) : List Zl := (match zR a0 (a0.length + 1) ([] : List Zl) 0 with | wQ => wQ)
def jP (a0 : List ZQ) : List ZQ := a0
def qL (a0 : Za) : Za := a0
def zZ (a0 : Zf) : Nat -> Nat -> List Za -> (List Za)
  | 0, _, _ => default
  | n1 + 1, J, U => (bif (decide ((J : Int) < (a0.Zn.length : Int))) then zZ a0 n1 (J + 1) (U ++ ([(nth a0.Zn J)] : List Za)) else (U))
def ym (a0 : Zf) : Zf := (match zZ a0 (a0.Zn.length + 1) 0 ([] : List Za) with | wQ => (Zf.mk a0.Zp wQ))
def Wq (a0 : ZS) : ZS := a0
def Kv (a0 : ZD) : Nat -> Nat -> List ZS -> (List ZS)
  | 0, _, _ => default
  | n1 + 1, J, U => (bif (decide ((J : Int) < (a0.ZF.length : Int))) then Kv a0 n1 (J + 1) (U ++ ([(nth a0.ZF J)] : List ZS)) else (U))
def yG (a0 : ZD) : ZD := (match Kv a0 (a0.ZF.length + 1) 0 ([] : List ZS) with | wQ => (ZD.mk a0.Id wQ))
def yH (a0 : ZE) : Nat -> Nat -> List ZD -> (List ZD)
  | 0, _, _ => default
  | n1 + 1, J, U => (bif (decide ((J : Int) < (a0.ZA.length : Int))) then yH a0 n1 (J + 1) (U ++ ([(nth a0.ZA J)] : List ZD)) else (U))
def xu (a0 : ZE) : ZE := (match yH a0 (a0.ZA.length + 1) 0 ([] : List ZD) with | wQ => (ZE.mk a0.Frame a0.Zb a0.YC wQ a0.YP a0.YN a0.Next a0.YE))
def QS (a0 : ZE) (a1 : Int) : ZE × Bool := (bif ((!(ZO a1 0 100)) || (decide ((W (a0.Frame.Now + a1)) > 10000))) then (a0, false) else ((ZE.mk (Z2.mk a0.Frame.Z9 a0.Frame.ZG a0.Frame.Methods a0.Frame.zm (W (a0.Frame.Now + a1))) a0.Zb a0.YC a0.ZA a0.YP a0.YN a0.Next a0.YE), true))
def qA (a0 : List Yq) (a1 : Int) : Nat -> Nat -> Sum Int Unit
  | 0, _ => .inr ()
  | n1 + 1, J => (bif (decide ((J : Int) < (a0.length : Int))) then (bif ((nth a0 J).Number == a1) then (.inl (J : Int)) else qA a0 a1 n1 (J + 1)) else (.inr ()))
def YM (a0 : List Yq) (a1 : Int) : Int := (match qA a0 a1 (a0.length + 1) 0 with | .inl r1 => r1 | .inr _ => (-1))
def zY (a0 : List YJ) (a1 : Int) : Nat -> Int -> Nat -> Int
  | 0, _, _ => default
  | n1 + 1, J, U => (bif (decide ((U : Int) < (a0.length : Int))) then (bif (((decide ((nth a0 U).OC <= a1)) && (decide (a1 < (nth a0 U).Ends))) && ((decide (J < 0)) || (decide ((nth a0 U).Ends > (nth a0 J.toNat).Ends)))) then zY a0 a1 n1 (U : Int) (U + 1) else zY a0 a1 n1 J (U + 1)) else (J))
def ZJ (a0 : List YJ) (a1 : Int) : Int := (match zY a0 a1 (a0.length + 1) (-1) 0 with | wQ => (bif (decide (wQ < 0)) then (-1) else (nth a0 wQ.toNat).Id))
def Z1 (a0 : ZE) (a1 : Int) : Bool := (ZO a1 0 (W ((a0.ZA.length : Int) - 1)))
def zM (a0 : ZP) : Nat -> Nat -> Sum Bool Unit
  | 0, _ => .inr ()
  | n1 + 1, J => (bif (decide ((J : Int) < (a0.XA.length : Int))) then (bif ((decide (((nth a0.XA J).size : Int) > 40)) || (!(ZO (nth a0.Qr J) 1 1000000000000))) then (.inl false) else zM a0 n1 (J + 1)) else (.inr ()))
def Ki (a0 : ZP) : Bool := (bif (((!(ZO a0.qn 0 999)) || (!(ZO (a0.XA.length : Int) 1 6))) || ((a0.Qr.length : Int) != (a0.XA.length : Int))) then false else (match zM a0 (a0.XA.length + 1) 0 with | .inl r1 => r1 | .inr _ => true))
def yS (a0 : List UInt8) : Nat -> List Int -> Nat -> (List Int)
  | 0, _, _ => default
  | n1 + 1, J, U => (bif (decide ((U : Int) < (a0.length : Int))) then yS a0 n1 (J ++ ([(W ((nth a0 U).toNat : Int))] : List Int)) (U + 1) else (J))
def y6 (a0 : List UInt8) : List Int := (match yS a0 (a0.length + 1) ([] : List Int) 0 with | wQ => wQ)
def Hk (a0 : Int) (a1 : Int) : Int := (bif (!(ZO a1 1 1000000000000)) then 0 else (Int.tmod (W ((Int.tmod a0 a1) + a1)) a1))
def RT (a0 : List Int) : Nat -> Int -> Nat -> Int
  | 0, _, _ => default
  | n1 + 1, J, U => (bif (decide ((U : Int) < (a0.length : Int))) then RT a0 n1 (Int.tmod (W ((W ((W (J * 1000003)) + (Hk (nth a0 U) 2147483647))) + 13)) 2147483647) (U + 1) else (J))
def Om (a0 : List Int) : Int := (match RT a0 (a0.length + 1) 11 0 with | wQ => wQ)
def JQ (a0 : Int) (a1 : List Int) : Int := (Om (([7, a0] : List Int) ++ a1))
def q8 (a0 : Int) (a1 : ByteArray) (a2 : Int) : Int := (JQ a0 (([a2] : List Int) ++ (y6 a1.data.toList)))
def qY (a0 : Int) (a1 : ZP) : Nat -> List Int -> Nat -> (List Int)
  | 0, _, _ => default
  | n1 + 1, J, U => (bif (decide ((U : Int) < (a1.XA.length : Int))) then qY a0 a1 n1 (J ++ ([(q8 a0 (nth a1.XA U) (nth a1.Qr U))] : List Int)) (U + 1) else (J))
def YH (a0 : Int) (a1 : ZP) : Int := (bif (!(Ki a1)) then (-1) else (match qY a0 a1 (a1.XA.length + 1) ([a1.qn] : List Int) 0 with | wQ => (JQ a0 wQ)))
def Xk (a0 : Zr) : List Int := ([104, a0.Key, a0.YD, a0.Method, a0.XL, a0.VA, a0.Org, a0.Wy, a0.RQ] : List Int)
def j5 (a0 : Int) (a1 : List Int) : Int := (Om ((([a0] : List Int) ++ a1) ++ ([a0] : List Int)))
def Wl (a0 : Yq) (a1 : List Int) : Int := (j5 a0.W5 (([a0.Method] : List Int) ++ a1))
def Q9 (a0 : List Yq) (a1 : Int) (a2 : List Int) : Int × Bool := (bif (decide ((YM a0 a1) < 0)) then (0, false) else ((Wl (nth a0 (YM a0 a1).toNat) a2), true))
def qR (a0 : Zr) : Bool := ((((((((ZO a0.Key 1 99) && (ZO a0.YD 1 999)) && (ZO a0.Method 0 99)) && (ZO a0.Org 0 99)) && (ZO a0.VA 1 3)) && (ZO a0.XL 0 1000000000000)) && (ZO a0.Wy 0 1000000000000)) && (ZO a0.RQ 0 1000000000000))
def YU (a0 : List Yq) (a1 : Zr) : Zr × Bool := (bif ((!(qR a1)) || (!(Q9 a0 a1.Key (Xk a1)).2)) then ((Zr.mk 0 0 0 0 0 0 0 0 0), false) else ((Zr.mk a1.Key a1.YD a1.Method a1.XL a1.VA a1.Org a1.Wy a1.RQ (Q9 a0 a1.Key (Xk a1)).1), true))
def X4 (a0 : Zr) : Zl := (Zl.mk a0.Key (Xk a0) a0.Mark)
def K4 (a0 : Ym) : List Int := ([101, a0.YD, a0.Key, a0.xi, a0.xb, a0.To, a0.YZ] : List Int)
def Qg (a0 : Ym) : Zl := (Zl.mk a0.YZ (K4 a0) a0.Mark)
def zW (a0 : ZD) (a1 : Int) : Nat -> Nat -> Sum Int Unit
  | 0, _ => .inr ()
  | n1 + 1, J => (bif (decide ((J : Int) < (a0.ZF.length : Int))) then (bif ((nth a0.ZF J).Id == a1) then (.inl (J : Int)) else zW a0 a1 n1 (J + 1)) else (.inr ()))
def ZM (a0 : ZD) (a1 : Int) : Int := (match zW a0 a1 (a0.ZF.length + 1) 0 with | .inl r1 => r1 | .inr _ => (-1))
def Qp (a0 : Int) : Bool := (ZO a0 0 10000)
def qP (a0 : List Int) (a1 : List Int) : Nat -> Nat -> Sum Bool Unit
  | 0, _ => .inr ()
  | n1 + 1, J => (bif (decide ((J : Int) < (a0.length : Int))) then (bif ((nth a0 J) != (nth a1 J)) then (.inl false) else qP a0 a1 n1 (J + 1)) else (.inr ()))
def jw (a0 : List Int) (a1 : List Int) : Bool := (bif ((a0.length : Int) != (a1.length : Int)) then false else (match qP a0 a1 (a0.length + 1) 0 with | .inl r1 => r1 | .inr _ => true))
def yC (a0 : Zl) (a1 : Zl) : Bool := (((a0.Key == a1.Key) && (a0.Mark == a1.Mark)) && (jw a0.QP a1.QP))
def jN (a0 : List Zl) (a1 : Zl) : Nat -> Nat -> Sum Bool Unit
  | 0, _ => .inr ()
  | n1 + 1, J => (bif (decide ((J : Int) < (a0.length : Int))) then (bif (yC (nth a0 J) a1) then (.inl true) else jN a0 a1 n1 (J + 1)) else (.inr ()))
def W0 (a0 : List Zl) (a1 : Zl) : Bool := (match jN a0 a1 (a0.length + 1) 0 with | .inl r1 => r1 | .inr _ => false)
def yv (a0 : Zf) : Nat -> Nat -> Sum Bool Unit
  | 0, _ => .inr ()
  | n2 + 1, wR => (bif (decide ((wR : Int) < (a0.Zn.length : Int))) then (bif ((!(ZO (nth a0.Zn wR).Count 1 (a0.Zp.length : Int))) || ((decide ((wR : Int) > 0)) && (decide ((nth a0.Zn wR).Count < (nth a0.Zn (wR - 1)).Count)))) then (.inl false) else yv a0 n2 (wR + 1)) else (.inr ()))
def yo (a0 : Zf) : Nat -> Nat -> Sum Bool Unit
  | 0, _ => .inr ()
  | n1 + 1, J => (bif (decide ((J : Int) < (a0.Zp.length : Int))) then (bif (W0 (a0.Zp.take J) (nth a0.Zp J)) then (.inl false) else yo a0 n1 (J + 1)) else (.inr ()))
def Xv (a0 : Zf) : Bool := (bif ((!(ZO (a0.Zp.length : Int) 1 12)) || (decide ((a0.Zn.length : Int) > 8))) then false else (match yo a0 (a0.Zp.length + 1) 0 with | .inl r1 => r1 | .inr _ => (match yv a0 (a0.Zn.length + 1) 0 with | .inl r2 => r2 | .inr _ => true)))
def Q8 (a0 : ZS) : Bool := (((((ZO a0.Id 1 999) && (Qp a0.YQ)) && (Ki a0.Doc)) && (Xv a0.Zc)) && (yC (nth a0.Zc.Zp 0) (X4 a0.Sig)))
def yD (a0 : ZD) : Nat -> Nat -> Sum Bool Unit
  | 0, _ => .inr ()
  | n1 + 1, J => (bif (decide ((J : Int) < (a0.ZF.length : Int))) then (bif ((!(Q8 (nth a0.ZF J))) || ((decide ((J : Int) > 0)) && (decide ((nth a0.ZF (J - 1)).Id >= (nth a0.ZF J).Id)))) then (.inl false) else yD a0 n1 (J + 1)) else (.inr ()))
def Zz (a0 : ZD) : Bool := (match yD a0 (a0.ZF.length + 1) 0 with | .inl r1 => r1 | .inr _ => ((ZO a0.Id 0 99) && (decide ((a0.ZF.length : Int) <= 8))))
def yN (a0 : ZD) (a1 : ZS) : Nat -> Nat -> Nat
  | 0, _ => default
  | n1 + 1, J => (bif ((decide ((J : Int) < (a0.ZF.length : Int))) && (decide ((nth a0.ZF J).Id < a1.Id))) then yN a0 a1 n1 (J + 1) else (J))
def Z0 (a0 : ZD) (a1 : ZS) : ZD × Bool := (bif ((decide ((ZM a0 a1.Id) >= 0)) || (!(Zz a0))) then (a0, false) else (match yN a0 a1 (a0.ZF.length + 1) 0 with | wQ => (bif (!(Zz (ZD.mk a0.Id (((a0.ZF.take wQ) ++ ([a1] : List ZS)) ++ (a0.ZF.drop wQ))))) then (a0, false) else ((ZD.mk a0.Id (((a0.ZF.take wQ) ++ ([a1] : List ZS)) ++ (a0.ZF.drop wQ))), true))))
def Y3 (a0 : ZE) (a1 : Int) (a2 : Int) (a3 : ZP) (a4 : Int) (a5 : Int) : Nat -> Nat -> Sum (ZE × Bool) Unit
  | 0, _ => .inr ()
  | n1 + 1, J => (bif (decide ((J : Int) < (a0.Zb.length : Int))) then (bif ((nth a0.Zb J).Key != a2) then Y3 a0 a1 a2 a3 a4 a5 n1 (J + 1) else (bif ((!(YU a0.Frame.Z9 (Zr.mk a2 (nth a0.Zb J).YD (ZJ a0.Frame.Methods a0.Frame.Now) (YH (ZJ a0.Frame.Methods a0.Frame.Now) a3) 1 a4 0 0 0)).2) || (!(Z0 (nth a0.ZA a1.toNat) (ZS.mk a0.Next a5 a3 (YU a0.Frame.Z9 (Zr.mk a2 (nth a0.Zb J).YD (ZJ a0.Frame.Methods a0.Frame.Now) (YH (ZJ a0.Frame.Methods a0.Frame.Now) a3) 1 a4 0 0 0)).1 (Zf.mk ([(X4 (YU a0.Frame.Z9 (Zr.mk a2 (nth a0.Zb J).YD (ZJ a0.Frame.Methods a0.Frame.Now) (YH (ZJ a0.Frame.Methods a0.Frame.Now) a3) 1 a4 0 0 0)).1), (Qg (nth a0.Zb J))] : List Zl) ([] : List Za)))).2)) then (.inl (a0, false)) else (.inl ((ZE.mk a0.Frame a0.Zb a0.YC (a0.ZA.set a1.toNat (Z0 (nth a0.ZA a1.toNat) (ZS.mk a0.Next a5 a3 (YU a0.Frame.Z9 (Zr.mk a2 (nth a0.Zb J).YD (ZJ a0.Frame.Methods a0.Frame.Now) (YH (ZJ a0.Frame.Methods a0.Frame.Now) a3) 1 a4 0 0 0)).1 (Zf.mk ([(X4 (YU a0.Frame.Z9 (Zr.mk a2 (nth a0.Zb J).YD (ZJ a0.Frame.Methods a0.Frame.Now) (YH (ZJ a0.Frame.Methods a0.Frame.Now) a3) 1 a4 0 0 0)).1), (Qg (nth a0.Zb J))] : List Zl) ([] : List Za)))).1) a0.YP a0.YN (W (a0.Next + 1)) a0.YE), true)))) else (.inr ()))
def YF (a0 : ZE) (a1 : Int) (a2 : Int) (a3 : ZP) (a4 : Int) (a5 : Int) : ZE × Bool := (bif (((!(Z1 a0 a1)) || (decide ((YM a0.Frame.Z9 a2) < 0))) || (decide ((ZJ a0.Frame.Methods a0.Frame.Now) < 0))) then (a0, false) else (match Y3 a0 a1 a2 a3 a4 a5 (a0.Zb.length + 1) 0 with | .inl r1 => r1 | .inr _ => (a0, false)))
def Xu (a0 : ZE) (a1 : Int) (a2 : Int) (a3 : ZP) (a4 : Int) (a5 : Int) : ZE × Bool := (bif ((decide ((YM a0.Frame.Z9 a2) < 0)) || (decide ((nth a0.Frame.Z9 (YM a0.Frame.Z9 a2).toNat).NU > a0.Frame.Now))) then (a0, false) else ((YF a0 a1 a2 a3 a4 a5).1, (YF a0 a1 a2 a3 a4 a5).2))
def zw (a0 : ZE) (a1 : Int) : Nat -> Nat -> Sum (Int × Int) Unit
  | 0, _ => .inr ()
  | n1 + 1, J => (bif (decide ((J : Int) < (a0.ZA.length : Int))) then (bif (decide ((ZM (nth a0.ZA J) a1) >= 0)) then (.inl ((J : Int), (ZM (nth a0.ZA J) a1))) else zw a0 a1 n1 (J + 1)) else (.inr ()))
def ZK (a0 : ZE) (a1 : Int) : Int × Int := (match zw a0 a1 (a0.ZA.length + 1) 0 with | .inl r1 => r1 | .inr _ => ((-1), (-1)))
def Xt (a0 : Zl) : Int := (bif ((((a0.QP.length : Int) == 0) || (!(ZO (nth a0.QP 0) 101 105))) || ((a0.QP.length : Int) != (nth ([7, 5, 5, 9, 6] : List Int) (W ((nth a0.QP 0) - 101)).toNat))) then 0 else (nth a0.QP 0))
def KV (a0 : Zl) : Ym × Bool := (bif (((Xt a0) != 101) || ((nth a0.QP 6) != a0.Key)) then ((Ym.mk 0 0 0 0 0 0 0), false) else ((Ym.mk (nth a0.QP 1) (nth a0.QP 2) (nth a0.QP 3) (nth a0.QP 4) (nth a0.QP 5) (nth a0.QP 6) a0.Mark), true))
def yk (a0 : List Ym) (a1 : Int) : Nat -> Nat -> Sum Int Unit
  | 0, _ => .inr ()
  | n1 + 1, J => (bif (decide ((J : Int) < (a0.length : Int))) then (bif ((nth a0 J).YD == a1) then (.inl (J : Int)) else yk a0 a1 n1 (J + 1)) else (.inr ()))
def K2 (a0 : List Ym) (a1 : Int) : Int := (match yk a0 a1 (a0.length + 1) 0 with | .inl r1 => r1 | .inr _ => (-1))
def Zi (a0 : ZE) (a1 : Int) : Int × Int × Bool := (bif ((decide ((ZK a0 a1).1 < 0)) || (decide (((nth (nth a0.ZA (ZK a0 a1).1.toNat).ZF (ZK a0 a1).2.toNat).Zc.Zp.length : Int) < 2))) then (0, 0, false) else ((ZK a0 a1).1, (K2 a0.Zb (KV (nth (nth (nth a0.ZA (ZK a0 a1).1.toNat).ZF (ZK a0 a1).2.toNat).Zc.Zp 1)).1.YD), ((KV (nth (nth (nth a0.ZA (ZK a0 a1).1.toNat).ZF (ZK a0 a1).2.toNat).Zc.Zp 1)).2 && (decide ((K2 a0.Zb (KV (nth (nth (nth a0.ZA (ZK a0 a1).1.toNat).ZF (ZK a0 a1).2.toNat).Zc.Zp 1)).1.YD) >= 0)))))
def QZ (a0 : Yb) : List Int := ([102, a0.YD, a0.NW, a0.YC, a0.YZ] : List Int)
def W6 (a0 : Yb) : Bool := ((((ZO a0.YD 1 999) && (Qp a0.NW)) && (ZO a0.YC (-1) (W (a0.NW + 1)))) && (ZO a0.YZ 1 99))
def Y5 (a0 : List Yq) (a1 : Yb) : Yb × Bool := (bif ((!(W6 a1)) || (!(Q9 a0 a1.YZ (QZ a1)).2)) then ((Yb.mk 0 0 0 0 0), false) else ((Yb.mk a1.YD a1.NW a1.YC a1.YZ (Q9 a0 a1.YZ (QZ a1)).1), true))
def XJ (a0 : Yb) : Zl := (Zl.mk a0.YZ (QZ a0) a0.Mark)
def X8 (a0 : Zf) (a1 : Zl) : Zf × Bool := (bif (!(Xv (Zf.mk (a0.Zp ++ ([a1] : List Zl)) a0.Zn))) then (a0, false) else ((Zf.mk (a0.Zp ++ ([a1] : List Zl)) a0.Zn), true))
def Xq (a0 : ZD) (a1 : Int) (a2 : Zl) : ZD × Bool := (bif (decide ((ZM a0 a1) < 0)) then (a0, false) else ((ZD.mk a0.Id (a0.ZF.set (ZM a0 a1).toNat (ZS.mk (nth a0.ZF (ZM a0 a1).toNat).Id (nth a0.ZF (ZM a0 a1).toNat).YQ (nth a0.ZF (ZM a0 a1).toNat).Doc (nth a0.ZF (ZM a0 a1).toNat).Sig (X8 (nth a0.ZF (ZM a0 a1).toNat).Zc a2).1))), (X8 (nth a0.ZF (ZM a0 a1).toNat).Zc a2).2))
def XU (a0 : ZE) (a1 : Int) (a2 : Int) (a3 : Yb) : ZE × Bool := (bif ((!(Y5 a0.Frame.Z9 a3).2) || (!(Xq (nth a0.ZA a1.toNat) a2 (XJ (Y5 a0.Frame.Z9 a3).1)).2)) then (a0, false) else ((ZE.mk a0.Frame a0.Zb a0.YC (a0.ZA.set a1.toNat (Xq (nth a0.ZA a1.toNat) a2 (XJ (Y5 a0.Frame.Z9 a3).1)).1) a0.YP a0.YN a0.Next a0.YE), true))
def Xf (a0 : ZE) (a1 : Int) : ZE × Bool := (bif ((!(Zi a0 a1).2.2) || (decide ((Zi a0 a1).2.1 >= (a0.YC.length : Int)))) then (a0, false) else (bif ((decide ((YM a0.Frame.Z9 (nth a0.Zb (Zi a0 a1).2.1.toNat).YZ) < 0)) || (decide ((nth a0.Frame.Z9 (YM a0.Frame.Z9 (nth a0.Zb (Zi a0 a1).2.1.toNat).YZ).toNat).NU > a0.Frame.Now))) then (a0, false) else (bif (decide ((nth a0.YC (Zi a0 a1).2.1.toNat) > (W (a0.Frame.Now + 1)))) then ((XU a0 (Zi a0 a1).1 a1 (Yb.mk (nth a0.Zb (Zi a0 a1).2.1.toNat).YD a0.Frame.Now (-1) (nth a0.Zb (Zi a0 a1).2.1.toNat).YZ 0)).1, (XU a0 (Zi a0 a1).1 a1 (Yb.mk (nth a0.Zb (Zi a0 a1).2.1.toNat).YD a0.Frame.Now (-1) (nth a0.Zb (Zi a0 a1).2.1.toNat).YZ 0)).2) else ((XU a0 (Zi a0 a1).1 a1 (Yb.mk (nth a0.Zb (Zi a0 a1).2.1.toNat).YD a0.Frame.Now (nth a0.YC (Zi a0 a1).2.1.toNat) (nth a0.Zb (Zi a0 a1).2.1.toNat).YZ 0)).1, (XU a0 (Zi a0 a1).1 a1 (Yb.mk (nth a0.Zb (Zi a0 a1).2.1.toNat).YD a0.Frame.Now (nth a0.YC (Zi a0 a1).2.1.toNat) (nth a0.Zb (Zi a0 a1).2.1.toNat).YZ 0)).2))))
def XE (a0 : ZE) (a1 : Int) : ZE × Bool := (bif ((!(ZO a1 0 (W ((a0.YC.length : Int) - 1)))) || ((nth a0.YC a1.toNat) != (-1))) then (a0, false) else ((ZE.mk a0.Frame a0.Zb (a0.YC.set a1.toNat (W (a0.Frame.Now + 1))) a0.ZA a0.YP a0.YN a0.Next a0.YE), true))
def yE (a0 : List Int) : Nat -> Nat -> Sum Bool Unit
  | 0, _ => .inr ()
  | n1 + 1, J => (bif (decide ((J : Int) < (a0.length : Int))) then (bif (decide ((nth a0 (J - 1)) >= (nth a0 J))) then (.inl false) else yE a0 n1 (J + 1)) else (.inr ()))
def Xp (a0 : List Int) : Bool := (match yE a0 (a0.length + 1) 1 with | .inl r1 => r1 | .inr _ => true)
def X5 (a0 : ZQ) : List Int := ([103, a0.Authority, a0.Seq, a0.Time, a0.XL] : List Int)
def zb (a1 : Za) : Nat -> List Int -> Nat -> (List Int)
  | 0, _, _ => default
  | n2 + 1, wR, wT => (bif (decide ((wT : Int) < (a1.Y7.length : Int))) then zb a1 n2 ((wR ++ (X5 (nth a1.Y7 wT))) ++ ([(nth a1.Y7 wT).Mark] : List Int)) (wT + 1) else (wR))
def KF (a1 : Za) : Nat -> List Int -> Nat -> (List Int)
  | 0, _, _ => default
  | n1 + 1, J, U => (bif (decide ((U : Int) < (a1.Path.length : Int))) then (bif (nth a1.Path U).Left then KF a1 n1 (J ++ ([(nth a1.Path U).XL, 1] : List Int)) (U + 1) else KF a1 n1 (J ++ ([(nth a1.Path U).XL, 0] : List Int)) (U + 1)) else (J))
def J2 (a0 : Int) (a1 : Za) : Int := (match KF a1 (a1.Path.length + 1) ([4, a1.Count, a1.Method, a1.GW] : List Int) 0 with | wQ => (match zb a1 (a1.Y7.length + 1) (wQ ++ ([(a1.Y7.length : Int)] : List Int)) 0 with | z2_0 => (JQ a0 z2_0)))
def zt (a0 : Int) (a1 : List Zl) : Nat -> List Int -> Nat -> (List Int)
  | 0, _, _ => default
  | n1 + 1, J, U => (bif (decide ((U : Int) < (a1.length : Int))) then zt a0 a1 n1 (J ++ ([(JQ a0 (([(nth a1 U).Key, (nth a1 U).Mark] : List Int) ++ (nth a1 U).QP))] : List Int)) (U + 1) else (J))
def JY (a0 : Int) (a1 : List Zl) : Int := (match zt a0 a1 (a1.length + 1) ([2] : List Int) 0 with | wQ => (JQ a0 wQ))
def VY (a0 : Int) (a1 : Int) (a2 : List Zl) (a3 : Int) : Int := (JQ a0 ([3, a1, (JY a0 a2), a3] : List Int))
def QR (a0 : ZS) (a1 : Int) : Int := (bif (decide ((a0.Zc.Zn.length : Int) > 0)) then (VY a1 (YH a1 a0.Doc) a0.Zc.Zp (J2 a1 (nth a0.Zc.Zn (a0.Zc.Zn.length - 1)))) else (VY a1 (YH a1 a0.Doc) a0.Zc.Zp 0))
def yB (a0 : ZD) (a1 : Int) : Nat -> List Int -> Nat -> (List Int)
  | 0, _, _ => default
  | n1 + 1, J, U => (bif (decide ((U : Int) < (a0.ZF.length : Int))) then yB a0 a1 n1 (J ++ ([(QR (nth a0.ZF U) a1)] : List Int)) (U + 1) else (J))
def Y0 (a0 : ZD) (a1 : Int) : List Int := (match yB a0 a1 (a0.ZF.length + 1) ([] : List Int) 0 with | wQ => wQ)
def jB (a0 : Int) (a1 : Int) (a2 : Int) : Int := (JQ a0 ([1, a1, a2] : List Int))
def Qt (a0 : Int) (a1 : List Int) : Nat -> List Int -> Nat -> (List Int)
  | 0, _, _ => default
  | n1 + 1, J, U => (bif (decide ((U : Int) < (a1.length : Int))) then (bif (decide ((W ((U : Int) + 1)) < (a1.length : Int))) then Qt a0 a1 n1 (J ++ ([(jB a0 (nth a1 U) (nth a1 (W ((U : Int) + 1)).toNat))] : List Int)) (U + 2) else Qt a0 a1 n1 (J ++ ([(nth a1 U)] : List Int)) (U + 2)) else (J))
def JH (a0 : Int) (a1 : List Int) : List Int := (match Qt a0 a1 (a1.length + 1) ([] : List Int) 0 with | wQ => wQ)
def jO (a0 : Int) : Nat -> List Int -> (List Int)
  | 0, _ => default
  | n1 + 1, J => (bif (decide ((J.length : Int) > 1)) then jO a0 n1 (JH a0 J) else (J))
def jI (a0 : Int) (a1 : List Int) : Int := (bif (!(ZO (a1.length : Int) 1 16)) then (-1) else (match jO a0 (a1.length + 1) a1 with | wQ => (nth wQ 0)))
def Y1 (a0 : ZD) (a1 : Int) : Int := (jI a1 (Y0 a0 a1))
def KG (a0 : List ZZ) (a1 : Int) : Nat -> Nat -> Sum Int Unit
  | 0, _ => .inr ()
  | n1 + 1, J => (bif (decide ((J : Int) < (a0.length : Int))) then (bif ((nth a0 J).Id == a1) then (.inl (J : Int)) else KG a0 a1 n1 (J + 1)) else (.inr ()))
def ZN (a0 : List ZZ) (a1 : Int) : Int := (match KG a0 a1 (a0.length + 1) 0 with | .inl r1 => r1 | .inr _ => (-1))
def qE (a0 : List Int) (a1 : Int) : Nat -> Nat -> Sum Int Unit
  | 0, _ => .inr ()
  | n1 + 1, J => (bif (decide ((J : Int) < (a0.length : Int))) then (bif ((nth a0 J) == a1) then (.inl (J : Int)) else qE a0 a1 n1 (J + 1)) else (.inr ()))
def kn (a0 : List Int) (a1 : Int) : Int := (match qE a0 a1 (a0.length + 1) 0 with | .inl r1 => r1 | .inr _ => (-1))
def Y6 (a0 : List Int) (a1 : Int) : Bool := (decide ((kn a0 a1) >= 0))
def YW (a0 : List Yq) (a1 : List ZZ) (a2 : ZQ) : ZQ × Bool := (bif (((decide ((ZN a1 a2.Authority) < 0)) || (decide (a2.Seq < 0))) || (!(Qp a2.Time))) then ((ZQ.mk 0 0 0 0 0), false) else (bif (!(Q9 a0 (nth a1 (ZN a1 a2.Authority).toNat).Key (X5 a2)).2) then ((ZQ.mk 0 0 0 0 0), false) else ((ZQ.mk a2.Authority a2.Seq a2.Time a2.XL (Q9 a0 (nth a1 (ZN a1 a2.Authority).toNat).Key (X5 a2)).1), true)))
def Ju (a0 : Int) : Nat -> List Int -> Int -> List JR -> (List JR)
  | 0, _, _, _ => default
  | n1 + 1, J, U, wJ => (bif (decide ((J.length : Int) > 1)) then (bif ((Int.tmod U 2) == 1) then Ju a0 n1 (JH a0 J) (W (Int.tdiv U 2)) (wJ ++ ([(JR.mk (nth J (W (U - 1)).toNat) true)] : List JR)) else (bif (decide ((W (U + 1)) < (J.length : Int))) then Ju a0 n1 (JH a0 J) (W (Int.tdiv U 2)) (wJ ++ ([(JR.mk (nth J (W (U + 1)).toNat) false)] : List JR)) else Ju a0 n1 (JH a0 J) (W (Int.tdiv U 2)) wJ)) else (wJ))
def QA (a0 : Int) (a1 : List Int) (a2 : Int) : List JR := (bif ((!(ZO a2 0 (W ((a1.length : Int) - 1)))) || (decide ((a1.length : Int) > 16))) then ([] : List JR) else (match Ju a0 (a1.length + 1) a1 a2 ([] : List JR) with | wQ => wQ))
def YG (a0 : Zf) (a1 : Za) : Zf × Bool := (bif (!(Xv (Zf.mk a0.Zp (a0.Zn ++ ([a1] : List Za))))) then (a0, false) else ((Zf.mk a0.Zp (a0.Zn ++ ([a1] : List Za))), true))
def Y9 (a0 : ZD) (a1 : Int) (a2 : List ZQ) : Nat -> Nat -> List ZS -> Sum (ZD × Bool) (List ZS)
  | 0, _, _ => .inr default
  | n1 + 1, J, U => (bif (decide ((J : Int) < (a0.ZF.length : Int))) then (bif (!(YG (nth a0.ZF J).Zc (Za.mk ((nth a0.ZF J).Zc.Zp.length : Int) a1 (Y1 a0 a1) (QA a1 (Y0 a0 a1) (J : Int)) a2)).2) then (.inl (a0, false)) else Y9 a0 a1 a2 n1 (J + 1) (U.set J (ZS.mk (nth U J).Id (nth U J).YQ (nth U J).Doc (nth U J).Sig (YG (nth a0.ZF J).Zc (Za.mk ((nth a0.ZF J).Zc.Zp.length : Int) a1 (Y1 a0 a1) (QA a1 (Y0 a0 a1) (J : Int)) a2)).1))) else (.inr U))
def YI (a0 : ZD) (a1 : Int) (a2 : List ZQ) : ZD × Bool := (bif (((a0.ZF.length : Int) == 0) || (!(Zz a0))) then (a0, false) else (match Y9 a0 a1 a2 (a0.ZF.length + 1) 0 a0.ZF with | .inl r1 => r1 | .inr wQ => (bif (!(Zz (ZD.mk a0.Id wQ))) then (a0, false) else ((ZD.mk a0.Id wQ), true))))
def Ys (a0 : ZE) (a1 : Int) (a2 : List Int) (a3 : Int) : Nat -> List ZQ -> Nat -> List Int -> Sum (ZE × Bool) ((List ZQ) × (List Int))
  | 0, _, _, _ => .inr (default, default)
  | n1 + 1, J, U, wJ => (bif (decide ((U : Int) < (a2.length : Int))) then (bif ((decide ((ZN a0.Frame.ZG (nth a2 U)) < 0)) || (decide ((ZN a0.Frame.ZG (nth a2 U)) >= (a0.YP.length : Int)))) then (.inl (a0, false)) else (bif ((decide ((YM a0.Frame.Z9 (nth a0.Frame.ZG (ZN a0.Frame.ZG (nth a2 U)).toNat).Key) < 0)) || (decide ((nth a0.Frame.Z9 (YM a0.Frame.Z9 (nth a0.Frame.ZG (ZN a0.Frame.ZG (nth a2 U)).toNat).Key).toNat).NU > a0.Frame.Now))) then (.inl (a0, false)) else (bif (Y6 a0.YN (nth a2 U)) then (bif (!(YW a0.Frame.Z9 a0.Frame.ZG (ZQ.mk (nth a2 U) (nth a0.YP (ZN a0.Frame.ZG (nth a2 U)).toNat) (if (if (W (a0.Frame.Now + a3)) < 10000 then (W (a0.Frame.Now + a3)) else 10000) > 0 then (if (W (a0.Frame.Now + a3)) < 10000 then (W (a0.Frame.Now + a3)) else 10000) else 0) (Y1 (nth a0.ZA a1.toNat) (ZJ a0.Frame.Methods a0.Frame.Now)) 0)).2) then (.inl (a0, false)) else Ys a0 a1 a2 a3 n1 (J ++ ([(YW a0.Frame.Z9 a0.Frame.ZG (ZQ.mk (nth a2 U) (nth a0.YP (ZN a0.Frame.ZG (nth a2 U)).toNat) (if (if (W (a0.Frame.Now + a3)) < 10000 then (W (a0.Frame.Now + a3)) else 10000) > 0 then (if (W (a0.Frame.Now + a3)) < 10000 then (W (a0.Frame.Now + a3)) else 10000) else 0) (Y1 (nth a0.ZA a1.toNat) (ZJ a0.Frame.Methods a0.Frame.Now)) 0)).1] : List ZQ)) (U + 1) (wJ.set (ZN a0.Frame.ZG (nth a2 U)).toNat (W ((nth wJ (ZN a0.Frame.ZG (nth a2 U)).toNat) + 1)))) else (bif (!(YW a0.Frame.Z9 a0.Frame.ZG (ZQ.mk (nth a2 U) (nth a0.YP (ZN a0.Frame.ZG (nth a2 U)).toNat) a0.Frame.Now (Y1 (nth a0.ZA a1.toNat) (ZJ a0.Frame.Methods a0.Frame.Now)) 0)).2) then (.inl (a0, false)) else Ys a0 a1 a2 a3 n1 (J ++ ([(YW a0.Frame.Z9 a0.Frame.ZG (ZQ.mk (nth a2 U) (nth a0.YP (ZN a0.Frame.ZG (nth a2 U)).toNat) a0.Frame.Now (Y1 (nth a0.ZA a1.toNat) (ZJ a0.Frame.Methods a0.Frame.Now)) 0)).1] : List ZQ)) (U + 1) (wJ.set (ZN a0.Frame.ZG (nth a2 U)).toNat (W ((nth wJ (ZN a0.Frame.ZG (nth a2 U)).toNat) + 1))))))) else (.inr (J, wJ)))
def XG (a0 : ZE) (a1 : Int) (a2 : List Int) (a3 : Int) : ZE × Bool := (bif (((((!(Z1 a0 a1)) || (decide ((ZJ a0.Frame.Methods a0.Frame.Now) < 0))) || (!(Xp a2))) || ((a2.length : Int) == 0)) || (!(ZO a3 (-10000) 10000))) then (a0, false) else (match Ys a0 a1 a2 a3 (a2.length + 1) ([] : List ZQ) 0 a0.YP with | .inl r1 => r1 | .inr (wQ, z1_1) => (bif (!(YI (nth a0.ZA a1.toNat) (ZJ a0.Frame.Methods a0.Frame.Now) wQ).2) then (a0, false) else ((ZE.mk a0.Frame a0.Zb a0.YC (a0.ZA.set a1.toNat (YI (nth a0.ZA a1.toNat) (ZJ a0.Frame.Methods a0.Frame.Now) wQ).1) z1_1 a0.YN a0.Next a0.YE), true))))
def xa (a0 : Int) (a1 : ZS) : Nat -> List Int -> Nat -> (List Int)
  | 0, _, _ => default
  | n1 + 1, J, U => (bif (decide ((U : Int) < (a1.Zc.Zn.length : Int))) then xa a0 a1 n1 (J ++ ([(J2 a0 (nth a1.Zc.Zn U))] : List Int)) (U + 1) else (J))
def jD (a0 : Int) (a1 : ZS) : Int := (match xa a0 a1 (a1.Zc.Zn.length + 1) ([5, a1.Id, a1.YQ, (YH a0 a1.Doc), (JY a0 a1.Zc.Zp)] : List Int) 0 with | wQ => (JQ a0 wQ))
def zf (a0 : Int) (a1 : List ZS) : Nat -> List Int -> Nat -> (List Int)
  | 0, _, _ => default
  | n1 + 1, J, U => (bif (decide ((U : Int) < (a1.length : Int))) then zf a0 a1 n1 (J ++ ([(jD a0 (nth a1 U))] : List Int)) (U + 1) else (J))
def Xh (a0 : Int) (a1 : List ZS) : Int := (match zf a0 a1 (a1.length + 1) ([] : List Int) 0 with | wQ => (jI a0 wQ))
def XX (a0 : ZD) (a2 : List Int) : Nat -> Nat -> List ZS -> Sum (Yg × Bool) (List ZS)
  | 0, _, _ => .inr default
  | n1 + 1, J, U => (bif (decide ((J : Int) < (a2.length : Int))) then (bif (decide ((ZM a0 (nth a2 J)) < 0)) then (.inl ((Yg.mk 0 0 ([] : List ZS) 0), false)) else XX a0 a2 n1 (J + 1) (U ++ ([(nth a0.ZF (ZM a0 (nth a2 J)).toNat)] : List ZS))) else (.inr U))
def YV (a0 : ZD) (a1 : Int) (a2 : List Int) (a3 : Int) : Yg × Bool := (match XX a0 a2 (a2.length + 1) 0 ([] : List ZS) with | .inl r1 => r1 | .inr wQ => (bif ((a2.length : Int) == 0) then ((Yg.mk 0 0 ([] : List ZS) 0), false) else ((Yg.mk a0.Id a1 wQ (Xh a3 wQ)), true)))
def Q4 (a0 : Yg) : Nat -> Nat -> Sum Bool Unit
  | 0, _ => .inr ()
  | n1 + 1, J => (bif (decide ((J : Int) < (a0.ZF.length : Int))) then (bif (!(Q8 (nth a0.ZF J))) then (.inl false) else Q4 a0 n1 (J + 1)) else (.inr ()))
def J9 (a0 : Yg) (a1 : Int) : Bool := (match Q4 a0 (a0.ZF.length + 1) 0 with | .inl r1 => r1 | .inr _ => ((ZO (a0.ZF.length : Int) 1 8) && (a0.XL == (Xh a1 a0.ZF))))
def XP (a0 : ZD) (a1 : Yg) : Nat -> Nat -> Int -> List ZS -> Sum (ZD × Bool) (Int × (List ZS))
  | 0, _, _, _ => .inr (default, default)
  | n1 + 1, J, U, wJ => (bif (decide ((J : Int) < (a1.ZF.length : Int))) then (bif (!(Z0 (ZD.mk U wJ) (nth a1.ZF J)).2) then (.inl (a0, false)) else XP a0 a1 n1 (J + 1) (Z0 (ZD.mk U wJ) (nth a1.ZF J)).1.Id (Z0 (ZD.mk U wJ) (nth a1.ZF J)).1.ZF) else (.inr (U, wJ)))
def Yd (a0 : ZD) (a1 : Yg) (a2 : Int) : ZD × Bool := (bif ((!(J9 a1 a2)) || (a1.To != a0.Id)) then (a0, false) else (match XP a0 a1 (a1.ZF.length + 1) 0 a0.Id a0.ZF with | .inl r1 => r1 | .inr (wQ, z1_1) => ((ZD.mk wQ z1_1), true)))
def XT (a0 : ZD) (a1 : Int) : ZD × Bool := (bif (decide ((ZM a0 a1) < 0)) then (a0, false) else ((ZD.mk a0.Id (a0.ZF.take (ZM a0 a1).toNat ++ (a0.ZF.drop (W ((ZM a0 a1) + 1)).toNat))), true))
def QH (a0 : ZD) (a1 : ZD) (a2 : List Int) : Nat -> Nat -> Int -> List ZS -> Sum (ZD × ZD × Bool) (Int × (List ZS))
  | 0, _, _, _ => .inr (default, default)
  | n1 + 1, J, U, wJ => (bif (decide ((J : Int) < (a2.length : Int))) then (bif (!(XT (ZD.mk U wJ) (nth a2 J)).2) then (.inl (a0, a1, false)) else QH a0 a1 a2 n1 (J + 1) (XT (ZD.mk U wJ) (nth a2 J)).1.Id (XT (ZD.mk U wJ) (nth a2 J)).1.ZF) else (.inr (U, wJ)))
def YO (a0 : ZD) (a1 : ZD) (a2 : List Int) (a3 : Int) : ZD × ZD × Bool := (bif ((!(YV a0 a1.Id a2 a3).2) || (!(Yd a1 (YV a0 a1.Id a2 a3).1 a3).2)) then (a0, a1, false) else (match QH a0 a1 a2 (a2.length + 1) 0 a0.Id a0.ZF with | .inl r1 => r1 | .inr (wQ, z1_1) => ((ZD.mk wQ z1_1), (Yd a1 (YV a0 a1.Id a2 a3).1 a3).1, true)))
def QV (a0 : ZE) (a1 : Int) (a2 : Int) (a3 : Int) : ZE × Bool := (bif ((((!(Z1 a0 a1)) || (!(Z1 a0 a2))) || (a1 == a2)) || (decide ((ZJ a0.Frame.Methods a0.Frame.Now) < 0))) then (a0, false) else (bif (YO (nth a0.ZA a1.toNat) (nth a0.ZA a2.toNat) ([a3] : List Int) (ZJ a0.Frame.Methods a0.Frame.Now)).2.2 then ((ZE.mk a0.Frame a0.Zb a0.YC ((a0.ZA.set a1.toNat (YO (nth a0.ZA a1.toNat) (nth a0.ZA a2.toNat) ([a3] : List Int) (ZJ a0.Frame.Methods a0.Frame.Now)).1).set a2.toNat (YO (nth a0.ZA a1.toNat) (nth a0.ZA a2.toNat) ([a3] : List Int) (ZJ a0.Frame.Methods a0.Frame.Now)).2.1) a0.YP a0.YN a0.Next a0.YE), (YO (nth a0.ZA a1.toNat) (nth a0.ZA a2.toNat) ([a3] : List Int) (ZJ a0.Frame.Methods a0.Frame.Now)).2.2) else (a0, (YO (nth a0.ZA a1.toNat) (nth a0.ZA a2.toNat) ([a3] : List Int) (ZJ a0.Frame.Methods a0.Frame.Now)).2.2)))
def Xc (a0 : ZD) (a1 : Int) : Nat -> Nat -> List ZS -> (List ZS)
  | 0, _, _ => default
  | n1 + 1, J, U => (bif (decide ((J : Int) < (a0.ZF.length : Int))) then (bif (decide ((nth a0.ZF J).YQ >= a1)) then Xc a0 a1 n1 (J + 1) (U ++ ([(nth a0.ZF J)] : List ZS)) else Xc a0 a1 n1 (J + 1) U) else (U))
def Q7 (a0 : ZD) (a1 : Int) : ZD × Int := (match Xc a0 a1 (a0.ZF.length + 1) 0 ([] : List ZS) with | wQ => ((ZD.mk a0.Id wQ), (W ((a0.ZF.length : Int) - (wQ.length : Int)))))
def Xi (a0 : ZE) (a1 : Int) : ZE × Bool := (bif (!(Z1 a0 a1)) then (a0, false) else ((ZE.mk a0.Frame a0.Zb a0.YC (a0.ZA.set a1.toNat (Q7 (nth a0.ZA a1.toNat) a0.Frame.Now).1) a0.YP a0.YN a0.Next a0.YE), true))
def zI (a0 : List YJ) (a1 : Int) : Nat -> Nat -> Sum Int Unit
  | 0, _ => .inr ()
  | n1 + 1, J => (bif (decide ((J : Int) < (a0.length : Int))) then (bif ((nth a0 J).Id == a1) then (.inl (J : Int)) else zI a0 a1 n1 (J + 1)) else (.inr ()))
def Kl (a0 : List YJ) (a1 : Int) : Int := (match zI a0 a1 (a0.length + 1) 0 with | .inl r1 => r1 | .inr _ => (-1))
def Uh (a0 : List YJ) (a1 : Int) : Int := (bif (decide ((Kl a0 a1) >= 0)) then (nth a0 (Kl a0 a1).toNat).T4 else 0)
def jC (a0 : Z2) (a1 : Int) : Int := (bif (decide ((YM a0.Z9 a1) < 0)) then 0 else (Uh a0.Methods (nth a0.Z9 (YM a0.Z9 a1).toNat).Method))
def zq (a0 : Z2) (a1 : Int) : Bool := ((decide ((YM a0.Z9 a1) >= 0)) && (decide (a0.Now >= (jC a0 a1))))
def X3 (a0 : ZE) (a1 : Int) (a2 : Int) (a3 : ZP) : ZE × Bool := (bif (!(zq a0.Frame a2)) then (a0, false) else (bif (YF a0 a1 a2 a3 0 10000).2 then ((ZE.mk (YF a0 a1 a2 a3 0 10000).1.Frame (YF a0 a1 a2 a3 0 10000).1.Zb (YF a0 a1 a2 a3 0 10000).1.YC (YF a0 a1 a2 a3 0 10000).1.ZA (YF a0 a1 a2 a3 0 10000).1.YP (YF a0 a1 a2 a3 0 10000).1.YN (YF a0 a1 a2 a3 0 10000).1.Next ((YF a0 a1 a2 a3 0 10000).1.YE ++ ([a0.Next] : List Int))), (YF a0 a1 a2 a3 0 10000).2) else ((YF a0 a1 a2 a3 0 10000).1, (YF a0 a1 a2 a3 0 10000).2)))
def QJ (a0 : ZE) : Nat -> List Int -> Nat -> (List Int)
  | 0, _, _ => default
  | n1 + 1, J, U => (bif (decide ((U : Int) < (a0.Frame.ZG.length : Int))) then (bif ((Y6 a0.YN (nth a0.Frame.ZG U).Id) || (zq a0.Frame (nth a0.Frame.ZG U).Key)) then QJ a0 n1 (J ++ ([(nth a0.Frame.ZG U).Id] : List Int)) (U + 1) else QJ a0 n1 J (U + 1)) else (J))
def ZY (a0 : ZE) : List Int := (match QJ a0 (a0.Frame.ZG.length + 1) ([] : List Int) 0 with | wQ => wQ)
def Yo (a0 : ZE) (a1 : Int) (a2 : Int) : Nat -> Nat -> List ZQ -> Sum (ZE × Bool) (List ZQ)
  | 0, _, _ => .inr default
  | n1 + 1, J, U => (bif (decide ((J : Int) < ((ZY a0).length : Int))) then (bif (!(YW a0.Frame.Z9 a0.Frame.ZG (ZQ.mk (nth (ZY a0) J) 0 a2 (QR (nth (nth a0.ZA (ZK a0 a1).1.toNat).ZF (ZK a0 a1).2.toNat) (ZJ a0.Frame.Methods a0.Frame.Now)) 0)).2) then (.inl (a0, false)) else Yo a0 a1 a2 n1 (J + 1) (U ++ ([(YW a0.Frame.Z9 a0.Frame.ZG (ZQ.mk (nth (ZY a0) J) 0 a2 (QR (nth (nth a0.ZA (ZK a0 a1).1.toNat).ZF (ZK a0 a1).2.toNat) (ZJ a0.Frame.Methods a0.Frame.Now)) 0)).1] : List ZQ))) else (.inr U))
def Y8 (a0 : ZE) (a1 : Int) (a2 : Int) : ZE × Bool := (bif ((((!(Y6 a0.YE a1)) || (decide ((ZK a0 a1).1 < 0))) || (decide ((ZJ a0.Frame.Methods a0.Frame.Now) < 0))) || (((ZY a0).length : Int) == 0)) then (a0, false) else (match Yo a0 a1 a2 ((ZY a0).length + 1) 0 ([] : List ZQ) with | .inl r1 => r1 | .inr wQ => ((ZE.mk a0.Frame a0.Zb a0.YC (a0.ZA.set (ZK a0 a1).1.toNat (ZD.mk (nth a0.ZA (ZK a0 a1).1.toNat).Id ((nth a0.ZA (ZK a0 a1).1.toNat).ZF.set (ZK a0 a1).2.toNat (ZS.mk (nth (nth a0.ZA (ZK a0 a1).1.toNat).ZF (ZK a0 a1).2.toNat).Id (nth (nth a0.ZA (ZK a0 a1).1.toNat).ZF (ZK a0 a1).2.toNat).YQ (nth (nth a0.ZA (ZK a0 a1).1.toNat).ZF (ZK a0 a1).2.toNat).Doc (nth (nth a0.ZA (ZK a0 a1).1.toNat).ZF (ZK a0 a1).2.toNat).Sig (YG (nth (nth a0.ZA (ZK a0 a1).1.toNat).ZF (ZK a0 a1).2.toNat).Zc (Za.mk ((nth (nth a0.ZA (ZK a0 a1).1.toNat).ZF (ZK a0 a1).2.toNat).Zc.Zp.length : Int) (ZJ a0.Frame.Methods a0.Frame.Now) (QR (nth (nth a0.ZA (ZK a0 a1).1.toNat).ZF (ZK a0 a1).2.toNat) (ZJ a0.Frame.Methods a0.Frame.Now)) ([] : List JR) wQ)).1)))) a0.YP a0.YN a0.Next a0.YE), (YG (nth (nth a0.ZA (ZK a0 a1).1.toNat).ZF (ZK a0 a1).2.toNat).Zc (Za.mk ((nth (nth a0.ZA (ZK a0 a1).1.toNat).ZF (ZK a0 a1).2.toNat).Zc.Zp.length : Int) (ZJ a0.Frame.Methods a0.Frame.Now) (QR (nth (nth a0.ZA (ZK a0 a1).1.toNat).ZF (ZK a0 a1).2.toNat) (ZJ a0.Frame.Methods a0.Frame.Now)) ([] : List JR) wQ)).2)))
def JK (a0 : ZE) (a1 : Int) (a2 : Int) : ZE × Bool := (bif ((!(Zi a0 a1).2.2) || (!(zq a0.Frame (nth a0.Zb (Zi a0 a1).2.1.toNat).YZ))) then (a0, false) else ((XU a0 (Zi a0 a1).1 a1 (Yb.mk (nth a0.Zb (Zi a0 a1).2.1.toNat).YD a2 (-1) (nth a0.Zb (Zi a0 a1).2.1.toNat).YZ 0)).1, (XU a0 (Zi a0 a1).1 a1 (Yb.mk (nth a0.Zb (Zi a0 a1).2.1.toNat).YD a2 (-1) (nth a0.Zb (Zi a0 a1).2.1.toNat).YZ 0)).2))
def Z6 (a0 : ZE) (a1 : ZR) : ZE × Bool := (bif (a1.Kind == 1) then ((QS a0 a1.A).1, (QS a0 a1.A).2) else (bif (a1.Kind == 2) then ((Xu a0 a1.A a1.B a1.Doc a1.C a1.D).1, (Xu a0 a1.A a1.B a1.Doc a1.C a1.D).2) else (bif (a1.Kind == 3) then ((Xf a0 a1.A).1, (Xf a0 a1.A).2) else (bif (a1.Kind == 4) then ((XE a0 a1.A).1, (XE a0 a1.A).2) else (bif (a1.Kind == 5) then ((XG a0 a1.A a1.Ids a1.B).1, (XG a0 a1.A a1.Ids a1.B).2) else (bif (a1.Kind == 6) then ((QV a0 a1.A a1.B a1.C).1, (QV a0 a1.A a1.B a1.C).2) else (bif (a1.Kind == 7) then ((Xi a0 a1.A).1, (Xi a0 a1.A).2) else (bif (a1.Kind == 8) then ((X3 a0 a1.A a1.B a1.Doc).1, (X3 a0 a1.A a1.B a1.Doc).2) else (bif (a1.Kind == 9) then ((Y8 a0 a1.A a1.B).1, (Y8 a0 a1.A a1.B).2) else (bif (a1.Kind == 10) then ((JK a0 a1.A a1.B).1, (JK a0 a1.A a1.B).2) else (a0, false)))))))))))
def QD (a1 : List ZR) : Nat -> Nat -> List Yq -> List ZZ -> List YJ -> Int -> Int -> List Ym -> List Int -> List ZD -> List Int -> List Int -> Int -> List Int -> (List Yq) × (List ZZ) × (List YJ) × Int × Int × (List Ym) × (List Int) × (List ZD) × (List Int) × (List Int) × Int × (List Int)
  | 0, _, _, _, _, _, _, _, _, _, _, _, _, _ => (default, default, default, default, default, default, default, default, default, default, default, default)
  | n1 + 1, J, U, wJ, wx, wy, vx, vn, vo, vp, vq, vC, vI, vD => (bif (decide ((J : Int) < (a1.length : Int))) then QD a1 n1 (J + 1) (Z6 (ZE.mk (Z2.mk U wJ wx wy vx) vn vo vp vq vC vI vD) (nth a1 J)).1.Frame.Z9 (Z6 (ZE.mk (Z2.mk U wJ wx wy vx) vn vo vp vq vC vI vD) (nth a1 J)).1.Frame.ZG (Z6 (ZE.mk (Z2.mk U wJ wx wy vx) vn vo vp vq vC vI vD) (nth a1 J)).1.Frame.Methods (Z6 (ZE.mk (Z2.mk U wJ wx wy vx) vn vo vp vq vC vI vD) (nth a1 J)).1.Frame.zm (Z6 (ZE.mk (Z2.mk U wJ wx wy vx) vn vo vp vq vC vI vD) (nth a1 J)).1.Frame.Now (Z6 (ZE.mk (Z2.mk U wJ wx wy vx) vn vo vp vq vC vI vD) (nth a1 J)).1.Zb (Z6 (ZE.mk (Z2.mk U wJ wx wy vx) vn vo vp vq vC vI vD) (nth a1 J)).1.YC (Z6 (ZE.mk (Z2.mk U wJ wx wy vx) vn vo vp vq vC vI vD) (nth a1 J)).1.ZA (Z6 (ZE.mk (Z2.mk U wJ wx wy vx) vn vo vp vq vC vI vD) (nth a1 J)).1.YP (Z6 (ZE.mk (Z2.mk U wJ wx wy vx) vn vo vp vq vC vI vD) (nth a1 J)).1.YN (Z6 (ZE.mk (Z2.mk U wJ wx wy vx) vn vo vp vq vC vI vD) (nth a1 J)).1.Next (Z6 (ZE.mk (Z2.mk U wJ wx wy vx) vn vo vp vq vC vI vD) (nth a1 J)).1.YE else ((U, wJ, wx, wy, vx, vn, vo, vp, vq, vC, vI, vD)))
def ZU (a0 : ZE) (a1 : List ZR) : ZE := (match QD a1 (a1.length + 1) 0 a0.Frame.Z9 a0.Frame.ZG a0.Frame.Methods a0.Frame.zm a0.Frame.Now a0.Zb a0.YC a0.ZA a0.YP a0.YN a0.Next a0.YE with | (wQ, z1_1, z1_2, z1_3, z1_4, z1_5, z1_6, z1_7, z1_8, z1_9, z1_10, z1_11) => (ZE.mk (Z2.mk wQ z1_1 z1_2 z1_3 z1_4) z1_5 z1_6 z1_7 z1_8 z1_9 z1_10 z1_11))
def xk (a0 : ZE) : Nat -> List ZS -> Nat -> (List ZS)
  | 0, _, _ => default
  | n1 + 1, J, U => (bif (decide ((U : Int) < (a0.ZA.length : Int))) then xk a0 n1 (J ++ (nth a0.ZA U).ZF) (U + 1) else (J))
def XN (a0 : ZE) : List ZS := (match xk a0 (a0.ZA.length + 1) ([] : List ZS) 0 with | wQ => wQ)
def QT (a0 : List ZQ) (J : Nat) (U : List ZQ) : Nat -> Bool -> Nat -> Bool
  | 0, _, _ => default
  | n2 + 1, wR, wT => (bif (decide ((wT : Int) < (U.length : Int))) then QT a0 J U n2 (wR || (((nth U wT).Authority == (nth a0 J).Authority) && (((nth U wT).Seq == (nth a0 J).Seq) && (((nth U wT).Time == (nth a0 J).Time) && (((nth U wT).XL == (nth a0 J).XL) && ((nth U wT).Mark == (nth a0 J).Mark)))))) (wT + 1) else (wR))
def Yn (a0 : List ZQ) : Nat -> Nat -> List ZQ -> (List ZQ)
  | 0, _, _ => default
  | n1 + 1, J, U => (bif (decide ((J : Int) < (a0.length : Int))) then (match QT a0 J U (U.length + 1) false 0 with | z2_0 => (bif (!z2_0) then Yn a0 n1 (J + 1) (U ++ ([(nth a0 J)] : List ZQ)) else Yn a0 n1 (J + 1) U)) else (U))
def Qk (a0 : List ZQ) (a1 : List ZQ) : List ZQ := (match Yn a0 (a0.length + 1) 0 a1 with | wQ => wQ)
def Qe (a0 : Z8) (J : Nat) : Nat -> Nat -> List ZQ -> (List ZQ)
  | 0, _, _ => default
  | n2 + 1, wR, wT => (bif (decide ((wR : Int) < ((nth a0.Zt J).Zn.length : Int))) then Qe a0 J n2 (wR + 1) (Qk (nth (nth a0.Zt J).Zn wR).Y7 wT) else (wT))
def Js (a0 : Z8) : Nat -> Nat -> List ZQ -> (List ZQ)
  | 0, _, _ => default
  | n3 + 1, vA, w9 => (bif (decide ((vA : Int) < (a0.J5.length : Int))) then Js a0 n3 (vA + 1) (Qk (nth a0.J5 vA) w9) else (w9))
def QX (a0 : Z8) : Nat -> Nat -> List ZQ -> (List ZQ)
  | 0, _, _ => default
  | n1 + 1, J, U => (bif (decide ((J : Int) < (a0.Zt.length : Int))) then (match Qe a0 J ((nth a0.Zt J).Zn.length + 1) 0 U with | z2_0 => QX a0 n1 (J + 1) z2_0) else (U))
def K0 (a0 : Z8) : List ZQ := (match QX a0 (a0.Zt.length + 1) 0 ([] : List ZQ) with | wQ => (match Js a0 (a0.J5.length + 1) 0 wQ with | z3_0 => z3_0))
def JL (a0 : ZE) : Nat -> Nat -> List Zf -> (List Zf)
  | 0, _, _ => default
  | n1 + 1, J, U => (bif (decide ((J : Int) < ((XN a0).length : Int))) then JL a0 n1 (J + 1) (U ++ ([(nth (XN a0) J).Zc] : List Zf)) else (U))
def XB (a0 : ZE) : List ZQ := (match JL a0 ((XN a0).length + 1) 0 ([] : List Zf) with | wQ => (K0 (Z8.mk wQ ([] : List (List ZQ)))))
def Ka (a0 : List Yq) (a1 : List ZZ) (a2 : ZQ) : Bool := ((YW a0 a1 a2).2 && (((YW a0 a1 a2).1.Authority == a2.Authority) && (((YW a0 a1 a2).1.Seq == a2.Seq) && (((YW a0 a1 a2).1.Time == a2.Time) && (((YW a0 a1 a2).1.XL == a2.XL) && ((YW a0 a1 a2).1.Mark == a2.Mark))))))
def Qh (a0 : List Yq) (a1 : List ZZ) (a2 : ZQ) (a3 : ZQ) : Bool := (bif (((a2.Authority != a3.Authority) || (!(Ka a0 a1 a2))) || (!(Ka a0 a1 a3))) then false else (bif (decide (a2.Seq > a3.Seq)) then (((a3.Seq == a2.Seq) && (!((a3.Authority == a2.Authority) && ((a3.Seq == a2.Seq) && ((a3.Time == a2.Time) && ((a3.XL == a2.XL) && (a3.Mark == a2.Mark))))))) || ((decide (a3.Seq < a2.Seq)) && (decide (a3.Time > a2.Time)))) else (((a2.Seq == a3.Seq) && (!((a2.Authority == a3.Authority) && ((a2.Seq == a3.Seq) && ((a2.Time == a3.Time) && ((a2.XL == a3.XL) && (a2.Mark == a3.Mark))))))) || ((decide (a2.Seq < a3.Seq)) && (decide (a2.Time > a3.Time))))))
def K7 (a0 : List Yq) (a1 : List ZZ) (a2 : List ZQ) (J : Nat) : Nat -> Nat -> List Bool -> (List Bool)
  | 0, _, _ => default
  | n2 + 1, wR, wT => (bif (decide ((wR : Int) < ((a2.take J).length : Int))) then (bif ((ZO (nth a2 J).Authority 0 99) && (Qh a0 a1 (nth a2 J) (nth (a2.take J) wR))) then K7 a0 a1 a2 J n2 (wR + 1) (wT.set (nth a2 J).Authority.toNat true) else K7 a0 a1 a2 J n2 (wR + 1) wT) else (wT))
def K9 (wQ : List Bool) : Nat -> List Int -> Nat -> (List Int)
  | 0, _, _ => default
  | n3 + 1, vA, w9 => (bif (decide ((w9 : Int) < 100)) then (bif (nth wQ w9) then K9 wQ n3 (vA ++ ([(w9 : Int)] : List Int)) (w9 + 1) else K9 wQ n3 vA (w9 + 1)) else (vA))
def yV (a0 : List Yq) (a1 : List ZZ) (a2 : List ZQ) : Nat -> Nat -> List Bool -> (List Bool)
  | 0, _, _ => default
  | n1 + 1, J, U => (bif (decide ((J : Int) < (a2.length : Int))) then (match K7 a0 a1 a2 J ((a2.take J).length + 1) 0 U with | z2_0 => yV a0 a1 a2 n1 (J + 1) z2_0) else (U))
def QQ (a0 : List Yq) (a1 : List ZZ) (a2 : List ZQ) : List Int := (match yV a0 a1 a2 (a2.length + 1) 0 (zB 100) with | wQ => (match K9 wQ 101 ([] : List Int) 0 with | z3_0 => z3_0))
def yq (a0 : List Int) (a1 : Int) : Nat -> Nat -> Sum Bool Unit
  | 0, _ => .inr ()
  | n1 + 1, J => (bif (decide ((J : Int) < (a0.length : Int))) then (bif ((nth a0 J) == a1) then (.inl true) else yq a0 a1 n1 (J + 1)) else (.inr ()))
def xF (a0 : List Int) (a1 : Int) : Bool := (match yq a0 a1 (a0.length + 1) 0 with | .inl r1 => r1 | .inr _ => false)
def JZ (a0 : List UInt8) : Nat -> Nat -> Sum Bool Unit
  | 0, _ => .inr ()
  | n1 + 1, J => (bif (decide ((J : Int) < ((QQ (ZU (ZC a0).1 (ZC a0).2).Frame.Z9 (ZU (ZC a0).1 (ZC a0).2).Frame.ZG (XB (ZU (ZC a0).1 (ZC a0).2))).length : Int))) then (bif (!(xF (ZU (ZC a0).1 (ZC a0).2).YN (nth (QQ (ZU (ZC a0).1 (ZC a0).2).Frame.Z9 (ZU (ZC a0).1 (ZC a0).2).Frame.ZG (XB (ZU (ZC a0).1 (ZC a0).2))) J))) then (.inl false) else JZ a0 n1 (J + 1)) else (.inr ()))
def KN (a0 : List UInt8) : Bool := (bif (La a0) then true else (bif (!((Ky (ZC a0).2) == (xW (ZC a0).2))) then false else (bif (!(Ky (ZC a0).2)) then true else (match JZ a0 ((QQ (ZU (ZC a0).1 (ZC a0).2).Frame.Z9 (ZU (ZC a0).1 (ZC a0).2).Frame.ZG (XB (ZU (ZC a0).1 (ZC a0).2))).length + 1) 0 with | .inl r1 => r1 | .inr _ => (((ZU (ZC a0).1 (ZC a0).2).YE.length : Int) == 0)))))
def Oh (a0 : Int) : Bool := (ZO a0 1 2147483646)
def G2 (a0 : Yq) : Bool := (((((ZO a0.Number 1 99) && (ZO a0.xi 0 99)) && (ZO a0.Method 0 99)) && (Qp a0.NU)) && (Oh a0.W5))
def Uu (a0 : List Yq) : Nat -> Nat -> Sum Bool Unit
  | 0, _ => .inr ()
  | n1 + 1, J => (bif (decide ((J : Int) < (a0.length : Int))) then (bif ((!(G2 (nth a0 J))) || ((decide ((J : Int) > 0)) && (decide ((nth a0 (J - 1)).Number >= (nth a0 J).Number)))) then (.inl false) else Uu a0 n1 (J + 1)) else (.inr ()))
def Io (a0 : List Yq) : Bool := (match Uu a0 (a0.length + 1) 0 with | .inl r1 => r1 | .inr _ => (decide ((a0.length : Int) <= 12)))
def xA (a0 : List ZZ) : Nat -> Nat -> Sum Bool Unit
  | 0, _ => .inr ()
  | n1 + 1, J => (bif (decide ((J : Int) < (a0.length : Int))) then (bif ((((!(ZO (nth a0 J).Id 0 99)) || (!(ZO (nth a0 J).Key 1 99))) || (!(ZO (nth a0 J).Error 0 100))) || ((decide ((J : Int) > 0)) && (decide ((nth a0 (J - 1)).Id >= (nth a0 J).Id)))) then (.inl false) else xA a0 n1 (J + 1)) else (.inr ()))
def UM (a0 : List ZZ) : Bool := (match xA a0 (a0.length + 1) 0 with | .inl r1 => r1 | .inr _ => (decide ((a0.length : Int) <= 6)))
def M6 (a0 : YJ) : Bool := ((((((ZO a0.Id 0 99) && (Qp a0.OC)) && (ZO a0.Ends 1 10001)) && (ZO a0.T4 1 10001)) && (decide (a0.OC < a0.Ends))) && (decide (a0.OC < a0.T4)))
def kH (a0 : List YJ) : Nat -> Nat -> Sum Bool Unit
  | 0, _ => .inr ()
  | n1 + 1, J => (bif (decide ((J : Int) < (a0.length : Int))) then (bif ((!(M6 (nth a0 J))) || ((decide ((J : Int) > 0)) && (decide ((nth a0 (J - 1)).Id >= (nth a0 J).Id)))) then (.inl false) else kH a0 n1 (J + 1)) else (.inr ()))
def Ox (a0 : List YJ) : Bool := (match kH a0 (a0.length + 1) 0 with | .inl r1 => r1 | .inr _ => (decide ((a0.length : Int) <= 8)))
def z8 (a0 : Z2) : Bool := (((((Io a0.Z9) && (UM a0.ZG)) && (Ox a0.Methods)) && (ZO a0.zm 0 6)) && (Qp a0.Now))
def MX (a0 : Ym) : qI := (qI.mk a0.xb a0.To)
def I2 (a0 : qI) : Bool := (((Qp a0.xb) && (Qp a0.To)) && (decide (a0.xb <= a0.To)))
def GA (a0 : Ym) : Bool := ((((((ZO a0.YD 1 999) && (ZO a0.Key 1 99)) && (ZO a0.YZ 1 99)) && (a0.Key != a0.YZ)) && (ZO a0.xi 0 99)) && (I2 (MX a0)))
def MK (a0 : List Yq) (a1 : Int) (a2 : List Int) (a3 : Int) : Bool := ((Q9 a0 a1 a2).2 && ((Q9 a0 a1 a2).1 == a3))
def Il (a0 : List Yq) (a1 : Int) : Int := (bif (decide ((YM a0 a1) >= 0)) then (nth a0 (YM a0 a1).toNat).xi else (-1))
def Uw (a0 : List Yq) (a1 : Ym) : Bool := (((GA a1) && (MK a0 a1.YZ (K4 a1) a1.Mark)) && (a1.xi == (Il a0 a1.Key)))
def Jl (a0 : ZE) (wT : Nat) : Nat -> List Int -> Nat -> Sum Bool (List Int)
  | 0, _, _ => .inr default
  | n3 + 1, vA, w9 => (bif (decide ((w9 : Int) < ((nth a0.ZA wT).ZF.length : Int))) then (bif ((Y6 vA (nth (nth a0.ZA wT).ZF w9).Id) || (decide ((nth (nth a0.ZA wT).ZF w9).Id >= a0.Next))) then (.inl false) else Jl a0 wT n3 (vA ++ ([(nth (nth a0.ZA wT).ZF w9).Id] : List Int)) (w9 + 1)) else (.inr vA))
def qH (a0 : ZE) : Nat -> Nat -> Sum Bool Unit
  | 0, _ => .inr ()
  | n5 + 1, oy => (bif (decide ((oy : Int) < (a0.YN.length : Int))) then (bif (decide ((ZN a0.Frame.ZG (nth a0.YN oy)) < 0)) then (.inl false) else qH a0 n5 (oy + 1)) else (.inr ()))
def xh (a0 : ZE) : Nat -> Nat -> Sum Bool Unit
  | 0, _ => .inr ()
  | n4 + 1, oz => (bif (decide ((oz : Int) < (a0.YP.length : Int))) then (bif (decide ((nth a0.YP oz) < 0)) then (.inl false) else xh a0 n4 (oz + 1)) else (.inr ()))
def KH (a0 : ZE) : Nat -> List Int -> Nat -> Sum Bool Unit
  | 0, _, _ => .inr ()
  | n2 + 1, wR, wT => (bif (decide ((wT : Int) < (a0.ZA.length : Int))) then (bif ((!(Zz (nth a0.ZA wT))) || ((nth a0.ZA wT).Id != (wT : Int))) then (.inl false) else (match Jl a0 wT ((nth a0.ZA wT).ZF.length + 1) wR 0 with | .inl r3 => .inl r3 | .inr z3_0 => KH a0 n2 z3_0 (wT + 1))) else (.inr ()))
def xe (a0 : ZE) : Nat -> Nat -> Sum Bool Unit
  | 0, _ => .inr ()
  | n1 + 1, J => (bif (decide ((J : Int) < (a0.Zb.length : Int))) then (bif (((!(Uw a0.Frame.Z9 (nth a0.Zb J))) || ((K2 a0.Zb (nth a0.Zb J).YD) != (J : Int))) || (!(ZO (nth a0.YC J) (-1) 10001))) then (.inl false) else xe a0 n1 (J + 1)) else (.inr ()))
def UT (a0 : ZE) : Bool := (bif ((((((((!(z8 a0.Frame)) || ((a0.YC.length : Int) != (a0.Zb.length : Int))) || (!(ZO (a0.ZA.length : Int) 1 4))) || ((a0.YP.length : Int) != (a0.Frame.ZG.length : Int))) || (decide ((a0.YN.length : Int) > a0.Frame.zm))) || (decide (a0.Next < 1))) || (!(Xp a0.YN))) || (!(Xp a0.YE))) then false else (match xe a0 (a0.Zb.length + 1) 0 with | .inl r1 => r1 | .inr _ => (match KH a0 (a0.ZA.length + 1) ([] : List Int) 0 with | .inl r2 => r2 | .inr _ => (match xh a0 (a0.YP.length + 1) 0 with | .inl r4 => r4 | .inr _ => (match qH a0 (a0.YN.length + 1) 0 with | .inl r5 => r5 | .inr _ => true)))))
end Go.Mo
