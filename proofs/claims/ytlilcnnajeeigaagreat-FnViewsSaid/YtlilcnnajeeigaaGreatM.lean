/- Models of the functions: what each computes, on typed data. No condition. -/
import Derived.Test.YtlilcnnajeeigaaGreatMo
namespace Go.Mo
open Go.Vm
def Le (a0 : List UInt8) : Bool := (decide ((a0.length : Int) > 1048576))
def SK (a0 : List UInt8) : Nat -> Int -> Nat -> Int
  | 0, _, _ => default
  | n1 + 1, J, U => (bif ((decide ((U : Int) < (a0.length : Int))) && (decide ((U : Int) < 4000))) then SK a0 n1 (Ow .i64 (W ((W ((W (J * 137)) + (W ((nth a0 U).toNat : Int)))) + 11)) 1073741823) (U + 1) else (J))
def zE (a0 : List UInt8) : ZI := (match SK a0 4001 (W (193017 + (a0.length : Int))) 0 with | z1_0 => (ZI.mk a0 0 z1_0))
def YU : List YJ := ([(YJ.mk 1 90 1 0 501), (YJ.mk 2 90 3 40 502), (YJ.mk 11 1 1 0 511), (YJ.mk 12 1 2 20 512), (YJ.mk 13 2 3 40 513), (YJ.mk 21 50 1 0 521), (YJ.mk 31 81 1 0 531), (YJ.mk 32 82 2 20 532), (YJ.mk 33 83 3 40 533), (YJ.mk 34 84 4 60 534)] : List YJ)
def YN : List ZP := ([(ZP.mk 1 31 1), (ZP.mk 2 32 2), (ZP.mk 3 33 1), (ZP.mk 4 34 0)] : List ZP)
def Vy : List YV := ([(YV.mk 1 0 40 50), (YV.mk 2 20 80 70), (YV.mk 3 40 120 200), (YV.mk 4 60 10001 10001)] : List YV)
def Zu (a0 : ZI) : ZI × Int := (bif (decide ((a0.i : Int) < (a0.b.length : Int))) then ((ZI.mk a0.b (a0.i + 1) (W ((W (a0.h * 6364136223846793005)) + 1442695040888963407))), (Ow .i64 (W ((Ow .i64 (FV .i64 ((W ((W (a0.h * 6364136223846793005)) + 1442695040888963407)).fdiv (2 ^ (min 33 IntKind.i64.bits))) ((W ((W (a0.h * 6364136223846793005)) + 1442695040888963407)).fdiv (2 ^ (min 47 IntKind.i64.bits)))) 255) + (W ((nth a0.b a0.i).toNat : Int)))) 255)) else ((ZI.mk a0.b a0.i (W ((W (a0.h * 6364136223846793005)) + 1442695040888963407))), (Ow .i64 (FV .i64 ((W ((W (a0.h * 6364136223846793005)) + 1442695040888963407)).fdiv (2 ^ (min 33 IntKind.i64.bits))) ((W ((W (a0.h * 6364136223846793005)) + 1442695040888963407)).fdiv (2 ^ (min 47 IntKind.i64.bits)))) 255)))
def ZA (a0 : ZI) (a1 : Int) : ZI × Int := (bif (decide (a1 <= 0)) then (a0, 0) else (bif (decide (a1 <= 256)) then ((Zu a0).1, (Int.tmod (Zu a0).2 a1)) else ((Zu (Zu (Zu a0).1).1).1, (Int.tmod (W ((W ((W ((Zu a0).2 * 65536)) + (W ((Zu (Zu a0).1).2 * 256)))) + (Zu (Zu (Zu a0).1).1).2)) a1))))
def Z3 (a0 : ZI) (a1 : List Int) : ZI × Int := ((ZA a0 (a1.length : Int)).1, (nth a1 (ZA a0 (a1.length : Int)).2.toNat))
def KZ (a0 : ZI) : ZI × ZW := ((Z3 (ZA a0 2).1 ([20, 45, 60, 75, 100, 150, 300] : List Int)).1, (ZW.mk YU YN Vy (ZA a0 2).2 (Z3 (ZA a0 2).1 ([20, 45, 60, 75, 100, 150, 300] : List Int)).2))
def Wc (a0 : ZI) (a1 : List ByteArray) : ZI × ByteArray := ((ZA a0 (a1.length : Int)).1, (nth a1 (ZA a0 (a1.length : Int)).2.toNat))
def Xi (a0 : ZI) : ZI × ByteArray := ((Wc a0 ([(⟨#[]⟩ : ByteArray), (⟨#[97]⟩ : ByteArray), (⟨#[98]⟩ : ByteArray), (⟨#[97, 98]⟩ : ByteArray), (⟨#[121, 101, 115]⟩ : ByteArray), (⟨#[110, 111]⟩ : ByteArray), (⟨#[111, 110, 101, 32, 104, 117, 110, 100, 114, 101, 100]⟩ : ByteArray)] : List ByteArray)).1, (Wc a0 ([(⟨#[]⟩ : ByteArray), (⟨#[97]⟩ : ByteArray), (⟨#[98]⟩ : ByteArray), (⟨#[97, 98]⟩ : ByteArray), (⟨#[121, 101, 115]⟩ : ByteArray), (⟨#[110, 111]⟩ : ByteArray), (⟨#[111, 110, 101, 32, 104, 117, 110, 100, 114, 101, 100]⟩ : ByteArray)] : List ByteArray)).2)
def YE (a0 : Int) (a1 : Int) (a2 : Int) : Bool := ((decide (a0 >= a1)) && (decide (a0 <= a2)))
def RG (a0 : Int) (a1 : Int) : Int := (bif (!(YE a1 1 1000000000000)) then 0 else (Int.tmod (W ((Int.tmod a0 a1) + a1)) a1))
def kW (a0 : List Int) : Nat -> Int -> Nat -> Int
  | 0, _, _ => default
  | n1 + 1, J, U => (bif (decide ((U : Int) < (a0.length : Int))) then kW a0 n1 (Int.tmod (W ((W ((W (J * 1000003)) + (RG (nth a0 U) 2147483647))) + 13)) 2147483647) (U + 1) else (J))
def SG (a0 : List Int) : Int := (match kW a0 (a0.length + 1) 11 0 with | z1_0 => z1_0)
def KN (a0 : Int) (a1 : List Int) : Int := (SG ((([a0] : List Int) ++ a1) ++ ([a0] : List Int)))
def Lr (a0 : Int) (a1 : Int) : Int := (bif (decide (a1 > a0)) then a1 else a0)
def Yt (a0 : ZM) : Nat -> Nat -> Sum Bool Unit
  | 0, _ => .inr ()
  | n2 + 1, wD => (bif (decide ((wD : Int) < (a0.Yh.length : Int))) then (bif (!(YE (nth a0.Yh wD) 1 1000000000000)) then (.inl false) else Yt a0 n2 (wD + 1)) else (.inr ()))
def Yx (a0 : ZM) : Nat -> Nat -> Sum Bool Unit
  | 0, _ => .inr ()
  | n1 + 1, J => (bif (decide ((J : Int) < (a0.Zd.length : Int))) then (bif (decide (((nth a0.Zd J).size : Int) > 40)) then (.inl false) else Yx a0 n1 (J + 1)) else (.inr ()))
def YW (a0 : ZM) : Bool := (match Yx a0 (a0.Zd.length + 1) 0 with | .inl r1 => r1 | .inr _ => (match Yt a0 (a0.Yh.length + 1) 0 with | .inl r2 => r2 | .inr _ => (((YE a0.QF 0 999) && (YE (a0.Zd.length : Int) 1 6)) && ((a0.Yh.length : Int) == (a0.Zd.length : Int)))))
def xk (a0 : Int) : Bool := (YE a0 1 2147483646)
def XF (a0 : Int) (a1 : List ByteArray) (a2 : Int) : Nat -> Nat -> List Int -> (List Int)
  | 0, _, _ => default
  | n1 + 1, J, U => (bif (decide ((J : Int) < (a1.length : Int))) then XF a0 a1 a2 n1 (J + 1) (U ++ ([(Lr 1 (KN a2 ([a0, (J : Int)] : List Int)))] : List Int)) else (U))
def XV (a0 : Int) (a1 : List ByteArray) (a2 : Int) : ZM × Bool := (match XF a0 a1 a2 (a1.length + 1) 0 ([] : List Int) with | z1_0 => (bif ((!(YW (ZM.mk a0 a1 z1_0))) || (!(xk a2))) then ((ZM.mk 0 ([] : List ByteArray) ([] : List Int)), false) else ((ZM.mk a0 a1 z1_0), true)))
def Xv : Nat -> List ByteArray -> Int -> List UInt8 -> Nat -> Int -> (List ByteArray) × (List UInt8) × Nat × Int
  | 0, _, _, _, _, _ => (default, default, default, default)
  | n1 + 1, J, U, wB, wH, wP => (bif (decide (U > 0)) then Xv n1 (J ++ ([(Xi (ZI.mk wB wH wP)).2] : List ByteArray)) (W (U - 1)) (Xi (ZI.mk wB wH wP)).1.b (Xi (ZI.mk wB wH wP)).1.i (Xi (ZI.mk wB wH wP)).1.h else ((J, wB, wH, wP)))
def Zm (a0 : ZI) : ZI × ZM := (match Xv 5 ([] : List ByteArray) (W (1 + (ZA a0 3).2)) (ZA a0 3).1.b (ZA a0 3).1.i (ZA a0 3).1.h with | (z1_0, z1_1, z1_2, z1_3) => ((ZA (ZI.mk z1_1 z1_2 z1_3) 5).1, (XV (ZA (ZI.mk z1_1 z1_2 z1_3) 5).2 z1_0 11).1))
def Jn (a0 : Int) (a1 : List Int) : Int := (SG (([7, a0] : List Int) ++ a1))
def qO (a1 : ByteArray) : Nat -> List Int -> Nat -> (List Int)
  | 0, _, _ => default
  | n1 + 1, J, U => (bif (decide ((U : Int) < (a1.size : Int))) then qO a1 n1 (J ++ ([(W ((bAt a1 U) : Int))] : List Int)) (U + 1) else (J))
def xy (a0 : Int) (a1 : ByteArray) (a2 : Int) : Int := (match qO a1 (a1.size + 1) ([a2] : List Int) 0 with | z1_0 => (Jn a0 z1_0))
def kL (a0 : Int) (a1 : ZM) : Nat -> List Int -> Nat -> (List Int)
  | 0, _, _ => default
  | n1 + 1, J, U => (bif (decide ((U : Int) < (a1.Zd.length : Int))) then kL a0 a1 n1 (J ++ ([(xy a0 (nth a1.Zd U) (nth a1.Yh U))] : List Int)) (U + 1) else (J))
def QR (a0 : Int) (a1 : ZM) : Int := (bif (!(YW a1)) then (-1) else (match kL a0 a1 (a1.Zd.length + 1) ([a1.QF] : List Int) 0 with | z1_0 => (Jn a0 z1_0)))
def jf (a0 : List YJ) (a1 : Int) : Nat -> Nat -> Sum Int Unit
  | 0, _ => .inr ()
  | n1 + 1, J => (bif (decide ((J : Int) < (a0.length : Int))) then (bif ((nth a0 J).Number == a1) then (.inl (J : Int)) else jf a0 a1 n1 (J + 1)) else (.inr ()))
def Yj (a0 : List YJ) (a1 : Int) : Int := (match jf a0 a1 (a0.length + 1) 0 with | .inl r1 => r1 | .inr _ => (-1))
def K5 (a0 : ZX) : Bool := ((((((((YE a0.Key 1 99) && (YE a0.Zv 1 999)) && (YE a0.Method 0 99)) && (YE a0.Org 0 99)) && (YE a0.jk 1 3)) && (YE a0.XC 0 1000000000000)) && (YE a0.jt 0 1000000000000)) && (YE a0.ja 0 1000000000000))
def Xq (a0 : ZX) : List Int := ([104, a0.Key, a0.Zv, a0.Method, a0.XC, a0.jk, a0.Org, a0.jt, a0.ja] : List Int)
def zR (a0 : YJ) (a1 : List Int) : Int := (KN a0.Vl (([a0.Method] : List Int) ++ a1))
def Kg (a0 : List YJ) (a1 : ZX) : ZX × Bool := (bif ((!(K5 a1)) || (decide ((Yj a0 a1.Key) < 0))) then ((ZX.mk 0 0 0 0 0 0 0 0 0), false) else ((ZX.mk a1.Key a1.Zv a1.Method a1.XC a1.jk a1.Org a1.jt a1.ja (zR (nth a0 (Yj a0 a1.Key).toNat) (Xq a1))), true))
def KE (a0 : List YJ) (a1 : Int) (a2 : Int) (a3 : Int) (a4 : ZM) (a5 : Int) : ZX × Bool := ((Kg a0 (ZX.mk a1 a2 a3 (QR a3 a4) a5 0 0 0 0)).1, (Kg a0 (ZX.mk a1 a2 a3 (QR a3 a4) a5 0 0 0 0)).2)
def ZY (a0 : ZI) : ZI × ZX × ZM := ((ZA (ZA (Zm a0).1 3).1 3).1, (KE YU (W (11 + (ZA (Zm a0).1 3).2)) (W (1 + (ZA (Zm a0).1 3).2)) (W (1 + (ZA (Zm a0).1 3).2)) (Zm a0).2 (W (1 + (ZA (ZA (Zm a0).1 3).1 3).2))).1, (Zm a0).2)
def Yv (a0 : ZX) : ZE := (ZE.mk a0.Key (Xq a0) a0.Mark)
def WY (a0 : YR) : ZL := (ZL.mk a0.Ys a0.To)
def q8 (a0 : Int) : Bool := (YE a0 0 10000)
def Tx (a0 : ZL) : Bool := (((q8 a0.Ys) && (q8 a0.To)) && (decide (a0.Ys <= a0.To)))
def OF (a0 : YR) : Bool := ((((((YE a0.Zv 1 999) && (YE a0.Key 1 99)) && (YE a0.Yo 1 99)) && (a0.Key != a0.Yo)) && (YE a0.yU 0 99)) && (Tx (WY a0)))
def KL (a0 : YR) : List Int := ([101, a0.Zv, a0.Key, a0.yU, a0.Ys, a0.To, a0.Yo] : List Int)
def zl (a0 : List YJ) (a1 : YR) : YR × Bool := (bif (((!(OF a1)) || (decide ((Yj a0 a1.Yo) < 0))) || (decide ((Yj a0 a1.Key) < 0))) then ((YR.mk 0 0 0 0 0 0 0), false) else ((YR.mk a1.Zv a1.Key a1.yU a1.Ys a1.To a1.Yo (zR (nth a0 (Yj a0 a1.Yo).toNat) (KL a1))), true))
def Y1 : List YR := ([(zl YU (YR.mk 1 11 1 0 60 1 0)).1, (zl YU (YR.mk 2 12 1 20 100 1 0)).1, (zl YU (YR.mk 3 13 2 40 150 2 0)).1] : List YR)
def XD (a0 : YR) : ZE := (ZE.mk a0.Yo (KL a0) a0.Mark)
def U3 (a0 : Zn) : Bool := ((((YE a0.Zv 1 999) && (q8 a0.O0)) && (YE a0.yb (-1) (W (a0.O0 + 1)))) && (YE a0.Yo 1 99))
def Qv (a0 : Zn) : List Int := ([102, a0.Zv, a0.O0, a0.yb, a0.Yo] : List Int)
def X1 (a0 : List YJ) (a1 : Zn) : Zn × Bool := (bif ((!(U3 a1)) || (decide ((Yj a0 a1.Yo) < 0))) then ((Zn.mk 0 0 0 0 0), false) else ((Zn.mk a1.Zv a1.O0 a1.yb a1.Yo (zR (nth a0 (Yj a0 a1.Yo).toNat) (Qv a1))), true))
def Zk (a0 : ZI) (a1 : Int) : ZI × Bool := ((ZA a0 a1).1, ((ZA a0 a1).2 == 0))
def Xg (a0 : Zn) : ZE := (ZE.mk a0.Yo (Qv a0) a0.Mark)
def SA (a0 : ZE) : ZE := a0
def ko (a0 : List ZE) : Nat -> List ZE -> Nat -> (List ZE)
  | 0, _, _ => default
  | n1 + 1, J, U => (bif (decide ((U : Int) < (a0.length : Int))) then ko a0 n1 (J ++ ([(nth a0 U)] : List ZE)) (U + 1) else (J))
def TA (a0 : List ZE) : List ZE := (match ko a0 (a0.length + 1) ([] : List ZE) 0 with | z1_0 => z1_0)
def SS (a0 : ZK) : ZK := a0
def jG (a0 : ZG) : Nat -> Nat -> List ZK -> (List ZK)
  | 0, _, _ => default
  | n1 + 1, J, U => (bif (decide ((J : Int) < (a0.ZJ.length : Int))) then jG a0 n1 (J + 1) (U ++ ([(nth a0.ZJ J)] : List ZK)) else (U))
def V1 (a0 : ZG) : ZG := (match jG a0 (a0.ZJ.length + 1) 0 ([] : List ZK) with | z1_0 => (ZG.mk a0.ZO z1_0))
def kH (a0 : List Int) (a1 : List Int) : Nat -> Nat -> Sum Bool Unit
  | 0, _ => .inr ()
  | n1 + 1, J => (bif (decide ((J : Int) < (a0.length : Int))) then (bif ((nth a0 J) != (nth a1 J)) then (.inl false) else kH a0 a1 n1 (J + 1)) else (.inr ()))
def VW (a0 : List Int) (a1 : List Int) : Bool := (bif ((a0.length : Int) != (a1.length : Int)) then false else (match kH a0 a1 (a0.length + 1) 0 with | .inl r1 => r1 | .inr _ => true))
def y0 (a0 : ZE) (a1 : ZE) : Bool := (((a0.Key == a1.Key) && (a0.Mark == a1.Mark)) && (VW a0.Z0 a1.Z0))
def jr (a0 : ZG) (a1 : ZE) : Nat -> Nat -> Sum Int Unit
  | 0, _ => .inr ()
  | n1 + 1, J => (bif (decide ((J : Int) < (a0.ZO.length : Int))) then (bif (y0 (nth a0.ZO J) a1) then (.inl (J : Int)) else jr a0 a1 n1 (J + 1)) else (.inr ()))
def jU (a0 : ZG) (a1 : ZE) : Int := (match jr a0 a1 (a0.ZO.length + 1) 0 with | .inl r1 => r1 | .inr _ => (-1))
def yF (a0 : ZG) : Nat -> Nat -> Sum Bool Unit
  | 0, _ => .inr ()
  | n2 + 1, wD => (bif (decide ((wD : Int) < (a0.ZJ.length : Int))) then (bif ((!(YE (nth a0.ZJ wD).Count 1 (a0.ZO.length : Int))) || ((decide ((wD : Int) > 0)) && (decide ((nth a0.ZJ (wD - 1)).Count > (nth a0.ZJ wD).Count)))) then (.inl false) else yF a0 n2 (wD + 1)) else (.inr ()))
def ya (a0 : ZG) : Nat -> Nat -> Sum Bool Unit
  | 0, _ => .inr ()
  | n1 + 1, J => (bif (decide ((J : Int) < (a0.ZO.length : Int))) then (bif (decide ((jU a0 (nth a0.ZO J)) < (J : Int))) then (.inl false) else ya a0 n1 (J + 1)) else (.inr ()))
def zU (a0 : ZG) : Bool := (match ya a0 (a0.ZO.length + 1) 0 with | .inl r1 => r1 | .inr _ => (match yF a0 (a0.ZJ.length + 1) 0 with | .inl r2 => r2 | .inr _ => ((YE (a0.ZO.length : Int) 1 12) && (decide ((a0.ZJ.length : Int) <= 8)))))
def QC (a0 : ZG) (a1 : ZE) : ZG × Bool := (bif (!(zU (ZG.mk (a0.ZO ++ ([a1] : List ZE)) a0.ZJ))) then (a0, false) else ((ZG.mk (a0.ZO ++ ([a1] : List ZE)) a0.ZJ), true))
def qG (a0 : ZI) : ZI × Zn := (bif (Zk (ZA (ZA (ZA a0 60).1 3).1 2).1 3).2 then ((ZA (Zk (ZA (ZA (ZA a0 60).1 3).1 2).1 3).1 (W ((ZA a0 60).2 + 2))).1, (X1 YU (Zn.mk (W (1 + (ZA (ZA a0 60).1 3).2)) (ZA a0 60).2 (ZA (Zk (ZA (ZA (ZA a0 60).1 3).1 2).1 3).1 (W ((ZA a0 60).2 + 2))).2 (W (1 + (ZA (ZA (ZA a0 60).1 3).1 2).2)) 0)).1) else ((Zk (ZA (ZA (ZA a0 60).1 3).1 2).1 3).1, (X1 YU (Zn.mk (W (1 + (ZA (ZA a0 60).1 3).2)) (ZA a0 60).2 (-1) (W (1 + (ZA (ZA (ZA a0 60).1 3).1 2).2)) 0)).1))
def J4 (a0 : List ZP) (a1 : Int) : Nat -> Nat -> Sum Int Unit
  | 0, _ => .inr ()
  | n1 + 1, J => (bif (decide ((J : Int) < (a0.length : Int))) then (bif ((nth a0 J).Id == a1) then (.inl (J : Int)) else J4 a0 a1 n1 (J + 1)) else (.inr ()))
def Yb (a0 : List ZP) (a1 : Int) : Int := (match J4 a0 a1 (a0.length + 1) 0 with | .inl r1 => r1 | .inr _ => (-1))
def Qt (a0 : ZV) : List Int := ([103, a0.Authority, a0.Seq, a0.Time, a0.XC] : List Int)
def zY (a0 : List YJ) (a1 : List ZP) (a2 : ZV) : ZV × Bool := (bif (((decide ((Yb a1 a2.Authority) < 0)) || (decide (a2.Seq < 0))) || (!(q8 a2.Time))) then ((ZV.mk 0 0 0 0 0), false) else (bif (decide ((Yj a0 (nth a1 (Yb a1 a2.Authority).toNat).Key) < 0)) then ((ZV.mk 0 0 0 0 0), false) else ((ZV.mk a2.Authority a2.Seq a2.Time a2.XC (zR (nth a0 (Yj a0 (nth a1 (Yb a1 a2.Authority).toNat).Key).toNat) (Qt a2))), true)))
def Jm (a0 : ZI) : ZI × ZV := ((ZA (ZA (ZA (ZA a0 4).1 9).1 60).1 99).1, (zY YU YN (ZV.mk (W (1 + (ZA a0 4).2)) (ZA (ZA a0 4).1 9).2 (ZA (ZA (ZA a0 4).1 9).1 60).2 (ZA (ZA (ZA (ZA a0 4).1 9).1 60).1 99).2 0)).1)
def WD (a0 : List ZP) (a1 : ZV) : Int := (bif (decide ((Yb a0 a1.Authority) < 0)) then 0 else (nth a0 (Yb a0 a1.Authority).toNat).Key)
def qC (a0 : Int) (a1 : ZV) : ZE := (ZE.mk a0 (Qt a1) a1.Mark)
def Vt (a0 : Zx) : Bool := ((((YE a0.Org 1 99) && (YE a0.jx 0 99)) && (YE a0.Key 1 99)) && (Tx (ZL.mk a0.Ys a0.To)))
def QS (a0 : Zx) : List Int := ([105, a0.Org, a0.jx, a0.Ys, a0.To, a0.Key] : List Int)
def y5 (a0 : List YJ) (a1 : Zx) : Zx × Bool := (bif ((!(Vt a1)) || (decide ((Yj a0 a1.Key) < 0))) then ((Zx.mk 0 0 0 0 0 0), false) else ((Zx.mk a1.Org a1.jx a1.Ys a1.To a1.Key (zR (nth a0 (Yj a0 a1.Key).toNat) (QS a1))), true))
def qH (a0 : ZI) : ZI × Zx := ((ZA (ZA (ZA a0 40).1 2).1 30).1, (y5 YU (Zx.mk 50 (W (1 + (ZA (ZA a0 40).1 2).2)) (ZA a0 40).2 (W ((ZA a0 40).2 + (ZA (ZA (ZA a0 40).1 2).1 30).2)) 21 0)).1)
def yD (a0 : Zx) : ZE := (ZE.mk a0.Key (QS a0) a0.Mark)
def JP (a0 : ZI) : ZI × ZE := (bif ((ZA a0 5).2 == 0) then ((ZA (ZA a0 5).1 3).1, (XD (nth Y1 (ZA (ZA a0 5).1 3).2.toNat))) else (bif ((ZA a0 5).2 == 1) then ((qG (ZA a0 5).1).1, (Xg (qG (ZA a0 5).1).2)) else (bif ((ZA a0 5).2 == 2) then ((Jm (ZA a0 5).1).1, (qC (WD YN (Jm (ZA a0 5).1).2) (Jm (ZA a0 5).1).2)) else (bif ((ZA a0 5).2 == 3) then ((ZY (ZA a0 5).1).1, (Yv (ZY (ZA a0 5).1).2.1)) else ((qH (ZA a0 5).1).1, (yD (qH (ZA a0 5).1).2))))))
def Zj (a0 : ZI) : ZI × ZG × ZM × ZX := (bif (!(Zk (Z3 (ZY a0).1 ([10, 30, 60, 90] : List Int)).1 4).2) then (bif (Zk (Zk (Z3 (ZY a0).1 ([10, 30, 60, 90] : List Int)).1 4).1 4).2 then ((JP (Zk (Zk (Z3 (ZY a0).1 ([10, 30, 60, 90] : List Int)).1 4).1 4).1).1, (QC (QC (ZG.mk ([(Yv (ZY a0).2.1), (XD (nth Y1 (W ((ZY a0).2.1.Zv - 1)).toNat))] : List ZE) ([] : List ZK)) (Xg (X1 YU (Zn.mk (ZY a0).2.1.Zv (Z3 (ZY a0).1 ([10, 30, 60, 90] : List Int)).2 (-1) (nth Y1 (W ((ZY a0).2.1.Zv - 1)).toNat).Yo 0)).1)).1 (JP (Zk (Zk (Z3 (ZY a0).1 ([10, 30, 60, 90] : List Int)).1 4).1 4).1).2).1, (ZY a0).2.2, (ZY a0).2.1) else ((Zk (Zk (Z3 (ZY a0).1 ([10, 30, 60, 90] : List Int)).1 4).1 4).1, (QC (ZG.mk ([(Yv (ZY a0).2.1), (XD (nth Y1 (W ((ZY a0).2.1.Zv - 1)).toNat))] : List ZE) ([] : List ZK)) (Xg (X1 YU (Zn.mk (ZY a0).2.1.Zv (Z3 (ZY a0).1 ([10, 30, 60, 90] : List Int)).2 (-1) (nth Y1 (W ((ZY a0).2.1.Zv - 1)).toNat).Yo 0)).1)).1, (ZY a0).2.2, (ZY a0).2.1)) else (bif (Zk (Zk (Z3 (ZY a0).1 ([10, 30, 60, 90] : List Int)).1 4).1 4).2 then ((JP (Zk (Zk (Z3 (ZY a0).1 ([10, 30, 60, 90] : List Int)).1 4).1 4).1).1, (QC (ZG.mk ([(Yv (ZY a0).2.1), (XD (nth Y1 (W ((ZY a0).2.1.Zv - 1)).toNat))] : List ZE) ([] : List ZK)) (JP (Zk (Zk (Z3 (ZY a0).1 ([10, 30, 60, 90] : List Int)).1 4).1 4).1).2).1, (ZY a0).2.2, (ZY a0).2.1) else ((Zk (Zk (Z3 (ZY a0).1 ([10, 30, 60, 90] : List Int)).1 4).1 4).1, (ZG.mk ([(Yv (ZY a0).2.1), (XD (nth Y1 (W ((ZY a0).2.1.Zv - 1)).toNat))] : List ZE) ([] : List ZK)), (ZY a0).2.2, (ZY a0).2.1)))
def Zz (a0 : ZG) (a1 : ZK) : ZG × Bool := (bif (!(zU (ZG.mk a0.ZO (a0.ZJ ++ ([a1] : List ZK))))) then (a0, false) else ((ZG.mk a0.ZO (a0.ZJ ++ ([a1] : List ZK))), true))
def KD (a0 : ZG) (a1 : ZM) : Nat -> List Int -> Nat -> (List Int)
  | 0, _, _ => default
  | n1 + 1, J, U => (bif (decide ((U : Int) < (a0.ZJ.length : Int))) then KD a0 a1 n1 (J ++ ([(QR (nth a0.ZJ U).Method a1)] : List Int)) (U + 1) else (J))
def Xl (a0 : ZG) (a1 : ZM) : List Int := (match KD a0 a1 (a0.ZJ.length + 1) ([] : List Int) 0 with | z1_0 => z1_0)
def zu (a1 : ZK) : Nat -> List Int -> Nat -> (List Int)
  | 0, _, _ => default
  | n2 + 1, wD, wE => (bif (decide ((wE : Int) < (a1.Z7.length : Int))) then zu a1 n2 ((wD ++ (Qt (nth a1.Z7 wE))) ++ ([(nth a1.Z7 wE).Mark] : List Int)) (wE + 1) else (wD))
def J3 (a1 : ZK) : Nat -> List Int -> Nat -> (List Int)
  | 0, _, _ => default
  | n1 + 1, J, U => (bif (decide ((U : Int) < (a1.Path.length : Int))) then (bif (nth a1.Path U).Left then J3 a1 n1 ((J ++ ([(nth a1.Path U).XC] : List Int)) ++ ([1] : List Int)) (U + 1) else J3 a1 n1 ((J ++ ([(nth a1.Path U).XC] : List Int)) ++ ([0] : List Int)) (U + 1)) else (J))
def zB (a0 : Int) (a1 : ZK) : Int := (match J3 a1 (a1.Path.length + 1) ([4, a1.Count, a1.Method, a1.LA] : List Int) 0 with | z1_0 => (match zu a1 (a1.Z7.length + 1) (z1_0 ++ ([(a1.Z7.length : Int)] : List Int)) 0 with | vQ => (Jn a0 vQ)))
def yn (a0 : Int) (a1 : List ZE) : Nat -> List Int -> Nat -> (List Int)
  | 0, _, _ => default
  | n1 + 1, J, U => (bif (decide ((U : Int) < (a1.length : Int))) then yn a0 a1 n1 (J ++ ([(Jn a0 (([(nth a1 U).Key, (nth a1 U).Mark] : List Int) ++ (nth a1 U).Z0))] : List Int)) (U + 1) else (J))
def yH (a0 : Int) (a1 : List ZE) : Int := (match yn a0 a1 (a1.length + 1) ([2] : List Int) 0 with | z1_0 => (Jn a0 z1_0))
def Te (a0 : Int) (a1 : Int) (a2 : List ZE) (a3 : Int) : Int := (Jn a0 ([3, a1, (yH a0 a2), a3] : List Int))
def xM (a0 : ZG) (a1 : List Int) (a2 : Int) : Int := (bif (((!(YE a2 0 (W ((a0.ZJ.length : Int) - 1)))) || ((a1.length : Int) != (a0.ZJ.length : Int))) || (!(YE (nth a0.ZJ a2.toNat).Count 0 (a0.ZO.length : Int)))) then (-1) else (bif (decide (a2 > 0)) then (Te (nth a0.ZJ a2.toNat).Method (nth a1 a2.toNat) (a0.ZO.take (nth a0.ZJ a2.toNat).Count.toNat) (zB (nth a0.ZJ a2.toNat).Method (nth a0.ZJ (W (a2 - 1)).toNat))) else (Te (nth a0.ZJ a2.toNat).Method (nth a1 a2.toNat) (a0.ZO.take (nth a0.ZJ a2.toNat).Count.toNat) 0)))
def Jx : Nat -> List Int -> Int -> List UInt8 -> Nat -> Int -> (List Int) × (List UInt8) × Nat × Int
  | 0, _, _, _, _, _ => (default, default, default, default)
  | n1 + 1, J, U, wB, wH, wP => (bif (decide (U > 0)) then Jx n1 (J ++ ([(ZA (ZI.mk wB wH wP) 99).2] : List Int)) (W (U - 1)) (ZA (ZI.mk wB wH wP) 99).1.b (ZA (ZI.mk wB wH wP) 99).1.i (ZA (ZI.mk wB wH wP) 99).1.h else ((J, wB, wH, wP)))
def YZ (a0 : ZI) (a1 : Int) : ZI × List Int := (match Jx ((ZA a0 a1).2.toNat + 2) ([] : List Int) (ZA a0 a1).2 (ZA a0 a1).1.b (ZA a0 a1).1.i (ZA a0 a1).1.h with | (z1_0, z1_1, z1_2, z1_3) => ((ZI.mk z1_1 z1_2 z1_3), z1_0))
def WO (a0 : Int) (a1 : Int) (a2 : Int) : Int := (Jn a0 ([1, a1, a2] : List Int))
def yg (a0 : Int) (a1 : List Int) : Nat -> List Int -> Nat -> (List Int)
  | 0, _, _ => default
  | n1 + 1, J, U => (bif (decide ((U : Int) < (a1.length : Int))) then (bif (decide ((W ((U : Int) + 1)) < (a1.length : Int))) then yg a0 a1 n1 (J ++ ([(WO a0 (nth a1 U) (nth a1 (W ((U : Int) + 1)).toNat))] : List Int)) (U + 2) else yg a0 a1 n1 (J ++ ([(nth a1 U)] : List Int)) (U + 2)) else (J))
def jF (a0 : Int) (a1 : List Int) : List Int := (match yg a0 a1 (a1.length + 1) ([] : List Int) 0 with | z1_0 => z1_0)
def kz (a0 : Int) : Nat -> List Int -> (List Int)
  | 0, _ => default
  | n1 + 1, J => (bif (decide ((J.length : Int) > 1)) then kz a0 n1 (jF a0 J) else (J))
def zL (a0 : Int) (a1 : List Int) : Int := (bif (!(YE (a1.length : Int) 1 16)) then (-1) else (match kz a0 (a1.length + 1) a1 with | z1_0 => (nth z1_0 0)))
def Jc (a0 : Int) : Nat -> Int -> List Yl -> List Int -> (List Yl)
  | 0, _, _, _ => default
  | n1 + 1, J, U, wB => (bif (decide ((wB.length : Int) > 1)) then (bif ((Int.tmod J 2) == 1) then Jc a0 n1 (W (Int.tdiv J 2)) (U ++ ([(Yl.mk (nth wB (W (J - 1)).toNat) true)] : List Yl)) (jF a0 wB) else (bif (decide ((W (J + 1)) < (wB.length : Int))) then Jc a0 n1 (W (Int.tdiv J 2)) (U ++ ([(Yl.mk (nth wB (W (J + 1)).toNat) false)] : List Yl)) (jF a0 wB) else Jc a0 n1 (W (Int.tdiv J 2)) U (jF a0 wB))) else (U))
def zH (a0 : Int) (a1 : List Int) (a2 : Int) : List Yl := (bif ((decide ((a1.length : Int) > 16)) || (!(YE a2 0 (W ((a1.length : Int) - 1))))) then ([] : List Yl) else (match Jc a0 (a1.length + 1) a2 ([] : List Yl) a1 with | z1_0 => z1_0))
def zj (a0 : List YJ) (a1 : List ZP) (a2 : Int) (a3 : Int) (a4 : List Int) (a6 : List Int) (a7 : Int) (a8 : Int) : Nat -> Nat -> List ZV -> (List ZV)
  | 0, _, _ => default
  | n1 + 1, J, U => (bif (decide ((J : Int) < (a6.length : Int))) then (bif (zY a0 a1 (ZV.mk (nth a6 J) a7 a8 (zL a2 (a4 ++ ([a3] : List Int))) 0)).2 then zj a0 a1 a2 a3 a4 a6 a7 a8 n1 (J + 1) (U ++ ([(zY a0 a1 (ZV.mk (nth a6 J) a7 a8 (zL a2 (a4 ++ ([a3] : List Int))) 0)).1] : List ZV)) else zj a0 a1 a2 a3 a4 a6 a7 a8 n1 (J + 1) U) else (U))
def zi (a0 : List YJ) (a1 : List ZP) (a2 : Int) (a3 : Int) (a4 : List Int) (a5 : Int) (a6 : List Int) (a7 : Int) (a8 : Int) : ZK := (match zj a0 a1 a2 a3 a4 a6 a7 a8 (a6.length + 1) 0 ([] : List ZV) with | z1_0 => (ZK.mk a5 a2 (zL a2 (a4 ++ ([a3] : List Int))) (zH a2 (a4 ++ ([a3] : List Int)) (W (((a4 ++ ([a3] : List Int)).length : Int) - 1))) z1_0))
def QD (a0 : ZI) (a1 : ZG) (a2 : ZM) (a3 : Int) (a4 : Int) : ZI × ZG := (bif (!(Zz a1 (ZK.mk (a1.ZO.length : Int) a3 0 ([] : List Yl) ([] : List ZV))).2) then (a0, a1) else (bif (Zk a0 3).2 then ((ZA (YZ (Zk a0 3).1 4).1 9).1, (Zz a1 (zi YU YN a3 (xM (Zz a1 (ZK.mk (a1.ZO.length : Int) a3 0 ([] : List Yl) ([] : List ZV))).1 (Xl (Zz a1 (ZK.mk (a1.ZO.length : Int) a3 0 ([] : List Yl) ([] : List ZV))).1 a2) (W (((Zz a1 (ZK.mk (a1.ZO.length : Int) a3 0 ([] : List Yl) ([] : List ZV))).1.ZJ.length : Int) - 1))) (YZ (Zk a0 3).1 4).2 (a1.ZO.length : Int) ([1, 3, 4] : List Int) (ZA (YZ (Zk a0 3).1 4).1 9).2 a4)).1) else ((ZA (YZ (Zk a0 3).1 4).1 9).1, (Zz a1 (zi YU YN a3 (xM (Zz a1 (ZK.mk (a1.ZO.length : Int) a3 0 ([] : List Yl) ([] : List ZV))).1 (Xl (Zz a1 (ZK.mk (a1.ZO.length : Int) a3 0 ([] : List Yl) ([] : List ZV))).1 a2) (W (((Zz a1 (ZK.mk (a1.ZO.length : Int) a3 0 ([] : List Yl) ([] : List ZV))).1.ZJ.length : Int) - 1))) (YZ (Zk a0 3).1 4).2 (a1.ZO.length : Int) ([1, 2, 3, 4] : List Int) (ZA (YZ (Zk a0 3).1 4).1 9).2 a4)).1)))
def KT (a0 : ZI) : Nat -> Int -> Int -> List UInt8 -> Nat -> Int -> List ZE -> List ZK -> (List UInt8) × Nat × Int × (List ZE) × (List ZK)
  | 0, _, _, _, _, _, _, _ => (default, default, default, default, default)
  | n1 + 1, J, U, wB, wH, wP, wy, vT => (bif (decide (U > 0)) then KT a0 n1 (W (J + (Z3 (QD (ZA (ZI.mk wB wH wP) 4).1 (ZG.mk wy vT) (Zj a0).2.2.1 (W (1 + (ZA (ZI.mk wB wH wP) 4).2)) J).1 ([10, 20, 40] : List Int)).2)) (W (U - 1)) (Z3 (QD (ZA (ZI.mk wB wH wP) 4).1 (ZG.mk wy vT) (Zj a0).2.2.1 (W (1 + (ZA (ZI.mk wB wH wP) 4).2)) J).1 ([10, 20, 40] : List Int)).1.b (Z3 (QD (ZA (ZI.mk wB wH wP) 4).1 (ZG.mk wy vT) (Zj a0).2.2.1 (W (1 + (ZA (ZI.mk wB wH wP) 4).2)) J).1 ([10, 20, 40] : List Int)).1.i (Z3 (QD (ZA (ZI.mk wB wH wP) 4).1 (ZG.mk wy vT) (Zj a0).2.2.1 (W (1 + (ZA (ZI.mk wB wH wP) 4).2)) J).1 ([10, 20, 40] : List Int)).1.h (QD (ZA (ZI.mk wB wH wP) 4).1 (ZG.mk wy vT) (Zj a0).2.2.1 (W (1 + (ZA (ZI.mk wB wH wP) 4).2)) J).2.ZO (QD (ZA (ZI.mk wB wH wP) 4).1 (ZG.mk wy vT) (Zj a0).2.2.1 (W (1 + (ZA (ZI.mk wB wH wP) 4).2)) J).2.ZJ else ((wB, wH, wP, wy, vT)))
def Xn (a0 : ZI) : ZI × ZG × ZM × ZX := (match KT a0 5 (Z3 (Zj a0).1 ([10, 25, 30] : List Int)).2 (ZA (Z3 (Zj a0).1 ([10, 25, 30] : List Int)).1 4).2 (ZA (Z3 (Zj a0).1 ([10, 25, 30] : List Int)).1 4).1.b (ZA (Z3 (Zj a0).1 ([10, 25, 30] : List Int)).1 4).1.i (ZA (Z3 (Zj a0).1 ([10, 25, 30] : List Int)).1 4).1.h (Zj a0).2.1.ZO (Zj a0).2.1.ZJ with | (z1_0, z1_1, z1_2, z1_3, z1_4) => ((ZI.mk z1_0 z1_1 z1_2), (ZG.mk z1_3 z1_4), (Zj a0).2.2.1, (Zj a0).2.2.2))
def Xm (a0 : ZI) : ZI × Zp := ((Z3 (ZA (Xn a0).1 9).1 ([50, 100, 10000] : List Int)).1, (Zp.mk (W (1 + (ZA (Xn a0).1 9).2)) (Z3 (ZA (Xn a0).1 9).1 ([50, 100, 10000] : List Int)).2 (Xn a0).2.2.1 (Xn a0).2.2.2 (Xn a0).2.1))
def OU (a0 : Zp) : Bool := (((((YE a0.Id 1 999) && (q8 a0.Y0)) && (YW a0.Doc)) && (zU a0.XM)) && (y0 (nth a0.XM.ZO 0) (Yv a0.Sig)))
def js (a0 : Zf) : Nat -> Nat -> Sum Bool Unit
  | 0, _ => .inr ()
  | n1 + 1, J => (bif (decide ((J : Int) < (a0.Zl.length : Int))) then (bif ((!(OU (nth a0.Zl J))) || ((decide ((J : Int) > 0)) && (decide ((nth a0.Zl (J - 1)).Id >= (nth a0.Zl J).Id)))) then (.inl false) else js a0 n1 (J + 1)) else (.inr ()))
def JX (a0 : Zf) : Bool := (match js a0 (a0.Zl.length + 1) 0 with | .inl r1 => r1 | .inr _ => ((YE a0.Id 0 99) && (decide ((a0.Zl.length : Int) <= 8))))
def ky (a0 : Zf) (a1 : Int) : Nat -> Nat -> Sum Int Unit
  | 0, _ => .inr ()
  | n1 + 1, J => (bif (decide ((J : Int) < (a0.Zl.length : Int))) then (bif ((nth a0.Zl J).Id == a1) then (.inl (J : Int)) else ky a0 a1 n1 (J + 1)) else (.inr ()))
def We (a0 : Zf) (a1 : Int) : Int := (match ky a0 a1 (a0.Zl.length + 1) 0 with | .inl r1 => r1 | .inr _ => (-1))
def PS (a0 : ZM) : ZM := a0
def SH (a0 : Zp) : Zp := a0
def jR (a0 : Zf) : Nat -> Nat -> List Zp -> (List Zp)
  | 0, _, _ => default
  | n1 + 1, J, U => (bif (decide ((J : Int) < (a0.Zl.length : Int))) then jR a0 n1 (J + 1) (U ++ ([(nth a0.Zl J)] : List Zp)) else (U))
def V4 (a0 : Zf) : Zf := (match jR a0 (a0.Zl.length + 1) 0 ([] : List Zp) with | z1_0 => (Zf.mk a0.Id z1_0))
def Qr (a0 : Zf) (a1 : Zp) : Nat -> Bool -> Nat -> List Zp -> Bool × (List Zp)
  | 0, _, _, _ => (default, default)
  | n1 + 1, J, U, wB => (bif (decide ((U : Int) < (a0.Zl.length : Int))) then (bif ((!J) && (decide (a1.Id < (nth a0.Zl U).Id))) then Qr a0 a1 n1 true (U + 1) ((wB ++ ([a1] : List Zp)) ++ ([(nth a0.Zl U)] : List Zp)) else Qr a0 a1 n1 J (U + 1) (wB ++ ([(nth a0.Zl U)] : List Zp))) else ((J, wB)))
def Km (a0 : Zf) (a1 : Zp) : Zf × Bool := (bif ((!(JX a0)) || (decide ((We a0 a1.Id) >= 0))) then (a0, false) else (match Qr a0 a1 (a0.Zl.length + 1) false 0 ([] : List Zp) with | (z1_0, z1_1) => (bif (!z1_0) then (bif (!(JX (Zf.mk a0.Id (z1_1 ++ ([a1] : List Zp))))) then (a0, false) else ((Zf.mk a0.Id (z1_1 ++ ([a1] : List Zp))), true)) else (bif (!(JX (Zf.mk a0.Id z1_1))) then (a0, false) else ((Zf.mk a0.Id z1_1), true)))))
def JV : Nat -> Int -> List UInt8 -> Nat -> Int -> Int -> List Zp -> (List UInt8) × Nat × Int × Int × (List Zp)
  | 0, _, _, _, _, _, _ => (default, default, default, default, default)
  | n1 + 1, J, U, wB, wH, wP, wy => (bif (decide (J > 0)) then JV n1 (W (J - 1)) (Xm (ZI.mk U wB wH)).1.b (Xm (ZI.mk U wB wH)).1.i (Xm (ZI.mk U wB wH)).1.h (Km (Zf.mk wP wy) (Xm (ZI.mk U wB wH)).2).1.Id (Km (Zf.mk wP wy) (Xm (ZI.mk U wB wH)).2).1.Zl else ((U, wB, wH, wP, wy)))
def Kc (a0 : ZI) : ZI × Zf := (match JV 5 (ZA (ZA a0 3).1 4).2 (ZA (ZA a0 3).1 4).1.b (ZA (ZA a0 3).1 4).1.i (ZA (ZA a0 3).1 4).1.h (ZA a0 3).2 ([] : List Zp) with | (z1_0, z1_1, z1_2, z1_3, z1_4) => ((ZI.mk z1_0 z1_1 z1_2), (Zf.mk z1_3 z1_4)))
def ZQ (a0 : List UInt8) : ZW × Zf := ((KZ (zE a0)).2, (Kc (KZ (zE a0)).1).2)
def QO : Nat -> Int -> List UInt8 -> (List UInt8)
  | 0, _, _ => default
  | n1 + 1, J, U => (bif (decide ((Int.tmod J 10) < 0)) then (bif ((W (Int.tdiv J 10)) == 0) then ((([(UInt8.ofInt (W (48 + (W (-(Int.tmod J 10))))))] : List UInt8) ++ U)) else QO n1 (W (Int.tdiv J 10)) (([(UInt8.ofInt (W (48 + (W (-(Int.tmod J 10))))))] : List UInt8) ++ U)) else (bif ((W (Int.tdiv J 10)) == 0) then ((([(UInt8.ofInt (W (48 + (Int.tmod J 10))))] : List UInt8) ++ U)) else QO n1 (W (Int.tdiv J 10)) (([(UInt8.ofInt (W (48 + (Int.tmod J 10))))] : List UInt8) ++ U)))
def Y3 (a0 : Int) : ByteArray := (match QO 21 a0 ([] : List UInt8) with | z1_0 => (bif (decide (a0 < 0)) then ((⟨#[45]⟩ : ByteArray) ++ (⟨z1_0.toArray⟩ : ByteArray)) else (⟨z1_0.toArray⟩ : ByteArray)))
def Up (a0 : List Int) : List Int := a0
def W4 (a0 : ZE) : ZE := a0
def zz (a0 : List ZE) : Nat -> List ZE -> Nat -> (List ZE)
  | 0, _, _ => default
  | n1 + 1, J, U => (bif (decide ((U : Int) < (a0.length : Int))) then zz a0 n1 (J ++ ([(nth a0 U)] : List ZE)) (U + 1) else (J))
def qA (a0 : List ZE) : List ZE := (match zz a0 (a0.length + 1) ([] : List ZE) 0 with | z1_0 => z1_0)
def WH (a0 : List ZV) : List ZV := a0
def kI (a0 : ZK) : ZK := a0
def zy (a0 : ZG) : Nat -> Nat -> List ZK -> (List ZK)
  | 0, _, _ => default
  | n1 + 1, J, U => (bif (decide ((J : Int) < (a0.ZJ.length : Int))) then zy a0 n1 (J + 1) (U ++ ([(nth a0.ZJ J)] : List ZK)) else (U))
def xr (a0 : ZG) : ZG := (match zy a0 (a0.ZJ.length + 1) 0 ([] : List ZK) with | z1_0 => (ZG.mk a0.ZO z1_0))
def yL (a0 : Zp) : Zb := (Zb.mk ([a0.XM] : List ZG) ([] : List (List ZV)))
def ZS (a0 : Int) (a1 : Int) (a2 : Int) : Bool := ((decide (a1 <= a0)) && (decide (a0 <= a2)))
def zt (a0 : ZM) : Nat -> Nat -> Sum Bool Unit
  | 0, _ => .inr ()
  | n1 + 1, J => (bif (decide ((J : Int) < (a0.Zd.length : Int))) then (bif ((decide (((nth a0.Zd J).size : Int) > 40)) || (!(ZS (nth a0.Yh J) 1 1000000000000))) then (.inl false) else zt a0 n1 (J + 1)) else (.inr ()))
def zm (a0 : ZM) : Bool := (bif (((!(ZS a0.QF 0 999)) || (!(ZS (a0.Zd.length : Int) 1 6))) || ((a0.Yh.length : Int) != (a0.Zd.length : Int))) then false else (match zt a0 (a0.Zd.length + 1) 0 with | .inl r1 => r1 | .inr _ => true))
def xE (a0 : List UInt8) : Nat -> List Int -> Nat -> (List Int)
  | 0, _, _ => default
  | n1 + 1, J, U => (bif (decide ((U : Int) < (a0.length : Int))) then xE a0 n1 (J ++ ([(W ((nth a0 U).toNat : Int))] : List Int)) (U + 1) else (J))
def qM (a0 : List UInt8) : List Int := (match xE a0 (a0.length + 1) ([] : List Int) 0 with | z1_0 => z1_0)
def FJ (a0 : Int) (a1 : Int) : Int := (bif (!(ZS a1 1 1000000000000)) then 0 else (Int.tmod (W ((Int.tmod a0 a1) + a1)) a1))
def Pl (a0 : List Int) : Nat -> Int -> Nat -> Int
  | 0, _, _ => default
  | n1 + 1, J, U => (bif (decide ((U : Int) < (a0.length : Int))) then Pl a0 n1 (Int.tmod (W ((W ((W (J * 1000003)) + (FJ (nth a0 U) 2147483647))) + 13)) 2147483647) (U + 1) else (J))
def MN (a0 : List Int) : Int := (match Pl a0 (a0.length + 1) 11 0 with | z1_0 => z1_0)
def QZ (a0 : Int) (a1 : List Int) : Int := (MN (([7, a0] : List Int) ++ a1))
def WN (a0 : Int) (a1 : ByteArray) (a2 : Int) : Int := (QZ a0 (([a2] : List Int) ++ (qM a1.data.toList)))
def jl (a0 : Int) (a1 : ZM) : Nat -> List Int -> Nat -> (List Int)
  | 0, _, _ => default
  | n1 + 1, J, U => (bif (decide ((U : Int) < (a1.Zd.length : Int))) then jl a0 a1 n1 (J ++ ([(WN a0 (nth a1.Zd U) (nth a1.Yh U))] : List Int)) (U + 1) else (J))
def xJ (a0 : Int) (a1 : ZM) : Int := (bif (!(zm a1)) then (-1) else (match jl a0 a1 (a1.Zd.length + 1) ([a1.QF] : List Int) 0 with | z1_0 => (QZ a0 z1_0)))
def KU (a0 : ZG) (a1 : ZM) : Nat -> List Int -> Nat -> (List Int)
  | 0, _, _ => default
  | n1 + 1, J, U => (bif (decide ((U : Int) < (a0.ZJ.length : Int))) then KU a0 a1 n1 (J ++ ([(xJ (nth a0.ZJ U).Method a1)] : List Int)) (U + 1) else (J))
def Ke (a0 : ZG) (a1 : ZM) : List Int := (match KU a0 a1 (a0.ZJ.length + 1) ([] : List Int) 0 with | z1_0 => z1_0)
def Qu (a0 : Zb) (a1 : ZM) : Nat -> List (List Int) -> Nat -> (List (List Int))
  | 0, _, _ => default
  | n1 + 1, J, U => (bif (decide ((U : Int) < (a0.ZZ.length : Int))) then Qu a0 a1 n1 (J ++ ([(Ke (nth a0.ZZ U) a1)] : List (List Int))) (U + 1) else (J))
def Jp (a0 : Zb) (a1 : ZM) : List (List Int) := (match Qu a0 a1 (a0.ZZ.length + 1) ([] : List (List Int)) 0 with | z1_0 => z1_0)
def yY (a0 : Int) : Bool := (ZS a0 0 10000)
def kx (a0 : Int) : Bool := (ZS a0 1 2147483646)
def MB (a0 : YJ) : Bool := (((((ZS a0.Number 1 99) && (ZS a0.yU 0 99)) && (ZS a0.Method 0 99)) && (yY a0.Hq)) && (kx a0.Vl))
def VZ (a0 : List YJ) : Nat -> Nat -> Sum Bool Unit
  | 0, _ => .inr ()
  | n1 + 1, J => (bif (decide ((J : Int) < (a0.length : Int))) then (bif ((!(MB (nth a0 J))) || ((decide ((J : Int) > 0)) && (decide ((nth a0 (J - 1)).Number >= (nth a0 J).Number)))) then (.inl false) else VZ a0 n1 (J + 1)) else (.inr ()))
def Sn (a0 : List YJ) : Bool := (match VZ a0 (a0.length + 1) 0 with | .inl r1 => r1 | .inr _ => (decide ((a0.length : Int) <= 12)))
def zG (a0 : List ZP) : Nat -> Nat -> Sum Bool Unit
  | 0, _ => .inr ()
  | n1 + 1, J => (bif (decide ((J : Int) < (a0.length : Int))) then (bif ((((!(ZS (nth a0 J).Id 0 99)) || (!(ZS (nth a0 J).Key 1 99))) || (!(ZS (nth a0 J).Error 0 100))) || ((decide ((J : Int) > 0)) && (decide ((nth a0 (J - 1)).Id >= (nth a0 J).Id)))) then (.inl false) else zG a0 n1 (J + 1)) else (.inr ()))
def yf (a0 : List ZP) : Bool := (match zG a0 (a0.length + 1) 0 with | .inl r1 => r1 | .inr _ => (decide ((a0.length : Int) <= 6)))
def Uw (a0 : YV) : Bool := ((((((ZS a0.Id 0 99) && (yY a0.NW)) && (ZS a0.Ends 1 10001)) && (ZS a0.T1 1 10001)) && (decide (a0.NW < a0.Ends))) && (decide (a0.NW < a0.T1)))
def q7 (a0 : List YV) : Nat -> Nat -> Sum Bool Unit
  | 0, _ => .inr ()
  | n1 + 1, J => (bif (decide ((J : Int) < (a0.length : Int))) then (bif ((!(Uw (nth a0 J))) || ((decide ((J : Int) > 0)) && (decide ((nth a0 (J - 1)).Id >= (nth a0 J).Id)))) then (.inl false) else q7 a0 n1 (J + 1)) else (.inr ()))
def kp (a0 : List YV) : Bool := (match q7 a0 (a0.length + 1) 0 with | .inl r1 => r1 | .inr _ => (decide ((a0.length : Int) <= 8)))
def Sl (a0 : ZW) : Bool := (((((Sn a0.JW) && (yf a0.Z6)) && (kp a0.Methods)) && (ZS a0.xh 0 6)) && (yY a0.Now))
def VB (a0 : Int) : Xe := (Xe.mk 3 a0 (ZL.mk 0 0))
def y8 (a0 : ZX) : Bool := ((((((((ZS a0.Key 1 99) && (ZS a0.Zv 1 999)) && (ZS a0.Method 0 99)) && (ZS a0.Org 0 99)) && (ZS a0.jk 1 3)) && (ZS a0.XC 0 1000000000000)) && (ZS a0.jt 0 1000000000000)) && (ZS a0.ja 0 1000000000000))
def kl (a0 : Int) : Xe := (Xe.mk 2 a0 (ZL.mk 0 0))
def jd (a0 : List YJ) (a1 : Int) : Nat -> Nat -> Sum Int Unit
  | 0, _ => .inr ()
  | n1 + 1, J => (bif (decide ((J : Int) < (a0.length : Int))) then (bif ((nth a0 J).Number == a1) then (.inl (J : Int)) else jd a0 a1 n1 (J + 1)) else (.inr ()))
def Yp (a0 : List YJ) (a1 : Int) : Int := (match jd a0 a1 (a0.length + 1) 0 with | .inl r1 => r1 | .inr _ => (-1))
def Xs (a0 : ZX) : List Int := ([104, a0.Key, a0.Zv, a0.Method, a0.XC, a0.jk, a0.Org, a0.jt, a0.ja] : List Int)
def Wv (a0 : Int) (a1 : List Int) : Int := (MN ((([a0] : List Int) ++ a1) ++ ([a0] : List Int)))
def Uz (a0 : YJ) (a1 : List Int) : Int := (Wv a0.Vl (([a0.Method] : List Int) ++ a1))
def qT (a0 : List YJ) (a1 : Int) (a2 : List Int) : Int × Bool := (bif (decide ((Yp a0 a1) < 0)) then (0, false) else ((Uz (nth a0 (Yp a0 a1).toNat) a2), true))
def X4 (a0 : List YJ) (a1 : Int) (a2 : List Int) (a3 : Int) : Bool := ((qT a0 a1 a2).2 && ((qT a0 a1 a2).1 == a3))
def yp (a0 : List YJ) (a1 : ZX) : Bool := ((y8 a1) && (X4 a0 a1.Key (Xs a1) a1.Mark))
def Yu (a0 : ZX) : ZE := (ZE.mk a0.Key (Xs a0) a0.Mark)
def jn (a0 : List Int) (a1 : List Int) : Nat -> Nat -> Sum Bool Unit
  | 0, _ => .inr ()
  | n1 + 1, J => (bif (decide ((J : Int) < (a0.length : Int))) then (bif ((nth a0 J) != (nth a1 J)) then (.inl false) else jn a0 a1 n1 (J + 1)) else (.inr ()))
def VU (a0 : List Int) (a1 : List Int) : Bool := (bif ((a0.length : Int) != (a1.length : Int)) then false else (match jn a0 a1 (a0.length + 1) 0 with | .inl r1 => r1 | .inr _ => true))
def y7 (a0 : ZE) (a1 : ZE) : Bool := (((a0.Key == a1.Key) && (a0.Mark == a1.Mark)) && (VU a0.Z0 a1.Z0))
def ju (a0 : ZG) (a1 : ZE) : Nat -> Nat -> Sum Int Unit
  | 0, _ => .inr ()
  | n1 + 1, J => (bif (decide ((J : Int) < (a0.ZO.length : Int))) then (bif (y7 (nth a0.ZO J) a1) then (.inl (J : Int)) else ju a0 a1 n1 (J + 1)) else (.inr ()))
def xQ (a0 : ZG) (a1 : ZE) : Int := (match ju a0 a1 (a0.ZO.length + 1) 0 with | .inl r1 => r1 | .inr _ => (-1))
def J5 (a0 : List ZP) (a1 : Int) : Nat -> Nat -> Sum Int Unit
  | 0, _ => .inr ()
  | n1 + 1, J => (bif (decide ((J : Int) < (a0.length : Int))) then (bif ((nth a0 J).Id == a1) then (.inl (J : Int)) else J5 a0 a1 n1 (J + 1)) else (.inr ()))
def Zy (a0 : List ZP) (a1 : Int) : Int := (match J5 a0 a1 (a0.length + 1) 0 with | .inl r1 => r1 | .inr _ => (-1))
def JJ (a0 : ZL) : Bool := (((yY a0.Ys) && (yY a0.To)) && (decide (a0.Ys <= a0.To)))
def Jk (a0 : Int) (a1 : Int) : ZL × Bool := (bif ((decide (a0 > a1)) || (!(JJ (ZL.mk (if 0 > a0 then 0 else a0) (if 10000 < a1 then 10000 else a1))))) then ((ZL.mk 0 0), false) else ((ZL.mk (if 0 > a0 then 0 else a0) (if 10000 < a1 then 10000 else a1)), true))
def xN (a0 : List ZP) (a1 : ZV) : ZL × Bool := (bif (((decide ((Zy a0 a1.Authority) < 0)) || (decide ((nth a0 (Zy a0 a1.Authority).toNat).Error < 0))) || (!(yY a1.Time))) then ((ZL.mk 0 0), false) else ((Jk (W (a1.Time - (nth a0 (Zy a0 a1.Authority).toNat).Error)) (W (a1.Time + (nth a0 (Zy a0 a1.Authority).toNat).Error))).1, (Jk (W (a1.Time - (nth a0 (Zy a0 a1.Authority).toNat).Error)) (W (a1.Time + (nth a0 (Zy a0 a1.Authority).toNat).Error))).2))
def jI (a0 : List ZL) (a1 : Int) : Nat -> Int -> Nat -> Int
  | 0, _, _ => default
  | n1 + 1, J, U => (bif (decide ((U : Int) < (a0.length : Int))) then (bif ((JJ (nth a0 U)) && (ZS a1 (nth a0 U).Ys (nth a0 U).To)) then jI a0 a1 n1 (W (J + 1)) (U + 1) else jI a0 a1 n1 J (U + 1)) else (J))
def Sb (a0 : List ZL) (a1 : Int) : Int := (match jI a0 a1 (a0.length + 1) 0 0 with | z1_0 => z1_0)
def jq (a0 : List ZL) (a1 : Int) (a2 : Int) : Bool := ((ZS a2 0 (W ((a0.length : Int) - 1))) && (decide ((Sb a0 a1) >= (W ((a0.length : Int) - a2)))))
def J8 (a0 : List ZL) (a1 : Int) : Nat -> Bool -> Nat -> Int -> Int -> Bool × Int × Int
  | 0, _, _, _, _ => (default, default, default)
  | n1 + 1, J, U, wB, wH => (bif (decide ((U : Int) <= 10000)) then (bif (jq a0 (U : Int) a1) then (bif (!J) then J8 a0 a1 n1 true (U + 1) (U : Int) (U : Int) else J8 a0 a1 n1 true (U + 1) wB (U : Int)) else J8 a0 a1 n1 J (U + 1) wB wH) else ((J, wB, wH)))
def yW (a0 : List ZL) (a1 : Int) : ZL × Bool := (match J8 a0 a1 10002 false 0 0 0 with | (z1_0, z1_1, z1_2) => ((ZL.mk z1_1 z1_2), z1_0))
def kr (a0 : List ZP) (a1 : List ZV) : Nat -> List ZL -> Nat -> Sum (ZL × Bool) (List ZL)
  | 0, _, _ => .inr default
  | n1 + 1, J, U => (bif (decide ((U : Int) < (a1.length : Int))) then (bif (!(xN a0 (nth a1 U)).2) then (.inl ((ZL.mk 0 0), false)) else kr a0 a1 n1 (J ++ ([(xN a0 (nth a1 U)).1] : List ZL)) (U + 1)) else (.inr J))
def Qb (a0 : List ZP) (a1 : List ZV) (a2 : Int) : ZL × Bool := (match kr a0 a1 (a1.length + 1) ([] : List ZL) 0 with | .inl r1 => r1 | .inr z1_0 => ((yW z1_0 a2).1, (yW z1_0 a2).2))
def K4 (a0 : List ZP) (a1 : ZK) (a2 : Int) : ZL × Bool := ((Qb a0 a1.Z7 a2).1, (Qb a0 a1.Z7 a2).2)
def X8 (a0 : ZW) (a1 : ZK) : ZL × Bool := ((K4 a0.Z6 a1 a0.xh).1, (K4 a0.Z6 a1 a0.xh).2)
def QQ (a0 : ZV) : List Int := ([103, a0.Authority, a0.Seq, a0.Time, a0.XC] : List Int)
def z7 (a1 : ZK) : Nat -> List Int -> Nat -> (List Int)
  | 0, _, _ => default
  | n2 + 1, wD, wE => (bif (decide ((wE : Int) < (a1.Z7.length : Int))) then z7 a1 n2 ((wD ++ (QQ (nth a1.Z7 wE))) ++ ([(nth a1.Z7 wE).Mark] : List Int)) (wE + 1) else (wD))
def J7 (a1 : ZK) : Nat -> List Int -> Nat -> (List Int)
  | 0, _, _ => default
  | n1 + 1, J, U => (bif (decide ((U : Int) < (a1.Path.length : Int))) then (bif (nth a1.Path U).Left then J7 a1 n1 (J ++ ([(nth a1.Path U).XC, 1] : List Int)) (U + 1) else J7 a1 n1 (J ++ ([(nth a1.Path U).XC, 0] : List Int)) (U + 1)) else (J))
def Jo (a0 : Int) (a1 : ZK) : Int := (match J7 a1 (a1.Path.length + 1) ([4, a1.Count, a1.Method, a1.LA] : List Int) 0 with | z1_0 => (match z7 a1 (a1.Z7.length + 1) (z1_0 ++ ([(a1.Z7.length : Int)] : List Int)) 0 with | vQ => (QZ a0 vQ)))
def yj (a0 : Int) (a1 : List ZE) : Nat -> List Int -> Nat -> (List Int)
  | 0, _, _ => default
  | n1 + 1, J, U => (bif (decide ((U : Int) < (a1.length : Int))) then yj a0 a1 n1 (J ++ ([(QZ a0 (([(nth a1 U).Key, (nth a1 U).Mark] : List Int) ++ (nth a1 U).Z0))] : List Int)) (U + 1) else (J))
def yT (a0 : Int) (a1 : List ZE) : Int := (match yj a0 a1 (a1.length + 1) ([2] : List Int) 0 with | z1_0 => (QZ a0 z1_0))
def TJ (a0 : Int) (a1 : Int) (a2 : List ZE) (a3 : Int) : Int := (QZ a0 ([3, a1, (yT a0 a2), a3] : List Int))
def TW (a0 : ZG) (a1 : List Int) (a2 : Int) : Int := (bif (((!(ZS a2 0 (W ((a0.ZJ.length : Int) - 1)))) || ((a1.length : Int) != (a0.ZJ.length : Int))) || (!(ZS (nth a0.ZJ a2.toNat).Count 0 (a0.ZO.length : Int)))) then (-1) else (bif (decide (a2 > 0)) then (TJ (nth a0.ZJ a2.toNat).Method (nth a1 a2.toNat) (a0.ZO.take (nth a0.ZJ a2.toNat).Count.toNat) (Jo (nth a0.ZJ a2.toNat).Method (nth a0.ZJ (W (a2 - 1)).toNat))) else (TJ (nth a0.ZJ a2.toNat).Method (nth a1 a2.toNat) (a0.ZO.take (nth a0.ZJ a2.toNat).Count.toNat) 0)))
def xj (a0 : Int) (a1 : Int) (a2 : Int) : Int := (QZ a0 ([1, a1, a2] : List Int))
def z8 (a0 : Int) (a2 : List Yl) : Nat -> Int -> Nat -> Int
  | 0, _, _ => default
  | n1 + 1, J, U => (bif (decide ((U : Int) < (a2.length : Int))) then (bif (nth a2 U).Left then z8 a0 a2 n1 (xj a0 (nth a2 U).XC J) (U + 1) else z8 a0 a2 n1 (xj a0 J (nth a2 U).XC) (U + 1)) else (J))
def WS (a0 : Int) (a1 : Int) (a2 : List Yl) : Int := (match z8 a0 a2 (a2.length + 1) a1 0 with | z1_0 => z1_0)
def J1 (a0 : List ZV) : Nat -> Nat -> Sum Bool Unit
  | 0, _ => .inr ()
  | n1 + 1, J => (bif (decide ((J : Int) < (a0.length : Int))) then (bif (decide ((nth a0 (J - 1)).Authority >= (nth a0 J).Authority)) then (.inl false) else J1 a0 n1 (J + 1)) else (.inr ()))
def QH (a0 : List ZV) : Bool := (match J1 a0 (a0.length + 1) 1 with | .inl r1 => r1 | .inr _ => true)
def Qx (a0 : List YJ) (a1 : List ZP) (a2 : ZV) : ZV × Bool := (bif (((decide ((Zy a1 a2.Authority) < 0)) || (decide (a2.Seq < 0))) || (!(yY a2.Time))) then ((ZV.mk 0 0 0 0 0), false) else (bif (!(qT a0 (nth a1 (Zy a1 a2.Authority).toNat).Key (QQ a2)).2) then ((ZV.mk 0 0 0 0 0), false) else ((ZV.mk a2.Authority a2.Seq a2.Time a2.XC (qT a0 (nth a1 (Zy a1 a2.Authority).toNat).Key (QQ a2)).1), true)))
def WG (a0 : List YJ) (a1 : List ZP) (a2 : ZV) : Bool := ((Qx a0 a1 a2).2 && (((Qx a0 a1 a2).1.Authority == a2.Authority) && (((Qx a0 a1 a2).1.Seq == a2.Seq) && (((Qx a0 a1 a2).1.Time == a2.Time) && (((Qx a0 a1 a2).1.XC == a2.XC) && ((Qx a0 a1 a2).1.Mark == a2.Mark))))))
def yk (a0 : List YJ) (a1 : List ZP) (a2 : ZK) : Nat -> Nat -> Sum Bool Unit
  | 0, _ => .inr ()
  | n1 + 1, J => (bif (decide ((J : Int) < (a2.Z7.length : Int))) then (bif (((nth a2.Z7 J).XC != a2.LA) || (!(WG a0 a1 (nth a2.Z7 J)))) then (.inl false) else yk a0 a1 a2 n1 (J + 1)) else (.inr ()))
def qa (a0 : List YJ) (a1 : List ZP) (a2 : ZK) (a3 : Int) : Bool := (bif ((((decide ((a2.Path.length : Int) > 4)) || ((WS a2.Method a3 a2.Path) != a2.LA)) || (!(ZS (a2.Z7.length : Int) 1 6))) || (!(QH a2.Z7))) then false else (match yk a0 a1 a2 (a2.Z7.length + 1) 0 with | .inl r1 => r1 | .inr _ => true))
def zx (a0 : List YV) (a1 : Int) : Nat -> Nat -> Sum Int Unit
  | 0, _ => .inr ()
  | n1 + 1, J => (bif (decide ((J : Int) < (a0.length : Int))) then (bif ((nth a0 J).Id == a1) then (.inl (J : Int)) else zx a0 a1 n1 (J + 1)) else (.inr ()))
def Kr (a0 : List YV) (a1 : Int) : Int := (match zx a0 a1 (a0.length + 1) 0 with | .inl r1 => r1 | .inr _ => (-1))
def zZ (a0 : List YV) (a1 : Int) : Int := (bif (decide ((Kr a0 a1) >= 0)) then (nth a0 (Kr a0 a1).toNat).T1 else 0)
def Xa (a0 : List ZP) (a1 : ZV) : Int := (bif (decide ((Zy a0 a1.Authority) >= 0)) then (nth a0 (Zy a0 a1.Authority).toNat).Key else 0)
def yq (a0 : List YJ) (a1 : List ZP) (a2 : List YV) (a3 : ZK) : Nat -> Int -> Nat -> Sum Int Int
  | 0, _, _ => .inr default
  | n1 + 1, J, U => (bif (decide ((U : Int) < (a3.Z7.length : Int))) then (bif (decide ((Yp a0 (Xa a1 (nth a3.Z7 U))) < 0)) then (.inl 0) else yq a0 a1 a2 a3 n1 (if (zZ a2 (nth a0 (Yp a0 (Xa a1 (nth a3.Z7 U))).toNat).Method) < J then (zZ a2 (nth a0 (Yp a0 (Xa a1 (nth a3.Z7 U))).toNat).Method) else J) (U + 1)) else (.inr J))
def yS (a0 : List YJ) (a1 : List ZP) (a2 : List YV) (a3 : ZK) : Int := (match yq a0 a1 a2 a3 (a3.Z7.length + 1) (zZ a2 a3.Method) 0 with | .inl r1 => r1 | .inr z1_0 => z1_0)
def Wu (a0 : ZW) (a1 : ZG) (a2 : Int) : Bool := (bif (!(ZS a2 0 (W ((a1.ZJ.length : Int) - 1)))) then false else (bif (a2 == (W ((a1.ZJ.length : Int) - 1))) then (decide (a0.Now < (yS a0.JW a0.Z6 a0.Methods (nth a1.ZJ a2.toNat)))) else ((X8 a0 (nth a1.ZJ (W (a2 + 1)).toNat)).2 && (decide ((X8 a0 (nth a1.ZJ (W (a2 + 1)).toNat)).1.To < (yS a0.JW a0.Z6 a0.Methods (nth a1.ZJ a2.toNat)))))))
def K8 (a0 : ZW) (a1 : ZG) (a2 : List Int) : Nat -> Nat -> Nat
  | 0, _ => default
  | n1 + 1, J => (bif (decide ((J : Int) > 0)) then (bif (((!(X8 a0 (nth a1.ZJ (J - 1))).2) || (!(qa a0.JW a0.Z6 (nth a1.ZJ (J - 1)) (TW a1 a2 (W ((J : Int) - 1)))))) || (!(Wu a0 a1 (W ((J : Int) - 1))))) then (J) else K8 a0 a1 a2 n1 (J - 1)) else (J))
def KG (a0 : ZW) (a1 : ZG) (a2 : List Int) : Int := (match K8 a0 a1 a2 (a1.ZJ.length + 1) a1.ZJ.length with | z1_0 => (z1_0 : Int))
def jH (a0 : ZW) (a1 : ZG) (a3 : Int) : Nat -> Int -> Int -> Int
  | 0, _, _ => default
  | n1 + 1, J, U => (bif (decide (U < (a1.ZJ.length : Int))) then (bif (decide ((nth a1.ZJ U.toNat).Count > a3)) then jH a0 a1 a3 n1 (if (X8 a0 (nth a1.ZJ U.toNat)).1.To < J then (X8 a0 (nth a1.ZJ U.toNat)).1.To else J) (W (U + 1)) else jH a0 a1 a3 n1 J (W (U + 1))) else (J))
def SW (a0 : ZW) (a1 : ZG) (a2 : List Int) (a3 : Int) : Int := (match jH a0 a1 a3 (a1.ZJ.length + 2) a0.Now (KG a0 a1 a2) with | z1_0 => z1_0)
def xu (a0 : ZW) (a1 : ZG) (a2 : List Int) (a3 : ZE) : Int := (bif (decide ((xQ a1 a3) < 0)) then a0.Now else (SW a0 a1 a2 (xQ a1 a3)))
def J6 (a0 : ZW) (a1 : Zb) (a2 : List (List Int)) (a3 : ZE) : Nat -> Int -> Nat -> Int
  | 0, _, _ => default
  | n1 + 1, J, U => (bif (decide ((U : Int) < (a1.ZZ.length : Int))) then (bif (decide ((U : Int) < (a2.length : Int))) then J6 a0 a1 a2 a3 n1 (if (xu a0 (nth a1.ZZ U) (nth a2 U) a3) < J then (xu a0 (nth a1.ZZ U) (nth a2 U) a3) else J) (U + 1) else J6 a0 a1 a2 a3 n1 J (U + 1)) else (J))
def YO (a0 : ZW) (a1 : Zb) (a2 : List (List Int)) (a3 : ZE) : Int := (match J6 a0 a1 a2 a3 (a1.ZZ.length + 1) a0.Now 0 with | z1_0 => z1_0)
def xo (a0 : ZW) (a1 : Int) : Int := (bif (decide ((Yp a0.JW a1) < 0)) then 0 else (zZ a0.Methods (nth a0.JW (Yp a0.JW a1).toNat).Method))
def Wd (a0 : List ZE) (a1 : ZE) : Nat -> Nat -> Sum Bool Unit
  | 0, _ => .inr ()
  | n1 + 1, J => (bif (decide ((J : Int) < (a0.length : Int))) then (bif (y7 (nth a0 J) a1) then (.inl true) else Wd a0 a1 n1 (J + 1)) else (.inr ()))
def qh (a0 : List ZE) (a1 : ZE) : Bool := (match Wd a0 a1 (a0.length + 1) 0 with | .inl r1 => r1 | .inr _ => false)
def YP (a0 : ZE) : Int := (bif ((((a0.Z0.length : Int) == 0) || (!(ZS (nth a0.Z0 0) 101 105))) || ((a0.Z0.length : Int) != (nth ([7, 5, 5, 9, 6] : List Int) (W ((nth a0.Z0 0) - 101)).toNat))) then 0 else (nth a0.Z0 0))
def Y4 (a0 : ZE) : YR × Bool := (bif (((YP a0) != 101) || ((nth a0.Z0 6) != a0.Key)) then ((YR.mk 0 0 0 0 0 0 0), false) else ((YR.mk (nth a0.Z0 1) (nth a0.Z0 2) (nth a0.Z0 3) (nth a0.Z0 4) (nth a0.Z0 5) (nth a0.Z0 6) a0.Mark), true))
def QP (a0 : ZE) : Zn × Bool := (bif (((YP a0) != 102) || ((nth a0.Z0 4) != a0.Key)) then ((Zn.mk 0 0 0 0 0), false) else ((Zn.mk (nth a0.Z0 1) (nth a0.Z0 2) (nth a0.Z0 3) (nth a0.Z0 4) a0.Mark), true))
def xt (a0 : ZE) : ZV × Bool := (bif ((YP a0) != 103) then ((ZV.mk 0 0 0 0 0), false) else ((ZV.mk (nth a0.Z0 1) (nth a0.Z0 2) (nth a0.Z0 3) (nth a0.Z0 4) a0.Mark), true))
def jX (a0 : ZE) : ZX × Bool := (bif (((YP a0) != 104) || ((nth a0.Z0 1) != a0.Key)) then ((ZX.mk 0 0 0 0 0 0 0 0 0), false) else ((ZX.mk (nth a0.Z0 1) (nth a0.Z0 2) (nth a0.Z0 3) (nth a0.Z0 4) (nth a0.Z0 5) (nth a0.Z0 6) (nth a0.Z0 7) (nth a0.Z0 8) a0.Mark), true))
def JQ (a0 : ZE) : Zx × Bool := (bif (((YP a0) != 105) || ((nth a0.Z0 5) != a0.Key)) then ((Zx.mk 0 0 0 0 0 0), false) else ((Zx.mk (nth a0.Z0 1) (nth a0.Z0 2) (nth a0.Z0 3) (nth a0.Z0 4) (nth a0.Z0 5) a0.Mark), true))
def Wb (a0 : List YJ) (a1 : ZE) : Bool := (bif ((YP a1) == 101) then ((Y4 a1).2 && (X4 a0 a1.Key a1.Z0 a1.Mark)) else (bif ((YP a1) == 102) then ((QP a1).2 && (X4 a0 a1.Key a1.Z0 a1.Mark)) else (bif ((YP a1) == 103) then ((xt a1).2 && (X4 a0 a1.Key a1.Z0 a1.Mark)) else (bif ((YP a1) == 104) then ((jX a1).2 && (X4 a0 a1.Key a1.Z0 a1.Mark)) else (bif ((YP a1) == 105) then ((JQ a1).2 && (X4 a0 a1.Key a1.Z0 a1.Mark)) else (false && (X4 a0 a1.Key a1.Z0 a1.Mark)))))))
def xV (a0 : ZE) (a1 : ZE) : Nat -> Nat -> Sum Bool Unit
  | 0, _ => .inr ()
  | n1 + 1, J => (bif ((decide ((J : Int) < (a0.Z0.length : Int))) && (decide ((J : Int) < (a1.Z0.length : Int)))) then (bif ((nth a0.Z0 J) != (nth a1.Z0 J)) then (.inl (decide ((nth a0.Z0 J) < (nth a1.Z0 J)))) else xV a0 a1 n1 (J + 1)) else (.inr ()))
def kG (a0 : ZE) (a1 : ZE) : Bool := (match xV a0 a1 (a0.Z0.length + 1) 0 with | .inl r1 => r1 | .inr _ => (bif ((a0.Z0.length : Int) != (a1.Z0.length : Int)) then (decide ((a0.Z0.length : Int) < (a1.Z0.length : Int))) else (bif (a0.Key != a1.Key) then (decide (a0.Key < a1.Key)) else (decide (a0.Mark < a1.Mark)))))
def Ka (a1 : Zb) (U : Nat) (wD : List ZE) (wE : Nat) : Nat -> Nat -> Nat
  | 0, _ => default
  | n3 + 1, wg => (bif ((decide ((wg : Int) < (wD.length : Int))) && (kG (nth wD wg) (nth (nth a1.ZZ U).ZO wE))) then Ka a1 U wD wE n3 (wg + 1) else (wg))
def Xz (a0 : ZW) (a1 : Zb) (a2 : List (List Int)) (U : Nat) : Nat -> List ZE -> Nat -> (List ZE)
  | 0, _, _ => default
  | n2 + 1, wD, wE => (bif (decide ((wE : Int) < ((nth a1.ZZ U).ZO.length : Int))) then (bif (((qh wD (nth (nth a1.ZZ U).ZO wE)) || (!(Wb a0.JW (nth (nth a1.ZZ U).ZO wE)))) || (decide ((YO a0 a1 a2 (nth (nth a1.ZZ U).ZO wE)) >= (xo a0 (nth (nth a1.ZZ U).ZO wE).Key)))) then Xz a0 a1 a2 U n2 wD (wE + 1) else (match Ka a1 U wD wE (wD.length + 1) 0 with | z3_0 => Xz a0 a1 a2 U n2 (((wD.take z3_0) ++ ([(nth (nth a1.ZZ U).ZO wE)] : List ZE)) ++ ((wD.drop z3_0).take (wD.length - z3_0))) (wE + 1))) else (wD))
def JM (a0 : ZW) (a1 : Zb) (a2 : List (List Int)) : Nat -> List ZE -> Nat -> (List ZE)
  | 0, _, _ => default
  | n1 + 1, J, U => (bif (decide ((U : Int) < (a1.ZZ.length : Int))) then (match Xz a0 a1 a2 U ((nth a1.ZZ U).ZO.length + 1) J 0 with | vQ => JM a0 a1 a2 n1 vQ (U + 1)) else (J))
def Zc (a0 : ZW) (a1 : Zb) (a2 : List (List Int)) : List ZE := (match JM a0 a1 a2 (a1.ZZ.length + 1) ([] : List ZE) 0 with | z1_0 => z1_0)
def yo (a0 : YR) : ZL := (ZL.mk a0.Ys a0.To)
def OI (a0 : YR) : Bool := ((((((ZS a0.Zv 1 999) && (ZS a0.Key 1 99)) && (ZS a0.Yo 1 99)) && (a0.Key != a0.Yo)) && (ZS a0.yU 0 99)) && (JJ (yo a0)))
def zP (a0 : YR) : List Int := ([101, a0.Zv, a0.Key, a0.yU, a0.Ys, a0.To, a0.Yo] : List Int)
def V6 (a0 : List YJ) (a1 : Int) : Int := (bif (decide ((Yp a0 a1) >= 0)) then (nth a0 (Yp a0 a1).toNat).yU else (-1))
def VL (a0 : List YJ) (a1 : YR) : Bool := (((OI a1) && (X4 a0 a1.Yo (zP a1) a1.Mark)) && (a1.yU == (V6 a0 a1.Key)))
def jK (a0 : ZW) (a1 : List ZE) (a2 : ZX) : Nat -> Int -> Nat -> Int -> Int -> Int -> Int -> Int -> Int -> Int -> Int × Int × Int × Int × Int × Int × Int × Int
  | 0, _, _, _, _, _, _, _, _, _ => (default, default, default, default, default, default, default, default)
  | n1 + 1, J, U, wB, wH, wP, wy, vT, sc, se => (bif (decide ((U : Int) < (a1.length : Int))) then (bif ((((Y4 (nth a1 U)).2 && (VL a0.JW (Y4 (nth a1 U)).1)) && ((Y4 (nth a1 U)).1.Zv == a2.Zv)) && ((Y4 (nth a1 U)).1.Key == a2.Key)) then jK a0 a1 a2 n1 (W (J + 1)) (U + 1) (Y4 (nth a1 U)).1.Zv (Y4 (nth a1 U)).1.Key (Y4 (nth a1 U)).1.yU (Y4 (nth a1 U)).1.Ys (Y4 (nth a1 U)).1.To (Y4 (nth a1 U)).1.Yo (Y4 (nth a1 U)).1.Mark else jK a0 a1 a2 n1 J (U + 1) wB wH wP wy vT sc se) else ((J, wB, wH, wP, wy, vT, sc, se)))
def Xw (a0 : ZW) (a1 : List ZE) (a2 : ZX) : YR × Bool := (match jK a0 a1 a2 (a1.length + 1) 0 0 0 0 0 0 0 0 0 with | (z1_0, z1_1, z1_2, z1_3, z1_4, z1_5, z1_6, z1_7) => (bif (z1_0 != 1) then ((YR.mk 0 0 0 0 0 0 0), false) else ((YR.mk z1_1 z1_2 z1_3 z1_4 z1_5 z1_6 z1_7), true)))
def Gl (a0 : Int) (a1 : Int) : Int := (if a1 > a0 then a1 else a0)
def yw (a1 : List ZV) : Nat -> List Int -> Nat -> (List Int)
  | 0, _, _ => default
  | n1 + 1, J, U => (bif (decide ((U : Int) < (a1.length : Int))) then yw a1 n1 (J ++ ([(nth a1 U).Mark] : List Int)) (U + 1) else (J))
def zw (a0 : Int) (a1 : List ZV) : Int := (bif ((a1.length : Int) == 0) then 0 else (match yw a1 (a1.length + 1) ([] : List Int) 0 with | z1_0 => (Gl 1 (QZ a0 z1_0))))
def Kd (a0 : Int) (a1 : ZV) : ZE := (ZE.mk a0 (QQ a1) a1.Mark)
def jh (a0 : ZW) (a1 : Zb) (a2 : List ZE) (U : Nat) : Nat -> Bool -> Nat -> Bool
  | 0, _, _ => default
  | n2 + 1, wD, wE => (bif (decide ((wE : Int) < ((nth a1.YI U).length : Int))) then jh a0 a1 a2 U n2 (wD && (qh a2 (Kd (Xa a0.Z6 (nth (nth a1.YI U) wE)) (nth (nth a1.YI U) wE)))) (wE + 1) else (wD))
def K3 (a0 : ZW) (a1 : Zb) (a2 : List ZE) (a3 : ZX) : Nat -> Int -> Nat -> Int
  | 0, _, _ => default
  | n1 + 1, J, U => (bif (decide ((U : Int) < (a1.YI.length : Int))) then (bif (((a3.ja == 0) || (!(QH (nth a1.YI U)))) || ((zw a3.Method (nth a1.YI U)) != a3.ja)) then K3 a0 a1 a2 a3 n1 J (U + 1) else (match jh a0 a1 a2 U ((nth a1.YI U).length + 1) true 0 with | vQ => (bif (vQ && (Qb a0.Z6 (nth a1.YI U) a0.xh).2) then K3 a0 a1 a2 a3 n1 (if (Qb a0.Z6 (nth a1.YI U) a0.xh).1.Ys > J then (Qb a0.Z6 (nth a1.YI U) a0.xh).1.Ys else J) (U + 1) else K3 a0 a1 a2 a3 n1 J (U + 1)))) else (J))
def ji (a0 : ZW) (a1 : Zb) (a2 : List ZE) (wv : Nat) : Nat -> Bool -> Nat -> Bool
  | 0, _, _ => default
  | n4 + 1, sf, vt => (bif (decide ((vt : Int) < ((nth a1.YI wv).length : Int))) then ji a0 a1 a2 wv n4 (sf && (qh a2 (Kd (Xa a0.Z6 (nth (nth a1.YI wv) vt)) (nth (nth a1.YI wv) vt)))) (vt + 1) else (sf))
def K9 (a0 : ZW) (a1 : Zb) (a2 : List ZE) (a3 : ZX) : Nat -> Int -> Nat -> Int
  | 0, _, _ => default
  | n3 + 1, wg, wv => (bif (decide ((wv : Int) < (a1.YI.length : Int))) then (bif (((a3.ja == 0) || (!(QH (nth a1.YI wv)))) || ((zw a3.Method (nth a1.YI wv)) != a3.ja)) then K9 a0 a1 a2 a3 n3 wg (wv + 1) else (match ji a0 a1 a2 wv ((nth a1.YI wv).length + 1) true 0 with | z4_0 => (bif (z4_0 && (Qb a0.Z6 (nth a1.YI wv) a0.xh).2) then K9 a0 a1 a2 a3 n3 (if (Qb a0.Z6 (nth a1.YI wv) a0.xh).1.Ys > wg then (Qb a0.Z6 (nth a1.YI wv) a0.xh).1.Ys else wg) (wv + 1) else K9 a0 a1 a2 a3 n3 wg (wv + 1)))) else (wg))
def Xb (a0 : ZW) (a1 : Zb) (a2 : List ZE) (a3 : ZX) : Int := (bif (decide ((Yp a0.JW a3.Key) >= 0)) then (match K3 a0 a1 a2 a3 (a1.YI.length + 1) (nth a0.JW (Yp a0.JW a3.Key).toNat).Hq 0 with | z1_0 => z1_0) else (match K9 a0 a1 a2 a3 (a1.YI.length + 1) 0 0 with | z3_0 => z3_0))
def Ju (a0 : List ZE) (a1 : YR) : Nat -> List Zn -> Nat -> (List Zn)
  | 0, _, _ => default
  | n1 + 1, J, U => (bif (decide ((U : Int) < (a0.length : Int))) then (bif (((QP (nth a0 U)).2 && ((QP (nth a0 U)).1.Zv == a1.Zv)) && ((QP (nth a0 U)).1.Yo == a1.Yo)) then Ju a0 a1 n1 (J ++ ([(QP (nth a0 U)).1] : List Zn)) (U + 1) else Ju a0 a1 n1 J (U + 1)) else (J))
def JC (a0 : List ZE) (a1 : YR) : List Zn := (match Ju a0 a1 (a0.length + 1) ([] : List Zn) 0 with | z1_0 => z1_0)
def ZU (a0 : Int) (a1 : Int) (a2 : List ZL) : List ZL := (bif (Jk a0 a1).2 then (a2 ++ ([(Jk a0 a1).1] : List ZL)) else a2)
def kN (a0 : List Zn) (a1 : Int) : Nat -> Int -> Int -> Int -> Nat -> Int × Int × Int
  | 0, _, _, _, _ => (default, default, default)
  | n1 + 1, J, U, wB, wH => (bif (decide ((wH : Int) < (a0.length : Int))) then (bif ((nth a0 wH).Zv != a1) then kN a0 a1 n1 J U wB (wH + 1) else (bif (decide ((nth a0 wH).yb < 0)) then kN a0 a1 n1 J U (if (nth a0 wH).O0 > wB then (nth a0 wH).O0 else wB) (wH + 1) else (bif ((decide (J < 0)) || (decide ((nth a0 wH).yb < J))) then kN a0 a1 n1 (nth a0 wH).yb (if (nth a0 wH).yb > U then (nth a0 wH).yb else U) wB (wH + 1) else kN a0 a1 n1 J (if (nth a0 wH).yb > U then (nth a0 wH).yb else U) wB (wH + 1)))) else ((J, U, wB)))
def xU (a0 : List Zn) (a1 : Int) : Int × Int × Int := (match kN a0 a1 (a0.length + 1) (-1) (-1) (-1) 0 with | (z1_0, z1_1, z1_2) => (z1_0, z1_1, z1_2))
def XS (a0 : List Zn) (a1 : Int) : Int := (bif (decide ((xU a0 a1).2.1 < 0)) then 10001 else (if (W ((xU a0 a1).2.2 + 1)) > (xU a0 a1).2.1 then (W ((xU a0 a1).2.2 + 1)) else (xU a0 a1).2.1))
def VJ (vQ : List ZL) (rk : Int) : Nat -> Nat -> Nat
  | 0, _ => default
  | n3 + 1, wg => (bif ((decide ((wg : Int) < (vQ.length : Int))) && (decide ((nth vQ wg).Ys < rk))) then VJ vQ rk n3 (wg + 1) else (wg))
def ze (J : List ZL) : Nat -> List ZL -> Nat -> Int -> Int -> (List ZL) × Int × Int
  | 0, _, _, _, _ => (default, default, default)
  | n2 + 1, wD, wE, ue, u7 => (bif (decide ((wE : Int) < (J.length : Int))) then (bif ((decide ((W ((nth J wE).To + 1)) < ue)) || (decide ((W (u7 + 1)) < (nth J wE).Ys))) then ze J n2 (wD ++ ([(nth J wE)] : List ZL)) (wE + 1) ue u7 else ze J n2 wD (wE + 1) (if (nth J wE).Ys < ue then (nth J wE).Ys else ue) (if (nth J wE).To > u7 then (nth J wE).To else u7)) else ((wD, ue, u7)))
def zf (a0 : List ZL) : Nat -> List ZL -> Nat -> (List ZL)
  | 0, _, _ => default
  | n1 + 1, J, U => (bif (decide ((U : Int) < (a0.length : Int))) then (bif (!(JJ (nth a0 U))) then zf a0 n1 J (U + 1) else (match ze J (J.length + 1) ([] : List ZL) 0 (nth a0 U).Ys (nth a0 U).To with | (vQ, rk, z2_2) => (match VJ vQ rk (vQ.length + 1) 0 with | z3_0 => zf a0 n1 (((vQ.take z3_0) ++ ([(ZL.mk rk z2_2)] : List ZL)) ++ ((vQ.drop z3_0).take (vQ.length - z3_0))) (U + 1)))) else (J))
def XB (a0 : List ZL) : List ZL := (match zf a0 (a0.length + 1) ([] : List ZL) 0 with | z1_0 => z1_0)
def yr (a0 : YR) (a1 : List Zn) : List ZL := (bif (decide (a0.Ys > 0)) then (bif (decide (a0.To < 10000)) then (XB (ZU (XS a1 a0.Zv) 10000 (ZU (W (a0.To + 1)) 10000 (ZU 0 (W (a0.Ys - 1)) ([] : List ZL))))) else (XB (ZU (XS a1 a0.Zv) 10000 (ZU 0 (W (a0.Ys - 1)) ([] : List ZL))))) else (bif (decide (a0.To < 10000)) then (XB (ZU (XS a1 a0.Zv) 10000 (ZU (W (a0.To + 1)) 10000 ([] : List ZL)))) else (XB (ZU (XS a1 a0.Zv) 10000 ([] : List ZL)))))
def Un (a0 : ZL) (a1 : ZL) : Bool := ((((JJ a0) && (JJ a1)) && (decide (a1.Ys <= a0.Ys))) && (decide (a0.To <= a1.To)))
def qk (a0 : List ZL) (a1 : ZL) : Nat -> Nat -> Sum Bool Unit
  | 0, _ => .inr ()
  | n1 + 1, J => (bif (decide ((J : Int) < ((XB a0).length : Int))) then (bif (Un a1 (nth (XB a0) J)) then (.inl true) else qk a0 a1 n1 (J + 1)) else (.inr ()))
def yV (a0 : List ZL) (a1 : ZL) : Bool := (match qk a0 a1 ((XB a0).length + 1) 0 with | .inl r1 => r1 | .inr _ => false)
def Ud (a0 : YR) (a1 : List Zn) (a2 : ZL) : Bool := (yV (yr a0 a1) a2)
def je (a0 : List Zn) (a1 : Int) : Int := (bif (decide ((xU a0 a1).1 >= 0)) then (W ((xU a0 a1).1 - 1)) else (xU a0 a1).2.2)
def KM (a0 : ZL) (a1 : ZL) : ZL × Bool := (bif (((!(JJ a0)) || (!(JJ a1))) || (!(JJ (ZL.mk (if a1.Ys > a0.Ys then a1.Ys else a0.Ys) (if a1.To < a0.To then a1.To else a0.To))))) then ((ZL.mk 0 0), false) else ((ZL.mk (if a1.Ys > a0.Ys then a1.Ys else a0.Ys) (if a1.To < a0.To then a1.To else a0.To)), true))
def jb (a0 : List ZL) (a1 : List ZL) (U : Nat) : Nat -> List ZL -> Nat -> (List ZL)
  | 0, _, _ => default
  | n2 + 1, wD, wE => (bif (decide ((wE : Int) < (a1.length : Int))) then (bif (KM (nth a0 U) (nth a1 wE)).2 then jb a0 a1 U n2 (wD ++ ([(KM (nth a0 U) (nth a1 wE)).1] : List ZL)) (wE + 1) else jb a0 a1 U n2 wD (wE + 1)) else (wD))
def Vv (a0 : List ZL) (a1 : List ZL) : Nat -> List ZL -> Nat -> (List ZL)
  | 0, _, _ => default
  | n1 + 1, J, U => (bif (decide ((U : Int) < (a0.length : Int))) then (match jb a0 a1 U (a1.length + 1) J 0 with | vQ => Vv a0 a1 n1 vQ (U + 1)) else (J))
def V7 (a0 : List ZL) (a1 : List ZL) : List ZL := (match Vv a0 a1 (a0.length + 1) ([] : List ZL) 0 with | z1_0 => (XB z1_0))
def zd (a0 : YR) (a1 : List Zn) : List ZL := (V7 ([(yo a0)] : List ZL) ([(ZL.mk 0 (je a1 a0.Zv))] : List ZL))
def ku (a0 : YR) (a1 : List Zn) (a2 : ZL) : Bool := (yV (zd a0 a1) a2)
def KF (a0 : List ZE) : Nat -> List Zx -> Nat -> (List Zx)
  | 0, _, _ => default
  | n1 + 1, J, U => (bif (decide ((U : Int) < (a0.length : Int))) then (bif (JQ (nth a0 U)).2 then KF a0 n1 (J ++ ([(JQ (nth a0 U)).1] : List Zx)) (U + 1) else KF a0 n1 J (U + 1)) else (J))
def yQ (a0 : List ZE) : List Zx := (match KF a0 (a0.length + 1) ([] : List Zx) 0 with | z1_0 => z1_0)
def Wy (a0 : Zx) : Bool := ((((ZS a0.Org 1 99) && (ZS a0.jx 0 99)) && (ZS a0.Key 1 99)) && (JJ (ZL.mk a0.Ys a0.To)))
def Qy (a0 : Zx) : List Int := ([105, a0.Org, a0.jx, a0.Ys, a0.To, a0.Key] : List Int)
def qV (a0 : List YJ) (a1 : Zx) : Bool := (((Wy a1) && ((V6 a0 a1.Key) == a1.Org)) && (X4 a0 a1.Key (Qy a1) a1.Mark))
def JO (a0 : List YJ) (a1 : List Zx) (a2 : Int) (a3 : Int) : Nat -> List ZL -> Nat -> (List ZL)
  | 0, _, _ => default
  | n1 + 1, J, U => (bif (decide ((U : Int) < (a1.length : Int))) then (bif ((((nth a1 U).Org == a2) && ((nth a1 U).jx == a3)) && (qV a0 (nth a1 U))) then JO a0 a1 a2 a3 n1 (J ++ ([(ZL.mk (nth a1 U).Ys (nth a1 U).To)] : List ZL)) (U + 1) else JO a0 a1 a2 a3 n1 J (U + 1)) else (J))
def KC (a0 : List YJ) (a1 : List Zx) (a2 : Int) (a3 : Int) : List ZL := (match JO a0 a1 a2 a3 (a1.length + 1) ([] : List ZL) 0 with | z1_0 => (XB z1_0))
def WK (a0 : List YJ) (a1 : List Zx) (a2 : Int) (a3 : Int) (a4 : ZL) : Bool := (((a2 == 0) && (JJ a4)) || (yV (KC a0 a1 a2 a3) a4))
def qz (a0 : ZW) (a1 : Zb) (a2 : List (List Int)) (a3 : Int) (a4 : ZX) : Xe := (bif (!(Sl a0)) then (VB 1) else (bif (!(y8 a4)) then (kl 1) else (bif (decide (a3 < 0)) then (VB 2) else (bif (a3 != a4.XC) then (kl 2) else (bif (decide ((Yp a0.JW a4.Key) < 0)) then (VB 3) else (bif (!(yp a0.JW a4)) then (kl 4) else (bif ((decide ((YO a0 a1 a2 (Yu a4)) >= (xo a0 a4.Key))) || (decide ((YO a0 a1 a2 (Yu a4)) >= (zZ a0.Methods a4.Method)))) then (VB 5) else (bif (!(Xw a0 (Zc a0 a1 a2) a4).2) then (VB 6) else (bif (decide ((Xb a0 a1 (Zc a0 a1 a2) a4) > (YO a0 a1 a2 (Yu a4)))) then (VB 7) else (bif (Ud (Xw a0 (Zc a0 a1 a2) a4).1 (JC (Zc a0 a1 a2) (Xw a0 (Zc a0 a1 a2) a4).1) (ZL.mk (Xb a0 a1 (Zc a0 a1 a2) a4) (YO a0 a1 a2 (Yu a4)))) then (Xe.mk 2 8 (ZL.mk (Xb a0 a1 (Zc a0 a1 a2) a4) (YO a0 a1 a2 (Yu a4)))) else (bif (!(ku (Xw a0 (Zc a0 a1 a2) a4).1 (JC (Zc a0 a1 a2) (Xw a0 (Zc a0 a1 a2) a4).1) (ZL.mk (Xb a0 a1 (Zc a0 a1 a2) a4) (YO a0 a1 a2 (Yu a4))))) then (Xe.mk 3 7 (ZL.mk (Xb a0 a1 (Zc a0 a1 a2) a4) (YO a0 a1 a2 (Yu a4)))) else (bif (!(WK a0.JW (yQ (Zc a0 a1 a2)) a4.Org (Xw a0 (Zc a0 a1 a2) a4).1.yU (ZL.mk (Xb a0 a1 (Zc a0 a1 a2) a4) (YO a0 a1 a2 (Yu a4))))) then (Xe.mk 3 9 (ZL.mk (Xb a0 a1 (Zc a0 a1 a2) a4) (YO a0 a1 a2 (Yu a4)))) else (Xe.mk 1 0 (ZL.mk (Xb a0 a1 (Zc a0 a1 a2) a4) (YO a0 a1 a2 (Yu a4))))))))))))))))
def Nv (a0 : ZW) (a1 : Zb) (a2 : ZM) (a3 : ZX) : Xe := (qz a0 a1 (Jp a1 a2) (xJ a3.Method a2) a3)
def zb (a0 : ZW) (a1 : Zp) : Xe := (Nv a0 (yL a1) a1.Doc a1.Sig)
def Q0 (a0 : Int) : ByteArray := (bif (!(ZS a0 1 3)) then (⟨#[]⟩ : ByteArray) else (nth ([(⟨#[]⟩ : ByteArray), (⟨#[118, 97, 108, 105, 100]⟩ : ByteArray), (⟨#[105, 110, 118, 97, 108, 105, 100]⟩ : ByteArray), (⟨#[111, 112, 101, 110]⟩ : ByteArray)] : List ByteArray) a0.toNat))
def Jl (a0 : Int) : ByteArray := (bif (!(ZS a0 0 9)) then (⟨#[]⟩ : ByteArray) else (nth ([(⟨#[110, 111, 110, 101]⟩ : ByteArray), (⟨#[102, 111, 114, 109]⟩ : ByteArray), (⟨#[100, 111, 99, 117, 109, 101, 110, 116]⟩ : ByteArray), (⟨#[107, 101, 121]⟩ : ByteArray), (⟨#[109, 97, 114, 107]⟩ : ByteArray), (⟨#[98, 114, 111, 107, 101, 110]⟩ : ByteArray), (⟨#[99, 101, 114, 116, 105, 102, 105, 99, 97, 116, 101]⟩ : ByteArray), (⟨#[116, 105, 109, 101]⟩ : ByteArray), (⟨#[101, 110, 100, 101, 100]⟩ : ByteArray), (⟨#[109, 97, 110, 100, 97, 116, 101]⟩ : ByteArray)] : List ByteArray) a0.toNat))
def Jq (a0 : Xe) : ByteArray := (bif ((decide ((Q0 a0.Code) = (⟨#[]⟩ : ByteArray))) || (decide ((Jl a0.Reason) = (⟨#[]⟩ : ByteArray)))) then (⟨#[]⟩ : ByteArray) else (bif ((a0.Span.Ys == 0) && (a0.Span.To == 0)) then (((Q0 a0.Code) ++ (⟨#[32]⟩ : ByteArray)) ++ (Jl a0.Reason)) else (((((((Q0 a0.Code) ++ (⟨#[32]⟩ : ByteArray)) ++ (Jl a0.Reason)) ++ (⟨#[32]⟩ : ByteArray)) ++ (Y3 a0.Span.Ys)) ++ (⟨#[45]⟩ : ByteArray)) ++ (Y3 a0.Span.To))))
def Yq (a0 : ZW) (a1 : Zp) : ByteArray := ((((((((((⟨#[35]⟩ : ByteArray) ++ (Y3 a1.Id)) ++ (⟨#[32, 107]⟩ : ByteArray)) ++ (Y3 a1.Sig.Key)) ++ (⟨#[32]⟩ : ByteArray)) ++ (Y3 (a1.XM.ZO.length : Int))) ++ (⟨#[47]⟩ : ByteArray)) ++ (Y3 (a1.XM.ZJ.length : Int))) ++ (⟨#[32]⟩ : ByteArray)) ++ (Jq (zb a0 a1)))
def XN (a0 : List ByteArray) (a1 : ByteArray) : Nat -> ByteArray -> Nat -> ByteArray
  | 0, _, _ => default
  | n1 + 1, J, U => (bif (decide ((U : Int) < (a0.length : Int))) then (bif (decide ((U : Int) > 0)) then XN a0 a1 n1 ((J ++ a1) ++ (nth a0 U)) (U + 1) else XN a0 a1 n1 (J ++ (nth a0 U)) (U + 1)) else (J))
def Kz (a0 : List ByteArray) (a1 : ByteArray) : ByteArray := (match XN a0 a1 (a0.length + 1) (⟨#[]⟩ : ByteArray) 0 with | z1_0 => z1_0)
def kc (a0 : List ByteArray) (a1 : ByteArray) : ByteArray := (bif ((a0.length : Int) == 0) then (⟨#[45]⟩ : ByteArray) else (Kz a0 a1))
def QB (a0 : ZW) (a1 : Zf) : Nat -> List ByteArray -> Nat -> (List ByteArray)
  | 0, _, _ => default
  | n1 + 1, J, U => (bif (decide ((U : Int) < (a1.Zl.length : Int))) then QB a0 a1 n1 (J ++ ([(Yq a0 (nth a1.Zl U))] : List ByteArray)) (U + 1) else (J))
def Yy (a0 : ZW) (a1 : Zf) : ByteArray := (match QB a0 a1 (a1.Zl.length + 1) ([] : List ByteArray) 0 with | z1_0 => (kc z1_0 (⟨#[59, 32]⟩ : ByteArray)))
def SZ (a0 : List Int) (a1 : Int) : Nat -> Nat -> Sum Bool Unit
  | 0, _ => .inr ()
  | n1 + 1, J => (bif (decide ((J : Int) < (a0.length : Int))) then (bif ((nth a0 J) == a1) then (.inl true) else SZ a0 a1 n1 (J + 1)) else (.inr ()))
def UA (a0 : List Int) (a1 : Int) : Bool := (match SZ a0 a1 (a0.length + 1) 0 with | .inl r1 => r1 | .inr _ => false)
def QW (a0 : List Int) (a1 : ZM) (J : Nat) : Nat -> List Int -> Nat -> (List Int)
  | 0, _, _ => default
  | n2 + 1, wD, wE => (bif (decide ((wE : Int) < (a0.length : Int))) then QW a0 a1 J n2 (wD ++ ([(xy (nth a0 wE) (nth a1.Zd J) (nth a1.Yh J))] : List Int)) (wE + 1) else (wD))
def YF (a0 : List Int) (a1 : ZM) (a2 : List Int) : Nat -> Nat -> List Bool -> List ByteArray -> List Int -> List (List Int) -> (List Bool) × (List ByteArray) × (List Int) × (List (List Int))
  | 0, _, _, _, _, _ => (default, default, default, default)
  | n1 + 1, J, U, wB, wH, wP => (bif (decide ((J : Int) < (a1.Zd.length : Int))) then (bif (UA a2 (J : Int)) then (match QW a0 a1 J (a0.length + 1) ([] : List Int) 0 with | vQ => YF a0 a1 a2 n1 (J + 1) (U ++ ([(!(UA a2 (J : Int)))] : List Bool)) (wB ++ ([(⟨#[]⟩ : ByteArray)] : List ByteArray)) (wH ++ ([0] : List Int)) (wP ++ ([vQ] : List (List Int)))) else YF a0 a1 a2 n1 (J + 1) (U ++ ([(!(UA a2 (J : Int)))] : List Bool)) (wB ++ ([(nth a1.Zd J)] : List ByteArray)) (wH ++ ([(nth a1.Yh J)] : List Int)) (wP ++ ([([] : List Int)] : List (List Int)))) else ((U, wB, wH, wP)))
def Yi (a0 : List Int) (a1 : ZM) (a2 : List Int) : Zi × Bool := (bif (!(YW a1)) then ((Zi.mk 0 ([] : List Int) ([] : List Bool) ([] : List ByteArray) ([] : List Int) ([] : List (List Int))), false) else (match YF a0 a1 a2 (a1.Zd.length + 1) 0 ([] : List Bool) ([] : List ByteArray) ([] : List Int) ([] : List (List Int)) with | (z1_0, z1_1, z1_2, z1_3) => ((Zi.mk a1.QF a0 z1_0 z1_1 z1_2 z1_3), true)))
def yz : Nat -> List Int -> Nat -> List UInt8 -> Nat -> Int -> (List Int) × (List UInt8) × Nat × Int
  | 0, _, _, _, _, _ => (default, default, default, default)
  | n1 + 1, J, U, wB, wH, wP => (bif (decide ((U : Int) < 3)) then (bif (Zk (ZI.mk wB wH wP) 2).2 then yz n1 (J ++ ([(U : Int)] : List Int)) (U + 1) (Zk (ZI.mk wB wH wP) 2).1.b (Zk (ZI.mk wB wH wP) 2).1.i (Zk (ZI.mk wB wH wP) 2).1.h else yz n1 J (U + 1) (Zk (ZI.mk wB wH wP) 2).1.b (Zk (ZI.mk wB wH wP) 2).1.i (Zk (ZI.mk wB wH wP) 2).1.h) else ((J, wB, wH, wP)))
def ZT (a0 : ZI) : ZI × Zi × ZM := (match yz 4 ([] : List Int) 0 (Zm a0).1.b (Zm a0).1.i (Zm a0).1.h with | (z1_0, z1_1, z1_2, z1_3) => ((ZI.mk z1_1 z1_2 z1_3), (Yi ([1, 2, 4] : List Int) (Zm a0).2 z1_0).1, (Zm a0).2))
def qE (a0 : ZI) : ZI × Zi × ZM := (bif ((ZA (ZT a0).1 10).2 == 0) then ((ZA (ZT a0).1 10).1, (Zi.mk (ZT a0).2.1.QF (ZT a0).2.1.Methods (ZT a0).2.1.Shown ((ZT a0).2.1.Zd.set 0 (⟨#[122]⟩ : ByteArray)) (ZT a0).2.1.Yh (ZT a0).2.1.Xu), (ZT a0).2.2) else (bif ((ZA (ZT a0).1 10).2 == 1) then ((ZA (ZT a0).1 10).1, (Zi.mk (ZT a0).2.1.QF (ZT a0).2.1.Methods ((ZT a0).2.1.Shown.set 0 (!(nth (ZT a0).2.1.Shown 0))) (ZT a0).2.1.Zd (ZT a0).2.1.Yh (ZT a0).2.1.Xu), (ZT a0).2.2) else (bif ((ZA (ZT a0).1 10).2 == 2) then ((ZA (ZT a0).1 10).1, (Zi.mk (ZT a0).2.1.QF ((ZT a0).2.1.Methods.take 2) (ZT a0).2.1.Shown (ZT a0).2.1.Zd (ZT a0).2.1.Yh (ZT a0).2.1.Xu), (ZT a0).2.2) else (bif ((ZA (ZT a0).1 10).2 == 3) then ((ZA (ZT a0).1 10).1, (Zi.mk (ZT a0).2.1.QF (ZT a0).2.1.Methods (ZT a0).2.1.Shown (ZT a0).2.1.Zd ((ZT a0).2.1.Yh ++ ([5] : List Int)) (ZT a0).2.1.Xu), (ZT a0).2.2) else (bif ((ZA (ZT a0).1 10).2 == 4) then ((Z3 (ZA (ZT a0).1 10).1 ([(-1), 7, 1000] : List Int)).1, (Zi.mk (Z3 (ZA (ZT a0).1 10).1 ([(-1), 7, 1000] : List Int)).2 (ZT a0).2.1.Methods (ZT a0).2.1.Shown (ZT a0).2.1.Zd (ZT a0).2.1.Yh (ZT a0).2.1.Xu), (ZT a0).2.2) else (bif ((ZA (ZT a0).1 10).2 == 5) then (bif (decide (((nth (ZT a0).2.1.Xu 0).length : Int) > 0)) then ((ZA (ZT a0).1 10).1, (Zi.mk (ZT a0).2.1.QF (ZT a0).2.1.Methods (ZT a0).2.1.Shown (ZT a0).2.1.Zd (ZT a0).2.1.Yh ((ZT a0).2.1.Xu.set 0 ((nth (ZT a0).2.1.Xu 0).set 0 (W ((nth (nth (ZT a0).2.1.Xu 0) 0) + 1))))), (ZT a0).2.2) else ((ZA (ZT a0).1 10).1, (ZT a0).2.1, (ZT a0).2.2)) else ((ZA (ZT a0).1 10).1, (ZT a0).2.1, (ZT a0).2.2)))))))
def Kv (a0 : List UInt8) : Zi := (qE (zE a0)).2.1
def Za (a0 : List UInt8) : Zi := (Kv a0)
def Ym (a0 : Zi) : Nat -> ByteArray -> Nat -> ByteArray
  | 0, _, _ => default
  | n1 + 1, J, U => (bif (decide ((U : Int) < (a0.Shown.length : Int))) then (bif (!(nth a0.Shown U)) then Ym a0 n1 (J ++ (⟨#[32, 42]⟩ : ByteArray)) (U + 1) else (bif (decide ((U : Int) < (a0.Zd.length : Int))) then Ym a0 n1 (J ++ (((⟨#[32, 91]⟩ : ByteArray) ++ (nth a0.Zd U)) ++ (⟨#[93]⟩ : ByteArray))) (U + 1) else Ym a0 n1 (J ++ (⟨#[32, 91, 93]⟩ : ByteArray)) (U + 1))) else (J))
def YC (a0 : Zi) : ByteArray := (match Ym a0 (a0.Shown.length + 1) (Y3 a0.QF) 0 with | z1_0 => z1_0)
def JR (a0 : Zi) : Nat -> Int -> Nat -> Int
  | 0, _, _ => default
  | n1 + 1, J, U => (bif (decide ((U : Int) < (a0.Shown.length : Int))) then (bif (nth a0.Shown U) then JR a0 n1 (W (J + 1)) (U + 1) else JR a0 n1 J (U + 1)) else (J))
def zn (a0 : Zi) : Int := (match JR a0 (a0.Shown.length + 1) 0 0 with | z1_0 => z1_0)
def KY (a0 : List UInt8) : Nat -> Int -> Nat -> Int
  | 0, _, _ => default
  | n2 + 1, wD, wE => (bif (decide ((wE : Int) < ((YC (Za a0)).size : Int))) then (bif (((bAt (YC (Za a0)) wE) : Int) == 42) then KY a0 n2 (W (wD + 1)) (wE + 1) else KY a0 n2 wD (wE + 1)) else (wD))
def xO (a0 : List UInt8) : Nat -> Nat -> Sum Bool Unit
  | 0, _ => .inr ()
  | n1 + 1, J => (bif (decide ((J : Int) < ((ZQ a0).2.Zl.length : Int))) then (bif ((decide (((Yq (ZQ a0).1 (nth (ZQ a0).2.Zl J)).size : Int) > ((Yy (ZQ a0).1 (ZQ a0).2).size : Int))) || ((((ZQ a0).2.Zl.length : Int) == 1) && (!decide ((Yq (ZQ a0).1 (nth (ZQ a0).2.Zl J)) = (Yy (ZQ a0).1 (ZQ a0).2))))) then (.inl false) else xO a0 n1 (J + 1)) else (.inr ()))
def kV (a0 : List UInt8) : Bool := (bif (Le a0) then true else (bif (!((decide ((Yy (ZQ a0).1 (ZQ a0).2) = (⟨#[45]⟩ : ByteArray))) == (((ZQ a0).2.Zl.length : Int) == 0))) then false else (match xO a0 ((ZQ a0).2.Zl.length + 1) 0 with | .inl r1 => r1 | .inr _ => (match KY a0 ((YC (Za a0)).size + 1) 0 0 with | vQ => (vQ == (W (((Za a0).Shown.length : Int) - (zn (Za a0)))))))))
end Go.Mo
