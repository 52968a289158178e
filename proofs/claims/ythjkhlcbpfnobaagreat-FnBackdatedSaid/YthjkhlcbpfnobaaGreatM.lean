/- Models of the functions: what each computes, on typed data. No condition. -/
import Derived.Test.YthjkhlcbpfnobaaGreatMo
namespace Go.Mo
open Go.Vm
def Gz (a0 : List UInt8) : Bool := (decide ((a0.length : Int) > 1048576))
def NL (a0 : List UInt8) : Nat -> Int -> Nat -> Int
  | 0, _, _ => default
  | n1 + 1, J, U => (bif ((decide ((U : Int) < (a0.length : Int))) && (decide ((U : Int) < 4000))) then NL a0 n1 (GZ .i64 (W ((W ((W (J * 137)) + (W ((nth a0 U).toNat : Int)))) + 11)) 1073741823) (U + 1) else (J))
def KN (a0 : List UInt8) : ZU := (match NL a0 4001 (W (193017 + (a0.length : Int))) 0 with | z1_0 => (ZU.mk a0 0 z1_0))
def QT (a0 : ZU) : ZU × Int := (bif (decide ((a0.i : Int) < (a0.b.length : Int))) then ((ZU.mk a0.b (a0.i + 1) (W ((W (a0.h * 6364136223846793005)) + 1442695040888963407))), (GZ .i64 (W ((GZ .i64 (vE .i64 ((W ((W (a0.h * 6364136223846793005)) + 1442695040888963407)).fdiv (2 ^ (min 33 IntKind.i64.bits))) ((W ((W (a0.h * 6364136223846793005)) + 1442695040888963407)).fdiv (2 ^ (min 47 IntKind.i64.bits)))) 255) + (W ((nth a0.b a0.i).toNat : Int)))) 255)) else ((ZU.mk a0.b a0.i (W ((W (a0.h * 6364136223846793005)) + 1442695040888963407))), (GZ .i64 (vE .i64 ((W ((W (a0.h * 6364136223846793005)) + 1442695040888963407)).fdiv (2 ^ (min 33 IntKind.i64.bits))) ((W ((W (a0.h * 6364136223846793005)) + 1442695040888963407)).fdiv (2 ^ (min 47 IntKind.i64.bits)))) 255)))
def ZH (a0 : ZU) (a1 : Int) : ZU × Int := (bif (decide (a1 <= 0)) then (a0, 0) else (bif (decide (a1 <= 256)) then ((QT a0).1, (Int.tmod (QT a0).2 a1)) else ((QT (QT (QT a0).1).1).1, (Int.tmod (W ((W ((W ((QT a0).2 * 65536)) + (W ((QT (QT a0).1).2 * 256)))) + (QT (QT (QT a0).1).1).2)) a1))))
def KZ (a0 : Int) (a1 : Int) : Int := (bif (decide (a1 > a0)) then a1 else a0)
def qM (a0 : Int) (a1 : Int) : Int := (bif (decide (a1 < a0)) then a1 else a0)
def yD : List Yp := ([(Yp.mk 1 90 1 0 501), (Yp.mk 2 90 3 40 502), (Yp.mk 11 1 1 0 511), (Yp.mk 12 1 2 20 512), (Yp.mk 13 2 3 40 513), (Yp.mk 21 50 1 0 521), (Yp.mk 31 81 1 0 531), (Yp.mk 32 82 2 20 532), (Yp.mk 33 83 3 40 533), (Yp.mk 34 84 4 60 534)] : List Yp)
def Xv : List Zg := ([(Zg.mk 1 31 1), (Zg.mk 2 32 2), (Zg.mk 3 33 1), (Zg.mk 4 34 0)] : List Zg)
def kS : List Z5 := ([(Z5.mk 1 0 40 50), (Z5.mk 2 20 80 70), (Z5.mk 3 40 120 200), (Z5.mk 4 60 10001 10001)] : List Z5)
def q9 (a0 : List Yp) (a1 : Int) : Nat -> Nat -> Sum Int Unit
  | 0, _ => .inr ()
  | n1 + 1, J => (bif (decide ((J : Int) < (a0.length : Int))) then (bif ((nth a0 J).Number == a1) then (.inl (J : Int)) else q9 a0 a1 n1 (J + 1)) else (.inr ()))
def YA (a0 : List Yp) (a1 : Int) : Int := (match q9 a0 a1 (a0.length + 1) 0 with | .inl r1 => r1 | .inr _ => (-1))
def Yg (a0 : Int) (a1 : Int) (a2 : Int) : Bool := ((decide (a0 >= a1)) && (decide (a0 <= a2)))
def kT (a0 : Yb) : Zl := (Zl.mk a0.X0 a0.To)
def WG (a0 : Int) : Bool := (Yg a0 0 10000)
def S0 (a0 : Zl) : Bool := (((WG a0.X0) && (WG a0.To)) && (decide (a0.X0 <= a0.To)))
def RM (a0 : Yb) : Bool := ((((((Yg a0.Zn 1 999) && (Yg a0.Key 1 99)) && (Yg a0.Z6 1 99)) && (a0.Key != a0.Z6)) && (Yg a0.Kr 0 99)) && (S0 (kT a0)))
def zW (a0 : Yb) : List Int := ([101, a0.Zn, a0.Key, a0.Kr, a0.X0, a0.To, a0.Z6] : List Int)
def DB (a0 : Int) (a1 : Int) : Int := (bif (!(Yg a1 1 1000000000000)) then 0 else (Int.tmod (W ((Int.tmod a0 a1) + a1)) a1))
def SD (a0 : List Int) : Nat -> Int -> Nat -> Int
  | 0, _, _ => default
  | n1 + 1, J, U => (bif (decide ((U : Int) < (a0.length : Int))) then SD a0 n1 (Int.tmod (W ((W ((W (J * 1000003)) + (DB (nth a0 U) 2147483647))) + 13)) 2147483647) (U + 1) else (J))
def Nl (a0 : List Int) : Int := (match SD a0 (a0.length + 1) 11 0 with | z1_0 => z1_0)
def yG (a0 : Int) (a1 : List Int) : Int := (Nl ((([a0] : List Int) ++ a1) ++ ([a0] : List Int)))
def xR (a0 : Yp) (a1 : List Int) : Int := (yG a0.jc (([a0.Method] : List Int) ++ a1))
def jJ (a0 : List Yp) (a1 : Yb) : Yb × Bool := (bif (((!(RM a1)) || (decide ((YA a0 a1.Z6) < 0))) || (decide ((YA a0 a1.Key) < 0))) then ((Yb.mk 0 0 0 0 0 0 0), false) else ((Yb.mk a1.Zn a1.Key a1.Kr a1.X0 a1.To a1.Z6 (xR (nth a0 (YA a0 a1.Z6).toNat) (zW a1))), true))
def W3 : List Yb := ([(jJ yD (Yb.mk 1 11 1 0 60 1 0)).1, (jJ yD (Yb.mk 2 12 1 20 100 1 0)).1, (jJ yD (Yb.mk 3 13 2 40 150 2 0)).1] : List Yb)
def YD (a0 : Int) : ZG := (bif ((qM 1 (KZ 0 a0)) == 1) then (ZG.mk (ZW.mk yD Xv kS (qM 1 (KZ 0 a0)) 0) W3 ([(-1), (-1), (-1)] : List Int) ([(ZJ.mk 0 ([] : List Zj)), (ZJ.mk 1 ([] : List Zj))] : List ZJ) ([0, 0, 0, 0] : List Int) ([1] : List Int) 1 ([] : List Int)) else (ZG.mk (ZW.mk yD Xv kS (qM 1 (KZ 0 a0)) 0) W3 ([(-1), (-1), (-1)] : List Int) ([(ZJ.mk 0 ([] : List Zj)), (ZJ.mk 1 ([] : List Zj))] : List ZJ) ([0, 0, 0, 0] : List Int) ([] : List Int) 1 ([] : List Int)))
def ZK (a0 : ZU) (a1 : List Int) : ZU × Int := ((ZH a0 (a1.length : Int)).1, (nth a1 (ZH a0 (a1.length : Int)).2.toNat))
def RT (a0 : ZU) (a1 : List ByteArray) : ZU × ByteArray := ((ZH a0 (a1.length : Int)).1, (nth a1 (ZH a0 (a1.length : Int)).2.toNat))
def zj (a0 : ZU) : ZU × ByteArray := ((RT a0 ([(⟨#[]⟩ : ByteArray), (⟨#[97]⟩ : ByteArray), (⟨#[98]⟩ : ByteArray), (⟨#[97, 98]⟩ : ByteArray), (⟨#[121, 101, 115]⟩ : ByteArray), (⟨#[110, 111]⟩ : ByteArray), (⟨#[111, 110, 101, 32, 104, 117, 110, 100, 114, 101, 100]⟩ : ByteArray)] : List ByteArray)).1, (RT a0 ([(⟨#[]⟩ : ByteArray), (⟨#[97]⟩ : ByteArray), (⟨#[98]⟩ : ByteArray), (⟨#[97, 98]⟩ : ByteArray), (⟨#[121, 101, 115]⟩ : ByteArray), (⟨#[110, 111]⟩ : ByteArray), (⟨#[111, 110, 101, 32, 104, 117, 110, 100, 114, 101, 100]⟩ : ByteArray)] : List ByteArray)).2)
def yE (a0 : Ze) : Nat -> Nat -> Sum Bool Unit
  | 0, _ => .inr ()
  | n2 + 1, pR => (bif (decide ((pR : Int) < (a0.Qs.length : Int))) then (bif (!(Yg (nth a0.Qs pR) 1 1000000000000)) then (.inl false) else yE a0 n2 (pR + 1)) else (.inr ()))
def zx (a0 : Ze) : Nat -> Nat -> Sum Bool Unit
  | 0, _ => .inr ()
  | n1 + 1, J => (bif (decide ((J : Int) < (a0.XJ.length : Int))) then (bif (decide (((nth a0.XJ J).size : Int) > 40)) then (.inl false) else zx a0 n1 (J + 1)) else (.inr ()))
def KK (a0 : Ze) : Bool := (match zx a0 (a0.XJ.length + 1) 0 with | .inl r1 => r1 | .inr _ => (match yE a0 (a0.Qs.length + 1) 0 with | .inl r2 => r2 | .inr _ => (((Yg a0.WB 0 999) && (Yg (a0.XJ.length : Int) 1 6)) && ((a0.Qs.length : Int) == (a0.XJ.length : Int)))))
def jY (a0 : Int) : Bool := (Yg a0 1 2147483646)
def yB (a0 : Int) (a1 : List ByteArray) (a2 : Int) : Nat -> Nat -> List Int -> (List Int)
  | 0, _, _ => default
  | n1 + 1, J, U => (bif (decide ((J : Int) < (a1.length : Int))) then yB a0 a1 a2 n1 (J + 1) (U ++ ([(KZ 1 (yG a2 ([a0, (J : Int)] : List Int)))] : List Int)) else (U))
def zq (a0 : Int) (a1 : List ByteArray) (a2 : Int) : Ze × Bool := (match yB a0 a1 a2 (a1.length + 1) 0 ([] : List Int) with | z1_0 => (bif ((!(KK (Ze.mk a0 a1 z1_0))) || (!(jY a2))) then ((Ze.mk 0 ([] : List ByteArray) ([] : List Int)), false) else ((Ze.mk a0 a1 z1_0), true)))
def kW : Nat -> List ByteArray -> Int -> List UInt8 -> Nat -> Int -> (List ByteArray) × (List UInt8) × Nat × Int
  | 0, _, _, _, _, _ => (default, default, default, default)
  | n1 + 1, J, U, pO, pQ, pw => (bif (decide (U > 0)) then kW n1 (J ++ ([(zj (ZU.mk pO pQ pw)).2] : List ByteArray)) (W (U - 1)) (zj (ZU.mk pO pQ pw)).1.b (zj (ZU.mk pO pQ pw)).1.i (zj (ZU.mk pO pQ pw)).1.h else ((J, pO, pQ, pw)))
def Zb (a0 : ZU) : ZU × Ze := (match kW 5 ([] : List ByteArray) (W (1 + (ZH a0 3).2)) (ZH a0 3).1.b (ZH a0 3).1.i (ZH a0 3).1.h with | (z1_0, z1_1, z1_2, z1_3) => ((ZH (ZU.mk z1_1 z1_2 z1_3) 5).1, (zq (ZH (ZU.mk z1_1 z1_2 z1_3) 5).2 z1_0 11).1))
def P9 (a0 : ZW) : ZW := a0
def IU (a0 : Ze) : Ze := a0
def NS (a0 : ZS) : ZS := a0
def Tl (a0 : List ZS) : Nat -> List ZS -> Nat -> (List ZS)
  | 0, _, _ => default
  | n1 + 1, J, U => (bif (decide ((U : Int) < (a0.length : Int))) then Tl a0 n1 (J ++ ([(nth a0 U)] : List ZS)) (U + 1) else (J))
def OH (a0 : List ZS) : List ZS := (match Tl a0 (a0.length + 1) ([] : List ZS) 0 with | z1_0 => z1_0)
def NU (a0 : ZV) : ZV := a0
def UJ (a0 : ZQ) : Nat -> Nat -> List ZV -> (List ZV)
  | 0, _, _ => default
  | n1 + 1, J, U => (bif (decide ((J : Int) < (a0.ZR.length : Int))) then UJ a0 n1 (J + 1) (U ++ ([(nth a0.ZR J)] : List ZV)) else (U))
def Re (a0 : ZQ) : ZQ := (match UJ a0 (a0.ZR.length + 1) 0 ([] : List ZV) with | z1_0 => (ZQ.mk a0.ZM z1_0))
def N8 (a0 : Zj) : Zj := a0
def UB (a0 : ZJ) : Nat -> Nat -> List Zj -> (List Zj)
  | 0, _, _ => default
  | n1 + 1, J, U => (bif (decide ((J : Int) < (a0.ZD.length : Int))) then UB a0 n1 (J + 1) (U ++ ([(nth a0.ZD J)] : List Zj)) else (U))
def RW (a0 : ZJ) : ZJ := (match UB a0 (a0.ZD.length + 1) 0 ([] : List Zj) with | z1_0 => (ZJ.mk a0.Id z1_0))
def UE (a0 : ZG) : Nat -> Nat -> List ZJ -> (List ZJ)
  | 0, _, _ => default
  | n1 + 1, J, U => (bif (decide ((J : Int) < (a0.ZB.length : Int))) then UE a0 n1 (J + 1) (U ++ ([(nth a0.ZB J)] : List ZJ)) else (U))
def RV (a0 : ZG) : ZG := (match UE a0 (a0.ZB.length + 1) 0 ([] : List ZJ) with | z1_0 => (ZG.mk a0.Frame a0.ZZ a0.YQ z1_0 a0.YZ a0.YR a0.Next a0.YK))
def Ke (a0 : ZG) (a1 : Int) : Bool := (Yg a1 0 (W ((a0.ZB.length : Int) - 1)))
def zy (a0 : List Z5) (a1 : Int) : Nat -> Int -> Nat -> Int
  | 0, _, _ => default
  | n1 + 1, J, U => (bif (decide ((U : Int) < (a0.length : Int))) then (bif (((decide (a1 >= (nth a0 U).Vp)) && (decide (a1 < (nth a0 U).Ends))) && ((decide (J < 0)) || (decide ((nth a0 U).Ends > (nth a0 J.toNat).Ends)))) then zy a0 a1 n1 (U : Int) (U + 1) else zy a0 a1 n1 J (U + 1)) else (J))
def Zp (a0 : List Z5) (a1 : Int) : Int := (match zy a0 a1 (a0.length + 1) (-1) 0 with | z1_0 => (bif (decide (z1_0 < 0)) then (-1) else (nth a0 z1_0.toNat).Id))
def Js (a0 : ZG) (a1 : Int) : Nat -> Nat -> Sum Int Unit
  | 0, _ => .inr ()
  | n1 + 1, J => (bif (decide ((J : Int) < (a0.ZZ.length : Int))) then (bif ((nth a0.ZZ J).Key == a1) then (.inl (J : Int)) else Js a0 a1 n1 (J + 1)) else (.inr ()))
def Xb (a0 : ZG) (a1 : Int) : Int := (match Js a0 a1 (a0.ZZ.length + 1) 0 with | .inl r1 => r1 | .inr _ => (-1))
def Kh (a0 : Int) (a1 : List Int) : Int := (Nl (([7, a0] : List Int) ++ a1))
def xk (a1 : ByteArray) : Nat -> List Int -> Nat -> (List Int)
  | 0, _, _ => default
  | n1 + 1, J, U => (bif (decide ((U : Int) < (a1.size : Int))) then xk a1 n1 (J ++ ([(W ((bAt a1 U) : Int))] : List Int)) (U + 1) else (J))
def jr (a0 : Int) (a1 : ByteArray) (a2 : Int) : Int := (match xk a1 (a1.size + 1) ([a2] : List Int) 0 with | z1_0 => (Kh a0 z1_0))
def qZ (a0 : Int) (a1 : Ze) : Nat -> List Int -> Nat -> (List Int)
  | 0, _, _ => default
  | n1 + 1, J, U => (bif (decide ((U : Int) < (a1.XJ.length : Int))) then qZ a0 a1 n1 (J ++ ([(jr a0 (nth a1.XJ U) (nth a1.Qs U))] : List Int)) (U + 1) else (J))
def JY (a0 : Int) (a1 : Ze) : Int := (bif (!(KK a1)) then (-1) else (match qZ a0 a1 (a1.XJ.length + 1) ([a1.WB] : List Int) 0 with | z1_0 => (Kh a0 z1_0)))
def qc (a0 : Zq) : Bool := ((((((((Yg a0.Key 1 99) && (Yg a0.Zn 1 999)) && (Yg a0.Method 0 99)) && (Yg a0.Org 0 99)) && (Yg a0.xU 1 3)) && (Yg a0.Yt 0 1000000000000)) && (Yg a0.xQ 0 1000000000000)) && (Yg a0.qX 0 1000000000000))
def QZ (a0 : Zq) : List Int := ([104, a0.Key, a0.Zn, a0.Method, a0.Yt, a0.xU, a0.Org, a0.xQ, a0.qX] : List Int)
def KO (a0 : List Yp) (a1 : Zq) : Zq × Bool := (bif ((!(qc a1)) || (decide ((YA a0 a1.Key) < 0))) then ((Zq.mk 0 0 0 0 0 0 0 0 0), false) else ((Zq.mk a1.Key a1.Zn a1.Method a1.Yt a1.xU a1.Org a1.xQ a1.qX (xR (nth a0 (YA a0 a1.Key).toNat) (QZ a1))), true))
def yJ (a0 : Zq) : ZS := (ZS.mk a0.Key (QZ a0) a0.Mark)
def jM (a0 : Yb) : ZS := (ZS.mk a0.Z6 (zW a0) a0.Mark)
def Xh (a0 : ZG) (a1 : Int) (a2 : Ze) (a3 : Int) (a4 : Int) : Zj × Bool := (bif ((decide ((Zp a0.Frame.Methods a0.Frame.Now) < 0)) || (decide ((Xb a0 a1) < 0))) then ((Zj.mk 0 0 (Ze.mk 0 ([] : List ByteArray) ([] : List Int)) (Zq.mk 0 0 0 0 0 0 0 0 0) (ZQ.mk ([] : List ZS) ([] : List ZV))), false) else ((Zj.mk a0.Next a4 a2 (KO a0.Frame.Zo (Zq.mk a1 (nth a0.ZZ (Xb a0 a1).toNat).Zn (Zp a0.Frame.Methods a0.Frame.Now) (JY (Zp a0.Frame.Methods a0.Frame.Now) a2) 1 a3 0 0 0)).1 (ZQ.mk ([(yJ (KO a0.Frame.Zo (Zq.mk a1 (nth a0.ZZ (Xb a0 a1).toNat).Zn (Zp a0.Frame.Methods a0.Frame.Now) (JY (Zp a0.Frame.Methods a0.Frame.Now) a2) 1 a3 0 0 0)).1), (jM (nth a0.ZZ (Xb a0 a1).toNat))] : List ZS) ([] : List ZV))), (KO a0.Frame.Zo (Zq.mk a1 (nth a0.ZZ (Xb a0 a1).toNat).Zn (Zp a0.Frame.Methods a0.Frame.Now) (JY (Zp a0.Frame.Methods a0.Frame.Now) a2) 1 a3 0 0 0)).2))
def kd (a0 : List Int) (a1 : List Int) : Nat -> Nat -> Sum Bool Unit
  | 0, _ => .inr ()
  | n1 + 1, J => (bif (decide ((J : Int) < (a0.length : Int))) then (bif ((nth a0 J) != (nth a1 J)) then (.inl false) else kd a0 a1 n1 (J + 1)) else (.inr ()))
def V8 (a0 : List Int) (a1 : List Int) : Bool := (bif ((a0.length : Int) != (a1.length : Int)) then false else (match kd a0 a1 (a0.length + 1) 0 with | .inl r1 => r1 | .inr _ => true))
def y2 (a0 : ZS) (a1 : ZS) : Bool := (((a0.Key == a1.Key) && (a0.Mark == a1.Mark)) && (V8 a0.YV a1.YV))
def yz (a0 : ZQ) (a1 : ZS) : Nat -> Nat -> Sum Int Unit
  | 0, _ => .inr ()
  | n1 + 1, J => (bif (decide ((J : Int) < (a0.ZM.length : Int))) then (bif (y2 (nth a0.ZM J) a1) then (.inl (J : Int)) else yz a0 a1 n1 (J + 1)) else (.inr ()))
def yH (a0 : ZQ) (a1 : ZS) : Int := (match yz a0 a1 (a0.ZM.length + 1) 0 with | .inl r1 => r1 | .inr _ => (-1))
def xx (a0 : ZQ) : Nat -> Nat -> Sum Bool Unit
  | 0, _ => .inr ()
  | n2 + 1, pR => (bif (decide ((pR : Int) < (a0.ZR.length : Int))) then (bif ((!(Yg (nth a0.ZR pR).Count 1 (a0.ZM.length : Int))) || ((decide ((pR : Int) > 0)) && (decide ((nth a0.ZR (pR - 1)).Count > (nth a0.ZR pR).Count)))) then (.inl false) else xx a0 n2 (pR + 1)) else (.inr ()))
def xu (a0 : ZQ) : Nat -> Nat -> Sum Bool Unit
  | 0, _ => .inr ()
  | n1 + 1, J => (bif (decide ((J : Int) < (a0.ZM.length : Int))) then (bif (decide ((yH a0 (nth a0.ZM J)) < (J : Int))) then (.inl false) else xu a0 n1 (J + 1)) else (.inr ()))
def yf (a0 : ZQ) : Bool := (match xu a0 (a0.ZM.length + 1) 0 with | .inl r1 => r1 | .inr _ => (match xx a0 (a0.ZR.length + 1) 0 with | .inl r2 => r2 | .inr _ => ((Yg (a0.ZM.length : Int) 1 12) && (decide ((a0.ZR.length : Int) <= 8)))))
def SW (a0 : Zj) : Bool := (((((Yg a0.Id 1 999) && (WG a0.XI)) && (KK a0.Doc)) && (yf a0.ZP)) && (y2 (nth a0.ZP.ZM 0) (yJ a0.Sig)))
def qa (a0 : ZJ) : Nat -> Nat -> Sum Bool Unit
  | 0, _ => .inr ()
  | n1 + 1, J => (bif (decide ((J : Int) < (a0.ZD.length : Int))) then (bif ((!(SW (nth a0.ZD J))) || ((decide ((J : Int) > 0)) && (decide ((nth a0.ZD (J - 1)).Id >= (nth a0.ZD J).Id)))) then (.inl false) else qa a0 n1 (J + 1)) else (.inr ()))
def QW (a0 : ZJ) : Bool := (match qa a0 (a0.ZD.length + 1) 0 with | .inl r1 => r1 | .inr _ => ((Yg a0.Id 0 99) && (decide ((a0.ZD.length : Int) <= 8))))
def qG (a0 : ZJ) (a1 : Int) : Nat -> Nat -> Sum Int Unit
  | 0, _ => .inr ()
  | n1 + 1, J => (bif (decide ((J : Int) < (a0.ZD.length : Int))) then (bif ((nth a0.ZD J).Id == a1) then (.inl (J : Int)) else qG a0 a1 n1 (J + 1)) else (.inr ()))
def Y8 (a0 : ZJ) (a1 : Int) : Int := (match qG a0 a1 (a0.ZD.length + 1) 0 with | .inl r1 => r1 | .inr _ => (-1))
def QR (a0 : ZJ) (a1 : Zj) : Nat -> Bool -> Nat -> List Zj -> Bool × (List Zj)
  | 0, _, _, _ => (default, default)
  | n1 + 1, J, U, pO => (bif (decide ((U : Int) < (a0.ZD.length : Int))) then (bif ((!J) && (decide (a1.Id < (nth a0.ZD U).Id))) then QR a0 a1 n1 true (U + 1) ((pO ++ ([a1] : List Zj)) ++ ([(nth a0.ZD U)] : List Zj)) else QR a0 a1 n1 J (U + 1) (pO ++ ([(nth a0.ZD U)] : List Zj))) else ((J, pO)))
def JA (a0 : ZJ) (a1 : Zj) : ZJ × Bool := (bif ((!(QW a0)) || (decide ((Y8 a0 a1.Id) >= 0))) then (a0, false) else (match QR a0 a1 (a0.ZD.length + 1) false 0 ([] : List Zj) with | (z1_0, z1_1) => (bif (!z1_0) then (bif (!(QW (ZJ.mk a0.Id (z1_1 ++ ([a1] : List Zj))))) then (a0, false) else ((ZJ.mk a0.Id (z1_1 ++ ([a1] : List Zj))), true)) else (bif (!(QW (ZJ.mk a0.Id z1_1))) then (a0, false) else ((ZJ.mk a0.Id z1_1), true)))))
def YG (a0 : ZG) (a1 : Int) (a2 : Int) (a3 : Ze) (a4 : Int) (a5 : Int) : ZG × Bool := (bif (((!(Ke a0 a1)) || (decide ((YA a0.Frame.Zo a2) < 0))) || (decide ((nth a0.Frame.Zo (YA a0.Frame.Zo a2).toNat).qK > a0.Frame.Now))) then (a0, false) else (bif (!(Xh a0 a2 a3 a4 a5).2) then (a0, false) else (bif (!(JA (nth a0.ZB a1.toNat) (Xh a0 a2 a3 a4 a5).1).2) then (a0, false) else ((ZG.mk a0.Frame a0.ZZ a0.YQ (a0.ZB.set a1.toNat (JA (nth a0.ZB a1.toNat) (Xh a0 a2 a3 a4 a5).1).1) a0.YZ a0.YR (W (a0.Next + 1)) a0.YK), true))))
def xS (a0 : ZG) (a1 : Int) : Nat -> Nat -> Sum (Int × Int) Unit
  | 0, _ => .inr ()
  | n1 + 1, J => (bif (decide ((J : Int) < (a0.ZB.length : Int))) then (bif (decide ((Y8 (nth a0.ZB J) a1) >= 0)) then (.inl ((J : Int), (Y8 (nth a0.ZB J) a1))) else xS a0 a1 n1 (J + 1)) else (.inr ()))
def ZO (a0 : ZG) (a1 : Int) : Int × Int := (match xS a0 a1 (a0.ZB.length + 1) 0 with | .inl r1 => r1 | .inr _ => ((-1), (-1)))
def QX (a0 : ZS) : Int := (bif (((a0.YV.length : Int) == 0) || (!(Yg (nth a0.YV 0) 101 105))) then 0 else (bif ((a0.YV.length : Int) != (nth ([7, 5, 5, 9, 6] : List Int) (W ((nth a0.YV 0) - 101)).toNat)) then 0 else (nth a0.YV 0)))
def Zt (a0 : ZS) : Yb × Bool := (bif (((QX a0) != 101) || ((nth a0.YV 6) != a0.Key)) then ((Yb.mk 0 0 0 0 0 0 0), false) else ((Yb.mk (nth a0.YV 1) (nth a0.YV 2) (nth a0.YV 3) (nth a0.YV 4) (nth a0.YV 5) (nth a0.YV 6) a0.Mark), true))
def qD (a0 : List Yb) (a1 : Int) : Nat -> Nat -> Sum Int Unit
  | 0, _ => .inr ()
  | n1 + 1, J => (bif (decide ((J : Int) < (a0.length : Int))) then (bif ((nth a0 J).Zn == a1) then (.inl (J : Int)) else qD a0 a1 n1 (J + 1)) else (.inr ()))
def YP (a0 : List Yb) (a1 : Int) : Int := (match qD a0 a1 (a0.length + 1) 0 with | .inl r1 => r1 | .inr _ => (-1))
def kQ (a0 : Zr) : Bool := ((((Yg a0.Zn 1 999) && (WG a0.Ru)) && (Yg a0.YQ (-1) (W (a0.Ru + 1)))) && (Yg a0.Z6 1 99))
def Jp (a0 : Zr) : List Int := ([102, a0.Zn, a0.Ru, a0.YQ, a0.Z6] : List Int)
def XB (a0 : List Yp) (a1 : Zr) : Zr × Bool := (bif ((!(kQ a1)) || (decide ((YA a0 a1.Z6) < 0))) then ((Zr.mk 0 0 0 0 0), false) else ((Zr.mk a1.Zn a1.Ru a1.YQ a1.Z6 (xR (nth a0 (YA a0 a1.Z6).toNat) (Jp a1))), true))
def Xc (a0 : Zr) : ZS := (ZS.mk a0.Z6 (Jp a0) a0.Mark)
def Kl (a0 : ZQ) (a1 : ZS) : ZQ × Bool := (bif (!(yf (ZQ.mk (a0.ZM ++ ([a1] : List ZS)) a0.ZR))) then (a0, false) else ((ZQ.mk (a0.ZM ++ ([a1] : List ZS)) a0.ZR), true))
def QO (a0 : ZJ) (a1 : Int) (a2 : ZS) : ZJ × Bool := (bif (decide ((Y8 a0 a1) < 0)) then (a0, false) else ((ZJ.mk a0.Id (a0.ZD.set (Y8 a0 a1).toNat (Zj.mk (nth a0.ZD (Y8 a0 a1).toNat).Id (nth a0.ZD (Y8 a0 a1).toNat).XI (nth a0.ZD (Y8 a0 a1).toNat).Doc (nth a0.ZD (Y8 a0 a1).toNat).Sig (Kl (nth a0.ZD (Y8 a0 a1).toNat).ZP a2).1))), (Kl (nth a0.ZD (Y8 a0 a1).toNat).ZP a2).2))
def Z0 (a0 : ZG) (a1 : Int) : ZG × Bool := (bif ((decide ((ZO a0 a1).1 < 0)) || (decide (((nth (nth a0.ZB (ZO a0 a1).1.toNat).ZD (ZO a0 a1).2.toNat).ZP.ZM.length : Int) < 2))) then (a0, false) else (bif (((!(Zt (nth (nth (nth a0.ZB (ZO a0 a1).1.toNat).ZD (ZO a0 a1).2.toNat).ZP.ZM 1)).2) || (decide ((YP a0.ZZ (Zt (nth (nth (nth a0.ZB (ZO a0 a1).1.toNat).ZD (ZO a0 a1).2.toNat).ZP.ZM 1)).1.Zn) < 0))) || (decide ((YP a0.ZZ (Zt (nth (nth (nth a0.ZB (ZO a0 a1).1.toNat).ZD (ZO a0 a1).2.toNat).ZP.ZM 1)).1.Zn) >= (a0.YQ.length : Int)))) then (a0, false) else (bif (decide ((nth a0.YQ (YP a0.ZZ (Zt (nth (nth (nth a0.ZB (ZO a0 a1).1.toNat).ZD (ZO a0 a1).2.toNat).ZP.ZM 1)).1.Zn).toNat) <= (W (a0.Frame.Now + 1)))) then (bif ((!(XB a0.Frame.Zo (Zr.mk (Zt (nth (nth (nth a0.ZB (ZO a0 a1).1.toNat).ZD (ZO a0 a1).2.toNat).ZP.ZM 1)).1.Zn a0.Frame.Now (nth a0.YQ (YP a0.ZZ (Zt (nth (nth (nth a0.ZB (ZO a0 a1).1.toNat).ZD (ZO a0 a1).2.toNat).ZP.ZM 1)).1.Zn).toNat) (nth a0.ZZ (YP a0.ZZ (Zt (nth (nth (nth a0.ZB (ZO a0 a1).1.toNat).ZD (ZO a0 a1).2.toNat).ZP.ZM 1)).1.Zn).toNat).Z6 0)).2) || (decide ((nth a0.Frame.Zo (YA a0.Frame.Zo (nth a0.ZZ (YP a0.ZZ (Zt (nth (nth (nth a0.ZB (ZO a0 a1).1.toNat).ZD (ZO a0 a1).2.toNat).ZP.ZM 1)).1.Zn).toNat).Z6).toNat).qK > a0.Frame.Now))) then (a0, false) else ((ZG.mk a0.Frame a0.ZZ a0.YQ (a0.ZB.set (ZO a0 a1).1.toNat (QO (nth a0.ZB (ZO a0 a1).1.toNat) a1 (Xc (XB a0.Frame.Zo (Zr.mk (Zt (nth (nth (nth a0.ZB (ZO a0 a1).1.toNat).ZD (ZO a0 a1).2.toNat).ZP.ZM 1)).1.Zn a0.Frame.Now (nth a0.YQ (YP a0.ZZ (Zt (nth (nth (nth a0.ZB (ZO a0 a1).1.toNat).ZD (ZO a0 a1).2.toNat).ZP.ZM 1)).1.Zn).toNat) (nth a0.ZZ (YP a0.ZZ (Zt (nth (nth (nth a0.ZB (ZO a0 a1).1.toNat).ZD (ZO a0 a1).2.toNat).ZP.ZM 1)).1.Zn).toNat).Z6 0)).1)).1) a0.YZ a0.YR a0.Next a0.YK), (QO (nth a0.ZB (ZO a0 a1).1.toNat) a1 (Xc (XB a0.Frame.Zo (Zr.mk (Zt (nth (nth (nth a0.ZB (ZO a0 a1).1.toNat).ZD (ZO a0 a1).2.toNat).ZP.ZM 1)).1.Zn a0.Frame.Now (nth a0.YQ (YP a0.ZZ (Zt (nth (nth (nth a0.ZB (ZO a0 a1).1.toNat).ZD (ZO a0 a1).2.toNat).ZP.ZM 1)).1.Zn).toNat) (nth a0.ZZ (YP a0.ZZ (Zt (nth (nth (nth a0.ZB (ZO a0 a1).1.toNat).ZD (ZO a0 a1).2.toNat).ZP.ZM 1)).1.Zn).toNat).Z6 0)).1)).2)) else (bif ((!(XB a0.Frame.Zo (Zr.mk (Zt (nth (nth (nth a0.ZB (ZO a0 a1).1.toNat).ZD (ZO a0 a1).2.toNat).ZP.ZM 1)).1.Zn a0.Frame.Now (-1) (nth a0.ZZ (YP a0.ZZ (Zt (nth (nth (nth a0.ZB (ZO a0 a1).1.toNat).ZD (ZO a0 a1).2.toNat).ZP.ZM 1)).1.Zn).toNat).Z6 0)).2) || (decide ((nth a0.Frame.Zo (YA a0.Frame.Zo (nth a0.ZZ (YP a0.ZZ (Zt (nth (nth (nth a0.ZB (ZO a0 a1).1.toNat).ZD (ZO a0 a1).2.toNat).ZP.ZM 1)).1.Zn).toNat).Z6).toNat).qK > a0.Frame.Now))) then (a0, false) else ((ZG.mk a0.Frame a0.ZZ a0.YQ (a0.ZB.set (ZO a0 a1).1.toNat (QO (nth a0.ZB (ZO a0 a1).1.toNat) a1 (Xc (XB a0.Frame.Zo (Zr.mk (Zt (nth (nth (nth a0.ZB (ZO a0 a1).1.toNat).ZD (ZO a0 a1).2.toNat).ZP.ZM 1)).1.Zn a0.Frame.Now (-1) (nth a0.ZZ (YP a0.ZZ (Zt (nth (nth (nth a0.ZB (ZO a0 a1).1.toNat).ZD (ZO a0 a1).2.toNat).ZP.ZM 1)).1.Zn).toNat).Z6 0)).1)).1) a0.YZ a0.YR a0.Next a0.YK), (QO (nth a0.ZB (ZO a0 a1).1.toNat) a1 (Xc (XB a0.Frame.Zo (Zr.mk (Zt (nth (nth (nth a0.ZB (ZO a0 a1).1.toNat).ZD (ZO a0 a1).2.toNat).ZP.ZM 1)).1.Zn a0.Frame.Now (-1) (nth a0.ZZ (YP a0.ZZ (Zt (nth (nth (nth a0.ZB (ZO a0 a1).1.toNat).ZD (ZO a0 a1).2.toNat).ZP.ZM 1)).1.Zn).toNat).Z6 0)).1)).2)))))
def YE (a0 : ZG) (a1 : Int) : ZG × Bool := (bif ((!(Yg a1 0 100)) || (decide ((W (a0.Frame.Now + a1)) > 10000))) then (a0, false) else ((ZG.mk (ZW.mk a0.Frame.Zo a0.Frame.ZC a0.Frame.Methods a0.Frame.X8 (W (a0.Frame.Now + a1))) a0.ZZ a0.YQ a0.ZB a0.YZ a0.YR a0.Next a0.YK), true))
def zl (a0 : List Z5) (a1 : Int) : Nat -> Nat -> Sum Int Unit
  | 0, _ => .inr ()
  | n1 + 1, J => (bif (decide ((J : Int) < (a0.length : Int))) then (bif ((nth a0 J).Id == a1) then (.inl (J : Int)) else zl a0 a1 n1 (J + 1)) else (.inr ()))
def Xt (a0 : List Z5) (a1 : Int) : Int := (match zl a0 a1 (a0.length + 1) 0 with | .inl r1 => r1 | .inr _ => (-1))
def NP (a0 : List Z5) (a1 : Int) (a2 : Int) : Bool := (((decide ((Xt a0 a1) >= 0)) && (decide (a2 >= (nth a0 (Xt a0 a1).toNat).Vp))) && (decide (a2 < (nth a0 (Xt a0 a1).toNat).jO)))
def Nq (a0 : List Z5) (a1 : Int) : Int := (bif (decide ((Xt a0 a1) < 0)) then 0 else (nth a0 (Xt a0 a1).toNat).Ends)
def JR (a0 : ZW) : Nat -> List Int -> Nat -> (List Int)
  | 0, _, _ => default
  | n1 + 1, J, U => (bif (decide ((U : Int) < (a0.ZC.length : Int))) then (bif ((((decide ((YA a0.Zo (nth a0.ZC U).Key) >= 0)) && (decide ((nth a0.Zo (YA a0.Zo (nth a0.ZC U).Key).toNat).qK <= a0.Now))) && (NP a0.Methods (nth a0.Zo (YA a0.Zo (nth a0.ZC U).Key).toNat).Method a0.Now)) && (decide ((Nq a0.Methods (nth a0.Zo (YA a0.Zo (nth a0.ZC U).Key).toNat).Method) > a0.Now))) then JR a0 n1 (J ++ ([(nth a0.ZC U).Id] : List Int)) (U + 1) else JR a0 n1 J (U + 1)) else (J))
def YN (a0 : ZW) : List Int := (match JR a0 (a0.ZC.length + 1) ([] : List Int) 0 with | z1_0 => z1_0)
def KB (a0 : List Zg) (a1 : Int) : Nat -> Nat -> Sum Int Unit
  | 0, _ => .inr ()
  | n1 + 1, J => (bif (decide ((J : Int) < (a0.length : Int))) then (bif ((nth a0 J).Id == a1) then (.inl (J : Int)) else KB a0 a1 n1 (J + 1)) else (.inr ()))
def Zi (a0 : List Zg) (a1 : Int) : Int := (match KB a0 a1 (a0.length + 1) 0 with | .inl r1 => r1 | .inr _ => (-1))
def xI (a0 : ZG) (a1 : List Int) : Nat -> Nat -> Sum Bool Unit
  | 0, _ => .inr ()
  | n1 + 1, J => (bif (decide ((J : Int) < (a1.length : Int))) then (bif (((decide ((Zi a0.Frame.ZC (nth a1 J)) < 0)) || (decide ((Zi a0.Frame.ZC (nth a1 J)) >= (a0.YZ.length : Int)))) || ((decide ((J : Int) > 0)) && (decide ((nth a1 (J - 1)) >= (nth a1 J))))) then (.inl false) else (bif ((decide ((YA a0.Frame.Zo (nth a0.Frame.ZC (Zi a0.Frame.ZC (nth a1 J)).toNat).Key) < 0)) || (decide ((nth a0.Frame.Zo (YA a0.Frame.Zo (nth a0.Frame.ZC (Zi a0.Frame.ZC (nth a1 J)).toNat).Key).toNat).qK > a0.Frame.Now))) then (.inl false) else xI a0 a1 n1 (J + 1))) else (.inr ()))
def zC (a0 : ZG) (a1 : List Int) : Bool := (match xI a0 a1 (a1.length + 1) 0 with | .inl r1 => r1 | .inr _ => (decide ((a1.length : Int) > 0)))
def J1 (a0 : ZQ) (a1 : Ze) : Nat -> List Int -> Nat -> (List Int)
  | 0, _, _ => default
  | n1 + 1, J, U => (bif (decide ((U : Int) < (a0.ZR.length : Int))) then J1 a0 a1 n1 (J ++ ([(JY (nth a0.ZR U).Method a1)] : List Int)) (U + 1) else (J))
def Qv (a0 : ZQ) (a1 : Ze) : List Int := (match J1 a0 a1 (a0.ZR.length + 1) ([] : List Int) 0 with | z1_0 => z1_0)
def KS (a0 : Zf) : List Int := ([103, a0.Authority, a0.Seq, a0.Time, a0.Yt] : List Int)
def K3 (a1 : ZV) : Nat -> List Int -> Nat -> (List Int)
  | 0, _, _ => default
  | n2 + 1, pR, pT => (bif (decide ((pT : Int) < (a1.YI.length : Int))) then K3 a1 n2 ((pR ++ (KS (nth a1.YI pT))) ++ ([(nth a1.YI pT).Mark] : List Int)) (pT + 1) else (pR))
def J8 (a1 : ZV) : Nat -> List Int -> Nat -> (List Int)
  | 0, _, _ => default
  | n1 + 1, J, U => (bif (decide ((U : Int) < (a1.Path.length : Int))) then (bif (nth a1.Path U).Left then J8 a1 n1 ((J ++ ([(nth a1.Path U).Yt] : List Int)) ++ ([1] : List Int)) (U + 1) else J8 a1 n1 ((J ++ ([(nth a1.Path U).Yt] : List Int)) ++ ([0] : List Int)) (U + 1)) else (J))
def K0 (a0 : Int) (a1 : ZV) : Int := (match J8 a1 (a1.Path.length + 1) ([4, a1.Count, a1.Method, a1.H2] : List Int) 0 with | z1_0 => (match K3 a1 (a1.YI.length + 1) (z1_0 ++ ([(a1.YI.length : Int)] : List Int)) 0 with | nC => (Kh a0 nC)))
def yA (a0 : Int) (a1 : List ZS) : Nat -> List Int -> Nat -> (List Int)
  | 0, _, _ => default
  | n1 + 1, J, U => (bif (decide ((U : Int) < (a1.length : Int))) then yA a0 a1 n1 (J ++ ([(Kh a0 (([(nth a1 U).Key, (nth a1 U).Mark] : List Int) ++ (nth a1 U).YV))] : List Int)) (U + 1) else (J))
def zn (a0 : Int) (a1 : List ZS) : Int := (match yA a0 a1 (a1.length + 1) ([2] : List Int) 0 with | z1_0 => (Kh a0 z1_0))
def U8 (a0 : Int) (a1 : Int) (a2 : List ZS) (a3 : Int) : Int := (Kh a0 ([3, a1, (zn a0 a2), a3] : List Int))
def WE (a0 : ZQ) (a1 : List Int) (a2 : Int) : Int := (bif (((!(Yg a2 0 (W ((a0.ZR.length : Int) - 1)))) || ((a1.length : Int) != (a0.ZR.length : Int))) || (!(Yg (nth a0.ZR a2.toNat).Count 0 (a0.ZM.length : Int)))) then (-1) else (bif (decide (a2 > 0)) then (U8 (nth a0.ZR a2.toNat).Method (nth a1 a2.toNat) (a0.ZM.take (nth a0.ZR a2.toNat).Count.toNat) (K0 (nth a0.ZR a2.toNat).Method (nth a0.ZR (W (a2 - 1)).toNat))) else (U8 (nth a0.ZR a2.toNat).Method (nth a1 a2.toNat) (a0.ZM.take (nth a0.ZR a2.toNat).Count.toNat) 0)))
def Jr (a0 : ZJ) (a1 : Int) : Nat -> List Int -> Nat -> (List Int)
  | 0, _, _ => default
  | n1 + 1, J, U => (bif (decide ((U : Int) < (a0.ZD.length : Int))) then Jr a0 a1 n1 (J ++ ([(WE (ZQ.mk (nth a0.ZD U).ZP.ZM ((nth a0.ZD U).ZP.ZR ++ ([(ZV.mk ((nth a0.ZD U).ZP.ZM.length : Int) a1 0 ([] : List Xq) ([] : List Zf))] : List ZV))) (Qv (ZQ.mk (nth a0.ZD U).ZP.ZM ((nth a0.ZD U).ZP.ZR ++ ([(ZV.mk ((nth a0.ZD U).ZP.ZM.length : Int) a1 0 ([] : List Xq) ([] : List Zf))] : List ZV))) (nth a0.ZD U).Doc) (W ((((nth a0.ZD U).ZP.ZR ++ ([(ZV.mk ((nth a0.ZD U).ZP.ZM.length : Int) a1 0 ([] : List Xq) ([] : List Zf))] : List ZV)).length : Int) - 1)))] : List Int)) (U + 1) else (J))
def YM (a0 : ZJ) (a1 : Int) : List Int := (match Jr a0 a1 (a0.ZD.length + 1) ([] : List Int) 0 with | z1_0 => z1_0)
def jd (a0 : Int) (a1 : Int) (a2 : Int) : Int := (Kh a0 ([1, a1, a2] : List Int))
def xq (a0 : Int) (a1 : List Int) : Nat -> List Int -> Nat -> (List Int)
  | 0, _, _ => default
  | n1 + 1, J, U => (bif (decide ((U : Int) < (a1.length : Int))) then (bif (decide ((W ((U : Int) + 1)) < (a1.length : Int))) then xq a0 a1 n1 (J ++ ([(jd a0 (nth a1 U) (nth a1 (W ((U : Int) + 1)).toNat))] : List Int)) (U + 2) else xq a0 a1 n1 (J ++ ([(nth a1 U)] : List Int)) (U + 2)) else (J))
def kb (a0 : Int) (a1 : List Int) : List Int := (match xq a0 a1 (a1.length + 1) ([] : List Int) 0 with | z1_0 => z1_0)
def j5 (a0 : Int) : Nat -> List Int -> (List Int)
  | 0, _ => default
  | n1 + 1, J => (bif (decide ((J.length : Int) > 1)) then j5 a0 n1 (kb a0 J) else (J))
def Kg (a0 : Int) (a1 : List Int) : Int := (bif (!(Yg (a1.length : Int) 1 16)) then (-1) else (match j5 a0 (a1.length + 1) a1 with | z1_0 => (nth z1_0 0)))
def z3 (a0 : ZJ) (a1 : Int) : Int := (Kg a1 (YM a0 a1))
def Rm (a0 : List Int) (a1 : Int) : Nat -> Nat -> Sum Bool Unit
  | 0, _ => .inr ()
  | n1 + 1, J => (bif (decide ((J : Int) < (a0.length : Int))) then (bif ((nth a0 J) == a1) then (.inl true) else Rm a0 a1 n1 (J + 1)) else (.inr ()))
def Rj (a0 : List Int) (a1 : Int) : Bool := (match Rm a0 a1 (a0.length + 1) 0 with | .inl r1 => r1 | .inr _ => false)
def J4 (a0 : List Yp) (a1 : List Zg) (a2 : Zf) : Zf × Bool := (bif (((decide ((Zi a1 a2.Authority) < 0)) || (decide (a2.Seq < 0))) || (!(WG a2.Time))) then ((Zf.mk 0 0 0 0 0), false) else (bif (decide ((YA a0 (nth a1 (Zi a1 a2.Authority).toNat).Key) < 0)) then ((Zf.mk 0 0 0 0 0), false) else ((Zf.mk a2.Authority a2.Seq a2.Time a2.Yt (xR (nth a0 (YA a0 (nth a1 (Zi a1 a2.Authority).toNat).Key).toNat) (KS a2))), true)))
def KQ (a0 : Int) : Nat -> Int -> List Xq -> List Int -> (List Xq)
  | 0, _, _, _ => default
  | n1 + 1, J, U, pO => (bif (decide ((pO.length : Int) > 1)) then (bif ((Int.tmod J 2) == 1) then KQ a0 n1 (W (Int.tdiv J 2)) (U ++ ([(Xq.mk (nth pO (W (J - 1)).toNat) true)] : List Xq)) (kb a0 pO) else (bif (decide ((W (J + 1)) < (pO.length : Int))) then KQ a0 n1 (W (Int.tdiv J 2)) (U ++ ([(Xq.mk (nth pO (W (J + 1)).toNat) false)] : List Xq)) (kb a0 pO) else KQ a0 n1 (W (Int.tdiv J 2)) U (kb a0 pO))) else (U))
def Kf (a0 : Int) (a1 : List Int) (a2 : Int) : List Xq := (bif ((decide ((a1.length : Int) > 16)) || (!(Yg a2 0 (W ((a1.length : Int) - 1))))) then ([] : List Xq) else (match KQ a0 (a1.length + 1) a2 ([] : List Xq) a1 with | z1_0 => z1_0))
def X6 (a0 : ZQ) (a1 : ZV) : ZQ × Bool := (bif (!(yf (ZQ.mk a0.ZM (a0.ZR ++ ([a1] : List ZV))))) then (a0, false) else ((ZQ.mk a0.ZM (a0.ZR ++ ([a1] : List ZV))), true))
def Xg (a0 : ZJ) (a1 : Int) (a2 : List Zf) : Nat -> Bool -> Nat -> List Zj -> Bool × (List Zj)
  | 0, _, _, _ => (default, default)
  | n1 + 1, J, U, pO => (bif ((decide ((U : Int) < (a0.ZD.length : Int))) && J) then Xg a0 a1 a2 n1 (X6 (nth a0.ZD U).ZP (ZV.mk ((nth a0.ZD U).ZP.ZM.length : Int) a1 (Kg a1 (YM a0 a1)) (Kf a1 (YM a0 a1) (U : Int)) a2)).2 (U + 1) (pO.set U (Zj.mk (nth pO U).Id (nth pO U).XI (nth pO U).Doc (nth pO U).Sig (X6 (nth a0.ZD U).ZP (ZV.mk ((nth a0.ZD U).ZP.ZM.length : Int) a1 (Kg a1 (YM a0 a1)) (Kf a1 (YM a0 a1) (U : Int)) a2)).1)) else ((J, pO)))
def X3 (a0 : ZJ) (a1 : Int) (a2 : List Zf) : ZJ × Bool := (match Xg a0 a1 a2 (a0.ZD.length + 1) ((QW a0) && (decide ((a0.ZD.length : Int) > 0))) 0 a0.ZD with | (z1_0, z1_1) => (bif ((!z1_0) || (!(QW (ZJ.mk a0.Id z1_1)))) then (a0, false) else ((ZJ.mk a0.Id z1_1), true)))
def zS (a0 : ZG) (a2 : List Int) : Nat -> Nat -> List Int -> (List Int)
  | 0, _, _ => default
  | n2 + 1, pR, pT => (bif (decide ((pR : Int) < (a2.length : Int))) then zS a0 a2 n2 (pR + 1) (pT.set (Zi a0.Frame.ZC (nth a2 pR)).toNat (W ((nth a0.YZ (Zi a0.Frame.ZC (nth a2 pR)).toNat) + 1))) else (pT))
def QY (a0 : ZG) (a1 : Int) (a2 : List Int) (a3 : Int) : Nat -> List Zf -> Nat -> Sum (ZG × Bool) (List Zf)
  | 0, _, _ => .inr default
  | n1 + 1, J, U => (bif (decide ((U : Int) < (a2.length : Int))) then (bif (Rj a0.YR (nth a2 U)) then (bif (!(J4 a0.Frame.Zo a0.Frame.ZC (Zf.mk (nth a2 U) (nth a0.YZ (Zi a0.Frame.ZC (nth a2 U)).toNat) (qM 10000 (KZ 0 (W (a0.Frame.Now + a3)))) (z3 (nth a0.ZB a1.toNat) (Zp a0.Frame.Methods a0.Frame.Now)) 0)).2) then (.inl (a0, false)) else QY a0 a1 a2 a3 n1 (J ++ ([(J4 a0.Frame.Zo a0.Frame.ZC (Zf.mk (nth a2 U) (nth a0.YZ (Zi a0.Frame.ZC (nth a2 U)).toNat) (qM 10000 (KZ 0 (W (a0.Frame.Now + a3)))) (z3 (nth a0.ZB a1.toNat) (Zp a0.Frame.Methods a0.Frame.Now)) 0)).1] : List Zf)) (U + 1)) else (bif (!(J4 a0.Frame.Zo a0.Frame.ZC (Zf.mk (nth a2 U) (nth a0.YZ (Zi a0.Frame.ZC (nth a2 U)).toNat) a0.Frame.Now (z3 (nth a0.ZB a1.toNat) (Zp a0.Frame.Methods a0.Frame.Now)) 0)).2) then (.inl (a0, false)) else QY a0 a1 a2 a3 n1 (J ++ ([(J4 a0.Frame.Zo a0.Frame.ZC (Zf.mk (nth a2 U) (nth a0.YZ (Zi a0.Frame.ZC (nth a2 U)).toNat) a0.Frame.Now (z3 (nth a0.ZB a1.toNat) (Zp a0.Frame.Methods a0.Frame.Now)) 0)).1] : List Zf)) (U + 1))) else (.inr J))
def XF (a0 : ZG) (a1 : Int) (a2 : List Int) (a3 : Int) : ZG × Bool := (bif ((((!(Ke a0 a1)) || (decide ((Zp a0.Frame.Methods a0.Frame.Now) < 0))) || (!(zC a0 a2))) || (!(Yg a3 (-10000) 10000))) then (a0, false) else (match QY a0 a1 a2 a3 (a2.length + 1) ([] : List Zf) 0 with | .inl r1 => r1 | .inr z1_0 => (bif (!(X3 (nth a0.ZB a1.toNat) (Zp a0.Frame.Methods a0.Frame.Now) z1_0).2) then (a0, false) else (match zS a0 a2 (a2.length + 1) 0 a0.YZ with | nC => ((ZG.mk a0.Frame a0.ZZ a0.YQ (a0.ZB.set a1.toNat (X3 (nth a0.ZB a1.toNat) (Zp a0.Frame.Methods a0.Frame.Now) z1_0).1) nC a0.YR a0.Next a0.YK), true)))))
def qI : Nat -> Int -> List UInt8 -> Nat -> Int -> List Yp -> List Zg -> List Z5 -> Int -> Int -> List Yb -> List Int -> List ZJ -> List Int -> List Int -> Int -> List Int -> (List UInt8) × Nat × Int × (List Yp) × (List Zg) × (List Z5) × Int × Int × (List Yb) × (List Int) × (List ZJ) × (List Int) × (List Int) × Int × (List Int)
  | 0, _, _, _, _, _, _, _, _, _, _, _, _, _, _, _, _ => (default, default, default, default, default, default, default, default, default, default, default, default, default, default, default)
  | n1 + 1, J, U, pO, pQ, pw, oM, oN, oO, oP, oT, px, py, pz, p7, p9, p8 => (bif (decide (J > 0)) then qI n1 (W (J - 1)) (ZK (ZK (ZK (Zb (ZK (ZH (ZU.mk U pO pQ) 2).1 ([11, 11, 12, 13] : List Int)).1).1 ([30, 10000] : List Int)).1 ([0, 5, 20] : List Int)).1 ([0, (-5), 30] : List Int)).1.b (ZK (ZK (ZK (Zb (ZK (ZH (ZU.mk U pO pQ) 2).1 ([11, 11, 12, 13] : List Int)).1).1 ([30, 10000] : List Int)).1 ([0, 5, 20] : List Int)).1 ([0, (-5), 30] : List Int)).1.i (ZK (ZK (ZK (Zb (ZK (ZH (ZU.mk U pO pQ) 2).1 ([11, 11, 12, 13] : List Int)).1).1 ([30, 10000] : List Int)).1 ([0, 5, 20] : List Int)).1 ([0, (-5), 30] : List Int)).1.h (XF (YE (Z0 (YG (ZG.mk (ZW.mk pw oM oN oO oP) oT px py pz p7 p9 p8) (ZH (ZU.mk U pO pQ) 2).2 (ZK (ZH (ZU.mk U pO pQ) 2).1 ([11, 11, 12, 13] : List Int)).2 (Zb (ZK (ZH (ZU.mk U pO pQ) 2).1 ([11, 11, 12, 13] : List Int)).1).2 0 (ZK (Zb (ZK (ZH (ZU.mk U pO pQ) 2).1 ([11, 11, 12, 13] : List Int)).1).1 ([30, 10000] : List Int)).2).1 1).1 (ZK (ZK (Zb (ZK (ZH (ZU.mk U pO pQ) 2).1 ([11, 11, 12, 13] : List Int)).1).1 ([30, 10000] : List Int)).1 ([0, 5, 20] : List Int)).2).1 0 (YN (YE (Z0 (YG (ZG.mk (ZW.mk pw oM oN oO oP) oT px py pz p7 p9 p8) (ZH (ZU.mk U pO pQ) 2).2 (ZK (ZH (ZU.mk U pO pQ) 2).1 ([11, 11, 12, 13] : List Int)).2 (Zb (ZK (ZH (ZU.mk U pO pQ) 2).1 ([11, 11, 12, 13] : List Int)).1).2 0 (ZK (Zb (ZK (ZH (ZU.mk U pO pQ) 2).1 ([11, 11, 12, 13] : List Int)).1).1 ([30, 10000] : List Int)).2).1 1).1 (ZK (ZK (Zb (ZK (ZH (ZU.mk U pO pQ) 2).1 ([11, 11, 12, 13] : List Int)).1).1 ([30, 10000] : List Int)).1 ([0, 5, 20] : List Int)).2).1.Frame) (ZK (ZK (ZK (Zb (ZK (ZH (ZU.mk U pO pQ) 2).1 ([11, 11, 12, 13] : List Int)).1).1 ([30, 10000] : List Int)).1 ([0, 5, 20] : List Int)).1 ([0, (-5), 30] : List Int)).2).1.Frame.Zo (XF (YE (Z0 (YG (ZG.mk (ZW.mk pw oM oN oO oP) oT px py pz p7 p9 p8) (ZH (ZU.mk U pO pQ) 2).2 (ZK (ZH (ZU.mk U pO pQ) 2).1 ([11, 11, 12, 13] : List Int)).2 (Zb (ZK (ZH (ZU.mk U pO pQ) 2).1 ([11, 11, 12, 13] : List Int)).1).2 0 (ZK (Zb (ZK (ZH (ZU.mk U pO pQ) 2).1 ([11, 11, 12, 13] : List Int)).1).1 ([30, 10000] : List Int)).2).1 1).1 (ZK (ZK (Zb (ZK (ZH (ZU.mk U pO pQ) 2).1 ([11, 11, 12, 13] : List Int)).1).1 ([30, 10000] : List Int)).1 ([0, 5, 20] : List Int)).2).1 0 (YN (YE (Z0 (YG (ZG.mk (ZW.mk pw oM oN oO oP) oT px py pz p7 p9 p8) (ZH (ZU.mk U pO pQ) 2).2 (ZK (ZH (ZU.mk U pO pQ) 2).1 ([11, 11, 12, 13] : List Int)).2 (Zb (ZK (ZH (ZU.mk U pO pQ) 2).1 ([11, 11, 12, 13] : List Int)).1).2 0 (ZK (Zb (ZK (ZH (ZU.mk U pO pQ) 2).1 ([11, 11, 12, 13] : List Int)).1).1 ([30, 10000] : List Int)).2).1 1).1 (ZK (ZK (Zb (ZK (ZH (ZU.mk U pO pQ) 2).1 ([11, 11, 12, 13] : List Int)).1).1 ([30, 10000] : List Int)).1 ([0, 5, 20] : List Int)).2).1.Frame) (ZK (ZK (ZK (Zb (ZK (ZH (ZU.mk U pO pQ) 2).1 ([11, 11, 12, 13] : List Int)).1).1 ([30, 10000] : List Int)).1 ([0, 5, 20] : List Int)).1 ([0, (-5), 30] : List Int)).2).1.Frame.ZC (XF (YE (Z0 (YG (ZG.mk (ZW.mk pw oM oN oO oP) oT px py pz p7 p9 p8) (ZH (ZU.mk U pO pQ) 2).2 (ZK (ZH (ZU.mk U pO pQ) 2).1 ([11, 11, 12, 13] : List Int)).2 (Zb (ZK (ZH (ZU.mk U pO pQ) 2).1 ([11, 11, 12, 13] : List Int)).1).2 0 (ZK (Zb (ZK (ZH (ZU.mk U pO pQ) 2).1 ([11, 11, 12, 13] : List Int)).1).1 ([30, 10000] : List Int)).2).1 1).1 (ZK (ZK (Zb (ZK (ZH (ZU.mk U pO pQ) 2).1 ([11, 11, 12, 13] : List Int)).1).1 ([30, 10000] : List Int)).1 ([0, 5, 20] : List Int)).2).1 0 (YN (YE (Z0 (YG (ZG.mk (ZW.mk pw oM oN oO oP) oT px py pz p7 p9 p8) (ZH (ZU.mk U pO pQ) 2).2 (ZK (ZH (ZU.mk U pO pQ) 2).1 ([11, 11, 12, 13] : List Int)).2 (Zb (ZK (ZH (ZU.mk U pO pQ) 2).1 ([11, 11, 12, 13] : List Int)).1).2 0 (ZK (Zb (ZK (ZH (ZU.mk U pO pQ) 2).1 ([11, 11, 12, 13] : List Int)).1).1 ([30, 10000] : List Int)).2).1 1).1 (ZK (ZK (Zb (ZK (ZH (ZU.mk U pO pQ) 2).1 ([11, 11, 12, 13] : List Int)).1).1 ([30, 10000] : List Int)).1 ([0, 5, 20] : List Int)).2).1.Frame) (ZK (ZK (ZK (Zb (ZK (ZH (ZU.mk U pO pQ) 2).1 ([11, 11, 12, 13] : List Int)).1).1 ([30, 10000] : List Int)).1 ([0, 5, 20] : List Int)).1 ([0, (-5), 30] : List Int)).2).1.Frame.Methods (XF (YE (Z0 (YG (ZG.mk (ZW.mk pw oM oN oO oP) oT px py pz p7 p9 p8) (ZH (ZU.mk U pO pQ) 2).2 (ZK (ZH (ZU.mk U pO pQ) 2).1 ([11, 11, 12, 13] : List Int)).2 (Zb (ZK (ZH (ZU.mk U pO pQ) 2).1 ([11, 11, 12, 13] : List Int)).1).2 0 (ZK (Zb (ZK (ZH (ZU.mk U pO pQ) 2).1 ([11, 11, 12, 13] : List Int)).1).1 ([30, 10000] : List Int)).2).1 1).1 (ZK (ZK (Zb (ZK (ZH (ZU.mk U pO pQ) 2).1 ([11, 11, 12, 13] : List Int)).1).1 ([30, 10000] : List Int)).1 ([0, 5, 20] : List Int)).2).1 0 (YN (YE (Z0 (YG (ZG.mk (ZW.mk pw oM oN oO oP) oT px py pz p7 p9 p8) (ZH (ZU.mk U pO pQ) 2).2 (ZK (ZH (ZU.mk U pO pQ) 2).1 ([11, 11, 12, 13] : List Int)).2 (Zb (ZK (ZH (ZU.mk U pO pQ) 2).1 ([11, 11, 12, 13] : List Int)).1).2 0 (ZK (Zb (ZK (ZH (ZU.mk U pO pQ) 2).1 ([11, 11, 12, 13] : List Int)).1).1 ([30, 10000] : List Int)).2).1 1).1 (ZK (ZK (Zb (ZK (ZH (ZU.mk U pO pQ) 2).1 ([11, 11, 12, 13] : List Int)).1).1 ([30, 10000] : List Int)).1 ([0, 5, 20] : List Int)).2).1.Frame) (ZK (ZK (ZK (Zb (ZK (ZH (ZU.mk U pO pQ) 2).1 ([11, 11, 12, 13] : List Int)).1).1 ([30, 10000] : List Int)).1 ([0, 5, 20] : List Int)).1 ([0, (-5), 30] : List Int)).2).1.Frame.X8 (XF (YE (Z0 (YG (ZG.mk (ZW.mk pw oM oN oO oP) oT px py pz p7 p9 p8) (ZH (ZU.mk U pO pQ) 2).2 (ZK (ZH (ZU.mk U pO pQ) 2).1 ([11, 11, 12, 13] : List Int)).2 (Zb (ZK (ZH (ZU.mk U pO pQ) 2).1 ([11, 11, 12, 13] : List Int)).1).2 0 (ZK (Zb (ZK (ZH (ZU.mk U pO pQ) 2).1 ([11, 11, 12, 13] : List Int)).1).1 ([30, 10000] : List Int)).2).1 1).1 (ZK (ZK (Zb (ZK (ZH (ZU.mk U pO pQ) 2).1 ([11, 11, 12, 13] : List Int)).1).1 ([30, 10000] : List Int)).1 ([0, 5, 20] : List Int)).2).1 0 (YN (YE (Z0 (YG (ZG.mk (ZW.mk pw oM oN oO oP) oT px py pz p7 p9 p8) (ZH (ZU.mk U pO pQ) 2).2 (ZK (ZH (ZU.mk U pO pQ) 2).1 ([11, 11, 12, 13] : List Int)).2 (Zb (ZK (ZH (ZU.mk U pO pQ) 2).1 ([11, 11, 12, 13] : List Int)).1).2 0 (ZK (Zb (ZK (ZH (ZU.mk U pO pQ) 2).1 ([11, 11, 12, 13] : List Int)).1).1 ([30, 10000] : List Int)).2).1 1).1 (ZK (ZK (Zb (ZK (ZH (ZU.mk U pO pQ) 2).1 ([11, 11, 12, 13] : List Int)).1).1 ([30, 10000] : List Int)).1 ([0, 5, 20] : List Int)).2).1.Frame) (ZK (ZK (ZK (Zb (ZK (ZH (ZU.mk U pO pQ) 2).1 ([11, 11, 12, 13] : List Int)).1).1 ([30, 10000] : List Int)).1 ([0, 5, 20] : List Int)).1 ([0, (-5), 30] : List Int)).2).1.Frame.Now (XF (YE (Z0 (YG (ZG.mk (ZW.mk pw oM oN oO oP) oT px py pz p7 p9 p8) (ZH (ZU.mk U pO pQ) 2).2 (ZK (ZH (ZU.mk U pO pQ) 2).1 ([11, 11, 12, 13] : List Int)).2 (Zb (ZK (ZH (ZU.mk U pO pQ) 2).1 ([11, 11, 12, 13] : List Int)).1).2 0 (ZK (Zb (ZK (ZH (ZU.mk U pO pQ) 2).1 ([11, 11, 12, 13] : List Int)).1).1 ([30, 10000] : List Int)).2).1 1).1 (ZK (ZK (Zb (ZK (ZH (ZU.mk U pO pQ) 2).1 ([11, 11, 12, 13] : List Int)).1).1 ([30, 10000] : List Int)).1 ([0, 5, 20] : List Int)).2).1 0 (YN (YE (Z0 (YG (ZG.mk (ZW.mk pw oM oN oO oP) oT px py pz p7 p9 p8) (ZH (ZU.mk U pO pQ) 2).2 (ZK (ZH (ZU.mk U pO pQ) 2).1 ([11, 11, 12, 13] : List Int)).2 (Zb (ZK (ZH (ZU.mk U pO pQ) 2).1 ([11, 11, 12, 13] : List Int)).1).2 0 (ZK (Zb (ZK (ZH (ZU.mk U pO pQ) 2).1 ([11, 11, 12, 13] : List Int)).1).1 ([30, 10000] : List Int)).2).1 1).1 (ZK (ZK (Zb (ZK (ZH (ZU.mk U pO pQ) 2).1 ([11, 11, 12, 13] : List Int)).1).1 ([30, 10000] : List Int)).1 ([0, 5, 20] : List Int)).2).1.Frame) (ZK (ZK (ZK (Zb (ZK (ZH (ZU.mk U pO pQ) 2).1 ([11, 11, 12, 13] : List Int)).1).1 ([30, 10000] : List Int)).1 ([0, 5, 20] : List Int)).1 ([0, (-5), 30] : List Int)).2).1.ZZ (XF (YE (Z0 (YG (ZG.mk (ZW.mk pw oM oN oO oP) oT px py pz p7 p9 p8) (ZH (ZU.mk U pO pQ) 2).2 (ZK (ZH (ZU.mk U pO pQ) 2).1 ([11, 11, 12, 13] : List Int)).2 (Zb (ZK (ZH (ZU.mk U pO pQ) 2).1 ([11, 11, 12, 13] : List Int)).1).2 0 (ZK (Zb (ZK (ZH (ZU.mk U pO pQ) 2).1 ([11, 11, 12, 13] : List Int)).1).1 ([30, 10000] : List Int)).2).1 1).1 (ZK (ZK (Zb (ZK (ZH (ZU.mk U pO pQ) 2).1 ([11, 11, 12, 13] : List Int)).1).1 ([30, 10000] : List Int)).1 ([0, 5, 20] : List Int)).2).1 0 (YN (YE (Z0 (YG (ZG.mk (ZW.mk pw oM oN oO oP) oT px py pz p7 p9 p8) (ZH (ZU.mk U pO pQ) 2).2 (ZK (ZH (ZU.mk U pO pQ) 2).1 ([11, 11, 12, 13] : List Int)).2 (Zb (ZK (ZH (ZU.mk U pO pQ) 2).1 ([11, 11, 12, 13] : List Int)).1).2 0 (ZK (Zb (ZK (ZH (ZU.mk U pO pQ) 2).1 ([11, 11, 12, 13] : List Int)).1).1 ([30, 10000] : List Int)).2).1 1).1 (ZK (ZK (Zb (ZK (ZH (ZU.mk U pO pQ) 2).1 ([11, 11, 12, 13] : List Int)).1).1 ([30, 10000] : List Int)).1 ([0, 5, 20] : List Int)).2).1.Frame) (ZK (ZK (ZK (Zb (ZK (ZH (ZU.mk U pO pQ) 2).1 ([11, 11, 12, 13] : List Int)).1).1 ([30, 10000] : List Int)).1 ([0, 5, 20] : List Int)).1 ([0, (-5), 30] : List Int)).2).1.YQ (XF (YE (Z0 (YG (ZG.mk (ZW.mk pw oM oN oO oP) oT px py pz p7 p9 p8) (ZH (ZU.mk U pO pQ) 2).2 (ZK (ZH (ZU.mk U pO pQ) 2).1 ([11, 11, 12, 13] : List Int)).2 (Zb (ZK (ZH (ZU.mk U pO pQ) 2).1 ([11, 11, 12, 13] : List Int)).1).2 0 (ZK (Zb (ZK (ZH (ZU.mk U pO pQ) 2).1 ([11, 11, 12, 13] : List Int)).1).1 ([30, 10000] : List Int)).2).1 1).1 (ZK (ZK (Zb (ZK (ZH (ZU.mk U pO pQ) 2).1 ([11, 11, 12, 13] : List Int)).1).1 ([30, 10000] : List Int)).1 ([0, 5, 20] : List Int)).2).1 0 (YN (YE (Z0 (YG (ZG.mk (ZW.mk pw oM oN oO oP) oT px py pz p7 p9 p8) (ZH (ZU.mk U pO pQ) 2).2 (ZK (ZH (ZU.mk U pO pQ) 2).1 ([11, 11, 12, 13] : List Int)).2 (Zb (ZK (ZH (ZU.mk U pO pQ) 2).1 ([11, 11, 12, 13] : List Int)).1).2 0 (ZK (Zb (ZK (ZH (ZU.mk U pO pQ) 2).1 ([11, 11, 12, 13] : List Int)).1).1 ([30, 10000] : List Int)).2).1 1).1 (ZK (ZK (Zb (ZK (ZH (ZU.mk U pO pQ) 2).1 ([11, 11, 12, 13] : List Int)).1).1 ([30, 10000] : List Int)).1 ([0, 5, 20] : List Int)).2).1.Frame) (ZK (ZK (ZK (Zb (ZK (ZH (ZU.mk U pO pQ) 2).1 ([11, 11, 12, 13] : List Int)).1).1 ([30, 10000] : List Int)).1 ([0, 5, 20] : List Int)).1 ([0, (-5), 30] : List Int)).2).1.ZB (XF (YE (Z0 (YG (ZG.mk (ZW.mk pw oM oN oO oP) oT px py pz p7 p9 p8) (ZH (ZU.mk U pO pQ) 2).2 (ZK (ZH (ZU.mk U pO pQ) 2).1 ([11, 11, 12, 13] : List Int)).2 (Zb (ZK (ZH (ZU.mk U pO pQ) 2).1 ([11, 11, 12, 13] : List Int)).1).2 0 (ZK (Zb (ZK (ZH (ZU.mk U pO pQ) 2).1 ([11, 11, 12, 13] : List Int)).1).1 ([30, 10000] : List Int)).2).1 1).1 (ZK (ZK (Zb (ZK (ZH (ZU.mk U pO pQ) 2).1 ([11, 11, 12, 13] : List Int)).1).1 ([30, 10000] : List Int)).1 ([0, 5, 20] : List Int)).2).1 0 (YN (YE (Z0 (YG (ZG.mk (ZW.mk pw oM oN oO oP) oT px py pz p7 p9 p8) (ZH (ZU.mk U pO pQ) 2).2 (ZK (ZH (ZU.mk U pO pQ) 2).1 ([11, 11, 12, 13] : List Int)).2 (Zb (ZK (ZH (ZU.mk U pO pQ) 2).1 ([11, 11, 12, 13] : List Int)).1).2 0 (ZK (Zb (ZK (ZH (ZU.mk U pO pQ) 2).1 ([11, 11, 12, 13] : List Int)).1).1 ([30, 10000] : List Int)).2).1 1).1 (ZK (ZK (Zb (ZK (ZH (ZU.mk U pO pQ) 2).1 ([11, 11, 12, 13] : List Int)).1).1 ([30, 10000] : List Int)).1 ([0, 5, 20] : List Int)).2).1.Frame) (ZK (ZK (ZK (Zb (ZK (ZH (ZU.mk U pO pQ) 2).1 ([11, 11, 12, 13] : List Int)).1).1 ([30, 10000] : List Int)).1 ([0, 5, 20] : List Int)).1 ([0, (-5), 30] : List Int)).2).1.YZ (XF (YE (Z0 (YG (ZG.mk (ZW.mk pw oM oN oO oP) oT px py pz p7 p9 p8) (ZH (ZU.mk U pO pQ) 2).2 (ZK (ZH (ZU.mk U pO pQ) 2).1 ([11, 11, 12, 13] : List Int)).2 (Zb (ZK (ZH (ZU.mk U pO pQ) 2).1 ([11, 11, 12, 13] : List Int)).1).2 0 (ZK (Zb (ZK (ZH (ZU.mk U pO pQ) 2).1 ([11, 11, 12, 13] : List Int)).1).1 ([30, 10000] : List Int)).2).1 1).1 (ZK (ZK (Zb (ZK (ZH (ZU.mk U pO pQ) 2).1 ([11, 11, 12, 13] : List Int)).1).1 ([30, 10000] : List Int)).1 ([0, 5, 20] : List Int)).2).1 0 (YN (YE (Z0 (YG (ZG.mk (ZW.mk pw oM oN oO oP) oT px py pz p7 p9 p8) (ZH (ZU.mk U pO pQ) 2).2 (ZK (ZH (ZU.mk U pO pQ) 2).1 ([11, 11, 12, 13] : List Int)).2 (Zb (ZK (ZH (ZU.mk U pO pQ) 2).1 ([11, 11, 12, 13] : List Int)).1).2 0 (ZK (Zb (ZK (ZH (ZU.mk U pO pQ) 2).1 ([11, 11, 12, 13] : List Int)).1).1 ([30, 10000] : List Int)).2).1 1).1 (ZK (ZK (Zb (ZK (ZH (ZU.mk U pO pQ) 2).1 ([11, 11, 12, 13] : List Int)).1).1 ([30, 10000] : List Int)).1 ([0, 5, 20] : List Int)).2).1.Frame) (ZK (ZK (ZK (Zb (ZK (ZH (ZU.mk U pO pQ) 2).1 ([11, 11, 12, 13] : List Int)).1).1 ([30, 10000] : List Int)).1 ([0, 5, 20] : List Int)).1 ([0, (-5), 30] : List Int)).2).1.YR (XF (YE (Z0 (YG (ZG.mk (ZW.mk pw oM oN oO oP) oT px py pz p7 p9 p8) (ZH (ZU.mk U pO pQ) 2).2 (ZK (ZH (ZU.mk U pO pQ) 2).1 ([11, 11, 12, 13] : List Int)).2 (Zb (ZK (ZH (ZU.mk U pO pQ) 2).1 ([11, 11, 12, 13] : List Int)).1).2 0 (ZK (Zb (ZK (ZH (ZU.mk U pO pQ) 2).1 ([11, 11, 12, 13] : List Int)).1).1 ([30, 10000] : List Int)).2).1 1).1 (ZK (ZK (Zb (ZK (ZH (ZU.mk U pO pQ) 2).1 ([11, 11, 12, 13] : List Int)).1).1 ([30, 10000] : List Int)).1 ([0, 5, 20] : List Int)).2).1 0 (YN (YE (Z0 (YG (ZG.mk (ZW.mk pw oM oN oO oP) oT px py pz p7 p9 p8) (ZH (ZU.mk U pO pQ) 2).2 (ZK (ZH (ZU.mk U pO pQ) 2).1 ([11, 11, 12, 13] : List Int)).2 (Zb (ZK (ZH (ZU.mk U pO pQ) 2).1 ([11, 11, 12, 13] : List Int)).1).2 0 (ZK (Zb (ZK (ZH (ZU.mk U pO pQ) 2).1 ([11, 11, 12, 13] : List Int)).1).1 ([30, 10000] : List Int)).2).1 1).1 (ZK (ZK (Zb (ZK (ZH (ZU.mk U pO pQ) 2).1 ([11, 11, 12, 13] : List Int)).1).1 ([30, 10000] : List Int)).1 ([0, 5, 20] : List Int)).2).1.Frame) (ZK (ZK (ZK (Zb (ZK (ZH (ZU.mk U pO pQ) 2).1 ([11, 11, 12, 13] : List Int)).1).1 ([30, 10000] : List Int)).1 ([0, 5, 20] : List Int)).1 ([0, (-5), 30] : List Int)).2).1.Next (XF (YE (Z0 (YG (ZG.mk (ZW.mk pw oM oN oO oP) oT px py pz p7 p9 p8) (ZH (ZU.mk U pO pQ) 2).2 (ZK (ZH (ZU.mk U pO pQ) 2).1 ([11, 11, 12, 13] : List Int)).2 (Zb (ZK (ZH (ZU.mk U pO pQ) 2).1 ([11, 11, 12, 13] : List Int)).1).2 0 (ZK (Zb (ZK (ZH (ZU.mk U pO pQ) 2).1 ([11, 11, 12, 13] : List Int)).1).1 ([30, 10000] : List Int)).2).1 1).1 (ZK (ZK (Zb (ZK (ZH (ZU.mk U pO pQ) 2).1 ([11, 11, 12, 13] : List Int)).1).1 ([30, 10000] : List Int)).1 ([0, 5, 20] : List Int)).2).1 0 (YN (YE (Z0 (YG (ZG.mk (ZW.mk pw oM oN oO oP) oT px py pz p7 p9 p8) (ZH (ZU.mk U pO pQ) 2).2 (ZK (ZH (ZU.mk U pO pQ) 2).1 ([11, 11, 12, 13] : List Int)).2 (Zb (ZK (ZH (ZU.mk U pO pQ) 2).1 ([11, 11, 12, 13] : List Int)).1).2 0 (ZK (Zb (ZK (ZH (ZU.mk U pO pQ) 2).1 ([11, 11, 12, 13] : List Int)).1).1 ([30, 10000] : List Int)).2).1 1).1 (ZK (ZK (Zb (ZK (ZH (ZU.mk U pO pQ) 2).1 ([11, 11, 12, 13] : List Int)).1).1 ([30, 10000] : List Int)).1 ([0, 5, 20] : List Int)).2).1.Frame) (ZK (ZK (ZK (Zb (ZK (ZH (ZU.mk U pO pQ) 2).1 ([11, 11, 12, 13] : List Int)).1).1 ([30, 10000] : List Int)).1 ([0, 5, 20] : List Int)).1 ([0, (-5), 30] : List Int)).2).1.YK else ((U, pO, pQ, pw, oM, oN, oO, oP, oT, px, py, pz, p7, p9, p8)))
def YF (a0 : ZU) : ZU × ZG := (match qI 5 (W (1 + (ZH (ZH a0 2).1 3).2)) (ZH (ZH a0 2).1 3).1.b (ZH (ZH a0 2).1 3).1.i (ZH (ZH a0 2).1 3).1.h (YD (ZH a0 2).2).Frame.Zo (YD (ZH a0 2).2).Frame.ZC (YD (ZH a0 2).2).Frame.Methods (YD (ZH a0 2).2).Frame.X8 (YD (ZH a0 2).2).Frame.Now (YD (ZH a0 2).2).ZZ (YD (ZH a0 2).2).YQ (YD (ZH a0 2).2).ZB (YD (ZH a0 2).2).YZ (YD (ZH a0 2).2).YR (YD (ZH a0 2).2).Next (YD (ZH a0 2).2).YK with | (z1_0, z1_1, z1_2, z1_3, z1_4, z1_5, z1_6, z1_7, z1_8, z1_9, z1_10, z1_11, z1_12, z1_13, z1_14) => ((ZU.mk z1_0 z1_1 z1_2), (ZG.mk (ZW.mk z1_3 z1_4 z1_5 z1_6 z1_7) z1_8 z1_9 z1_10 z1_11 z1_12 z1_13 z1_14)))
def XK (a0 : ZU) (a1 : Int) : ZU × Bool := ((ZH a0 a1).1, ((ZH a0 a1).2 == 0))
def TC (a0 : List Z5) (a1 : Int) : Int := (bif (decide ((Xt a0 a1) < 0)) then 0 else (nth a0 (Xt a0 a1).toNat).jO)
def kD (a0 : ZW) (a1 : Int) : Bool := ((decide ((YA a0.Zo a1) >= 0)) && (decide (a0.Now >= (TC a0.Methods (nth a0.Zo (YA a0.Zo a1).toNat).Method))))
def JZ (a0 : ZG) (a1 : Int) (a2 : Int) (a3 : Ze) : ZG × Bool := (bif ((!(Ke a0 a1)) || (!(kD a0.Frame a2))) then (a0, false) else (bif (!(Xh a0 a2 a3 0 10000).2) then (a0, false) else (bif (!(JA (nth a0.ZB a1.toNat) (Xh a0 a2 a3 0 10000).1).2) then (a0, false) else ((ZG.mk a0.Frame a0.ZZ a0.YQ (a0.ZB.set a1.toNat (JA (nth a0.ZB a1.toNat) (Xh a0 a2 a3 0 10000).1).1) a0.YZ a0.YR (W (a0.Next + 1)) (a0.YK ++ ([a0.Next] : List Int))), true))))
def QV (a0 : ZG) : Nat -> List Int -> Nat -> (List Int)
  | 0, _, _ => default
  | n1 + 1, J, U => (bif (decide ((U : Int) < (a0.Frame.ZC.length : Int))) then (bif ((Rj a0.YR (nth a0.Frame.ZC U).Id) || (kD a0.Frame (nth a0.Frame.ZC U).Key)) then QV a0 n1 (J ++ ([(nth a0.Frame.ZC U).Id] : List Int)) (U + 1) else QV a0 n1 J (U + 1)) else (J))
def YJ (a0 : ZG) : List Int := (match QV a0 (a0.Frame.ZC.length + 1) ([] : List Int) 0 with | z1_0 => z1_0)
def QC (a0 : ZG) (a1 : Int) (a2 : Int) : Nat -> Nat -> List Zf -> Sum (ZG × Bool) (List Zf)
  | 0, _, _ => .inr default
  | n1 + 1, J, U => (bif (decide ((J : Int) < ((YJ a0).length : Int))) then (bif (!(J4 a0.Frame.Zo a0.Frame.ZC (Zf.mk (nth (YJ a0) J) 0 a2 (nth (YM (nth a0.ZB (ZO a0 a1).1.toNat) (Zp a0.Frame.Methods a0.Frame.Now)) (ZO a0 a1).2.toNat) 0)).2) then (.inl (a0, false)) else QC a0 a1 a2 n1 (J + 1) (U ++ ([(J4 a0.Frame.Zo a0.Frame.ZC (Zf.mk (nth (YJ a0) J) 0 a2 (nth (YM (nth a0.ZB (ZO a0 a1).1.toNat) (Zp a0.Frame.Methods a0.Frame.Now)) (ZO a0 a1).2.toNat) 0)).1] : List Zf))) else (.inr U))
def Qp (a0 : ZG) (a1 : Int) (a2 : Int) : ZG × Bool := (bif ((((decide ((ZO a0 a1).1 < 0)) || (decide ((Zp a0.Frame.Methods a0.Frame.Now) < 0))) || (!(Rj a0.YK a1))) || (((YJ a0).length : Int) == 0)) then (a0, false) else (match QC a0 a1 a2 ((YJ a0).length + 1) 0 ([] : List Zf) with | .inl r1 => r1 | .inr z1_0 => ((ZG.mk a0.Frame a0.ZZ a0.YQ (a0.ZB.set (ZO a0 a1).1.toNat (ZJ.mk (nth a0.ZB (ZO a0 a1).1.toNat).Id ((nth a0.ZB (ZO a0 a1).1.toNat).ZD.set (ZO a0 a1).2.toNat (Zj.mk (nth (nth a0.ZB (ZO a0 a1).1.toNat).ZD (ZO a0 a1).2.toNat).Id (nth (nth a0.ZB (ZO a0 a1).1.toNat).ZD (ZO a0 a1).2.toNat).XI (nth (nth a0.ZB (ZO a0 a1).1.toNat).ZD (ZO a0 a1).2.toNat).Doc (nth (nth a0.ZB (ZO a0 a1).1.toNat).ZD (ZO a0 a1).2.toNat).Sig (X6 (nth (nth a0.ZB (ZO a0 a1).1.toNat).ZD (ZO a0 a1).2.toNat).ZP (ZV.mk ((nth (nth a0.ZB (ZO a0 a1).1.toNat).ZD (ZO a0 a1).2.toNat).ZP.ZM.length : Int) (Zp a0.Frame.Methods a0.Frame.Now) (nth (YM (nth a0.ZB (ZO a0 a1).1.toNat) (Zp a0.Frame.Methods a0.Frame.Now)) (ZO a0 a1).2.toNat) ([] : List Xq) z1_0)).1)))) a0.YZ a0.YR a0.Next a0.YK), (X6 (nth (nth a0.ZB (ZO a0 a1).1.toNat).ZD (ZO a0 a1).2.toNat).ZP (ZV.mk ((nth (nth a0.ZB (ZO a0 a1).1.toNat).ZD (ZO a0 a1).2.toNat).ZP.ZM.length : Int) (Zp a0.Frame.Methods a0.Frame.Now) (nth (YM (nth a0.ZB (ZO a0 a1).1.toNat) (Zp a0.Frame.Methods a0.Frame.Now)) (ZO a0 a1).2.toNat) ([] : List Xq) z1_0)).2)))
def Xz (a0 : ZU) : ZU × ZG := (bif (!(XK (ZK (YF a0).1 ([20, 50, 70] : List Int)).1 4).2) then ((ZK (Zb (ZK (ZH (XK (ZK (YF a0).1 ([20, 50, 70] : List Int)).1 4).1 2).1 ([11, 12] : List Int)).1).1 ([5, 25] : List Int)).1, (Qp (JZ (YE (YF a0).2 (ZK (YF a0).1 ([20, 50, 70] : List Int)).2).1 (ZH (XK (ZK (YF a0).1 ([20, 50, 70] : List Int)).1 4).1 2).2 (ZK (ZH (XK (ZK (YF a0).1 ([20, 50, 70] : List Int)).1 4).1 2).1 ([11, 12] : List Int)).2 (Zb (ZK (ZH (XK (ZK (YF a0).1 ([20, 50, 70] : List Int)).1 4).1 2).1 ([11, 12] : List Int)).1).2).1 (W ((JZ (YE (YF a0).2 (ZK (YF a0).1 ([20, 50, 70] : List Int)).2).1 (ZH (XK (ZK (YF a0).1 ([20, 50, 70] : List Int)).1 4).1 2).2 (ZK (ZH (XK (ZK (YF a0).1 ([20, 50, 70] : List Int)).1 4).1 2).1 ([11, 12] : List Int)).2 (Zb (ZK (ZH (XK (ZK (YF a0).1 ([20, 50, 70] : List Int)).1 4).1 2).1 ([11, 12] : List Int)).1).2).1.Next - 1)) (ZK (Zb (ZK (ZH (XK (ZK (YF a0).1 ([20, 50, 70] : List Int)).1 4).1 2).1 ([11, 12] : List Int)).1).1 ([5, 25] : List Int)).2).1) else ((XK (ZK (YF a0).1 ([20, 50, 70] : List Int)).1 4).1, (YE (YF a0).2 (ZK (YF a0).1 ([20, 50, 70] : List Int)).2).1))
def NF (a0 : ZU) : ZU × Int := (bif (XK a0 6).2 then ((ZK (XK a0 6).1 ([(-1), 0, 10000, 10001, 9223372036854775807, (-9223372036854775808)] : List Int)).1, (ZK (XK a0 6).1 ([(-1), 0, 10000, 10001, 9223372036854775807, (-9223372036854775808)] : List Int)).2) else ((ZH (XK a0 6).1 40).1, (ZH (XK a0 6).1 40).2))
def ZE (a0 : List UInt8) : ZG × Int × Int := ((Xz (KN a0)).2, (ZH (Xz (KN a0)).1 5).2, (NF (ZH (Xz (KN a0)).1 5).1).2)
def Qc (a0 : ZJ) (a1 : Int) : Nat -> Nat -> Sum Int Unit
  | 0, _ => .inr ()
  | n1 + 1, J => (bif (decide ((J : Int) < (a0.ZD.length : Int))) then (bif ((nth a0.ZD J).Id == a1) then (.inl (J : Int)) else Qc a0 a1 n1 (J + 1)) else (.inr ()))
def Zm (a0 : ZJ) (a1 : Int) : Int := (match Qc a0 a1 (a0.ZD.length + 1) 0 with | .inl r1 => r1 | .inr _ => (-1))
def Jl (a0 : ZG) (a1 : Int) : Nat -> Nat -> Sum (Int × Int) Unit
  | 0, _ => .inr ()
  | n1 + 1, J => (bif (decide ((J : Int) < (a0.ZB.length : Int))) then (bif (decide ((Zm (nth a0.ZB J) a1) >= 0)) then (.inl ((J : Int), (Zm (nth a0.ZB J) a1))) else Jl a0 a1 n1 (J + 1)) else (.inr ()))
def ZF (a0 : ZG) (a1 : Int) : Int × Int := (match Jl a0 a1 (a0.ZB.length + 1) 0 with | .inl r1 => r1 | .inr _ => ((-1), (-1)))
def Zc (a0 : Int) (a1 : Int) (a2 : Int) : Bool := ((decide (a1 <= a0)) && (decide (a0 <= a2)))
def Y2 (a0 : ZS) : Int := (bif ((((a0.YV.length : Int) == 0) || (!(Zc (nth a0.YV 0) 101 105))) || ((a0.YV.length : Int) != (nth ([7, 5, 5, 9, 6] : List Int) (W ((nth a0.YV 0) - 101)).toNat))) then 0 else (nth a0.YV 0))
def XE (a0 : ZS) : Yb × Bool := (bif (((Y2 a0) != 101) || ((nth a0.YV 6) != a0.Key)) then ((Yb.mk 0 0 0 0 0 0 0), false) else ((Yb.mk (nth a0.YV 1) (nth a0.YV 2) (nth a0.YV 3) (nth a0.YV 4) (nth a0.YV 5) (nth a0.YV 6) a0.Mark), true))
def yP (a0 : List Yb) (a1 : Int) : Nat -> Nat -> Sum Int Unit
  | 0, _ => .inr ()
  | n1 + 1, J => (bif (decide ((J : Int) < (a0.length : Int))) then (bif ((nth a0 J).Zn == a1) then (.inl (J : Int)) else yP a0 a1 n1 (J + 1)) else (.inr ()))
def Xn (a0 : List Yb) (a1 : Int) : Int := (match yP a0 a1 (a0.length + 1) 0 with | .inl r1 => r1 | .inr _ => (-1))
def Yd (a0 : ZG) (a1 : Int) : Int × Int × Bool := (bif ((decide ((ZF a0 a1).1 < 0)) || (decide (((nth (nth a0.ZB (ZF a0 a1).1.toNat).ZD (ZF a0 a1).2.toNat).ZP.ZM.length : Int) < 2))) then (0, 0, false) else ((ZF a0 a1).1, (Xn a0.ZZ (XE (nth (nth (nth a0.ZB (ZF a0 a1).1.toNat).ZD (ZF a0 a1).2.toNat).ZP.ZM 1)).1.Zn), ((XE (nth (nth (nth a0.ZB (ZF a0 a1).1.toNat).ZD (ZF a0 a1).2.toNat).ZP.ZM 1)).2 && (decide ((Xn a0.ZZ (XE (nth (nth (nth a0.ZB (ZF a0 a1).1.toNat).ZD (ZF a0 a1).2.toNat).ZP.ZM 1)).1.Zn) >= 0)))))
def jC (a0 : List Yp) (a1 : Int) : Nat -> Nat -> Sum Int Unit
  | 0, _ => .inr ()
  | n1 + 1, J => (bif (decide ((J : Int) < (a0.length : Int))) then (bif ((nth a0 J).Number == a1) then (.inl (J : Int)) else jC a0 a1 n1 (J + 1)) else (.inr ()))
def Zu (a0 : List Yp) (a1 : Int) : Int := (match jC a0 a1 (a0.length + 1) 0 with | .inl r1 => r1 | .inr _ => (-1))
def zh (a0 : List Z5) (a1 : Int) : Nat -> Nat -> Sum Int Unit
  | 0, _ => .inr ()
  | n1 + 1, J => (bif (decide ((J : Int) < (a0.length : Int))) then (bif ((nth a0 J).Id == a1) then (.inl (J : Int)) else zh a0 a1 n1 (J + 1)) else (.inr ()))
def K7 (a0 : List Z5) (a1 : Int) : Int := (match zh a0 a1 (a0.length + 1) 0 with | .inl r1 => r1 | .inr _ => (-1))
def Ky (a0 : List Z5) (a1 : Int) : Int := (bif (decide ((K7 a0 a1) >= 0)) then (nth a0 (K7 a0 a1).toNat).jO else 0)
def JH (a0 : ZW) (a1 : Int) : Int := (bif (decide ((Zu a0.Zo a1) < 0)) then 0 else (Ky a0.Methods (nth a0.Zo (Zu a0.Zo a1).toNat).Method))
def QF (a0 : ZW) (a1 : Int) : Bool := ((decide ((Zu a0.Zo a1) >= 0)) && (decide (a0.Now >= (JH a0 a1))))
def RL (a0 : ZW) : ZW := a0
def P8 (a0 : List Int) : List Int := a0
def VZ (a0 : Ze) : Ze := a0
def Si (a0 : ZS) : ZS := a0
def jt (a0 : List ZS) : Nat -> List ZS -> Nat -> (List ZS)
  | 0, _, _ => default
  | n1 + 1, J, U => (bif (decide ((U : Int) < (a0.length : Int))) then jt a0 n1 (J ++ ([(nth a0 U)] : List ZS)) (U + 1) else (J))
def Wj (a0 : List ZS) : List ZS := (match jt a0 (a0.length + 1) ([] : List ZS) 0 with | z1_0 => z1_0)
def Tc (a0 : List Zf) : List Zf := a0
def Uh (a0 : ZV) : ZV := a0
def jj (a0 : ZQ) : Nat -> Nat -> List ZV -> (List ZV)
  | 0, _, _ => default
  | n1 + 1, J, U => (bif (decide ((J : Int) < (a0.ZR.length : Int))) then jj a0 n1 (J + 1) (U ++ ([(nth a0.ZR J)] : List ZV)) else (U))
def Wg (a0 : ZQ) : ZQ := (match jj a0 (a0.ZR.length + 1) 0 ([] : List ZV) with | z1_0 => (ZQ.mk a0.ZM z1_0))
def Pu (a0 : Zj) : Zj := a0
def qm (a0 : ZJ) : Nat -> Nat -> List Zj -> (List Zj)
  | 0, _, _ => default
  | n1 + 1, J, U => (bif (decide ((J : Int) < (a0.ZD.length : Int))) then qm a0 n1 (J + 1) (U ++ ([(nth a0.ZD J)] : List Zj)) else (U))
def kl (a0 : ZJ) : ZJ := (match qm a0 (a0.ZD.length + 1) 0 ([] : List Zj) with | z1_0 => (ZJ.mk a0.Id z1_0))
def km (a0 : ZG) : Nat -> Nat -> List ZJ -> (List ZJ)
  | 0, _, _ => default
  | n1 + 1, J, U => (bif (decide ((J : Int) < (a0.ZB.length : Int))) then km a0 n1 (J + 1) (U ++ ([(nth a0.ZB J)] : List ZJ)) else (U))
def Vu (a0 : ZG) : ZG := (match km a0 (a0.ZB.length + 1) 0 ([] : List ZJ) with | z1_0 => (ZG.mk a0.Frame a0.ZZ a0.YQ z1_0 a0.YZ a0.YR a0.Next a0.YK))
def JN (a0 : Zr) : List Int := ([102, a0.Zn, a0.Ru, a0.YQ, a0.Z6] : List Int)
def DR (a0 : Int) (a1 : Int) : Int := (bif (!(Zc a1 1 1000000000000)) then 0 else (Int.tmod (W ((Int.tmod a0 a1) + a1)) a1))
def RP (a0 : List Int) : Nat -> Int -> Nat -> Int
  | 0, _, _ => default
  | n1 + 1, J, U => (bif (decide ((U : Int) < (a0.length : Int))) then RP a0 n1 (Int.tmod (W ((W ((W (J * 1000003)) + (DR (nth a0 U) 2147483647))) + 13)) 2147483647) (U + 1) else (J))
def NN (a0 : List Int) : Int := (match RP a0 (a0.length + 1) 11 0 with | z1_0 => z1_0)
def WL (a0 : Int) (a1 : List Int) : Int := (NN ((([a0] : List Int) ++ a1) ++ ([a0] : List Int)))
def Vs (a0 : Yp) (a1 : List Int) : Int := (WL a0.jc (([a0.Method] : List Int) ++ a1))
def J0 (a0 : List Yp) (a1 : Int) (a2 : List Int) : Int × Bool := (bif (decide ((Zu a0 a1) < 0)) then (0, false) else ((Vs (nth a0 (Zu a0 a1).toNat) a2), true))
def JL (a0 : Int) : Bool := (Zc a0 0 10000)
def Vn (a0 : Zr) : Bool := ((((Zc a0.Zn 1 999) && (JL a0.Ru)) && (Zc a0.YQ (-1) (W (a0.Ru + 1)))) && (Zc a0.Z6 1 99))
def YH (a0 : List Yp) (a1 : Zr) : Zr × Bool := (bif ((!(Vn a1)) || (!(J0 a0 a1.Z6 (JN a1)).2)) then ((Zr.mk 0 0 0 0 0), false) else ((Zr.mk a1.Zn a1.Ru a1.YQ a1.Z6 (J0 a0 a1.Z6 (JN a1)).1), true))
def Yl (a0 : Zr) : ZS := (ZS.mk a0.Z6 (JN a0) a0.Mark)
def kj (a0 : List Int) (a1 : List Int) : Nat -> Nat -> Sum Bool Unit
  | 0, _ => .inr ()
  | n1 + 1, J => (bif (decide ((J : Int) < (a0.length : Int))) then (bif ((nth a0 J) != (nth a1 J)) then (.inl false) else kj a0 a1 n1 (J + 1)) else (.inr ()))
def K5 (a0 : List Int) (a1 : List Int) : Bool := (bif ((a0.length : Int) != (a1.length : Int)) then false else (match kj a0 a1 (a0.length + 1) 0 with | .inl r1 => r1 | .inr _ => true))
def XM (a0 : ZS) (a1 : ZS) : Bool := (((a0.Key == a1.Key) && (a0.Mark == a1.Mark)) && (K5 a0.YV a1.YV))
def jW (a0 : List ZS) (a1 : ZS) : Nat -> Nat -> Sum Bool Unit
  | 0, _ => .inr ()
  | n1 + 1, J => (bif (decide ((J : Int) < (a0.length : Int))) then (bif (XM (nth a0 J) a1) then (.inl true) else jW a0 a1 n1 (J + 1)) else (.inr ()))
def Qz (a0 : List ZS) (a1 : ZS) : Bool := (match jW a0 a1 (a0.length + 1) 0 with | .inl r1 => r1 | .inr _ => false)
def yN (a0 : ZQ) : Nat -> Nat -> Sum Bool Unit
  | 0, _ => .inr ()
  | n2 + 1, pR => (bif (decide ((pR : Int) < (a0.ZR.length : Int))) then (bif ((!(Zc (nth a0.ZR pR).Count 1 (a0.ZM.length : Int))) || ((decide ((pR : Int) > 0)) && (decide ((nth a0.ZR pR).Count < (nth a0.ZR (pR - 1)).Count)))) then (.inl false) else yN a0 n2 (pR + 1)) else (.inr ()))
def yb (a0 : ZQ) : Nat -> Nat -> Sum Bool Unit
  | 0, _ => .inr ()
  | n1 + 1, J => (bif (decide ((J : Int) < (a0.ZM.length : Int))) then (bif (Qz (a0.ZM.take J) (nth a0.ZM J)) then (.inl false) else yb a0 n1 (J + 1)) else (.inr ()))
def Ye (a0 : ZQ) : Bool := (bif ((!(Zc (a0.ZM.length : Int) 1 12)) || (decide ((a0.ZR.length : Int) > 8))) then false else (match yb a0 (a0.ZM.length + 1) 0 with | .inl r1 => r1 | .inr _ => (match yN a0 (a0.ZR.length + 1) 0 with | .inl r2 => r2 | .inr _ => true)))
def Xf (a0 : ZQ) (a1 : ZS) : ZQ × Bool := (bif (!(Ye (ZQ.mk (a0.ZM ++ ([a1] : List ZS)) a0.ZR))) then (a0, false) else ((ZQ.mk (a0.ZM ++ ([a1] : List ZS)) a0.ZR), true))
def Yu (a0 : ZJ) (a1 : Int) (a2 : ZS) : ZJ × Bool := (bif (decide ((Zm a0 a1) < 0)) then (a0, false) else ((ZJ.mk a0.Id (a0.ZD.set (Zm a0 a1).toNat (Zj.mk (nth a0.ZD (Zm a0 a1).toNat).Id (nth a0.ZD (Zm a0 a1).toNat).XI (nth a0.ZD (Zm a0 a1).toNat).Doc (nth a0.ZD (Zm a0 a1).toNat).Sig (Xf (nth a0.ZD (Zm a0 a1).toNat).ZP a2).1))), (Xf (nth a0.ZD (Zm a0 a1).toNat).ZP a2).2))
def Xe (a0 : ZG) (a1 : Int) (a2 : Int) (a3 : Zr) : ZG × Bool := (bif ((!(YH a0.Frame.Zo a3).2) || (!(Yu (nth a0.ZB a1.toNat) a2 (Yl (YH a0.Frame.Zo a3).1)).2)) then (a0, false) else ((ZG.mk a0.Frame a0.ZZ a0.YQ (a0.ZB.set a1.toNat (Yu (nth a0.ZB a1.toNat) a2 (Yl (YH a0.Frame.Zo a3).1)).1) a0.YZ a0.YR a0.Next a0.YK), true))
def Yj (a0 : ZG) (a1 : Int) (a2 : Int) : ZG × Bool := (bif ((!(Yd a0 a1).2.2) || (!(QF a0.Frame (nth a0.ZZ (Yd a0 a1).2.1.toNat).Z6))) then (a0, false) else ((Xe a0 (Yd a0 a1).1 a1 (Zr.mk (nth a0.ZZ (Yd a0 a1).2.1.toNat).Zn a2 (-1) (nth a0.ZZ (Yd a0 a1).2.1.toNat).Z6 0)).1, (Xe a0 (Yd a0 a1).1 a1 (Zr.mk (nth a0.ZZ (Yd a0 a1).2.1.toNat).Zn a2 (-1) (nth a0.ZZ (Yd a0 a1).2.1.toNat).Z6 0)).2))
def yi (a0 : ZW) (a1 : ZW) : Nat -> Nat -> Sum Bool Unit
  | 0, _ => .inr ()
  | n3 + 1, pn => (bif (decide ((pn : Int) < (a0.Methods.length : Int))) then (bif (!(((nth a0.Methods pn).Id == (nth a1.Methods pn).Id) && (((nth a0.Methods pn).Vp == (nth a1.Methods pn).Vp) && (((nth a0.Methods pn).Ends == (nth a1.Methods pn).Ends) && ((nth a0.Methods pn).jO == (nth a1.Methods pn).jO))))) then (.inl false) else yi a0 a1 n3 (pn + 1)) else (.inr ()))
def yu (a0 : ZW) (a1 : ZW) : Nat -> Nat -> Sum Bool Unit
  | 0, _ => .inr ()
  | n2 + 1, pR => (bif (decide ((pR : Int) < (a0.ZC.length : Int))) then (bif (!(((nth a0.ZC pR).Id == (nth a1.ZC pR).Id) && (((nth a0.ZC pR).Key == (nth a1.ZC pR).Key) && ((nth a0.ZC pR).Error == (nth a1.ZC pR).Error)))) then (.inl false) else yu a0 a1 n2 (pR + 1)) else (.inr ()))
def yo (a0 : ZW) (a1 : ZW) : Nat -> Nat -> Sum Bool Unit
  | 0, _ => .inr ()
  | n1 + 1, J => (bif (decide ((J : Int) < (a0.Zo.length : Int))) then (bif (!(((nth a0.Zo J).Number == (nth a1.Zo J).Number) && (((nth a0.Zo J).Kr == (nth a1.Zo J).Kr) && (((nth a0.Zo J).Method == (nth a1.Zo J).Method) && (((nth a0.Zo J).qK == (nth a1.Zo J).qK) && ((nth a0.Zo J).jc == (nth a1.Zo J).jc)))))) then (.inl false) else yo a0 a1 n1 (J + 1)) else (.inr ()))
def zP (a0 : ZW) (a1 : ZW) : Bool := (bif ((((((a0.Zo.length : Int) != (a1.Zo.length : Int)) || ((a0.ZC.length : Int) != (a1.ZC.length : Int))) || ((a0.Methods.length : Int) != (a1.Methods.length : Int))) || (a0.X8 != a1.X8)) || (a0.Now != a1.Now)) then false else (match yo a0 a1 (a0.Zo.length + 1) 0 with | .inl r1 => r1 | .inr _ => (match yu a0 a1 (a0.ZC.length + 1) 0 with | .inl r2 => r2 | .inr _ => (match yi a0 a1 (a0.Methods.length + 1) 0 with | .inl r3 => r3 | .inr _ => true))))
def zm (a0 : List ByteArray) (a1 : List ByteArray) : Nat -> Nat -> Sum Bool Unit
  | 0, _ => .inr ()
  | n1 + 1, J => (bif (decide ((J : Int) < (a0.length : Int))) then (bif (!decide ((nth a0 J) = (nth a1 J))) then (.inl false) else zm a0 a1 n1 (J + 1)) else (.inr ()))
def xe (a0 : List ByteArray) (a1 : List ByteArray) : Bool := (bif ((a0.length : Int) != (a1.length : Int)) then false else (match zm a0 a1 (a0.length + 1) 0 with | .inl r1 => r1 | .inr _ => true))
def Jh (a0 : Ze) (a1 : Ze) : Bool := (((a0.WB == a1.WB) && (xe a0.XJ a1.XJ)) && (K5 a0.Qs a1.Qs))
def KH (a0 : List ZS) (a1 : List ZS) : Nat -> Nat -> Sum Bool Unit
  | 0, _ => .inr ()
  | n1 + 1, J => (bif (decide ((J : Int) < (a0.length : Int))) then (bif (!(XM (nth a0 J) (nth a1 J))) then (.inl false) else KH a0 a1 n1 (J + 1)) else (.inr ()))
def zE (a0 : List ZS) (a1 : List ZS) : Bool := (bif ((a0.length : Int) != (a1.length : Int)) then false else (match KH a0 a1 (a0.length + 1) 0 with | .inl r1 => r1 | .inr _ => true))
def yn (a0 : List Zf) (a1 : List Zf) : Nat -> Nat -> Sum Bool Unit
  | 0, _ => .inr ()
  | n1 + 1, J => (bif (decide ((J : Int) < (a0.length : Int))) then (bif (!(((nth a0 J).Authority == (nth a1 J).Authority) && (((nth a0 J).Seq == (nth a1 J).Seq) && (((nth a0 J).Time == (nth a1 J).Time) && (((nth a0 J).Yt == (nth a1 J).Yt) && ((nth a0 J).Mark == (nth a1 J).Mark)))))) then (.inl false) else yn a0 a1 n1 (J + 1)) else (.inr ()))
def qY (a0 : List Zf) (a1 : List Zf) : Bool := (bif ((a0.length : Int) != (a1.length : Int)) then false else (match yn a0 a1 (a0.length + 1) 0 with | .inl r1 => r1 | .inr _ => true))
def zO (a0 : ZV) (a1 : ZV) : Nat -> Nat -> Sum Bool Unit
  | 0, _ => .inr ()
  | n1 + 1, J => (bif (decide ((J : Int) < (a0.Path.length : Int))) then (bif (!(((nth a0.Path J).Yt == (nth a1.Path J).Yt) && ((nth a0.Path J).Left == (nth a1.Path J).Left))) then (.inl false) else zO a0 a1 n1 (J + 1)) else (.inr ()))
def Qw (a0 : ZV) (a1 : ZV) : Bool := (bif ((((a0.Count != a1.Count) || (a0.Method != a1.Method)) || (a0.H2 != a1.H2)) || ((a0.Path.length : Int) != (a1.Path.length : Int))) then false else (match zO a0 a1 (a0.Path.length + 1) 0 with | .inl r1 => r1 | .inr _ => (qY a0.YI a1.YI)))
def zu (a0 : ZQ) (a1 : ZQ) : Nat -> Nat -> Sum Bool Unit
  | 0, _ => .inr ()
  | n1 + 1, J => (bif (decide ((J : Int) < (a0.ZR.length : Int))) then (bif (!(Qw (nth a0.ZR J) (nth a1.ZR J))) then (.inl false) else zu a0 a1 n1 (J + 1)) else (.inr ()))
def Kq (a0 : ZQ) (a1 : ZQ) : Bool := (bif ((!(zE a0.ZM a1.ZM)) || ((a0.ZR.length : Int) != (a1.ZR.length : Int))) then false else (match zu a0 a1 (a0.ZR.length + 1) 0 with | .inl r1 => r1 | .inr _ => true))
def KP (a0 : Zj) (a1 : Zj) : Bool := (((((a0.Id == a1.Id) && (a0.XI == a1.XI)) && (Jh a0.Doc a1.Doc)) && ((a0.Sig.Key == a1.Sig.Key) && ((a0.Sig.Zn == a1.Sig.Zn) && ((a0.Sig.Method == a1.Sig.Method) && ((a0.Sig.Yt == a1.Sig.Yt) && ((a0.Sig.xU == a1.Sig.xU) && ((a0.Sig.Org == a1.Sig.Org) && ((a0.Sig.xQ == a1.Sig.xQ) && ((a0.Sig.qX == a1.Sig.qX) && (a0.Sig.Mark == a1.Sig.Mark)))))))))) && (Kq a0.ZP a1.ZP))
def zJ (a0 : ZJ) (a1 : ZJ) : Nat -> Nat -> Sum Bool Unit
  | 0, _ => .inr ()
  | n1 + 1, J => (bif (decide ((J : Int) < (a0.ZD.length : Int))) then (bif (!(KP (nth a0.ZD J) (nth a1.ZD J))) then (.inl false) else zJ a0 a1 n1 (J + 1)) else (.inr ()))
def Qx (a0 : ZJ) (a1 : ZJ) : Bool := (bif ((a0.Id != a1.Id) || ((a0.ZD.length : Int) != (a1.ZD.length : Int))) then false else (match zJ a0 a1 (a0.ZD.length + 1) 0 with | .inl r1 => r1 | .inr _ => true))
def yj (a0 : ZG) (a1 : ZG) : Nat -> Nat -> Sum Bool Unit
  | 0, _ => .inr ()
  | n2 + 1, pR => (bif (decide ((pR : Int) < (a0.ZB.length : Int))) then (bif (!(Qx (nth a0.ZB pR) (nth a1.ZB pR))) then (.inl false) else yj a0 a1 n2 (pR + 1)) else (.inr ()))
def yp (a0 : ZG) (a1 : ZG) : Nat -> Nat -> Sum Bool Unit
  | 0, _ => .inr ()
  | n1 + 1, J => (bif (decide ((J : Int) < (a0.ZZ.length : Int))) then (bif (!(((nth a0.ZZ J).Zn == (nth a1.ZZ J).Zn) && (((nth a0.ZZ J).Key == (nth a1.ZZ J).Key) && (((nth a0.ZZ J).Kr == (nth a1.ZZ J).Kr) && (((nth a0.ZZ J).X0 == (nth a1.ZZ J).X0) && (((nth a0.ZZ J).To == (nth a1.ZZ J).To) && (((nth a0.ZZ J).Z6 == (nth a1.ZZ J).Z6) && ((nth a0.ZZ J).Mark == (nth a1.ZZ J).Mark)))))))) then (.inl false) else yp a0 a1 n1 (J + 1)) else (.inr ()))
def JF (a0 : ZG) (a1 : ZG) : Bool := (bif ((((((((!(zP a0.Frame a1.Frame)) || ((a0.ZZ.length : Int) != (a1.ZZ.length : Int))) || ((a0.ZB.length : Int) != (a1.ZB.length : Int))) || (!(K5 a0.YQ a1.YQ))) || (!(K5 a0.YZ a1.YZ))) || (!(K5 a0.YR a1.YR))) || (a0.Next != a1.Next)) || (!(K5 a0.YK a1.YK))) then false else (match yp a0 a1 (a0.ZZ.length + 1) 0 with | .inl r1 => r1 | .inr _ => (match yj a0 a1 (a0.ZB.length + 1) 0 with | .inl r2 => r2 | .inr _ => true)))
def Z2 (a0 : Zj) : Zz := (Zz.mk ([a0.ZP] : List ZQ) ([] : List (List Zf)))
def zk (a0 : Ze) : Nat -> Nat -> Sum Bool Unit
  | 0, _ => .inr ()
  | n1 + 1, J => (bif (decide ((J : Int) < (a0.XJ.length : Int))) then (bif ((decide (((nth a0.XJ J).size : Int) > 40)) || (!(Zc (nth a0.Qs J) 1 1000000000000))) then (.inl false) else zk a0 n1 (J + 1)) else (.inr ()))
def zF (a0 : Ze) : Bool := (bif (((!(Zc a0.WB 0 999)) || (!(Zc (a0.XJ.length : Int) 1 6))) || ((a0.Qs.length : Int) != (a0.XJ.length : Int))) then false else (match zk a0 (a0.XJ.length + 1) 0 with | .inl r1 => r1 | .inr _ => true))
def xN (a0 : List UInt8) : Nat -> List Int -> Nat -> (List Int)
  | 0, _, _ => default
  | n1 + 1, J, U => (bif (decide ((U : Int) < (a0.length : Int))) then xN a0 n1 (J ++ ([(W ((nth a0 U).toNat : Int))] : List Int)) (U + 1) else (J))
def kJ (a0 : List UInt8) : List Int := (match xN a0 (a0.length + 1) ([] : List Int) 0 with | z1_0 => z1_0)
def Jj (a0 : Int) (a1 : List Int) : Int := (NN (([7, a0] : List Int) ++ a1))
def jk (a0 : Int) (a1 : ByteArray) (a2 : Int) : Int := (Jj a0 (([a2] : List Int) ++ (kJ a1.data.toList)))
def qU (a0 : Int) (a1 : Ze) : Nat -> List Int -> Nat -> (List Int)
  | 0, _, _ => default
  | n1 + 1, J, U => (bif (decide ((U : Int) < (a1.XJ.length : Int))) then qU a0 a1 n1 (J ++ ([(jk a0 (nth a1.XJ U) (nth a1.Qs U))] : List Int)) (U + 1) else (J))
def XC (a0 : Int) (a1 : Ze) : Int := (bif (!(zF a1)) then (-1) else (match qU a0 a1 (a1.XJ.length + 1) ([a1.WB] : List Int) 0 with | z1_0 => (Jj a0 z1_0)))
def QU (a0 : ZQ) (a1 : Ze) : Nat -> List Int -> Nat -> (List Int)
  | 0, _, _ => default
  | n1 + 1, J, U => (bif (decide ((U : Int) < (a0.ZR.length : Int))) then QU a0 a1 n1 (J ++ ([(XC (nth a0.ZR U).Method a1)] : List Int)) (U + 1) else (J))
def Y3 (a0 : ZQ) (a1 : Ze) : List Int := (match QU a0 a1 (a0.ZR.length + 1) ([] : List Int) 0 with | z1_0 => z1_0)
def J6 (a0 : Zz) (a1 : Ze) : Nat -> List (List Int) -> Nat -> (List (List Int))
  | 0, _, _ => default
  | n1 + 1, J, U => (bif (decide ((U : Int) < (a0.Zx.length : Int))) then J6 a0 a1 n1 (J ++ ([(Y3 (nth a0.Zx U) a1)] : List (List Int))) (U + 1) else (J))
def Y9 (a0 : Zz) (a1 : Ze) : List (List Int) := (match J6 a0 a1 (a0.Zx.length + 1) ([] : List (List Int)) 0 with | z1_0 => z1_0)
def jv (a0 : Int) : Bool := (Zc a0 1 2147483646)
def Ei (a0 : Yp) : Bool := (((((Zc a0.Number 1 99) && (Zc a0.Kr 0 99)) && (Zc a0.Method 0 99)) && (JL a0.qK)) && (jv a0.jc))
def SK (a0 : List Yp) : Nat -> Nat -> Sum Bool Unit
  | 0, _ => .inr ()
  | n1 + 1, J => (bif (decide ((J : Int) < (a0.length : Int))) then (bif ((!(Ei (nth a0 J))) || ((decide ((J : Int) > 0)) && (decide ((nth a0 (J - 1)).Number >= (nth a0 J).Number)))) then (.inl false) else SK a0 n1 (J + 1)) else (.inr ()))
def N0 (a0 : List Yp) : Bool := (match SK a0 (a0.length + 1) 0 with | .inl r1 => r1 | .inr _ => (decide ((a0.length : Int) <= 12)))
def qy (a0 : List Zg) : Nat -> Nat -> Sum Bool Unit
  | 0, _ => .inr ()
  | n1 + 1, J => (bif (decide ((J : Int) < (a0.length : Int))) then (bif ((((!(Zc (nth a0 J).Id 0 99)) || (!(Zc (nth a0 J).Key 1 99))) || (!(Zc (nth a0 J).Error 0 100))) || ((decide ((J : Int) > 0)) && (decide ((nth a0 (J - 1)).Id >= (nth a0 J).Id)))) then (.inl false) else qy a0 n1 (J + 1)) else (.inr ()))
def kF (a0 : List Zg) : Bool := (match qy a0 (a0.length + 1) 0 with | .inl r1 => r1 | .inr _ => (decide ((a0.length : Int) <= 6)))
def Pc (a0 : Z5) : Bool := ((((((Zc a0.Id 0 99) && (JL a0.Vp)) && (Zc a0.Ends 1 10001)) && (Zc a0.jO 1 10001)) && (decide (a0.Vp < a0.Ends))) && (decide (a0.Vp < a0.jO)))
def VG (a0 : List Z5) : Nat -> Nat -> Sum Bool Unit
  | 0, _ => .inr ()
  | n1 + 1, J => (bif (decide ((J : Int) < (a0.length : Int))) then (bif ((!(Pc (nth a0 J))) || ((decide ((J : Int) > 0)) && (decide ((nth a0 (J - 1)).Id >= (nth a0 J).Id)))) then (.inl false) else VG a0 n1 (J + 1)) else (.inr ()))
def Tn (a0 : List Z5) : Bool := (match VG a0 (a0.length + 1) 0 with | .inl r1 => r1 | .inr _ => (decide ((a0.length : Int) <= 8)))
def JQ (a0 : ZW) : Bool := (((((N0 a0.Zo) && (kF a0.ZC)) && (Tn a0.Methods)) && (Zc a0.X8 0 6)) && (JL a0.Now))
def Sq (a0 : Int) : Jy := (Jy.mk 3 a0 (Zl.mk 0 0))
def zc (a0 : Zq) : Bool := ((((((((Zc a0.Key 1 99) && (Zc a0.Zn 1 999)) && (Zc a0.Method 0 99)) && (Zc a0.Org 0 99)) && (Zc a0.xU 1 3)) && (Zc a0.Yt 0 1000000000000)) && (Zc a0.xQ 0 1000000000000)) && (Zc a0.qX 0 1000000000000))
def Uz (a0 : Int) : Jy := (Jy.mk 2 a0 (Zl.mk 0 0))
def Xu (a0 : Zq) : List Int := ([104, a0.Key, a0.Zn, a0.Method, a0.Yt, a0.xU, a0.Org, a0.xQ, a0.qX] : List Int)
def J2 (a0 : List Yp) (a1 : Int) (a2 : List Int) (a3 : Int) : Bool := ((J0 a0 a1 a2).2 && ((J0 a0 a1 a2).1 == a3))
def kV (a0 : List Yp) (a1 : Zq) : Bool := ((zc a1) && (J2 a0 a1.Key (Xu a1) a1.Mark))
def Y6 (a0 : Zq) : ZS := (ZS.mk a0.Key (Xu a0) a0.Mark)
def KX (a0 : ZQ) (a1 : ZS) : Nat -> Nat -> Sum Int Unit
  | 0, _ => .inr ()
  | n1 + 1, J => (bif (decide ((J : Int) < (a0.ZM.length : Int))) then (bif (XM (nth a0.ZM J) a1) then (.inl (J : Int)) else KX a0 a1 n1 (J + 1)) else (.inr ()))
def QD (a0 : ZQ) (a1 : ZS) : Int := (match KX a0 a1 (a0.ZM.length + 1) 0 with | .inl r1 => r1 | .inr _ => (-1))
def JP (a0 : List Zg) (a1 : Int) : Nat -> Nat -> Sum Int Unit
  | 0, _ => .inr ()
  | n1 + 1, J => (bif (decide ((J : Int) < (a0.length : Int))) then (bif ((nth a0 J).Id == a1) then (.inl (J : Int)) else JP a0 a1 n1 (J + 1)) else (.inr ()))
def ZY (a0 : List Zg) (a1 : Int) : Int := (match JP a0 a1 (a0.length + 1) 0 with | .inl r1 => r1 | .inr _ => (-1))
def Ko (a0 : Zl) : Bool := (((JL a0.X0) && (JL a0.To)) && (decide (a0.X0 <= a0.To)))
def yX (a0 : Int) (a1 : Int) : Zl × Bool := (bif ((decide (a0 > a1)) || (!(Ko (Zl.mk (if 0 > a0 then 0 else a0) (if 10000 < a1 then 10000 else a1))))) then ((Zl.mk 0 0), false) else ((Zl.mk (if 0 > a0 then 0 else a0) (if 10000 < a1 then 10000 else a1)), true))
def zM (a0 : List Zg) (a1 : Zf) : Zl × Bool := (bif (((decide ((ZY a0 a1.Authority) < 0)) || (decide ((nth a0 (ZY a0 a1.Authority).toNat).Error < 0))) || (!(JL a1.Time))) then ((Zl.mk 0 0), false) else ((yX (W (a1.Time - (nth a0 (ZY a0 a1.Authority).toNat).Error)) (W (a1.Time + (nth a0 (ZY a0 a1.Authority).toNat).Error))).1, (yX (W (a1.Time - (nth a0 (ZY a0 a1.Authority).toNat).Error)) (W (a1.Time + (nth a0 (ZY a0 a1.Authority).toNat).Error))).2))
def UP (a0 : List Zl) (a1 : Int) : Nat -> Int -> Nat -> Int
  | 0, _, _ => default
  | n1 + 1, J, U => (bif (decide ((U : Int) < (a0.length : Int))) then (bif ((Ko (nth a0 U)) && (Zc a1 (nth a0 U).X0 (nth a0 U).To)) then UP a0 a1 n1 (W (J + 1)) (U + 1) else UP a0 a1 n1 J (U + 1)) else (J))
def MI (a0 : List Zl) (a1 : Int) : Int := (match UP a0 a1 (a0.length + 1) 0 0 with | z1_0 => z1_0)
def qS (a0 : List Zl) (a1 : Int) (a2 : Int) : Bool := ((Zc a2 0 (W ((a0.length : Int) - 1))) && (decide ((MI a0 a1) >= (W ((a0.length : Int) - a2)))))
def Ju (a0 : List Zl) (a1 : Int) : Nat -> Bool -> Nat -> Int -> Int -> Bool × Int × Int
  | 0, _, _, _, _ => (default, default, default)
  | n1 + 1, J, U, pO, pQ => (bif (decide ((U : Int) <= 10000)) then (bif (qS a0 (U : Int) a1) then (bif (!J) then Ju a0 a1 n1 true (U + 1) (U : Int) (U : Int) else Ju a0 a1 n1 true (U + 1) pO (U : Int)) else Ju a0 a1 n1 J (U + 1) pO pQ) else ((J, pO, pQ)))
def yU (a0 : List Zl) (a1 : Int) : Zl × Bool := (match Ju a0 a1 10002 false 0 0 0 with | (z1_0, z1_1, z1_2) => ((Zl.mk z1_1 z1_2), z1_0))
def yS (a0 : List Zg) (a1 : List Zf) : Nat -> List Zl -> Nat -> Sum (Zl × Bool) (List Zl)
  | 0, _, _ => .inr default
  | n1 + 1, J, U => (bif (decide ((U : Int) < (a1.length : Int))) then (bif (!(zM a0 (nth a1 U)).2) then (.inl ((Zl.mk 0 0), false)) else yS a0 a1 n1 (J ++ ([(zM a0 (nth a1 U)).1] : List Zl)) (U + 1)) else (.inr J))
def Jg (a0 : List Zg) (a1 : List Zf) (a2 : Int) : Zl × Bool := (match yS a0 a1 (a1.length + 1) ([] : List Zl) 0 with | .inl r1 => r1 | .inr z1_0 => ((yU z1_0 a2).1, (yU z1_0 a2).2))
def Jq (a0 : List Zg) (a1 : ZV) (a2 : Int) : Zl × Bool := ((Jg a0 a1.YI a2).1, (Jg a0 a1.YI a2).2)
def JJ (a0 : ZW) (a1 : ZV) : Zl × Bool := ((Jq a0.ZC a1 a0.X8).1, (Jq a0.ZC a1 a0.X8).2)
def QQ (a0 : Zf) : List Int := ([103, a0.Authority, a0.Seq, a0.Time, a0.Yt] : List Int)
def zA (a1 : ZV) : Nat -> List Int -> Nat -> (List Int)
  | 0, _, _ => default
  | n2 + 1, pR, pT => (bif (decide ((pT : Int) < (a1.YI.length : Int))) then zA a1 n2 ((pR ++ (QQ (nth a1.YI pT))) ++ ([(nth a1.YI pT).Mark] : List Int)) (pT + 1) else (pR))
def J9 (a1 : ZV) : Nat -> List Int -> Nat -> (List Int)
  | 0, _, _ => default
  | n1 + 1, J, U => (bif (decide ((U : Int) < (a1.Path.length : Int))) then (bif (nth a1.Path U).Left then J9 a1 n1 (J ++ ([(nth a1.Path U).Yt, 1] : List Int)) (U + 1) else J9 a1 n1 (J ++ ([(nth a1.Path U).Yt, 0] : List Int)) (U + 1)) else (J))
def JX (a0 : Int) (a1 : ZV) : Int := (match J9 a1 (a1.Path.length + 1) ([4, a1.Count, a1.Method, a1.H2] : List Int) 0 with | z1_0 => (match zA a1 (a1.YI.length + 1) (z1_0 ++ ([(a1.YI.length : Int)] : List Int)) 0 with | nC => (Jj a0 nC)))
def zw (a0 : Int) (a1 : List ZS) : Nat -> List Int -> Nat -> (List Int)
  | 0, _, _ => default
  | n1 + 1, J, U => (bif (decide ((U : Int) < (a1.length : Int))) then zw a0 a1 n1 (J ++ ([(Jj a0 (([(nth a1 U).Key, (nth a1 U).Mark] : List Int) ++ (nth a1 U).YV))] : List Int)) (U + 1) else (J))
def zt (a0 : Int) (a1 : List ZS) : Int := (match zw a0 a1 (a1.length + 1) ([2] : List Int) 0 with | z1_0 => (Jj a0 z1_0))
def WJ (a0 : Int) (a1 : Int) (a2 : List ZS) (a3 : Int) : Int := (Jj a0 ([3, a1, (zt a0 a2), a3] : List Int))
def jn (a0 : ZQ) (a1 : List Int) (a2 : Int) : Int := (bif (((!(Zc a2 0 (W ((a0.ZR.length : Int) - 1)))) || ((a1.length : Int) != (a0.ZR.length : Int))) || (!(Zc (nth a0.ZR a2.toNat).Count 0 (a0.ZM.length : Int)))) then (-1) else (bif (decide (a2 > 0)) then (WJ (nth a0.ZR a2.toNat).Method (nth a1 a2.toNat) (a0.ZM.take (nth a0.ZR a2.toNat).Count.toNat) (JX (nth a0.ZR a2.toNat).Method (nth a0.ZR (W (a2 - 1)).toNat))) else (WJ (nth a0.ZR a2.toNat).Method (nth a1 a2.toNat) (a0.ZM.take (nth a0.ZR a2.toNat).Count.toNat) 0)))
def yR (a0 : Int) (a1 : Int) (a2 : Int) : Int := (Jj a0 ([1, a1, a2] : List Int))
def jf (a0 : Int) (a2 : List Xq) : Nat -> Int -> Nat -> Int
  | 0, _, _ => default
  | n1 + 1, J, U => (bif (decide ((U : Int) < (a2.length : Int))) then (bif (nth a2 U).Left then jf a0 a2 n1 (yR a0 (nth a2 U).Yt J) (U + 1) else jf a0 a2 n1 (yR a0 J (nth a2 U).Yt) (U + 1)) else (J))
def TI (a0 : Int) (a1 : Int) (a2 : List Xq) : Int := (match jf a0 a2 (a2.length + 1) a1 0 with | z1_0 => z1_0)
def xE (a0 : List Zf) : Nat -> Nat -> Sum Bool Unit
  | 0, _ => .inr ()
  | n1 + 1, J => (bif (decide ((J : Int) < (a0.length : Int))) then (bif (decide ((nth a0 (J - 1)).Authority >= (nth a0 J).Authority)) then (.inl false) else xE a0 n1 (J + 1)) else (.inr ()))
def KG (a0 : List Zf) : Bool := (match xE a0 (a0.length + 1) 1 with | .inl r1 => r1 | .inr _ => true)
def XD (a0 : List Yp) (a1 : List Zg) (a2 : Zf) : Zf × Bool := (bif (((decide ((ZY a1 a2.Authority) < 0)) || (decide (a2.Seq < 0))) || (!(JL a2.Time))) then ((Zf.mk 0 0 0 0 0), false) else (bif (!(J0 a0 (nth a1 (ZY a1 a2.Authority).toNat).Key (QQ a2)).2) then ((Zf.mk 0 0 0 0 0), false) else ((Zf.mk a2.Authority a2.Seq a2.Time a2.Yt (J0 a0 (nth a1 (ZY a1 a2.Authority).toNat).Key (QQ a2)).1), true)))
def Th (a0 : List Yp) (a1 : List Zg) (a2 : Zf) : Bool := ((XD a0 a1 a2).2 && (((XD a0 a1 a2).1.Authority == a2.Authority) && (((XD a0 a1 a2).1.Seq == a2.Seq) && (((XD a0 a1 a2).1.Time == a2.Time) && (((XD a0 a1 a2).1.Yt == a2.Yt) && ((XD a0 a1 a2).1.Mark == a2.Mark))))))
def kX (a0 : List Yp) (a1 : List Zg) (a2 : ZV) : Nat -> Nat -> Sum Bool Unit
  | 0, _ => .inr ()
  | n1 + 1, J => (bif (decide ((J : Int) < (a2.YI.length : Int))) then (bif (((nth a2.YI J).Yt != a2.H2) || (!(Th a0 a1 (nth a2.YI J)))) then (.inl false) else kX a0 a1 a2 n1 (J + 1)) else (.inr ()))
def W9 (a0 : List Yp) (a1 : List Zg) (a2 : ZV) (a3 : Int) : Bool := (bif ((((decide ((a2.Path.length : Int) > 4)) || ((TI a2.Method a3 a2.Path) != a2.H2)) || (!(Zc (a2.YI.length : Int) 1 6))) || (!(KG a2.YI))) then false else (match kX a0 a1 a2 (a2.YI.length + 1) 0 with | .inl r1 => r1 | .inr _ => true))
def Xd (a0 : List Zg) (a1 : Zf) : Int := (bif (decide ((ZY a0 a1.Authority) >= 0)) then (nth a0 (ZY a0 a1.Authority).toNat).Key else 0)
def z4 (a0 : List Yp) (a1 : List Zg) (a2 : List Z5) (a3 : ZV) : Nat -> Int -> Nat -> Sum Int Int
  | 0, _, _ => .inr default
  | n1 + 1, J, U => (bif (decide ((U : Int) < (a3.YI.length : Int))) then (bif (decide ((Zu a0 (Xd a1 (nth a3.YI U))) < 0)) then (.inl 0) else z4 a0 a1 a2 a3 n1 (if (Ky a2 (nth a0 (Zu a0 (Xd a1 (nth a3.YI U))).toNat).Method) < J then (Ky a2 (nth a0 (Zu a0 (Xd a1 (nth a3.YI U))).toNat).Method) else J) (U + 1)) else (.inr J))
def Jz (a0 : List Yp) (a1 : List Zg) (a2 : List Z5) (a3 : ZV) : Int := (match z4 a0 a1 a2 a3 (a3.YI.length + 1) (Ky a2 a3.Method) 0 with | .inl r1 => r1 | .inr z1_0 => z1_0)
def jL (a0 : ZW) (a1 : ZQ) (a2 : Int) : Bool := (bif (!(Zc a2 0 (W ((a1.ZR.length : Int) - 1)))) then false else (bif (a2 == (W ((a1.ZR.length : Int) - 1))) then (decide (a0.Now < (Jz a0.Zo a0.ZC a0.Methods (nth a1.ZR a2.toNat)))) else ((JJ a0 (nth a1.ZR (W (a2 + 1)).toNat)).2 && (decide ((JJ a0 (nth a1.ZR (W (a2 + 1)).toNat)).1.To < (Jz a0.Zo a0.ZC a0.Methods (nth a1.ZR a2.toNat)))))))
def Qq (a0 : ZW) (a1 : ZQ) (a2 : List Int) : Nat -> Nat -> Nat
  | 0, _ => default
  | n1 + 1, J => (bif (decide ((J : Int) > 0)) then (bif (((!(JJ a0 (nth a1.ZR (J - 1))).2) || (!(W9 a0.Zo a0.ZC (nth a1.ZR (J - 1)) (jn a1 a2 (W ((J : Int) - 1)))))) || (!(jL a0 a1 (W ((J : Int) - 1))))) then (J) else Qq a0 a1 a2 n1 (J - 1)) else (J))
def Y7 (a0 : ZW) (a1 : ZQ) (a2 : List Int) : Int := (match Qq a0 a1 a2 (a1.ZR.length + 1) a1.ZR.length with | z1_0 => (z1_0 : Int))
def JT (a0 : ZW) (a1 : ZQ) (a3 : Int) : Nat -> Int -> Int -> Int
  | 0, _, _ => default
  | n1 + 1, J, U => (bif (decide (U < (a1.ZR.length : Int))) then (bif (decide ((nth a1.ZR U.toNat).Count > a3)) then JT a0 a1 a3 n1 (if (JJ a0 (nth a1.ZR U.toNat)).1.To < J then (JJ a0 (nth a1.ZR U.toNat)).1.To else J) (W (U + 1)) else JT a0 a1 a3 n1 J (W (U + 1))) else (J))
def Kz (a0 : ZW) (a1 : ZQ) (a2 : List Int) (a3 : Int) : Int := (match JT a0 a1 a3 (a1.ZR.length + 2) a0.Now (Y7 a0 a1 a2) with | z1_0 => z1_0)
def Qt (a0 : ZW) (a1 : ZQ) (a2 : List Int) (a3 : ZS) : Int := (bif (decide ((QD a1 a3) < 0)) then a0.Now else (Kz a0 a1 a2 (QD a1 a3)))
def zI (a0 : ZW) (a1 : Zz) (a2 : List (List Int)) (a3 : ZS) : Nat -> Int -> Nat -> Int
  | 0, _, _ => default
  | n1 + 1, J, U => (bif (decide ((U : Int) < (a1.Zx.length : Int))) then (bif (decide ((U : Int) < (a2.length : Int))) then zI a0 a1 a2 a3 n1 (if (Qt a0 (nth a1.Zx U) (nth a2 U) a3) < J then (Qt a0 (nth a1.Zx U) (nth a2 U) a3) else J) (U + 1) else zI a0 a1 a2 a3 n1 J (U + 1)) else (J))
def Yk (a0 : ZW) (a1 : Zz) (a2 : List (List Int)) (a3 : ZS) : Int := (match zI a0 a1 a2 a3 (a1.Zx.length + 1) a0.Now 0 with | z1_0 => z1_0)
def KY (a0 : ZS) : Zr × Bool := (bif (((Y2 a0) != 102) || ((nth a0.YV 4) != a0.Key)) then ((Zr.mk 0 0 0 0 0), false) else ((Zr.mk (nth a0.YV 1) (nth a0.YV 2) (nth a0.YV 3) (nth a0.YV 4) a0.Mark), true))
def Wz (a0 : ZS) : Zf × Bool := (bif ((Y2 a0) != 103) then ((Zf.mk 0 0 0 0 0), false) else ((Zf.mk (nth a0.YV 1) (nth a0.YV 2) (nth a0.YV 3) (nth a0.YV 4) a0.Mark), true))
def V0 (a0 : ZS) : Zq × Bool := (bif (((Y2 a0) != 104) || ((nth a0.YV 1) != a0.Key)) then ((Zq.mk 0 0 0 0 0 0 0 0 0), false) else ((Zq.mk (nth a0.YV 1) (nth a0.YV 2) (nth a0.YV 3) (nth a0.YV 4) (nth a0.YV 5) (nth a0.YV 6) (nth a0.YV 7) (nth a0.YV 8) a0.Mark), true))
def zp (a0 : ZS) : XL × Bool := (bif (((Y2 a0) != 105) || ((nth a0.YV 5) != a0.Key)) then ((XL.mk 0 0 0 0 0 0), false) else ((XL.mk (nth a0.YV 1) (nth a0.YV 2) (nth a0.YV 3) (nth a0.YV 4) (nth a0.YV 5) a0.Mark), true))
def TG (a0 : List Yp) (a1 : ZS) : Bool := (bif ((Y2 a1) == 101) then ((XE a1).2 && (J2 a0 a1.Key a1.YV a1.Mark)) else (bif ((Y2 a1) == 102) then ((KY a1).2 && (J2 a0 a1.Key a1.YV a1.Mark)) else (bif ((Y2 a1) == 103) then ((Wz a1).2 && (J2 a0 a1.Key a1.YV a1.Mark)) else (bif ((Y2 a1) == 104) then ((V0 a1).2 && (J2 a0 a1.Key a1.YV a1.Mark)) else (bif ((Y2 a1) == 105) then ((zp a1).2 && (J2 a0 a1.Key a1.YV a1.Mark)) else (false && (J2 a0 a1.Key a1.YV a1.Mark)))))))
def Wc (a0 : ZS) (a1 : ZS) : Nat -> Nat -> Sum Bool Unit
  | 0, _ => .inr ()
  | n1 + 1, J => (bif ((decide ((J : Int) < (a0.YV.length : Int))) && (decide ((J : Int) < (a1.YV.length : Int)))) then (bif ((nth a0.YV J) != (nth a1.YV J)) then (.inl (decide ((nth a0.YV J) < (nth a1.YV J)))) else Wc a0 a1 n1 (J + 1)) else (.inr ()))
def UX (a0 : ZS) (a1 : ZS) : Bool := (match Wc a0 a1 (a0.YV.length + 1) 0 with | .inl r1 => r1 | .inr _ => (bif ((a0.YV.length : Int) != (a1.YV.length : Int)) then (decide ((a0.YV.length : Int) < (a1.YV.length : Int))) else (bif (a0.Key != a1.Key) then (decide (a0.Key < a1.Key)) else (decide (a0.Mark < a1.Mark)))))
def JE (a1 : Zz) (U : Nat) (pR : List ZS) (pT : Nat) : Nat -> Nat -> Nat
  | 0, _ => default
  | n3 + 1, pn => (bif ((decide ((pn : Int) < (pR.length : Int))) && (UX (nth pR pn) (nth (nth a1.Zx U).ZM pT))) then JE a1 U pR pT n3 (pn + 1) else (pn))
def XX (a0 : ZW) (a1 : Zz) (a2 : List (List Int)) (U : Nat) : Nat -> List ZS -> Nat -> (List ZS)
  | 0, _, _ => default
  | n2 + 1, pR, pT => (bif (decide ((pT : Int) < ((nth a1.Zx U).ZM.length : Int))) then (bif (((Qz pR (nth (nth a1.Zx U).ZM pT)) || (!(TG a0.Zo (nth (nth a1.Zx U).ZM pT)))) || (decide ((Yk a0 a1 a2 (nth (nth a1.Zx U).ZM pT)) >= (JH a0 (nth (nth a1.Zx U).ZM pT).Key)))) then XX a0 a1 a2 U n2 pR (pT + 1) else (match JE a1 U pR pT (pR.length + 1) 0 with | z3_0 => XX a0 a1 a2 U n2 (((pR.take z3_0) ++ ([(nth (nth a1.Zx U).ZM pT)] : List ZS)) ++ ((pR.drop z3_0).take (pR.length - z3_0))) (pT + 1))) else (pR))
def Ka (a0 : ZW) (a1 : Zz) (a2 : List (List Int)) : Nat -> List ZS -> Nat -> (List ZS)
  | 0, _, _ => default
  | n1 + 1, J, U => (bif (decide ((U : Int) < (a1.Zx.length : Int))) then (match XX a0 a1 a2 U ((nth a1.Zx U).ZM.length + 1) J 0 with | nC => Ka a0 a1 a2 n1 nC (U + 1)) else (J))
def Zy (a0 : ZW) (a1 : Zz) (a2 : List (List Int)) : List ZS := (match Ka a0 a1 a2 (a1.Zx.length + 1) ([] : List ZS) 0 with | z1_0 => z1_0)
def xg (a0 : Yb) : Zl := (Zl.mk a0.X0 a0.To)
def Sv (a0 : Yb) : Bool := ((((((Zc a0.Zn 1 999) && (Zc a0.Key 1 99)) && (Zc a0.Z6 1 99)) && (a0.Key != a0.Z6)) && (Zc a0.Kr 0 99)) && (Ko (xg a0)))
def zd (a0 : Yb) : List Int := ([101, a0.Zn, a0.Key, a0.Kr, a0.X0, a0.To, a0.Z6] : List Int)
def Ra (a0 : List Yp) (a1 : Int) : Int := (bif (decide ((Zu a0 a1) >= 0)) then (nth a0 (Zu a0 a1).toNat).Kr else (-1))
def jE (a0 : List Yp) (a1 : Yb) : Bool := (((Sv a1) && (J2 a0 a1.Z6 (zd a1) a1.Mark)) && (a1.Kr == (Ra a0 a1.Key)))
def UA (a0 : ZW) (a1 : List ZS) (a2 : Zq) : Nat -> Int -> Nat -> Int -> Int -> Int -> Int -> Int -> Int -> Int -> Int × Int × Int × Int × Int × Int × Int × Int
  | 0, _, _, _, _, _, _, _, _, _ => (default, default, default, default, default, default, default, default)
  | n1 + 1, J, U, pO, pQ, pw, oM, oN, oO, oP => (bif (decide ((U : Int) < (a1.length : Int))) then (bif ((((XE (nth a1 U)).2 && (jE a0.Zo (XE (nth a1 U)).1)) && ((XE (nth a1 U)).1.Zn == a2.Zn)) && ((XE (nth a1 U)).1.Key == a2.Key)) then UA a0 a1 a2 n1 (W (J + 1)) (U + 1) (XE (nth a1 U)).1.Zn (XE (nth a1 U)).1.Key (XE (nth a1 U)).1.Kr (XE (nth a1 U)).1.X0 (XE (nth a1 U)).1.To (XE (nth a1 U)).1.Z6 (XE (nth a1 U)).1.Mark else UA a0 a1 a2 n1 J (U + 1) pO pQ pw oM oN oO oP) else ((J, pO, pQ, pw, oM, oN, oO, oP)))
def Jf (a0 : ZW) (a1 : List ZS) (a2 : Zq) : Yb × Bool := (match UA a0 a1 a2 (a1.length + 1) 0 0 0 0 0 0 0 0 0 with | (z1_0, z1_1, z1_2, z1_3, z1_4, z1_5, z1_6, z1_7) => (bif (z1_0 != 1) then ((Yb.mk 0 0 0 0 0 0 0), false) else ((Yb.mk z1_1 z1_2 z1_3 z1_4 z1_5 z1_6 z1_7), true)))
def vO (a0 : Int) (a1 : Int) : Int := (if a1 > a0 then a1 else a0)
def kG (a1 : List Zf) : Nat -> List Int -> Nat -> (List Int)
  | 0, _, _ => default
  | n1 + 1, J, U => (bif (decide ((U : Int) < (a1.length : Int))) then kG a1 n1 (J ++ ([(nth a1 U).Mark] : List Int)) (U + 1) else (J))
def jy (a0 : Int) (a1 : List Zf) : Int := (bif ((a1.length : Int) == 0) then 0 else (match kG a1 (a1.length + 1) ([] : List Int) 0 with | z1_0 => (vO 1 (Jj a0 z1_0))))
def xm (a0 : Int) (a1 : Zf) : ZS := (ZS.mk a0 (QQ a1) a1.Mark)
def Ud (a0 : ZW) (a1 : Zz) (a2 : List ZS) (U : Nat) : Nat -> Bool -> Nat -> Bool
  | 0, _, _ => default
  | n2 + 1, pR, pT => (bif (decide ((pT : Int) < ((nth a1.Y1 U).length : Int))) then Ud a0 a1 a2 U n2 (pR && (Qz a2 (xm (Xd a0.ZC (nth (nth a1.Y1 U) pT)) (nth (nth a1.Y1 U) pT)))) (pT + 1) else (pR))
def yx (a0 : ZW) (a1 : Zz) (a2 : List ZS) (a3 : Zq) : Nat -> Int -> Nat -> Int
  | 0, _, _ => default
  | n1 + 1, J, U => (bif (decide ((U : Int) < (a1.Y1.length : Int))) then (bif (((a3.qX == 0) || (!(KG (nth a1.Y1 U)))) || ((jy a3.Method (nth a1.Y1 U)) != a3.qX)) then yx a0 a1 a2 a3 n1 J (U + 1) else (match Ud a0 a1 a2 U ((nth a1.Y1 U).length + 1) true 0 with | nC => (bif (nC && (Jg a0.ZC (nth a1.Y1 U) a0.X8).2) then yx a0 a1 a2 a3 n1 (if (Jg a0.ZC (nth a1.Y1 U) a0.X8).1.X0 > J then (Jg a0.ZC (nth a1.Y1 U) a0.X8).1.X0 else J) (U + 1) else yx a0 a1 a2 a3 n1 J (U + 1)))) else (J))
def US (a0 : ZW) (a1 : Zz) (a2 : List ZS) (oE : Nat) : Nat -> Bool -> Nat -> Bool
  | 0, _, _ => default
  | n4 + 1, mj, nV => (bif (decide ((nV : Int) < ((nth a1.Y1 oE).length : Int))) then US a0 a1 a2 oE n4 (mj && (Qz a2 (xm (Xd a0.ZC (nth (nth a1.Y1 oE) nV)) (nth (nth a1.Y1 oE) nV)))) (nV + 1) else (mj))
def yw (a0 : ZW) (a1 : Zz) (a2 : List ZS) (a3 : Zq) : Nat -> Int -> Nat -> Int
  | 0, _, _ => default
  | n3 + 1, pn, oE => (bif (decide ((oE : Int) < (a1.Y1.length : Int))) then (bif (((a3.qX == 0) || (!(KG (nth a1.Y1 oE)))) || ((jy a3.Method (nth a1.Y1 oE)) != a3.qX)) then yw a0 a1 a2 a3 n3 pn (oE + 1) else (match US a0 a1 a2 oE ((nth a1.Y1 oE).length + 1) true 0 with | z4_0 => (bif (z4_0 && (Jg a0.ZC (nth a1.Y1 oE) a0.X8).2) then yw a0 a1 a2 a3 n3 (if (Jg a0.ZC (nth a1.Y1 oE) a0.X8).1.X0 > pn then (Jg a0.ZC (nth a1.Y1 oE) a0.X8).1.X0 else pn) (oE + 1) else yw a0 a1 a2 a3 n3 pn (oE + 1)))) else (pn))
def X5 (a0 : ZW) (a1 : Zz) (a2 : List ZS) (a3 : Zq) : Int := (bif (decide ((Zu a0.Zo a3.Key) >= 0)) then (match yx a0 a1 a2 a3 (a1.Y1.length + 1) (nth a0.Zo (Zu a0.Zo a3.Key).toNat).qK 0 with | z1_0 => z1_0) else (match yw a0 a1 a2 a3 (a1.Y1.length + 1) 0 0 with | z3_0 => z3_0))
def ym (a0 : List ZS) (a1 : Yb) : Nat -> List Zr -> Nat -> (List Zr)
  | 0, _, _ => default
  | n1 + 1, J, U => (bif (decide ((U : Int) < (a0.length : Int))) then (bif (((KY (nth a0 U)).2 && ((KY (nth a0 U)).1.Zn == a1.Zn)) && ((KY (nth a0 U)).1.Z6 == a1.Z6)) then ym a0 a1 n1 (J ++ ([(KY (nth a0 U)).1] : List Zr)) (U + 1) else ym a0 a1 n1 J (U + 1)) else (J))
def zT (a0 : List ZS) (a1 : Yb) : List Zr := (match ym a0 a1 (a0.length + 1) ([] : List Zr) 0 with | z1_0 => z1_0)
def Zv (a0 : Int) (a1 : Int) (a2 : List Zl) : List Zl := (bif (yX a0 a1).2 then (a2 ++ ([(yX a0 a1).1] : List Zl)) else a2)
def Uo (a0 : List Zr) (a1 : Int) : Nat -> Int -> Int -> Int -> Nat -> Int × Int × Int
  | 0, _, _, _, _ => (default, default, default)
  | n1 + 1, J, U, pO, pQ => (bif (decide ((pQ : Int) < (a0.length : Int))) then (bif ((nth a0 pQ).Zn != a1) then Uo a0 a1 n1 J U pO (pQ + 1) else (bif (decide ((nth a0 pQ).YQ < 0)) then Uo a0 a1 n1 J U (if (nth a0 pQ).Ru > pO then (nth a0 pQ).Ru else pO) (pQ + 1) else (bif ((decide (J < 0)) || (decide ((nth a0 pQ).YQ < J))) then Uo a0 a1 n1 (nth a0 pQ).YQ (if (nth a0 pQ).YQ > U then (nth a0 pQ).YQ else U) pO (pQ + 1) else Uo a0 a1 n1 J (if (nth a0 pQ).YQ > U then (nth a0 pQ).YQ else U) pO (pQ + 1)))) else ((J, U, pO)))
def WZ (a0 : List Zr) (a1 : Int) : Int × Int × Int := (match Uo a0 a1 (a0.length + 1) (-1) (-1) (-1) 0 with | (z1_0, z1_1, z1_2) => (z1_0, z1_1, z1_2))
def Qn (a0 : List Zr) (a1 : Int) : Int := (bif (decide ((WZ a0 a1).2.1 < 0)) then 10001 else (if (W ((WZ a0 a1).2.2 + 1)) > (WZ a0 a1).2.1 then (W ((WZ a0 a1).2.2 + 1)) else (WZ a0 a1).2.1))
def Sy (nC : List Zl) (gW : Int) : Nat -> Nat -> Nat
  | 0, _ => default
  | n3 + 1, pn => (bif ((decide ((pn : Int) < (nC.length : Int))) && (decide ((nth nC pn).X0 < gW))) then Sy nC gW n3 (pn + 1) else (pn))
def jH (J : List Zl) : Nat -> List Zl -> Nat -> Int -> Int -> (List Zl) × Int × Int
  | 0, _, _, _, _ => (default, default, default)
  | n2 + 1, pR, pT, mV, mn => (bif (decide ((pT : Int) < (J.length : Int))) then (bif ((decide ((W ((nth J pT).To + 1)) < mV)) || (decide ((W (mn + 1)) < (nth J pT).X0))) then jH J n2 (pR ++ ([(nth J pT)] : List Zl)) (pT + 1) mV mn else jH J n2 pR (pT + 1) (if (nth J pT).X0 < mV then (nth J pT).X0 else mV) (if (nth J pT).To > mn then (nth J pT).To else mn)) else ((pR, mV, mn)))
def qz (a0 : List Zl) : Nat -> List Zl -> Nat -> (List Zl)
  | 0, _, _ => default
  | n1 + 1, J, U => (bif (decide ((U : Int) < (a0.length : Int))) then (bif (!(Ko (nth a0 U))) then qz a0 n1 J (U + 1) else (match jH J (J.length + 1) ([] : List Zl) 0 (nth a0 U).X0 (nth a0 U).To with | (nC, gW, z2_2) => (match Sy nC gW (nC.length + 1) 0 with | z3_0 => qz a0 n1 (((nC.take z3_0) ++ ([(Zl.mk gW z2_2)] : List Zl)) ++ ((nC.drop z3_0).take (nC.length - z3_0))) (U + 1)))) else (J))
def QM (a0 : List Zl) : List Zl := (match qz a0 (a0.length + 1) ([] : List Zl) 0 with | z1_0 => z1_0)
def kZ (a0 : Yb) (a1 : List Zr) : List Zl := (bif (decide (a0.X0 > 0)) then (bif (decide (a0.To < 10000)) then (QM (Zv (Qn a1 a0.Zn) 10000 (Zv (W (a0.To + 1)) 10000 (Zv 0 (W (a0.X0 - 1)) ([] : List Zl))))) else (QM (Zv (Qn a1 a0.Zn) 10000 (Zv 0 (W (a0.X0 - 1)) ([] : List Zl))))) else (bif (decide (a0.To < 10000)) then (QM (Zv (Qn a1 a0.Zn) 10000 (Zv (W (a0.To + 1)) 10000 ([] : List Zl)))) else (QM (Zv (Qn a1 a0.Zn) 10000 ([] : List Zl)))))
def Pp (a0 : Zl) (a1 : Zl) : Bool := ((((Ko a0) && (Ko a1)) && (decide (a1.X0 <= a0.X0))) && (decide (a0.To <= a1.To)))
def VL (a0 : List Zl) (a1 : Zl) : Nat -> Nat -> Sum Bool Unit
  | 0, _ => .inr ()
  | n1 + 1, J => (bif (decide ((J : Int) < ((QM a0).length : Int))) then (bif (Pp a1 (nth (QM a0) J)) then (.inl true) else VL a0 a1 n1 (J + 1)) else (.inr ()))
def js (a0 : List Zl) (a1 : Zl) : Bool := (match VL a0 a1 ((QM a0).length + 1) 0 with | .inl r1 => r1 | .inr _ => false)
def Pv (a0 : Yb) (a1 : List Zr) (a2 : Zl) : Bool := (js (kZ a0 a1) a2)
def UF (a0 : List Zr) (a1 : Int) : Int := (bif (decide ((WZ a0 a1).1 >= 0)) then (W ((WZ a0 a1).1 - 1)) else (WZ a0 a1).2.2)
def xa (a0 : Zl) (a1 : Zl) : Zl × Bool := (bif (((!(Ko a0)) || (!(Ko a1))) || (!(Ko (Zl.mk (if a1.X0 > a0.X0 then a1.X0 else a0.X0) (if a1.To < a0.To then a1.To else a0.To))))) then ((Zl.mk 0 0), false) else ((Zl.mk (if a1.X0 > a0.X0 then a1.X0 else a0.X0) (if a1.To < a0.To then a1.To else a0.To)), true))
def Vv (a0 : List Zl) (a1 : List Zl) (U : Nat) : Nat -> List Zl -> Nat -> (List Zl)
  | 0, _, _ => default
  | n2 + 1, pR, pT => (bif (decide ((pT : Int) < (a1.length : Int))) then (bif (xa (nth a0 U) (nth a1 pT)).2 then Vv a0 a1 U n2 (pR ++ ([(xa (nth a0 U) (nth a1 pT)).1] : List Zl)) (pT + 1) else Vv a0 a1 U n2 pR (pT + 1)) else (pR))
def SA (a0 : List Zl) (a1 : List Zl) : Nat -> List Zl -> Nat -> (List Zl)
  | 0, _, _ => default
  | n1 + 1, J, U => (bif (decide ((U : Int) < (a0.length : Int))) then (match Vv a0 a1 U (a1.length + 1) J 0 with | nC => SA a0 a1 n1 nC (U + 1)) else (J))
def RU (a0 : List Zl) (a1 : List Zl) : List Zl := (match SA a0 a1 (a0.length + 1) ([] : List Zl) 0 with | z1_0 => (QM z1_0))
def jB (a0 : Yb) (a1 : List Zr) : List Zl := (RU ([(xg a0)] : List Zl) ([(Zl.mk 0 (UF a1 a0.Zn))] : List Zl))
def TV (a0 : Yb) (a1 : List Zr) (a2 : Zl) : Bool := (js (jB a0 a1) a2)
def xd (a0 : List ZS) : Nat -> List XL -> Nat -> (List XL)
  | 0, _, _ => default
  | n1 + 1, J, U => (bif (decide ((U : Int) < (a0.length : Int))) then (bif (zp (nth a0 U)).2 then xd a0 n1 (J ++ ([(zp (nth a0 U)).1] : List XL)) (U + 1) else xd a0 n1 J (U + 1)) else (J))
def jP (a0 : List ZS) : List XL := (match xd a0 (a0.length + 1) ([] : List XL) 0 with | z1_0 => z1_0)
def RD (a0 : XL) : Bool := ((((Zc a0.Org 1 99) && (Zc a0.Ns 0 99)) && (Zc a0.Key 1 99)) && (Ko (Zl.mk a0.X0 a0.To)))
def zV (a0 : XL) : List Int := ([105, a0.Org, a0.Ns, a0.X0, a0.To, a0.Key] : List Int)
def VF (a0 : List Yp) (a1 : XL) : Bool := (((RD a1) && ((Ra a0 a1.Key) == a1.Org)) && (J2 a0 a1.Key (zV a1) a1.Mark))
def yF (a0 : List Yp) (a1 : List XL) (a2 : Int) (a3 : Int) : Nat -> List Zl -> Nat -> (List Zl)
  | 0, _, _ => default
  | n1 + 1, J, U => (bif (decide ((U : Int) < (a1.length : Int))) then (bif ((((nth a1 U).Org == a2) && ((nth a1 U).Ns == a3)) && (VF a0 (nth a1 U))) then yF a0 a1 a2 a3 n1 (J ++ ([(Zl.mk (nth a1 U).X0 (nth a1 U).To)] : List Zl)) (U + 1) else yF a0 a1 a2 a3 n1 J (U + 1)) else (J))
def xZ (a0 : List Yp) (a1 : List XL) (a2 : Int) (a3 : Int) : List Zl := (match yF a0 a1 a2 a3 (a1.length + 1) ([] : List Zl) 0 with | z1_0 => (QM z1_0))
def Td (a0 : List Yp) (a1 : List XL) (a2 : Int) (a3 : Int) (a4 : Zl) : Bool := (((a2 == 0) && (Ko a4)) || (js (xZ a0 a1 a2 a3) a4))
def z9 (a0 : ZW) (a1 : Zz) (a2 : List (List Int)) (a3 : Int) (a4 : Zq) : Jy := (bif (!(JQ a0)) then (Sq 1) else (bif (!(zc a4)) then (Uz 1) else (bif (decide (a3 < 0)) then (Sq 2) else (bif (a3 != a4.Yt) then (Uz 2) else (bif (decide ((Zu a0.Zo a4.Key) < 0)) then (Sq 3) else (bif (!(kV a0.Zo a4)) then (Uz 4) else (bif ((decide ((Yk a0 a1 a2 (Y6 a4)) >= (JH a0 a4.Key))) || (decide ((Yk a0 a1 a2 (Y6 a4)) >= (Ky a0.Methods a4.Method)))) then (Sq 5) else (bif (!(Jf a0 (Zy a0 a1 a2) a4).2) then (Sq 6) else (bif (decide ((X5 a0 a1 (Zy a0 a1 a2) a4) > (Yk a0 a1 a2 (Y6 a4)))) then (Sq 7) else (bif (Pv (Jf a0 (Zy a0 a1 a2) a4).1 (zT (Zy a0 a1 a2) (Jf a0 (Zy a0 a1 a2) a4).1) (Zl.mk (X5 a0 a1 (Zy a0 a1 a2) a4) (Yk a0 a1 a2 (Y6 a4)))) then (Jy.mk 2 8 (Zl.mk (X5 a0 a1 (Zy a0 a1 a2) a4) (Yk a0 a1 a2 (Y6 a4)))) else (bif (!(TV (Jf a0 (Zy a0 a1 a2) a4).1 (zT (Zy a0 a1 a2) (Jf a0 (Zy a0 a1 a2) a4).1) (Zl.mk (X5 a0 a1 (Zy a0 a1 a2) a4) (Yk a0 a1 a2 (Y6 a4))))) then (Jy.mk 3 7 (Zl.mk (X5 a0 a1 (Zy a0 a1 a2) a4) (Yk a0 a1 a2 (Y6 a4)))) else (bif (!(Td a0.Zo (jP (Zy a0 a1 a2)) a4.Org (Jf a0 (Zy a0 a1 a2) a4).1.Kr (Zl.mk (X5 a0 a1 (Zy a0 a1 a2) a4) (Yk a0 a1 a2 (Y6 a4))))) then (Jy.mk 3 9 (Zl.mk (X5 a0 a1 (Zy a0 a1 a2) a4) (Yk a0 a1 a2 (Y6 a4)))) else (Jy.mk 1 0 (Zl.mk (X5 a0 a1 (Zy a0 a1 a2) a4) (Yk a0 a1 a2 (Y6 a4))))))))))))))))
def Ex (a0 : ZW) (a1 : Zz) (a2 : Ze) (a3 : Zq) : Jy := (z9 a0 a1 (Y9 a1 a2) (XC a3.Method a2) a3)
def X4 (a0 : ZW) (a1 : Zj) : Jy := (Ex a0 (Z2 a1) a1.Doc a1.Sig)
def U6 (a0 : List UInt8) : Bool := (bif (Gz a0) then true else (bif (!(Yj (ZE a0).1 (ZE a0).2.1 (ZE a0).2.2).2) then (JF (ZE a0).1 (Yj (ZE a0).1 (ZE a0).2.1 (ZE a0).2.2).1) else ((((X4 (ZE a0).1.Frame (nth (nth (ZE a0).1.ZB (ZF (ZE a0).1 (ZE a0).2.1).1.toNat).ZD (ZF (ZE a0).1 (ZE a0).2.1).2.toNat)).Code == (X4 (Yj (ZE a0).1 (ZE a0).2.1 (ZE a0).2.2).1.Frame (nth (nth (Yj (ZE a0).1 (ZE a0).2.1 (ZE a0).2.2).1.ZB (ZF (ZE a0).1 (ZE a0).2.1).1.toNat).ZD (ZF (ZE a0).1 (ZE a0).2.1).2.toNat)).Code) && (((X4 (ZE a0).1.Frame (nth (nth (ZE a0).1.ZB (ZF (ZE a0).1 (ZE a0).2.1).1.toNat).ZD (ZF (ZE a0).1 (ZE a0).2.1).2.toNat)).Reason == (X4 (Yj (ZE a0).1 (ZE a0).2.1 (ZE a0).2.2).1.Frame (nth (nth (Yj (ZE a0).1 (ZE a0).2.1 (ZE a0).2.2).1.ZB (ZF (ZE a0).1 (ZE a0).2.1).1.toNat).ZD (ZF (ZE a0).1 (ZE a0).2.1).2.toNat)).Reason) && (((X4 (ZE a0).1.Frame (nth (nth (ZE a0).1.ZB (ZF (ZE a0).1 (ZE a0).2.1).1.toNat).ZD (ZF (ZE a0).1 (ZE a0).2.1).2.toNat)).Span.X0 == (X4 (Yj (ZE a0).1 (ZE a0).2.1 (ZE a0).2.2).1.Frame (nth (nth (Yj (ZE a0).1 (ZE a0).2.1 (ZE a0).2.2).1.ZB (ZF (ZE a0).1 (ZE a0).2.1).1.toNat).ZD (ZF (ZE a0).1 (ZE a0).2.1).2.toNat)).Span.X0) && ((X4 (ZE a0).1.Frame (nth (nth (ZE a0).1.ZB (ZF (ZE a0).1 (ZE a0).2.1).1.toNat).ZD (ZF (ZE a0).1 (ZE a0).2.1).2.toNat)).Span.To == (X4 (Yj (ZE a0).1 (ZE a0).2.1 (ZE a0).2.2).1.Frame (nth (nth (Yj (ZE a0).1 (ZE a0).2.1 (ZE a0).2.2).1.ZB (ZF (ZE a0).1 (ZE a0).2.1).1.toNat).ZD (ZF (ZE a0).1 (ZE a0).2.1).2.toNat)).Span.To)))) && (((Yj (ZE a0).1 (ZE a0).2.1 (ZE a0).2.2).1.YK.length : Int) == ((ZE a0).1.YK.length : Int)))))
def ZA (a0 : List UInt8) : ZG × Int × Int := ((Xz (KN a0)).2, (W ((Xz (KN a0)).2.Next - (ZH (Xz (KN a0)).1 3).2)), (NF (ZH (Xz (KN a0)).1 3).1).2)
def zg (a0 : List Z5) (a1 : Int) : Nat -> Int -> Nat -> Int
  | 0, _, _ => default
  | n1 + 1, J, U => (bif (decide ((U : Int) < (a0.length : Int))) then (bif (((decide ((nth a0 U).Vp <= a1)) && (decide (a1 < (nth a0 U).Ends))) && ((decide (J < 0)) || (decide ((nth a0 U).Ends > (nth a0 J.toNat).Ends)))) then zg a0 a1 n1 (U : Int) (U + 1) else zg a0 a1 n1 J (U + 1)) else (J))
def Zk (a0 : List Z5) (a1 : Int) : Int := (match zg a0 a1 (a0.length + 1) (-1) 0 with | z1_0 => (bif (decide (z1_0 < 0)) then (-1) else (nth a0 z1_0.toNat).Id))
def V3 (a0 : List Int) (a1 : Int) : Nat -> Nat -> Sum Int Unit
  | 0, _ => .inr ()
  | n1 + 1, J => (bif (decide ((J : Int) < (a0.length : Int))) then (bif ((nth a0 J) == a1) then (.inl (J : Int)) else V3 a0 a1 n1 (J + 1)) else (.inr ()))
def Rc (a0 : List Int) (a1 : Int) : Int := (match V3 a0 a1 (a0.length + 1) 0 with | .inl r1 => r1 | .inr _ => (-1))
def XP (a0 : List Int) (a1 : Int) : Bool := (decide ((Rc a0 a1) >= 0))
def Xl (a0 : ZG) : Nat -> List Int -> Nat -> (List Int)
  | 0, _, _ => default
  | n1 + 1, J, U => (bif (decide ((U : Int) < (a0.Frame.ZC.length : Int))) then (bif ((XP a0.YR (nth a0.Frame.ZC U).Id) || (QF a0.Frame (nth a0.Frame.ZC U).Key)) then Xl a0 n1 (J ++ ([(nth a0.Frame.ZC U).Id] : List Int)) (U + 1) else Xl a0 n1 J (U + 1)) else (J))
def Zh (a0 : ZG) : List Int := (match Xl a0 (a0.Frame.ZC.length + 1) ([] : List Int) 0 with | z1_0 => z1_0)
def QK (a0 : Zj) (a1 : Int) : Int := (bif (decide ((a0.ZP.ZR.length : Int) > 0)) then (WJ a1 (XC a1 a0.Doc) a0.ZP.ZM (JX a1 (nth a0.ZP.ZR (a0.ZP.ZR.length - 1)))) else (WJ a1 (XC a1 a0.Doc) a0.ZP.ZM 0))
def YL (a0 : ZQ) (a1 : ZV) : ZQ × Bool := (bif (!(Ye (ZQ.mk a0.ZM (a0.ZR ++ ([a1] : List ZV))))) then (a0, false) else ((ZQ.mk a0.ZM (a0.ZR ++ ([a1] : List ZV))), true))
def Ya (a0 : ZG) (a1 : Int) (a2 : Int) : Nat -> Nat -> List Zf -> Sum (ZG × Bool) (List Zf)
  | 0, _, _ => .inr default
  | n1 + 1, J, U => (bif (decide ((J : Int) < ((Zh a0).length : Int))) then (bif (!(XD a0.Frame.Zo a0.Frame.ZC (Zf.mk (nth (Zh a0) J) 0 a2 (QK (nth (nth a0.ZB (ZF a0 a1).1.toNat).ZD (ZF a0 a1).2.toNat) (Zk a0.Frame.Methods a0.Frame.Now)) 0)).2) then (.inl (a0, false)) else Ya a0 a1 a2 n1 (J + 1) (U ++ ([(XD a0.Frame.Zo a0.Frame.ZC (Zf.mk (nth (Zh a0) J) 0 a2 (QK (nth (nth a0.ZB (ZF a0 a1).1.toNat).ZD (ZF a0 a1).2.toNat) (Zk a0.Frame.Methods a0.Frame.Now)) 0)).1] : List Zf))) else (.inr U))
def ZN (a0 : ZG) (a1 : Int) (a2 : Int) : ZG × Bool := (bif ((((!(XP a0.YK a1)) || (decide ((ZF a0 a1).1 < 0))) || (decide ((Zk a0.Frame.Methods a0.Frame.Now) < 0))) || (((Zh a0).length : Int) == 0)) then (a0, false) else (match Ya a0 a1 a2 ((Zh a0).length + 1) 0 ([] : List Zf) with | .inl r1 => r1 | .inr z1_0 => ((ZG.mk a0.Frame a0.ZZ a0.YQ (a0.ZB.set (ZF a0 a1).1.toNat (ZJ.mk (nth a0.ZB (ZF a0 a1).1.toNat).Id ((nth a0.ZB (ZF a0 a1).1.toNat).ZD.set (ZF a0 a1).2.toNat (Zj.mk (nth (nth a0.ZB (ZF a0 a1).1.toNat).ZD (ZF a0 a1).2.toNat).Id (nth (nth a0.ZB (ZF a0 a1).1.toNat).ZD (ZF a0 a1).2.toNat).XI (nth (nth a0.ZB (ZF a0 a1).1.toNat).ZD (ZF a0 a1).2.toNat).Doc (nth (nth a0.ZB (ZF a0 a1).1.toNat).ZD (ZF a0 a1).2.toNat).Sig (YL (nth (nth a0.ZB (ZF a0 a1).1.toNat).ZD (ZF a0 a1).2.toNat).ZP (ZV.mk ((nth (nth a0.ZB (ZF a0 a1).1.toNat).ZD (ZF a0 a1).2.toNat).ZP.ZM.length : Int) (Zk a0.Frame.Methods a0.Frame.Now) (QK (nth (nth a0.ZB (ZF a0 a1).1.toNat).ZD (ZF a0 a1).2.toNat) (Zk a0.Frame.Methods a0.Frame.Now)) ([] : List Xq) z1_0)).1)))) a0.YZ a0.YR a0.Next a0.YK), (YL (nth (nth a0.ZB (ZF a0 a1).1.toNat).ZD (ZF a0 a1).2.toNat).ZP (ZV.mk ((nth (nth a0.ZB (ZF a0 a1).1.toNat).ZD (ZF a0 a1).2.toNat).ZP.ZM.length : Int) (Zk a0.Frame.Methods a0.Frame.Now) (QK (nth (nth a0.ZB (ZF a0 a1).1.toNat).ZD (ZF a0 a1).2.toNat) (Zk a0.Frame.Methods a0.Frame.Now)) ([] : List Xq) z1_0)).2)))
def Wt (a0 : List Int) (a1 : Int) : Nat -> Nat -> Sum Bool Unit
  | 0, _ => .inr ()
  | n1 + 1, J => (bif (decide ((J : Int) < (a0.length : Int))) then (bif ((nth a0 J) == a1) then (.inl true) else Wt a0 a1 n1 (J + 1)) else (.inr ()))
def VS (a0 : List Int) (a1 : Int) : Bool := (match Wt a0 a1 (a0.length + 1) 0 with | .inl r1 => r1 | .inr _ => false)
def qT (a0 : List UInt8) : Bool := (bif (Gz a0) then true else (bif (!(ZN (ZA a0).1 (ZA a0).2.1 (ZA a0).2.2).2) then (JF (ZA a0).1 (ZN (ZA a0).1 (ZA a0).2.1 (ZA a0).2.2).1) else ((((VS (ZA a0).1.YK (ZA a0).2.1) && ((Y7 (ZN (ZA a0).1 (ZA a0).2.1 (ZA a0).2.2).1.Frame (nth (nth (ZN (ZA a0).1 (ZA a0).2.1 (ZA a0).2.2).1.ZB (ZF (ZN (ZA a0).1 (ZA a0).2.1 (ZA a0).2.2).1 (ZA a0).2.1).1.toNat).ZD (ZF (ZN (ZA a0).1 (ZA a0).2.1 (ZA a0).2.2).1 (ZA a0).2.1).2.toNat).ZP (Y3 (nth (nth (ZN (ZA a0).1 (ZA a0).2.1 (ZA a0).2.2).1.ZB (ZF (ZN (ZA a0).1 (ZA a0).2.1 (ZA a0).2.2).1 (ZA a0).2.1).1.toNat).ZD (ZF (ZN (ZA a0).1 (ZA a0).2.1 (ZA a0).2.2).1 (ZA a0).2.1).2.toNat).ZP (nth (nth (ZN (ZA a0).1 (ZA a0).2.1 (ZA a0).2.2).1.ZB (ZF (ZN (ZA a0).1 (ZA a0).2.1 (ZA a0).2.2).1 (ZA a0).2.1).1.toNat).ZD (ZF (ZN (ZA a0).1 (ZA a0).2.1 (ZA a0).2.2).1 (ZA a0).2.1).2.toNat).Doc)) == ((nth (nth (ZN (ZA a0).1 (ZA a0).2.1 (ZA a0).2.2).1.ZB (ZF (ZN (ZA a0).1 (ZA a0).2.1 (ZA a0).2.2).1 (ZA a0).2.1).1.toNat).ZD (ZF (ZN (ZA a0).1 (ZA a0).2.1 (ZA a0).2.2).1 (ZA a0).2.1).2.toNat).ZP.ZR.length : Int))) && ((Y7 (ZW.mk (ZN (ZA a0).1 (ZA a0).2.1 (ZA a0).2.2).1.Frame.Zo (ZN (ZA a0).1 (ZA a0).2.1 (ZA a0).2.2).1.Frame.ZC (ZN (ZA a0).1 (ZA a0).2.1 (ZA a0).2.2).1.Frame.Methods (ZN (ZA a0).1 (ZA a0).2.1 (ZA a0).2.2).1.Frame.X8 10000) (nth (nth (ZN (ZA a0).1 (ZA a0).2.1 (ZA a0).2.2).1.ZB (ZF (ZN (ZA a0).1 (ZA a0).2.1 (ZA a0).2.2).1 (ZA a0).2.1).1.toNat).ZD (ZF (ZN (ZA a0).1 (ZA a0).2.1 (ZA a0).2.2).1 (ZA a0).2.1).2.toNat).ZP (Y3 (nth (nth (ZN (ZA a0).1 (ZA a0).2.1 (ZA a0).2.2).1.ZB (ZF (ZN (ZA a0).1 (ZA a0).2.1 (ZA a0).2.2).1 (ZA a0).2.1).1.toNat).ZD (ZF (ZN (ZA a0).1 (ZA a0).2.1 (ZA a0).2.2).1 (ZA a0).2.1).2.toNat).ZP (nth (nth (ZN (ZA a0).1 (ZA a0).2.1 (ZA a0).2.2).1.ZB (ZF (ZN (ZA a0).1 (ZA a0).2.1 (ZA a0).2.2).1 (ZA a0).2.1).1.toNat).ZD (ZF (ZN (ZA a0).1 (ZA a0).2.1 (ZA a0).2.2).1 (ZA a0).2.1).2.toNat).Doc)) == ((nth (nth (ZN (ZA a0).1 (ZA a0).2.1 (ZA a0).2.2).1.ZB (ZF (ZN (ZA a0).1 (ZA a0).2.1 (ZA a0).2.2).1 (ZA a0).2.1).1.toNat).ZD (ZF (ZN (ZA a0).1 (ZA a0).2.1 (ZA a0).2.2).1 (ZA a0).2.1).2.toNat).ZP.ZR.length : Int))) && ((Kz (ZN (ZA a0).1 (ZA a0).2.1 (ZA a0).2.2).1.Frame (nth (nth (ZN (ZA a0).1 (ZA a0).2.1 (ZA a0).2.2).1.ZB (ZF (ZN (ZA a0).1 (ZA a0).2.1 (ZA a0).2.2).1 (ZA a0).2.1).1.toNat).ZD (ZF (ZN (ZA a0).1 (ZA a0).2.1 (ZA a0).2.2).1 (ZA a0).2.1).2.toNat).ZP (Y3 (nth (nth (ZN (ZA a0).1 (ZA a0).2.1 (ZA a0).2.2).1.ZB (ZF (ZN (ZA a0).1 (ZA a0).2.1 (ZA a0).2.2).1 (ZA a0).2.1).1.toNat).ZD (ZF (ZN (ZA a0).1 (ZA a0).2.1 (ZA a0).2.2).1 (ZA a0).2.1).2.toNat).ZP (nth (nth (ZN (ZA a0).1 (ZA a0).2.1 (ZA a0).2.2).1.ZB (ZF (ZN (ZA a0).1 (ZA a0).2.1 (ZA a0).2.2).1 (ZA a0).2.1).1.toNat).ZD (ZF (ZN (ZA a0).1 (ZA a0).2.1 (ZA a0).2.2).1 (ZA a0).2.1).2.toNat).Doc) 0) == (ZN (ZA a0).1 (ZA a0).2.1 (ZA a0).2.2).1.Frame.Now))))
def qR (a0 : List Int) : Nat -> Nat -> Sum Bool Unit
  | 0, _ => .inr ()
  | n1 + 1, J => (bif (decide ((J : Int) < (a0.length : Int))) then (bif (decide ((nth a0 (J - 1)) >= (nth a0 J))) then (.inl false) else qR a0 n1 (J + 1)) else (.inr ()))
def XO (a0 : List Int) : Bool := (match qR a0 (a0.length + 1) 1 with | .inl r1 => r1 | .inr _ => true)
def Xp (a0 : Zj) : Bool := (((((Zc a0.Id 1 999) && (JL a0.XI)) && (zF a0.Doc)) && (Ye a0.ZP)) && (XM (nth a0.ZP.ZM 0) (Y6 a0.Sig)))
def xA (a0 : ZJ) : Nat -> Nat -> Sum Bool Unit
  | 0, _ => .inr ()
  | n1 + 1, J => (bif (decide ((J : Int) < (a0.ZD.length : Int))) then (bif ((!(Xp (nth a0.ZD J))) || ((decide ((J : Int) > 0)) && (decide ((nth a0.ZD (J - 1)).Id >= (nth a0.ZD J).Id)))) then (.inl false) else xA a0 n1 (J + 1)) else (.inr ()))
def Z1 (a0 : ZJ) : Bool := (match xA a0 (a0.ZD.length + 1) 0 with | .inl r1 => r1 | .inr _ => ((Zc a0.Id 0 99) && (decide ((a0.ZD.length : Int) <= 8))))
def Qm (a0 : ZG) (pT : Nat) : Nat -> List Int -> Nat -> Sum Bool (List Int)
  | 0, _, _ => .inr default
  | n3 + 1, pn, oE => (bif (decide ((oE : Int) < ((nth a0.ZB pT).ZD.length : Int))) then (bif ((XP pn (nth (nth a0.ZB pT).ZD oE).Id) || (decide ((nth (nth a0.ZB pT).ZD oE).Id >= a0.Next))) then (.inl false) else Qm a0 pT n3 (pn ++ ([(nth (nth a0.ZB pT).ZD oE).Id] : List Int)) (oE + 1)) else (.inr pn))
def jA (a0 : ZG) : Nat -> Nat -> Sum Bool Unit
  | 0, _ => .inr ()
  | n5 + 1, eH => (bif (decide ((eH : Int) < (a0.YR.length : Int))) then (bif (decide ((ZY a0.Frame.ZC (nth a0.YR eH)) < 0)) then (.inl false) else jA a0 n5 (eH + 1)) else (.inr ()))
def jD (a0 : ZG) : Nat -> Nat -> Sum Bool Unit
  | 0, _ => .inr ()
  | n4 + 1, mj => (bif (decide ((mj : Int) < (a0.YZ.length : Int))) then (bif (decide ((nth a0.YZ mj) < 0)) then (.inl false) else jD a0 n4 (mj + 1)) else (.inr ()))
def JV (a0 : ZG) : Nat -> List Int -> Nat -> Sum Bool Unit
  | 0, _, _ => .inr ()
  | n2 + 1, pR, pT => (bif (decide ((pT : Int) < (a0.ZB.length : Int))) then (bif ((!(Z1 (nth a0.ZB pT))) || ((nth a0.ZB pT).Id != (pT : Int))) then (.inl false) else (match Qm a0 pT ((nth a0.ZB pT).ZD.length + 1) pR 0 with | .inl r3 => .inl r3 | .inr z3_0 => JV a0 n2 z3_0 (pT + 1))) else (.inr ()))
def jF (a0 : ZG) : Nat -> Nat -> Sum Bool Unit
  | 0, _ => .inr ()
  | n1 + 1, J => (bif (decide ((J : Int) < (a0.ZZ.length : Int))) then (bif (((!(jE a0.Frame.Zo (nth a0.ZZ J))) || ((Xn a0.ZZ (nth a0.ZZ J).Zn) != (J : Int))) || (!(Zc (nth a0.YQ J) (-1) 10001))) then (.inl false) else jF a0 n1 (J + 1)) else (.inr ()))
def W0 (a0 : ZG) : Bool := (bif ((((((((!(JQ a0.Frame)) || ((a0.YQ.length : Int) != (a0.ZZ.length : Int))) || (!(Zc (a0.ZB.length : Int) 1 4))) || ((a0.YZ.length : Int) != (a0.Frame.ZC.length : Int))) || (decide ((a0.YR.length : Int) > a0.Frame.X8))) || (decide (a0.Next < 1))) || (!(XO a0.YR))) || (!(XO a0.YK))) then false else (match jF a0 (a0.ZZ.length + 1) 0 with | .inl r1 => r1 | .inr _ => (match JV a0 (a0.ZB.length + 1) ([] : List Int) 0 with | .inl r2 => r2 | .inr _ => (match jD a0 (a0.YZ.length + 1) 0 with | .inl r4 => r4 | .inr _ => (match jA a0 (a0.YR.length + 1) 0 with | .inl r5 => r5 | .inr _ => true)))))
def xK (a0 : ZG) (a1 : Int) : ZG × Bool := (bif ((!(Zc a1 0 100)) || (decide ((W (a0.Frame.Now + a1)) > 10000))) then (a0, false) else ((ZG.mk (ZW.mk a0.Frame.Zo a0.Frame.ZC a0.Frame.Methods a0.Frame.X8 (W (a0.Frame.Now + a1))) a0.ZZ a0.YQ a0.ZB a0.YZ a0.YR a0.Next a0.YK), true))
def Yw (a0 : ZG) (a1 : Int) : Bool := (Zc a1 0 (W ((a0.ZB.length : Int) - 1)))
def kn (a0 : ZJ) (a1 : Int) : Nat -> List Int -> Nat -> (List Int)
  | 0, _, _ => default
  | n1 + 1, J, U => (bif (decide ((U : Int) < (a0.ZD.length : Int))) then kn a0 a1 n1 (J ++ ([(QK (nth a0.ZD U) a1)] : List Int)) (U + 1) else (J))
def QP (a0 : ZJ) (a1 : Int) : List Int := (match kn a0 a1 (a0.ZD.length + 1) ([] : List Int) 0 with | z1_0 => z1_0)
def xV (a0 : Int) (a1 : List Int) : Nat -> List Int -> Nat -> (List Int)
  | 0, _, _ => default
  | n1 + 1, J, U => (bif (decide ((U : Int) < (a1.length : Int))) then (bif (decide ((W ((U : Int) + 1)) < (a1.length : Int))) then xV a0 a1 n1 (J ++ ([(yR a0 (nth a1 U) (nth a1 (W ((U : Int) + 1)).toNat))] : List Int)) (U + 2) else xV a0 a1 n1 (J ++ ([(nth a1 U)] : List Int)) (U + 2)) else (J))
def xv (a0 : Int) (a1 : List Int) : List Int := (match xV a0 a1 (a1.length + 1) ([] : List Int) 0 with | z1_0 => z1_0)
def Wu (a0 : Int) : Nat -> List Int -> (List Int)
  | 0, _ => default
  | n1 + 1, J => (bif (decide ((J.length : Int) > 1)) then Wu a0 n1 (xv a0 J) else (J))
def Te (a0 : Int) (a1 : List Int) : Int := (bif (!(Zc (a1.length : Int) 1 16)) then (-1) else (match Wu a0 (a1.length + 1) a1 with | z1_0 => (nth z1_0 0)))
def Qf (a0 : ZJ) (a1 : Int) : Int := (Te a1 (QP a0 a1))
def xr (a0 : Int) : Nat -> List Int -> Int -> List Xq -> (List Xq)
  | 0, _, _, _ => default
  | n1 + 1, J, U, pO => (bif (decide ((J.length : Int) > 1)) then (bif ((Int.tmod U 2) == 1) then xr a0 n1 (xv a0 J) (W (Int.tdiv U 2)) (pO ++ ([(Xq.mk (nth J (W (U - 1)).toNat) true)] : List Xq)) else (bif (decide ((W (U + 1)) < (J.length : Int))) then xr a0 n1 (xv a0 J) (W (Int.tdiv U 2)) (pO ++ ([(Xq.mk (nth J (W (U + 1)).toNat) false)] : List Xq)) else xr a0 n1 (xv a0 J) (W (Int.tdiv U 2)) pO)) else (pO))
def Jm (a0 : Int) (a1 : List Int) (a2 : Int) : List Xq := (bif ((!(Zc a2 0 (W ((a1.length : Int) - 1)))) || (decide ((a1.length : Int) > 16))) then ([] : List Xq) else (match xr a0 (a1.length + 1) a1 a2 ([] : List Xq) with | z1_0 => z1_0))
def Xi (a0 : ZJ) (a1 : Int) (a2 : List Zf) : Nat -> Nat -> List Zj -> Sum (ZJ × Bool) (List Zj)
  | 0, _, _ => .inr default
  | n1 + 1, J, U => (bif (decide ((J : Int) < (a0.ZD.length : Int))) then (bif (!(YL (nth a0.ZD J).ZP (ZV.mk ((nth a0.ZD J).ZP.ZM.length : Int) a1 (Qf a0 a1) (Jm a1 (QP a0 a1) (J : Int)) a2)).2) then (.inl (a0, false)) else Xi a0 a1 a2 n1 (J + 1) (U.set J (Zj.mk (nth U J).Id (nth U J).XI (nth U J).Doc (nth U J).Sig (YL (nth a0.ZD J).ZP (ZV.mk ((nth a0.ZD J).ZP.ZM.length : Int) a1 (Qf a0 a1) (Jm a1 (QP a0 a1) (J : Int)) a2)).1))) else (.inr U))
def Ym (a0 : ZJ) (a1 : Int) (a2 : List Zf) : ZJ × Bool := (bif (((a0.ZD.length : Int) == 0) || (!(Z1 a0))) then (a0, false) else (match Xi a0 a1 a2 (a0.ZD.length + 1) 0 a0.ZD with | .inl r1 => r1 | .inr z1_0 => (bif (!(Z1 (ZJ.mk a0.Id z1_0))) then (a0, false) else ((ZJ.mk a0.Id z1_0), true))))
def XT (a0 : ZG) (a1 : Int) (a2 : List Int) (a3 : Int) : Nat -> List Zf -> Nat -> List Int -> Sum (ZG × Bool) ((List Zf) × (List Int))
  | 0, _, _, _ => .inr (default, default)
  | n1 + 1, J, U, pO => (bif (decide ((U : Int) < (a2.length : Int))) then (bif ((decide ((ZY a0.Frame.ZC (nth a2 U)) < 0)) || (decide ((ZY a0.Frame.ZC (nth a2 U)) >= (a0.YZ.length : Int)))) then (.inl (a0, false)) else (bif ((decide ((Zu a0.Frame.Zo (nth a0.Frame.ZC (ZY a0.Frame.ZC (nth a2 U)).toNat).Key) < 0)) || (decide ((nth a0.Frame.Zo (Zu a0.Frame.Zo (nth a0.Frame.ZC (ZY a0.Frame.ZC (nth a2 U)).toNat).Key).toNat).qK > a0.Frame.Now))) then (.inl (a0, false)) else (bif (XP a0.YR (nth a2 U)) then (bif (!(XD a0.Frame.Zo a0.Frame.ZC (Zf.mk (nth a2 U) (nth a0.YZ (ZY a0.Frame.ZC (nth a2 U)).toNat) (if (if (W (a0.Frame.Now + a3)) < 10000 then (W (a0.Frame.Now + a3)) else 10000) > 0 then (if (W (a0.Frame.Now + a3)) < 10000 then (W (a0.Frame.Now + a3)) else 10000) else 0) (Qf (nth a0.ZB a1.toNat) (Zk a0.Frame.Methods a0.Frame.Now)) 0)).2) then (.inl (a0, false)) else XT a0 a1 a2 a3 n1 (J ++ ([(XD a0.Frame.Zo a0.Frame.ZC (Zf.mk (nth a2 U) (nth a0.YZ (ZY a0.Frame.ZC (nth a2 U)).toNat) (if (if (W (a0.Frame.Now + a3)) < 10000 then (W (a0.Frame.Now + a3)) else 10000) > 0 then (if (W (a0.Frame.Now + a3)) < 10000 then (W (a0.Frame.Now + a3)) else 10000) else 0) (Qf (nth a0.ZB a1.toNat) (Zk a0.Frame.Methods a0.Frame.Now)) 0)).1] : List Zf)) (U + 1) (pO.set (ZY a0.Frame.ZC (nth a2 U)).toNat (W ((nth pO (ZY a0.Frame.ZC (nth a2 U)).toNat) + 1)))) else (bif (!(XD a0.Frame.Zo a0.Frame.ZC (Zf.mk (nth a2 U) (nth a0.YZ (ZY a0.Frame.ZC (nth a2 U)).toNat) a0.Frame.Now (Qf (nth a0.ZB a1.toNat) (Zk a0.Frame.Methods a0.Frame.Now)) 0)).2) then (.inl (a0, false)) else XT a0 a1 a2 a3 n1 (J ++ ([(XD a0.Frame.Zo a0.Frame.ZC (Zf.mk (nth a2 U) (nth a0.YZ (ZY a0.Frame.ZC (nth a2 U)).toNat) a0.Frame.Now (Qf (nth a0.ZB a1.toNat) (Zk a0.Frame.Methods a0.Frame.Now)) 0)).1] : List Zf)) (U + 1) (pO.set (ZY a0.Frame.ZC (nth a2 U)).toNat (W ((nth pO (ZY a0.Frame.ZC (nth a2 U)).toNat) + 1))))))) else (.inr (J, pO)))
def JW (a0 : ZG) (a1 : Int) (a2 : List Int) (a3 : Int) : ZG × Bool := (bif (((((!(Yw a0 a1)) || (decide ((Zk a0.Frame.Methods a0.Frame.Now) < 0))) || (!(XO a2))) || ((a2.length : Int) == 0)) || (!(Zc a3 (-10000) 10000))) then (a0, false) else (match XT a0 a1 a2 a3 (a2.length + 1) ([] : List Zf) 0 a0.YZ with | .inl r1 => r1 | .inr (z1_0, z1_1) => (bif (!(Ym (nth a0.ZB a1.toNat) (Zk a0.Frame.Methods a0.Frame.Now) z1_0).2) then (a0, false) else ((ZG.mk a0.Frame a0.ZZ a0.YQ (a0.ZB.set a1.toNat (Ym (nth a0.ZB a1.toNat) (Zk a0.Frame.Methods a0.Frame.Now) z1_0).1) z1_1 a0.YR a0.Next a0.YK), true))))
def zL (a0 : List Yp) (a1 : Zq) : Zq × Bool := (bif ((!(zc a1)) || (!(J0 a0 a1.Key (Xu a1)).2)) then ((Zq.mk 0 0 0 0 0 0 0 0 0), false) else ((Zq.mk a1.Key a1.Zn a1.Method a1.Yt a1.xU a1.Org a1.xQ a1.qX (J0 a0 a1.Key (Xu a1)).1), true))
def ku (a0 : Yb) : ZS := (ZS.mk a0.Z6 (zd a0) a0.Mark)
def XU (a0 : ZJ) (a1 : Zj) : Nat -> Nat -> Nat
  | 0, _ => default
  | n1 + 1, J => (bif ((decide ((J : Int) < (a0.ZD.length : Int))) && (decide ((nth a0.ZD J).Id < a1.Id))) then XU a0 a1 n1 (J + 1) else (J))
def YX (a0 : ZJ) (a1 : Zj) : ZJ × Bool := (bif ((decide ((Zm a0 a1.Id) >= 0)) || (!(Z1 a0))) then (a0, false) else (match XU a0 a1 (a0.ZD.length + 1) 0 with | z1_0 => (bif (!(Z1 (ZJ.mk a0.Id (((a0.ZD.take z1_0) ++ ([a1] : List Zj)) ++ (a0.ZD.drop z1_0))))) then (a0, false) else ((ZJ.mk a0.Id (((a0.ZD.take z1_0) ++ ([a1] : List Zj)) ++ (a0.ZD.drop z1_0))), true))))
def Jo (a0 : ZG) (a1 : Int) (a2 : Int) (a3 : Ze) (a4 : Int) (a5 : Int) : Nat -> Nat -> Sum (ZG × Bool) Unit
  | 0, _ => .inr ()
  | n1 + 1, J => (bif (decide ((J : Int) < (a0.ZZ.length : Int))) then (bif ((nth a0.ZZ J).Key != a2) then Jo a0 a1 a2 a3 a4 a5 n1 (J + 1) else (bif ((!(zL a0.Frame.Zo (Zq.mk a2 (nth a0.ZZ J).Zn (Zk a0.Frame.Methods a0.Frame.Now) (XC (Zk a0.Frame.Methods a0.Frame.Now) a3) 1 a4 0 0 0)).2) || (!(YX (nth a0.ZB a1.toNat) (Zj.mk a0.Next a5 a3 (zL a0.Frame.Zo (Zq.mk a2 (nth a0.ZZ J).Zn (Zk a0.Frame.Methods a0.Frame.Now) (XC (Zk a0.Frame.Methods a0.Frame.Now) a3) 1 a4 0 0 0)).1 (ZQ.mk ([(Y6 (zL a0.Frame.Zo (Zq.mk a2 (nth a0.ZZ J).Zn (Zk a0.Frame.Methods a0.Frame.Now) (XC (Zk a0.Frame.Methods a0.Frame.Now) a3) 1 a4 0 0 0)).1), (ku (nth a0.ZZ J))] : List ZS) ([] : List ZV)))).2)) then (.inl (a0, false)) else (.inl ((ZG.mk a0.Frame a0.ZZ a0.YQ (a0.ZB.set a1.toNat (YX (nth a0.ZB a1.toNat) (Zj.mk a0.Next a5 a3 (zL a0.Frame.Zo (Zq.mk a2 (nth a0.ZZ J).Zn (Zk a0.Frame.Methods a0.Frame.Now) (XC (Zk a0.Frame.Methods a0.Frame.Now) a3) 1 a4 0 0 0)).1 (ZQ.mk ([(Y6 (zL a0.Frame.Zo (Zq.mk a2 (nth a0.ZZ J).Zn (Zk a0.Frame.Methods a0.Frame.Now) (XC (Zk a0.Frame.Methods a0.Frame.Now) a3) 1 a4 0 0 0)).1), (ku (nth a0.ZZ J))] : List ZS) ([] : List ZV)))).1) a0.YZ a0.YR (W (a0.Next + 1)) a0.YK), true)))) else (.inr ()))
def Xw (a0 : ZG) (a1 : Int) (a2 : Int) (a3 : Ze) (a4 : Int) (a5 : Int) : ZG × Bool := (bif (((!(Yw a0 a1)) || (decide ((Zu a0.Frame.Zo a2) < 0))) || (decide ((Zk a0.Frame.Methods a0.Frame.Now) < 0))) then (a0, false) else (match Jo a0 a1 a2 a3 a4 a5 (a0.ZZ.length + 1) 0 with | .inl r1 => r1 | .inr _ => (a0, false)))
def KE (a0 : ZG) (a1 : Int) (a2 : Int) (a3 : Ze) (a4 : Int) (a5 : Int) : ZG × Bool := (bif ((decide ((Zu a0.Frame.Zo a2) < 0)) || (decide ((nth a0.Frame.Zo (Zu a0.Frame.Zo a2).toNat).qK > a0.Frame.Now))) then (a0, false) else ((Xw a0 a1 a2 a3 a4 a5).1, (Xw a0 a1 a2 a3 a4 a5).2))
def qA (a0 : ZG) (a1 : Int) : ZG × Bool := (bif ((!(Yd a0 a1).2.2) || (decide ((Yd a0 a1).2.1 >= (a0.YQ.length : Int)))) then (a0, false) else (bif ((decide ((Zu a0.Frame.Zo (nth a0.ZZ (Yd a0 a1).2.1.toNat).Z6) < 0)) || (decide ((nth a0.Frame.Zo (Zu a0.Frame.Zo (nth a0.ZZ (Yd a0 a1).2.1.toNat).Z6).toNat).qK > a0.Frame.Now))) then (a0, false) else (bif (decide ((nth a0.YQ (Yd a0 a1).2.1.toNat) > (W (a0.Frame.Now + 1)))) then ((Xe a0 (Yd a0 a1).1 a1 (Zr.mk (nth a0.ZZ (Yd a0 a1).2.1.toNat).Zn a0.Frame.Now (-1) (nth a0.ZZ (Yd a0 a1).2.1.toNat).Z6 0)).1, (Xe a0 (Yd a0 a1).1 a1 (Zr.mk (nth a0.ZZ (Yd a0 a1).2.1.toNat).Zn a0.Frame.Now (-1) (nth a0.ZZ (Yd a0 a1).2.1.toNat).Z6 0)).2) else ((Xe a0 (Yd a0 a1).1 a1 (Zr.mk (nth a0.ZZ (Yd a0 a1).2.1.toNat).Zn a0.Frame.Now (nth a0.YQ (Yd a0 a1).2.1.toNat) (nth a0.ZZ (Yd a0 a1).2.1.toNat).Z6 0)).1, (Xe a0 (Yd a0 a1).1 a1 (Zr.mk (nth a0.ZZ (Yd a0 a1).2.1.toNat).Zn a0.Frame.Now (nth a0.YQ (Yd a0 a1).2.1.toNat) (nth a0.ZZ (Yd a0 a1).2.1.toNat).Z6 0)).2))))
def yK (a0 : ZG) (a1 : Int) (a2 : Int) (a3 : Ze) : ZG × Bool := (bif (!(QF a0.Frame a2)) then (a0, false) else (bif (Xw a0 a1 a2 a3 0 10000).2 then ((ZG.mk (Xw a0 a1 a2 a3 0 10000).1.Frame (Xw a0 a1 a2 a3 0 10000).1.ZZ (Xw a0 a1 a2 a3 0 10000).1.YQ (Xw a0 a1 a2 a3 0 10000).1.ZB (Xw a0 a1 a2 a3 0 10000).1.YZ (Xw a0 a1 a2 a3 0 10000).1.YR (Xw a0 a1 a2 a3 0 10000).1.Next ((Xw a0 a1 a2 a3 0 10000).1.YK ++ ([a0.Next] : List Int))), (Xw a0 a1 a2 a3 0 10000).2) else ((Xw a0 a1 a2 a3 0 10000).1, (Xw a0 a1 a2 a3 0 10000).2)))
end Go.Mo
