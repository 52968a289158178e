/- Models of the functions: what each computes, on typed data. No condition. -/
import Derived.Test.YthbcljgpeciofaaGreatMo
namespace Go.Mo
open Go.Vm
def F4 (a0 : List UInt8) : Bool := (decide ((a0.length : Int) > 1048576))
def PD (a0 : List UInt8) : Nat -> Int -> Nat -> Int
  | 0, _, _ => default
  | n1 + 1, J, U => (bif ((decide ((U : Int) < (a0.length : Int))) && (decide ((U : Int) < 4000))) then PD a0 n1 (LR .i64 (W ((W ((W (J * 137)) + (W ((nth a0 U).toNat : Int)))) + 11)) 1073741823) (U + 1) else (J))
def Zz (a0 : List UInt8) : ZS := (match PD a0 4001 (W (193017 + (a0.length : Int))) 0 with | z1_0 => (ZS.mk a0 0 z1_0))
def Xn (a0 : ZS) : ZS × Int := (bif (decide ((a0.i : Int) < (a0.b.length : Int))) then ((ZS.mk a0.b (a0.i + 1) (W ((W (a0.h * 6364136223846793005)) + 1442695040888963407))), (LR .i64 (W ((LR .i64 (Dx .i64 ((W ((W (a0.h * 6364136223846793005)) + 1442695040888963407)).fdiv (2 ^ (min 33 IntKind.i64.bits))) ((W ((W (a0.h * 6364136223846793005)) + 1442695040888963407)).fdiv (2 ^ (min 47 IntKind.i64.bits)))) 255) + (W ((nth a0.b a0.i).toNat : Int)))) 255)) else ((ZS.mk a0.b a0.i (W ((W (a0.h * 6364136223846793005)) + 1442695040888963407))), (LR .i64 (Dx .i64 ((W ((W (a0.h * 6364136223846793005)) + 1442695040888963407)).fdiv (2 ^ (min 33 IntKind.i64.bits))) ((W ((W (a0.h * 6364136223846793005)) + 1442695040888963407)).fdiv (2 ^ (min 47 IntKind.i64.bits)))) 255)))
def ZB (a0 : ZS) (a1 : Int) : ZS × Int := (bif (decide (a1 <= 0)) then (a0, 0) else (bif (decide (a1 <= 256)) then ((Xn a0).1, (Int.tmod (Xn a0).2 a1)) else ((Xn (Xn (Xn a0).1).1).1, (Int.tmod (W ((W ((W ((Xn a0).2 * 65536)) + (W ((Xn (Xn a0).1).2 * 256)))) + (Xn (Xn (Xn a0).1).1).2)) a1))))
def zG (a0 : Int) (a1 : Int) : Int := (bif (decide (a1 > a0)) then a1 else a0)
def qo (a0 : Int) (a1 : Int) : Int := (bif (decide (a1 < a0)) then a1 else a0)
def zF : List Y4 := ([(Y4.mk 1 90 1 0 501), (Y4.mk 2 90 3 40 502), (Y4.mk 11 1 1 0 511), (Y4.mk 12 1 2 20 512), (Y4.mk 13 2 3 40 513), (Y4.mk 21 50 1 0 521), (Y4.mk 31 81 1 0 531), (Y4.mk 32 82 2 20 532), (Y4.mk 33 83 3 40 533), (Y4.mk 34 84 4 60 534)] : List Y4)
def Ja : List Zr := ([(Zr.mk 1 31 1), (Zr.mk 2 32 2), (Zr.mk 3 33 1), (Zr.mk 4 34 0)] : List Zr)
def jW : List YH := ([(YH.mk 1 0 40 50), (YH.mk 2 20 80 70), (YH.mk 3 40 120 200), (YH.mk 4 60 10001 10001)] : List YH)
def xF (a0 : List Y4) (a1 : Int) : Nat -> Nat -> Sum Int Unit
  | 0, _ => .inr ()
  | n1 + 1, J => (bif (decide ((J : Int) < (a0.length : Int))) then (bif ((nth a0 J).Number == a1) then (.inl (J : Int)) else xF a0 a1 n1 (J + 1)) else (.inr ()))
def Z0 (a0 : List Y4) (a1 : Int) : Int := (match xF a0 a1 (a0.length + 1) 0 with | .inl r1 => r1 | .inr _ => (-1))
def Z8 (a0 : Int) (a1 : Int) (a2 : Int) : Bool := ((decide (a0 >= a1)) && (decide (a0 <= a2)))
def qD (a0 : Ye) : jI := (jI.mk a0.qA a0.To)
def qq (a0 : Int) : Bool := (Z8 a0 0 10000)
def Vv (a0 : jI) : Bool := (((qq a0.qA) && (qq a0.To)) && (decide (a0.qA <= a0.To)))
def Ub (a0 : Ye) : Bool := ((((((Z8 a0.ZV 1 999) && (Z8 a0.Key 1 99)) && (Z8 a0.Zn 1 99)) && (a0.Key != a0.Zn)) && (Z8 a0.zY 0 99)) && (Vv (qD a0)))
def KX (a0 : Ye) : List Int := ([101, a0.ZV, a0.Key, a0.zY, a0.qA, a0.To, a0.Zn] : List Int)
def Tg (a0 : Int) (a1 : Int) : Int := (bif (!(Z8 a1 1 1000000000000)) then 0 else (Int.tmod (W ((Int.tmod a0 a1) + a1)) a1))
def qh (a0 : List Int) : Nat -> Int -> Nat -> Int
  | 0, _, _ => default
  | n1 + 1, J, U => (bif (decide ((U : Int) < (a0.length : Int))) then qh a0 n1 (Int.tmod (W ((W ((W (J * 1000003)) + (Tg (nth a0 U) 2147483647))) + 13)) 2147483647) (U + 1) else (J))
def V9 (a0 : List Int) : Int := (match qh a0 (a0.length + 1) 11 0 with | z1_0 => z1_0)
def J0 (a0 : Int) (a1 : List Int) : Int := (V9 ((([a0] : List Int) ++ a1) ++ ([a0] : List Int)))
def zu (a0 : Y4) (a1 : List Int) : Int := (J0 a0.jC (([a0.Method] : List Int) ++ a1))
def xK (a0 : List Y4) (a1 : Ye) : Ye × Bool := (bif (((!(Ub a1)) || (decide ((Z0 a0 a1.Zn) < 0))) || (decide ((Z0 a0 a1.Key) < 0))) then ((Ye.mk 0 0 0 0 0 0 0), false) else ((Ye.mk a1.ZV a1.Key a1.zY a1.qA a1.To a1.Zn (zu (nth a0 (Z0 a0 a1.Zn).toNat) (KX a1))), true))
def qK : List Ye := ([(xK zF (Ye.mk 1 11 1 0 60 1 0)).1, (xK zF (Ye.mk 2 12 1 20 100 1 0)).1, (xK zF (Ye.mk 3 13 2 40 150 2 0)).1] : List Ye)
def YE (a0 : Int) : ZH := (bif ((qo 1 (zG 0 a0)) == 1) then (ZH.mk (Zv.mk zF Ja jW (qo 1 (zG 0 a0)) 0) qK ([(-1), (-1), (-1)] : List Int) ([(ZF.mk 0 ([] : List ZZ)), (ZF.mk 1 ([] : List ZZ))] : List ZF) ([0, 0, 0, 0] : List Int) ([1] : List Int) 1 ([] : List Int)) else (ZH.mk (Zv.mk zF Ja jW (qo 1 (zG 0 a0)) 0) qK ([(-1), (-1), (-1)] : List Int) ([(ZF.mk 0 ([] : List ZZ)), (ZF.mk 1 ([] : List ZZ))] : List ZF) ([0, 0, 0, 0] : List Int) ([] : List Int) 1 ([] : List Int)))
def ZJ (a0 : ZS) (a1 : List Int) : ZS × Int := ((ZB a0 (a1.length : Int)).1, (nth a1 (ZB a0 (a1.length : Int)).2.toNat))
def Uv (a0 : ZS) (a1 : List ByteArray) : ZS × ByteArray := ((ZB a0 (a1.length : Int)).1, (nth a1 (ZB a0 (a1.length : Int)).2.toNat))
def Qw (a0 : ZS) : ZS × ByteArray := ((Uv a0 ([(⟨#[]⟩ : ByteArray), (⟨#[97]⟩ : ByteArray), (⟨#[98]⟩ : ByteArray), (⟨#[97, 98]⟩ : ByteArray), (⟨#[121, 101, 115]⟩ : ByteArray), (⟨#[110, 111]⟩ : ByteArray), (⟨#[111, 110, 101, 32, 104, 117, 110, 100, 114, 101, 100]⟩ : ByteArray)] : List ByteArray)).1, (Uv a0 ([(⟨#[]⟩ : ByteArray), (⟨#[97]⟩ : ByteArray), (⟨#[98]⟩ : ByteArray), (⟨#[97, 98]⟩ : ByteArray), (⟨#[121, 101, 115]⟩ : ByteArray), (⟨#[110, 111]⟩ : ByteArray), (⟨#[111, 110, 101, 32, 104, 117, 110, 100, 114, 101, 100]⟩ : ByteArray)] : List ByteArray)).2)
def XN (a0 : Zd) : Nat -> Nat -> Sum Bool Unit
  | 0, _ => .inr ()
  | n2 + 1, uE => (bif (decide ((uE : Int) < (a0.XP.length : Int))) then (bif (!(Z8 (nth a0.XP uE) 1 1000000000000)) then (.inl false) else XN a0 n2 (uE + 1)) else (.inr ()))
def XT (a0 : Zd) : Nat -> Nat -> Sum Bool Unit
  | 0, _ => .inr ()
  | n1 + 1, J => (bif (decide ((J : Int) < (a0.YR.length : Int))) then (bif (decide (((nth a0.YR J).size : Int) > 40)) then (.inl false) else XT a0 n1 (J + 1)) else (.inr ()))
def Y1 (a0 : Zd) : Bool := (match XT a0 (a0.YR.length + 1) 0 with | .inl r1 => r1 | .inr _ => (match XN a0 (a0.XP.length + 1) 0 with | .inl r2 => r2 | .inr _ => (((Z8 a0.yS 0 999) && (Z8 (a0.YR.length : Int) 1 6)) && ((a0.XP.length : Int) == (a0.YR.length : Int)))))
def yL (a0 : Int) : Bool := (Z8 a0 1 2147483646)
def Xw (a0 : Int) (a1 : List ByteArray) (a2 : Int) : Nat -> Nat -> List Int -> (List Int)
  | 0, _, _ => default
  | n1 + 1, J, U => (bif (decide ((J : Int) < (a1.length : Int))) then Xw a0 a1 a2 n1 (J + 1) (U ++ ([(zG 1 (J0 a2 ([a0, (J : Int)] : List Int)))] : List Int)) else (U))
def Q0 (a0 : Int) (a1 : List ByteArray) (a2 : Int) : Zd × Bool := (match Xw a0 a1 a2 (a1.length + 1) 0 ([] : List Int) with | z1_0 => (bif ((!(Y1 (Zd.mk a0 a1 z1_0))) || (!(yL a2))) then ((Zd.mk 0 ([] : List ByteArray) ([] : List Int)), false) else ((Zd.mk a0 a1 z1_0), true)))
def KW : Nat -> List ByteArray -> Int -> List UInt8 -> Nat -> Int -> (List ByteArray) × (List UInt8) × Nat × Int
  | 0, _, _, _, _, _ => (default, default, default, default)
  | n1 + 1, J, U, v9, uB, ui => (bif (decide (U > 0)) then KW n1 (J ++ ([(Qw (ZS.mk v9 uB ui)).2] : List ByteArray)) (W (U - 1)) (Qw (ZS.mk v9 uB ui)).1.b (Qw (ZS.mk v9 uB ui)).1.i (Qw (ZS.mk v9 uB ui)).1.h else ((J, v9, uB, ui)))
def ZT (a0 : ZS) : ZS × Zd := (match KW 5 ([] : List ByteArray) (W (1 + (ZB a0 3).2)) (ZB a0 3).1.b (ZB a0 3).1.i (ZB a0 3).1.h with | (z1_0, z1_1, z1_2, z1_3) => ((ZB (ZS.mk z1_1 z1_2 z1_3) 5).1, (Q0 (ZB (ZS.mk z1_1 z1_2 z1_3) 5).2 z1_0 11).1))
def T2 (a0 : Zv) : Zv := a0
def Oy (a0 : Zd) : Zd := a0
def Rf (a0 : Zf) : Zf := a0
def Wv (a0 : List Zf) : Nat -> List Zf -> Nat -> (List Zf)
  | 0, _, _ => default
  | n1 + 1, J, U => (bif (decide ((U : Int) < (a0.length : Int))) then Wv a0 n1 (J ++ ([(nth a0 U)] : List Zf)) (U + 1) else (J))
def Se (a0 : List Zf) : List Zf := (match Wv a0 (a0.length + 1) ([] : List Zf) 0 with | z1_0 => z1_0)
def R7 (a0 : Zc) : Zc := a0
def kX (a0 : Zi) : Nat -> Nat -> List Zc -> (List Zc)
  | 0, _, _ => default
  | n1 + 1, J, U => (bif (decide ((J : Int) < (a0.Zj.length : Int))) then kX a0 n1 (J + 1) (U ++ ([(nth a0.Zj J)] : List Zc)) else (U))
def Uz (a0 : Zi) : Zi := (match kX a0 (a0.Zj.length + 1) 0 ([] : List Zc) with | z1_0 => (Zi.mk a0.ZO z1_0))
def Rg (a0 : ZZ) : ZZ := a0
def kc (a0 : ZF) : Nat -> Nat -> List ZZ -> (List ZZ)
  | 0, _, _ => default
  | n1 + 1, J, U => (bif (decide ((J : Int) < (a0.ZC.length : Int))) then kc a0 n1 (J + 1) (U ++ ([(nth a0.ZC J)] : List ZZ)) else (U))
def Us (a0 : ZF) : ZF := (match kc a0 (a0.ZC.length + 1) 0 ([] : List ZZ) with | z1_0 => (ZF.mk a0.Id z1_0))
def kO (a0 : ZH) : Nat -> Nat -> List ZF -> (List ZF)
  | 0, _, _ => default
  | n1 + 1, J, U => (bif (decide ((J : Int) < (a0.ZA.length : Int))) then kO a0 n1 (J + 1) (U ++ ([(nth a0.ZA J)] : List ZF)) else (U))
def U0 (a0 : ZH) : ZH := (match kO a0 (a0.ZA.length + 1) 0 ([] : List ZF) with | z1_0 => (ZH.mk a0.Frame a0.ZR a0.Zu z1_0 a0.YG a0.YW a0.Next a0.Yk))
def Kt (a0 : ZH) (a1 : Int) : Bool := (Z8 a1 0 (W ((a0.ZA.length : Int) - 1)))
def Ke (a0 : List YH) (a1 : Int) : Nat -> Int -> Nat -> Int
  | 0, _, _ => default
  | n1 + 1, J, U => (bif (decide ((U : Int) < (a0.length : Int))) then (bif (((decide (a1 >= (nth a0 U).Wn)) && (decide (a1 < (nth a0 U).Ends))) && ((decide (J < 0)) || (decide ((nth a0 U).Ends > (nth a0 J.toNat).Ends)))) then Ke a0 a1 n1 (U : Int) (U + 1) else Ke a0 a1 n1 J (U + 1)) else (J))
def Z4 (a0 : List YH) (a1 : Int) : Int := (match Ke a0 a1 (a0.length + 1) (-1) 0 with | z1_0 => (bif (decide (z1_0 < 0)) then (-1) else (nth a0 z1_0.toNat).Id))
def Qq (a0 : ZH) (a1 : Int) : Nat -> Nat -> Sum Int Unit
  | 0, _ => .inr ()
  | n1 + 1, J => (bif (decide ((J : Int) < (a0.ZR.length : Int))) then (bif ((nth a0.ZR J).Key == a1) then (.inl (J : Int)) else Qq a0 a1 n1 (J + 1)) else (.inr ()))
def XG (a0 : ZH) (a1 : Int) : Int := (match Qq a0 a1 (a0.ZR.length + 1) 0 with | .inl r1 => r1 | .inr _ => (-1))
def Jg (a0 : Int) (a1 : List Int) : Int := (V9 (([7, a0] : List Int) ++ a1))
def zt (a1 : ByteArray) : Nat -> List Int -> Nat -> (List Int)
  | 0, _, _ => default
  | n1 + 1, J, U => (bif (decide ((U : Int) < (a1.size : Int))) then zt a1 n1 (J ++ ([(W ((bAt a1 U) : Int))] : List Int)) (U + 1) else (J))
def xT (a0 : Int) (a1 : ByteArray) (a2 : Int) : Int := (match zt a1 (a1.size + 1) ([a2] : List Int) 0 with | z1_0 => (Jg a0 z1_0))
def yb (a0 : Int) (a1 : Zd) : Nat -> List Int -> Nat -> (List Int)
  | 0, _, _ => default
  | n1 + 1, J, U => (bif (decide ((U : Int) < (a1.YR.length : Int))) then yb a0 a1 n1 (J ++ ([(xT a0 (nth a1.YR U) (nth a1.XP U))] : List Int)) (U + 1) else (J))
def Qi (a0 : Int) (a1 : Zd) : Int := (bif (!(Y1 a1)) then (-1) else (match yb a0 a1 (a1.YR.length + 1) ([a1.yS] : List Int) 0 with | z1_0 => (Jg a0 z1_0)))
def yZ (a0 : Zm) : Bool := ((((((((Z8 a0.Key 1 99) && (Z8 a0.ZV 1 999)) && (Z8 a0.Method 0 99)) && (Z8 a0.Org 0 99)) && (Z8 a0.y6 1 3)) && (Z8 a0.XJ 0 1000000000000)) && (Z8 a0.y1 0 1000000000000)) && (Z8 a0.j6 0 1000000000000))
def Xr (a0 : Zm) : List Int := ([104, a0.Key, a0.ZV, a0.Method, a0.XJ, a0.y6, a0.Org, a0.y1, a0.j6] : List Int)
def JJ (a0 : List Y4) (a1 : Zm) : Zm × Bool := (bif ((!(yZ a1)) || (decide ((Z0 a0 a1.Key) < 0))) then ((Zm.mk 0 0 0 0 0 0 0 0 0), false) else ((Zm.mk a1.Key a1.ZV a1.Method a1.XJ a1.y6 a1.Org a1.y1 a1.j6 (zu (nth a0 (Z0 a0 a1.Key).toNat) (Xr a1))), true))
def K2 (a0 : Zm) : Zf := (Zf.mk a0.Key (Xr a0) a0.Mark)
def xG (a0 : Ye) : Zf := (Zf.mk a0.Zn (KX a0) a0.Mark)
def Xx (a0 : ZH) (a1 : Int) (a2 : Zd) (a3 : Int) (a4 : Int) : ZZ × Bool := (bif ((decide ((Z4 a0.Frame.Methods a0.Frame.Now) < 0)) || (decide ((XG a0 a1) < 0))) then ((ZZ.mk 0 0 (Zd.mk 0 ([] : List ByteArray) ([] : List Int)) (Zm.mk 0 0 0 0 0 0 0 0 0) (Zi.mk ([] : List Zf) ([] : List Zc))), false) else ((ZZ.mk a0.Next a4 a2 (JJ a0.Frame.Zk (Zm.mk a1 (nth a0.ZR (XG a0 a1).toNat).ZV (Z4 a0.Frame.Methods a0.Frame.Now) (Qi (Z4 a0.Frame.Methods a0.Frame.Now) a2) 1 a3 0 0 0)).1 (Zi.mk ([(K2 (JJ a0.Frame.Zk (Zm.mk a1 (nth a0.ZR (XG a0 a1).toNat).ZV (Z4 a0.Frame.Methods a0.Frame.Now) (Qi (Z4 a0.Frame.Methods a0.Frame.Now) a2) 1 a3 0 0 0)).1), (xG (nth a0.ZR (XG a0 a1).toNat))] : List Zf) ([] : List Zc))), (JJ a0.Frame.Zk (Zm.mk a1 (nth a0.ZR (XG a0 a1).toNat).ZV (Z4 a0.Frame.Methods a0.Frame.Now) (Qi (Z4 a0.Frame.Methods a0.Frame.Now) a2) 1 a3 0 0 0)).2))
def qY (a0 : List Int) (a1 : List Int) : Nat -> Nat -> Sum Bool Unit
  | 0, _ => .inr ()
  | n1 + 1, J => (bif (decide ((J : Int) < (a0.length : Int))) then (bif ((nth a0 J) != (nth a1 J)) then (.inl false) else qY a0 a1 n1 (J + 1)) else (.inr ()))
def kP (a0 : List Int) (a1 : List Int) : Bool := (bif ((a0.length : Int) != (a1.length : Int)) then false else (match qY a0 a1 (a0.length + 1) 0 with | .inl r1 => r1 | .inr _ => true))
def zQ (a0 : Zf) (a1 : Zf) : Bool := (((a0.Key == a1.Key) && (a0.Mark == a1.Mark)) && (kP a0.Y0 a1.Y0))
def qf (a0 : Zi) (a1 : Zf) : Nat -> Nat -> Sum Int Unit
  | 0, _ => .inr ()
  | n1 + 1, J => (bif (decide ((J : Int) < (a0.ZO.length : Int))) then (bif (zQ (nth a0.ZO J) a1) then (.inl (J : Int)) else qf a0 a1 n1 (J + 1)) else (.inr ()))
def y7 (a0 : Zi) (a1 : Zf) : Int := (match qf a0 a1 (a0.ZO.length + 1) 0 with | .inl r1 => r1 | .inr _ => (-1))
def yC (a0 : Zi) : Nat -> Nat -> Sum Bool Unit
  | 0, _ => .inr ()
  | n2 + 1, uE => (bif (decide ((uE : Int) < (a0.Zj.length : Int))) then (bif ((!(Z8 (nth a0.Zj uE).Count 1 (a0.ZO.length : Int))) || ((decide ((uE : Int) > 0)) && (decide ((nth a0.Zj (uE - 1)).Count > (nth a0.Zj uE).Count)))) then (.inl false) else yC a0 n2 (uE + 1)) else (.inr ()))
def yI (a0 : Zi) : Nat -> Nat -> Sum Bool Unit
  | 0, _ => .inr ()
  | n1 + 1, J => (bif (decide ((J : Int) < (a0.ZO.length : Int))) then (bif (decide ((y7 a0 (nth a0.ZO J)) < (J : Int))) then (.inl false) else yI a0 n1 (J + 1)) else (.inr ()))
def K4 (a0 : Zi) : Bool := (match yI a0 (a0.ZO.length + 1) 0 with | .inl r1 => r1 | .inr _ => (match yC a0 (a0.Zj.length + 1) 0 with | .inl r2 => r2 | .inr _ => ((Z8 (a0.ZO.length : Int) 1 12) && (decide ((a0.Zj.length : Int) <= 8)))))
def Vu (a0 : ZZ) : Bool := (((((Z8 a0.Id 1 999) && (qq a0.Y9)) && (Y1 a0.Doc)) && (K4 a0.ZM)) && (zQ (nth a0.ZM.ZO 0) (K2 a0.Sig)))
def yV (a0 : ZF) : Nat -> Nat -> Sum Bool Unit
  | 0, _ => .inr ()
  | n1 + 1, J => (bif (decide ((J : Int) < (a0.ZC.length : Int))) then (bif ((!(Vu (nth a0.ZC J))) || ((decide ((J : Int) > 0)) && (decide ((nth a0.ZC (J - 1)).Id >= (nth a0.ZC J).Id)))) then (.inl false) else yV a0 n1 (J + 1)) else (.inr ()))
def Xm (a0 : ZF) : Bool := (match yV a0 (a0.ZC.length + 1) 0 with | .inl r1 => r1 | .inr _ => ((Z8 a0.Id 0 99) && (decide ((a0.ZC.length : Int) <= 8))))
def yN (a0 : ZF) (a1 : Int) : Nat -> Nat -> Sum Int Unit
  | 0, _ => .inr ()
  | n1 + 1, J => (bif (decide ((J : Int) < (a0.ZC.length : Int))) then (bif ((nth a0.ZC J).Id == a1) then (.inl (J : Int)) else yN a0 a1 n1 (J + 1)) else (.inr ()))
def Yo (a0 : ZF) (a1 : Int) : Int := (match yN a0 a1 (a0.ZC.length + 1) 0 with | .inl r1 => r1 | .inr _ => (-1))
def Xq (a0 : ZF) (a1 : ZZ) : Nat -> Bool -> Nat -> List ZZ -> Bool × (List ZZ)
  | 0, _, _, _ => (default, default)
  | n1 + 1, J, U, v9 => (bif (decide ((U : Int) < (a0.ZC.length : Int))) then (bif ((!J) && (decide (a1.Id < (nth a0.ZC U).Id))) then Xq a0 a1 n1 true (U + 1) ((v9 ++ ([a1] : List ZZ)) ++ ([(nth a0.ZC U)] : List ZZ)) else Xq a0 a1 n1 J (U + 1) (v9 ++ ([(nth a0.ZC U)] : List ZZ))) else ((J, v9)))
def Q9 (a0 : ZF) (a1 : ZZ) : ZF × Bool := (bif ((!(Xm a0)) || (decide ((Yo a0 a1.Id) >= 0))) then (a0, false) else (match Xq a0 a1 (a0.ZC.length + 1) false 0 ([] : List ZZ) with | (z1_0, z1_1) => (bif (!z1_0) then (bif (!(Xm (ZF.mk a0.Id (z1_1 ++ ([a1] : List ZZ))))) then (a0, false) else ((ZF.mk a0.Id (z1_1 ++ ([a1] : List ZZ))), true)) else (bif (!(Xm (ZF.mk a0.Id z1_1))) then (a0, false) else ((ZF.mk a0.Id z1_1), true)))))
def Z3 (a0 : ZH) (a1 : Int) (a2 : Int) (a3 : Zd) (a4 : Int) (a5 : Int) : ZH × Bool := (bif (((!(Kt a0 a1)) || (decide ((Z0 a0.Frame.Zk a2) < 0))) || (decide ((nth a0.Frame.Zk (Z0 a0.Frame.Zk a2).toNat).qN > a0.Frame.Now))) then (a0, false) else (bif (!(Xx a0 a2 a3 a4 a5).2) then (a0, false) else (bif (!(Q9 (nth a0.ZA a1.toNat) (Xx a0 a2 a3 a4 a5).1).2) then (a0, false) else ((ZH.mk a0.Frame a0.ZR a0.Zu (a0.ZA.set a1.toNat (Q9 (nth a0.ZA a1.toNat) (Xx a0 a2 a3 a4 a5).1).1) a0.YG a0.YW (W (a0.Next + 1)) a0.Yk), true))))
def zf (a0 : ZH) (a1 : Int) : Nat -> Nat -> Sum (Int × Int) Unit
  | 0, _ => .inr ()
  | n1 + 1, J => (bif (decide ((J : Int) < (a0.ZA.length : Int))) then (bif (decide ((Yo (nth a0.ZA J) a1) >= 0)) then (.inl ((J : Int), (Yo (nth a0.ZA J) a1))) else zf a0 a1 n1 (J + 1)) else (.inr ()))
def ZG (a0 : ZH) (a1 : Int) : Int × Int := (match zf a0 a1 (a0.ZA.length + 1) 0 with | .inl r1 => r1 | .inr _ => ((-1), (-1)))
def Xu (a0 : Zf) : Int := (bif (((a0.Y0.length : Int) == 0) || (!(Z8 (nth a0.Y0 0) 101 105))) then 0 else (bif ((a0.Y0.length : Int) != (nth ([7, 5, 5, 9, 6] : List Int) (W ((nth a0.Y0 0) - 101)).toNat)) then 0 else (nth a0.Y0 0)))
def ZL (a0 : Zf) : Ye × Bool := (bif (((Xu a0) != 101) || ((nth a0.Y0 6) != a0.Key)) then ((Ye.mk 0 0 0 0 0 0 0), false) else ((Ye.mk (nth a0.Y0 1) (nth a0.Y0 2) (nth a0.Y0 3) (nth a0.Y0 4) (nth a0.Y0 5) (nth a0.Y0 6) a0.Mark), true))
def z5 (a0 : List Ye) (a1 : Int) : Nat -> Nat -> Sum Int Unit
  | 0, _ => .inr ()
  | n1 + 1, J => (bif (decide ((J : Int) < (a0.length : Int))) then (bif ((nth a0 J).ZV == a1) then (.inl (J : Int)) else z5 a0 a1 n1 (J + 1)) else (.inr ()))
def Zh (a0 : List Ye) (a1 : Int) : Int := (match z5 a0 a1 (a0.length + 1) 0 with | .inl r1 => r1 | .inr _ => (-1))
def qJ (a0 : Zp) : Bool := ((((Z8 a0.ZV 1 999) && (qq a0.Sr)) && (Z8 a0.Zu (-1) (W (a0.Sr + 1)))) && (Z8 a0.Zn 1 99))
def Qn (a0 : Zp) : List Int := ([102, a0.ZV, a0.Sr, a0.Zu, a0.Zn] : List Int)
def Zq (a0 : List Y4) (a1 : Zp) : Zp × Bool := (bif ((!(qJ a1)) || (decide ((Z0 a0 a1.Zn) < 0))) then ((Zp.mk 0 0 0 0 0), false) else ((Zp.mk a1.ZV a1.Sr a1.Zu a1.Zn (zu (nth a0 (Z0 a0 a1.Zn).toNat) (Qn a1))), true))
def Z2 (a0 : Zp) : Zf := (Zf.mk a0.Zn (Qn a0) a0.Mark)
def Jc (a0 : Zi) (a1 : Zf) : Zi × Bool := (bif (!(K4 (Zi.mk (a0.ZO ++ ([a1] : List Zf)) a0.Zj))) then (a0, false) else ((Zi.mk (a0.ZO ++ ([a1] : List Zf)) a0.Zj), true))
def Yf (a0 : ZF) (a1 : Int) (a2 : Zf) : ZF × Bool := (bif (decide ((Yo a0 a1) < 0)) then (a0, false) else ((ZF.mk a0.Id (a0.ZC.set (Yo a0 a1).toNat (ZZ.mk (nth a0.ZC (Yo a0 a1).toNat).Id (nth a0.ZC (Yo a0 a1).toNat).Y9 (nth a0.ZC (Yo a0 a1).toNat).Doc (nth a0.ZC (Yo a0 a1).toNat).Sig (Jc (nth a0.ZC (Yo a0 a1).toNat).ZM a2).1))), (Jc (nth a0.ZC (Yo a0 a1).toNat).ZM a2).2))
def Zw (a0 : ZH) (a1 : Int) : ZH × Bool := (bif ((decide ((ZG a0 a1).1 < 0)) || (decide (((nth (nth a0.ZA (ZG a0 a1).1.toNat).ZC (ZG a0 a1).2.toNat).ZM.ZO.length : Int) < 2))) then (a0, false) else (bif (((!(ZL (nth (nth (nth a0.ZA (ZG a0 a1).1.toNat).ZC (ZG a0 a1).2.toNat).ZM.ZO 1)).2) || (decide ((Zh a0.ZR (ZL (nth (nth (nth a0.ZA (ZG a0 a1).1.toNat).ZC (ZG a0 a1).2.toNat).ZM.ZO 1)).1.ZV) < 0))) || (decide ((Zh a0.ZR (ZL (nth (nth (nth a0.ZA (ZG a0 a1).1.toNat).ZC (ZG a0 a1).2.toNat).ZM.ZO 1)).1.ZV) >= (a0.Zu.length : Int)))) then (a0, false) else (bif (decide ((nth a0.Zu (Zh a0.ZR (ZL (nth (nth (nth a0.ZA (ZG a0 a1).1.toNat).ZC (ZG a0 a1).2.toNat).ZM.ZO 1)).1.ZV).toNat) <= (W (a0.Frame.Now + 1)))) then (bif ((!(Zq a0.Frame.Zk (Zp.mk (ZL (nth (nth (nth a0.ZA (ZG a0 a1).1.toNat).ZC (ZG a0 a1).2.toNat).ZM.ZO 1)).1.ZV a0.Frame.Now (nth a0.Zu (Zh a0.ZR (ZL (nth (nth (nth a0.ZA (ZG a0 a1).1.toNat).ZC (ZG a0 a1).2.toNat).ZM.ZO 1)).1.ZV).toNat) (nth a0.ZR (Zh a0.ZR (ZL (nth (nth (nth a0.ZA (ZG a0 a1).1.toNat).ZC (ZG a0 a1).2.toNat).ZM.ZO 1)).1.ZV).toNat).Zn 0)).2) || (decide ((nth a0.Frame.Zk (Z0 a0.Frame.Zk (nth a0.ZR (Zh a0.ZR (ZL (nth (nth (nth a0.ZA (ZG a0 a1).1.toNat).ZC (ZG a0 a1).2.toNat).ZM.ZO 1)).1.ZV).toNat).Zn).toNat).qN > a0.Frame.Now))) then (a0, false) else ((ZH.mk a0.Frame a0.ZR a0.Zu (a0.ZA.set (ZG a0 a1).1.toNat (Yf (nth a0.ZA (ZG a0 a1).1.toNat) a1 (Z2 (Zq a0.Frame.Zk (Zp.mk (ZL (nth (nth (nth a0.ZA (ZG a0 a1).1.toNat).ZC (ZG a0 a1).2.toNat).ZM.ZO 1)).1.ZV a0.Frame.Now (nth a0.Zu (Zh a0.ZR (ZL (nth (nth (nth a0.ZA (ZG a0 a1).1.toNat).ZC (ZG a0 a1).2.toNat).ZM.ZO 1)).1.ZV).toNat) (nth a0.ZR (Zh a0.ZR (ZL (nth (nth (nth a0.ZA (ZG a0 a1).1.toNat).ZC (ZG a0 a1).2.toNat).ZM.ZO 1)).1.ZV).toNat).Zn 0)).1)).1) a0.YG a0.YW a0.Next a0.Yk), (Yf (nth a0.ZA (ZG a0 a1).1.toNat) a1 (Z2 (Zq a0.Frame.Zk (Zp.mk (ZL (nth (nth (nth a0.ZA (ZG a0 a1).1.toNat).ZC (ZG a0 a1).2.toNat).ZM.ZO 1)).1.ZV a0.Frame.Now (nth a0.Zu (Zh a0.ZR (ZL (nth (nth (nth a0.ZA (ZG a0 a1).1.toNat).ZC (ZG a0 a1).2.toNat).ZM.ZO 1)).1.ZV).toNat) (nth a0.ZR (Zh a0.ZR (ZL (nth (nth (nth a0.ZA (ZG a0 a1).1.toNat).ZC (ZG a0 a1).2.toNat).ZM.ZO 1)).1.ZV).toNat).Zn 0)).1)).2)) else (bif ((!(Zq a0.Frame.Zk (Zp.mk (ZL (nth (nth (nth a0.ZA (ZG a0 a1).1.toNat).ZC (ZG a0 a1).2.toNat).ZM.ZO 1)).1.ZV a0.Frame.Now (-1) (nth a0.ZR (Zh a0.ZR (ZL (nth (nth (nth a0.ZA (ZG a0 a1).1.toNat).ZC (ZG a0 a1).2.toNat).ZM.ZO 1)).1.ZV).toNat).Zn 0)).2) || (decide ((nth a0.Frame.Zk (Z0 a0.Frame.Zk (nth a0.ZR (Zh a0.ZR (ZL (nth (nth (nth a0.ZA (ZG a0 a1).1.toNat).ZC (ZG a0 a1).2.toNat).ZM.ZO 1)).1.ZV).toNat).Zn).toNat).qN > a0.Frame.Now))) then (a0, false) else ((ZH.mk a0.Frame a0.ZR a0.Zu (a0.ZA.set (ZG a0 a1).1.toNat (Yf (nth a0.ZA (ZG a0 a1).1.toNat) a1 (Z2 (Zq a0.Frame.Zk (Zp.mk (ZL (nth (nth (nth a0.ZA (ZG a0 a1).1.toNat).ZC (ZG a0 a1).2.toNat).ZM.ZO 1)).1.ZV a0.Frame.Now (-1) (nth a0.ZR (Zh a0.ZR (ZL (nth (nth (nth a0.ZA (ZG a0 a1).1.toNat).ZC (ZG a0 a1).2.toNat).ZM.ZO 1)).1.ZV).toNat).Zn 0)).1)).1) a0.YG a0.YW a0.Next a0.Yk), (Yf (nth a0.ZA (ZG a0 a1).1.toNat) a1 (Z2 (Zq a0.Frame.Zk (Zp.mk (ZL (nth (nth (nth a0.ZA (ZG a0 a1).1.toNat).ZC (ZG a0 a1).2.toNat).ZM.ZO 1)).1.ZV a0.Frame.Now (-1) (nth a0.ZR (Zh a0.ZR (ZL (nth (nth (nth a0.ZA (ZG a0 a1).1.toNat).ZC (ZG a0 a1).2.toNat).ZM.ZO 1)).1.ZV).toNat).Zn 0)).1)).2)))))
def Z9 (a0 : ZH) (a1 : Int) : ZH × Bool := (bif ((!(Z8 a1 0 100)) || (decide ((W (a0.Frame.Now + a1)) > 10000))) then (a0, false) else ((ZH.mk (Zv.mk a0.Frame.Zk a0.Frame.ZD a0.Frame.Methods a0.Frame.Ky (W (a0.Frame.Now + a1))) a0.ZR a0.Zu a0.ZA a0.YG a0.YW a0.Next a0.Yk), true))
def xm (a0 : List YH) (a1 : Int) : Nat -> Nat -> Sum Int Unit
  | 0, _ => .inr ()
  | n1 + 1, J => (bif (decide ((J : Int) < (a0.length : Int))) then (bif ((nth a0 J).Id == a1) then (.inl (J : Int)) else xm a0 a1 n1 (J + 1)) else (.inr ()))
def QV (a0 : List YH) (a1 : Int) : Int := (match xm a0 a1 (a0.length + 1) 0 with | .inl r1 => r1 | .inr _ => (-1))
def R5 (a0 : List YH) (a1 : Int) (a2 : Int) : Bool := (((decide ((QV a0 a1) >= 0)) && (decide (a2 >= (nth a0 (QV a0 a1).toNat).Wn))) && (decide (a2 < (nth a0 (QV a0 a1).toNat).WJ)))
def Rl (a0 : List YH) (a1 : Int) : Int := (bif (decide ((QV a0 a1) < 0)) then 0 else (nth a0 (QV a0 a1).toNat).Ends)
def Qe (a0 : Zv) : Nat -> List Int -> Nat -> (List Int)
  | 0, _, _ => default
  | n1 + 1, J, U => (bif (decide ((U : Int) < (a0.ZD.length : Int))) then (bif ((((decide ((Z0 a0.Zk (nth a0.ZD U).Key) >= 0)) && (decide ((nth a0.Zk (Z0 a0.Zk (nth a0.ZD U).Key).toNat).qN <= a0.Now))) && (R5 a0.Methods (nth a0.Zk (Z0 a0.Zk (nth a0.ZD U).Key).toNat).Method a0.Now)) && (decide ((Rl a0.Methods (nth a0.Zk (Z0 a0.Zk (nth a0.ZD U).Key).toNat).Method) > a0.Now))) then Qe a0 n1 (J ++ ([(nth a0.ZD U).Id] : List Int)) (U + 1) else Qe a0 n1 J (U + 1)) else (J))
def Z5 (a0 : Zv) : List Int := (match Qe a0 (a0.ZD.length + 1) ([] : List Int) 0 with | z1_0 => z1_0)
def Q8 (a0 : List Zr) (a1 : Int) : Nat -> Nat -> Sum Int Unit
  | 0, _ => .inr ()
  | n1 + 1, J => (bif (decide ((J : Int) < (a0.length : Int))) then (bif ((nth a0 J).Id == a1) then (.inl (J : Int)) else Q8 a0 a1 n1 (J + 1)) else (.inr ()))
def Zg (a0 : List Zr) (a1 : Int) : Int := (match Q8 a0 a1 (a0.length + 1) 0 with | .inl r1 => r1 | .inr _ => (-1))
def zp (a0 : ZH) (a1 : List Int) : Nat -> Nat -> Sum Bool Unit
  | 0, _ => .inr ()
  | n1 + 1, J => (bif (decide ((J : Int) < (a1.length : Int))) then (bif (((decide ((Zg a0.Frame.ZD (nth a1 J)) < 0)) || (decide ((Zg a0.Frame.ZD (nth a1 J)) >= (a0.YG.length : Int)))) || ((decide ((J : Int) > 0)) && (decide ((nth a1 (J - 1)) >= (nth a1 J))))) then (.inl false) else (bif ((decide ((Z0 a0.Frame.Zk (nth a0.Frame.ZD (Zg a0.Frame.ZD (nth a1 J)).toNat).Key) < 0)) || (decide ((nth a0.Frame.Zk (Z0 a0.Frame.Zk (nth a0.Frame.ZD (Zg a0.Frame.ZD (nth a1 J)).toNat).Key).toNat).qN > a0.Frame.Now))) then (.inl false) else zp a0 a1 n1 (J + 1))) else (.inr ()))
def J4 (a0 : ZH) (a1 : List Int) : Bool := (match zp a0 a1 (a1.length + 1) 0 with | .inl r1 => r1 | .inr _ => (decide ((a1.length : Int) > 0)))
def Kv (a0 : Zi) (a1 : Zd) : Nat -> List Int -> Nat -> (List Int)
  | 0, _, _ => default
  | n1 + 1, J, U => (bif (decide ((U : Int) < (a0.Zj.length : Int))) then Kv a0 a1 n1 (J ++ ([(Qi (nth a0.Zj U).Method a1)] : List Int)) (U + 1) else (J))
def JM (a0 : Zi) (a1 : Zd) : List Int := (match Kv a0 a1 (a0.Zj.length + 1) ([] : List Int) 0 with | z1_0 => z1_0)
def JU (a0 : Zo) : List Int := ([103, a0.Authority, a0.Seq, a0.Time, a0.XJ] : List Int)
def J9 (a1 : Zc) : Nat -> List Int -> Nat -> (List Int)
  | 0, _, _ => default
  | n2 + 1, uE, uR => (bif (decide ((uR : Int) < (a1.Xe.length : Int))) then J9 a1 n2 ((uE ++ (JU (nth a1.Xe uR))) ++ ([(nth a1.Xe uR).Mark] : List Int)) (uR + 1) else (uE))
def Q7 (a1 : Zc) : Nat -> List Int -> Nat -> (List Int)
  | 0, _, _ => default
  | n1 + 1, J, U => (bif (decide ((U : Int) < (a1.Path.length : Int))) then (bif (nth a1.Path U).Left then Q7 a1 n1 ((J ++ ([(nth a1.Path U).XJ] : List Int)) ++ ([1] : List Int)) (U + 1) else Q7 a1 n1 ((J ++ ([(nth a1.Path U).XJ] : List Int)) ++ ([0] : List Int)) (U + 1)) else (J))
def Ju (a0 : Int) (a1 : Zc) : Int := (match Q7 a1 (a1.Path.length + 1) ([4, a1.Count, a1.Method, a1.GB] : List Int) 0 with | z1_0 => (match J9 a1 (a1.Xe.length + 1) (z1_0 ++ ([(a1.Xe.length : Int)] : List Int)) 0 with | z2_0 => (Jg a0 z2_0)))
def Kk (a0 : Int) (a1 : List Zf) : Nat -> List Int -> Nat -> (List Int)
  | 0, _, _ => default
  | n1 + 1, J, U => (bif (decide ((U : Int) < (a1.length : Int))) then Kk a0 a1 n1 (J ++ ([(Jg a0 (([(nth a1 U).Key, (nth a1 U).Mark] : List Int) ++ (nth a1 U).Y0))] : List Int)) (U + 1) else (J))
def Kf (a0 : Int) (a1 : List Zf) : Int := (match Kk a0 a1 (a1.length + 1) ([2] : List Int) 0 with | z1_0 => (Jg a0 z1_0))
def Wj (a0 : Int) (a1 : Int) (a2 : List Zf) (a3 : Int) : Int := (Jg a0 ([3, a1, (Kf a0 a2), a3] : List Int))
def UP (a0 : Zi) (a1 : List Int) (a2 : Int) : Int := (bif (((!(Z8 a2 0 (W ((a0.Zj.length : Int) - 1)))) || ((a1.length : Int) != (a0.Zj.length : Int))) || (!(Z8 (nth a0.Zj a2.toNat).Count 0 (a0.ZO.length : Int)))) then (-1) else (bif (decide (a2 > 0)) then (Wj (nth a0.Zj a2.toNat).Method (nth a1 a2.toNat) (a0.ZO.take (nth a0.Zj a2.toNat).Count.toNat) (Ju (nth a0.Zj a2.toNat).Method (nth a0.Zj (W (a2 - 1)).toNat))) else (Wj (nth a0.Zj a2.toNat).Method (nth a1 a2.toNat) (a0.ZO.take (nth a0.Zj a2.toNat).Count.toNat) 0)))
def zK (a0 : ZF) (a1 : Int) : Nat -> List Int -> Nat -> (List Int)
  | 0, _, _ => default
  | n1 + 1, J, U => (bif (decide ((U : Int) < (a0.ZC.length : Int))) then zK a0 a1 n1 (J ++ ([(UP (Zi.mk (nth a0.ZC U).ZM.ZO ((nth a0.ZC U).ZM.Zj ++ ([(Zc.mk ((nth a0.ZC U).ZM.ZO.length : Int) a1 0 ([] : List X4) ([] : List Zo))] : List Zc))) (JM (Zi.mk (nth a0.ZC U).ZM.ZO ((nth a0.ZC U).ZM.Zj ++ ([(Zc.mk ((nth a0.ZC U).ZM.ZO.length : Int) a1 0 ([] : List X4) ([] : List Zo))] : List Zc))) (nth a0.ZC U).Doc) (W ((((nth a0.ZC U).ZM.Zj ++ ([(Zc.mk ((nth a0.ZC U).ZM.ZO.length : Int) a1 0 ([] : List X4) ([] : List Zo))] : List Zc)).length : Int) - 1)))] : List Int)) (U + 1) else (J))
def Yw (a0 : ZF) (a1 : Int) : List Int := (match zK a0 a1 (a0.ZC.length + 1) ([] : List Int) 0 with | z1_0 => z1_0)
def xV (a0 : Int) (a1 : Int) (a2 : Int) : Int := (Jg a0 ([1, a1, a2] : List Int))
def yQ (a0 : Int) (a1 : List Int) : Nat -> List Int -> Nat -> (List Int)
  | 0, _, _ => default
  | n1 + 1, J, U => (bif (decide ((U : Int) < (a1.length : Int))) then (bif (decide ((W ((U : Int) + 1)) < (a1.length : Int))) then yQ a0 a1 n1 (J ++ ([(xV a0 (nth a1 U) (nth a1 (W ((U : Int) + 1)).toNat))] : List Int)) (U + 2) else yQ a0 a1 n1 (J ++ ([(nth a1 U)] : List Int)) (U + 2)) else (J))
def qa (a0 : Int) (a1 : List Int) : List Int := (match yQ a0 a1 (a1.length + 1) ([] : List Int) 0 with | z1_0 => z1_0)
def xP (a0 : Int) : Nat -> List Int -> (List Int)
  | 0, _ => default
  | n1 + 1, J => (bif (decide ((J.length : Int) > 1)) then xP a0 n1 (qa a0 J) else (J))
def Jj (a0 : Int) (a1 : List Int) : Int := (bif (!(Z8 (a1.length : Int) 1 16)) then (-1) else (match xP a0 (a1.length + 1) a1 with | z1_0 => (nth z1_0 0)))
def Kq (a0 : ZF) (a1 : Int) : Int := (Jj a1 (Yw a0 a1))
def Uq (a0 : List Int) (a1 : Int) : Nat -> Nat -> Sum Bool Unit
  | 0, _ => .inr ()
  | n1 + 1, J => (bif (decide ((J : Int) < (a0.length : Int))) then (bif ((nth a0 J) == a1) then (.inl true) else Uq a0 a1 n1 (J + 1)) else (.inr ()))
def On (a0 : List Int) (a1 : Int) : Bool := (match Uq a0 a1 (a0.length + 1) 0 with | .inl r1 => r1 | .inr _ => false)
def KB (a0 : List Y4) (a1 : List Zr) (a2 : Zo) : Zo × Bool := (bif (((decide ((Zg a1 a2.Authority) < 0)) || (decide (a2.Seq < 0))) || (!(qq a2.Time))) then ((Zo.mk 0 0 0 0 0), false) else (bif (decide ((Z0 a0 (nth a1 (Zg a1 a2.Authority).toNat).Key) < 0)) then ((Zo.mk 0 0 0 0 0), false) else ((Zo.mk a2.Authority a2.Seq a2.Time a2.XJ (zu (nth a0 (Z0 a0 (nth a1 (Zg a1 a2.Authority).toNat).Key).toNat) (JU a2))), true)))
def JO (a0 : Int) : Nat -> Int -> List X4 -> List Int -> (List X4)
  | 0, _, _, _ => default
  | n1 + 1, J, U, v9 => (bif (decide ((v9.length : Int) > 1)) then (bif ((Int.tmod J 2) == 1) then JO a0 n1 (W (Int.tdiv J 2)) (U ++ ([(X4.mk (nth v9 (W (J - 1)).toNat) true)] : List X4)) (qa a0 v9) else (bif (decide ((W (J + 1)) < (v9.length : Int))) then JO a0 n1 (W (Int.tdiv J 2)) (U ++ ([(X4.mk (nth v9 (W (J + 1)).toNat) false)] : List X4)) (qa a0 v9) else JO a0 n1 (W (Int.tdiv J 2)) U (qa a0 v9))) else (U))
def Jk (a0 : Int) (a1 : List Int) (a2 : Int) : List X4 := (bif ((decide ((a1.length : Int) > 16)) || (!(Z8 a2 0 (W ((a1.length : Int) - 1))))) then ([] : List X4) else (match JO a0 (a1.length + 1) a2 ([] : List X4) a1 with | z1_0 => z1_0))
def QY (a0 : Zi) (a1 : Zc) : Zi × Bool := (bif (!(K4 (Zi.mk a0.ZO (a0.Zj ++ ([a1] : List Zc))))) then (a0, false) else ((Zi.mk a0.ZO (a0.Zj ++ ([a1] : List Zc))), true))
def XM (a0 : ZF) (a1 : Int) (a2 : List Zo) : Nat -> Bool -> Nat -> List ZZ -> Bool × (List ZZ)
  | 0, _, _, _ => (default, default)
  | n1 + 1, J, U, v9 => (bif ((decide ((U : Int) < (a0.ZC.length : Int))) && J) then XM a0 a1 a2 n1 (QY (nth a0.ZC U).ZM (Zc.mk ((nth a0.ZC U).ZM.ZO.length : Int) a1 (Jj a1 (Yw a0 a1)) (Jk a1 (Yw a0 a1) (U : Int)) a2)).2 (U + 1) (v9.set U (ZZ.mk (nth v9 U).Id (nth v9 U).Y9 (nth v9 U).Doc (nth v9 U).Sig (QY (nth a0.ZC U).ZM (Zc.mk ((nth a0.ZC U).ZM.ZO.length : Int) a1 (Jj a1 (Yw a0 a1)) (Jk a1 (Yw a0 a1) (U : Int)) a2)).1)) else ((J, v9)))
def XV (a0 : ZF) (a1 : Int) (a2 : List Zo) : ZF × Bool := (match XM a0 a1 a2 (a0.ZC.length + 1) ((Xm a0) && (decide ((a0.ZC.length : Int) > 0))) 0 a0.ZC with | (z1_0, z1_1) => (bif ((!z1_0) || (!(Xm (ZF.mk a0.Id z1_1)))) then (a0, false) else ((ZF.mk a0.Id z1_1), true)))
def KL (a0 : ZH) (a2 : List Int) : Nat -> Nat -> List Int -> (List Int)
  | 0, _, _ => default
  | n2 + 1, uE, uR => (bif (decide ((uE : Int) < (a2.length : Int))) then KL a0 a2 n2 (uE + 1) (uR.set (Zg a0.Frame.ZD (nth a2 uE)).toNat (W ((nth a0.YG (Zg a0.Frame.ZD (nth a2 uE)).toNat) + 1))) else (uR))
def Xs (a0 : ZH) (a1 : Int) (a2 : List Int) (a3 : Int) : Nat -> List Zo -> Nat -> Sum (ZH × Bool) (List Zo)
  | 0, _, _ => .inr default
  | n1 + 1, J, U => (bif (decide ((U : Int) < (a2.length : Int))) then (bif (On a0.YW (nth a2 U)) then (bif (!(KB a0.Frame.Zk a0.Frame.ZD (Zo.mk (nth a2 U) (nth a0.YG (Zg a0.Frame.ZD (nth a2 U)).toNat) (qo 10000 (zG 0 (W (a0.Frame.Now + a3)))) (Kq (nth a0.ZA a1.toNat) (Z4 a0.Frame.Methods a0.Frame.Now)) 0)).2) then (.inl (a0, false)) else Xs a0 a1 a2 a3 n1 (J ++ ([(KB a0.Frame.Zk a0.Frame.ZD (Zo.mk (nth a2 U) (nth a0.YG (Zg a0.Frame.ZD (nth a2 U)).toNat) (qo 10000 (zG 0 (W (a0.Frame.Now + a3)))) (Kq (nth a0.ZA a1.toNat) (Z4 a0.Frame.Methods a0.Frame.Now)) 0)).1] : List Zo)) (U + 1)) else (bif (!(KB a0.Frame.Zk a0.Frame.ZD (Zo.mk (nth a2 U) (nth a0.YG (Zg a0.Frame.ZD (nth a2 U)).toNat) a0.Frame.Now (Kq (nth a0.ZA a1.toNat) (Z4 a0.Frame.Methods a0.Frame.Now)) 0)).2) then (.inl (a0, false)) else Xs a0 a1 a2 a3 n1 (J ++ ([(KB a0.Frame.Zk a0.Frame.ZD (Zo.mk (nth a2 U) (nth a0.YG (Zg a0.Frame.ZD (nth a2 U)).toNat) a0.Frame.Now (Kq (nth a0.ZA a1.toNat) (Z4 a0.Frame.Methods a0.Frame.Now)) 0)).1] : List Zo)) (U + 1))) else (.inr J))
def Yu (a0 : ZH) (a1 : Int) (a2 : List Int) (a3 : Int) : ZH × Bool := (bif ((((!(Kt a0 a1)) || (decide ((Z4 a0.Frame.Methods a0.Frame.Now) < 0))) || (!(J4 a0 a2))) || (!(Z8 a3 (-10000) 10000))) then (a0, false) else (match Xs a0 a1 a2 a3 (a2.length + 1) ([] : List Zo) 0 with | .inl r1 => r1 | .inr z1_0 => (bif (!(XV (nth a0.ZA a1.toNat) (Z4 a0.Frame.Methods a0.Frame.Now) z1_0).2) then (a0, false) else (match KL a0 a2 (a2.length + 1) 0 a0.YG with | z2_0 => ((ZH.mk a0.Frame a0.ZR a0.Zu (a0.ZA.set a1.toNat (XV (nth a0.ZA a1.toNat) (Z4 a0.Frame.Methods a0.Frame.Now) z1_0).1) z2_0 a0.YW a0.Next a0.Yk), true)))))
def z8 : Nat -> Int -> List UInt8 -> Nat -> Int -> List Y4 -> List Zr -> List YH -> Int -> Int -> List Ye -> List Int -> List ZF -> List Int -> List Int -> Int -> List Int -> (List UInt8) × Nat × Int × (List Y4) × (List Zr) × (List YH) × Int × Int × (List Ye) × (List Int) × (List ZF) × (List Int) × (List Int) × Int × (List Int)
  | 0, _, _, _, _, _, _, _, _, _, _, _, _, _, _, _, _ => (default, default, default, default, default, default, default, default, default, default, default, default, default, default, default)
  | n1 + 1, J, U, v9, uB, ui, uy, uz, u5, u6, u3, uY, uZ, ua, uc, ue, ud => (bif (decide (J > 0)) then z8 n1 (W (J - 1)) (ZJ (ZJ (ZJ (ZT (ZJ (ZB (ZS.mk U v9 uB) 2).1 ([11, 11, 12, 13] : List Int)).1).1 ([30, 10000] : List Int)).1 ([0, 5, 20] : List Int)).1 ([0, (-5), 30] : List Int)).1.b (ZJ (ZJ (ZJ (ZT (ZJ (ZB (ZS.mk U v9 uB) 2).1 ([11, 11, 12, 13] : List Int)).1).1 ([30, 10000] : List Int)).1 ([0, 5, 20] : List Int)).1 ([0, (-5), 30] : List Int)).1.i (ZJ (ZJ (ZJ (ZT (ZJ (ZB (ZS.mk U v9 uB) 2).1 ([11, 11, 12, 13] : List Int)).1).1 ([30, 10000] : List Int)).1 ([0, 5, 20] : List Int)).1 ([0, (-5), 30] : List Int)).1.h (Yu (Z9 (Zw (Z3 (ZH.mk (Zv.mk ui uy uz u5 u6) u3 uY uZ ua uc ue ud) (ZB (ZS.mk U v9 uB) 2).2 (ZJ (ZB (ZS.mk U v9 uB) 2).1 ([11, 11, 12, 13] : List Int)).2 (ZT (ZJ (ZB (ZS.mk U v9 uB) 2).1 ([11, 11, 12, 13] : List Int)).1).2 0 (ZJ (ZT (ZJ (ZB (ZS.mk U v9 uB) 2).1 ([11, 11, 12, 13] : List Int)).1).1 ([30, 10000] : List Int)).2).1 1).1 (ZJ (ZJ (ZT (ZJ (ZB (ZS.mk U v9 uB) 2).1 ([11, 11, 12, 13] : List Int)).1).1 ([30, 10000] : List Int)).1 ([0, 5, 20] : List Int)).2).1 0 (Z5 (Z9 (Zw (Z3 (ZH.mk (Zv.mk ui uy uz u5 u6) u3 uY uZ ua uc ue ud) (ZB (ZS.mk U v9 uB) 2).2 (ZJ (ZB (ZS.mk U v9 uB) 2).1 ([11, 11, 12, 13] : List Int)).2 (ZT (ZJ (ZB (ZS.mk U v9 uB) 2).1 ([11, 11, 12, 13] : List Int)).1).2 0 (ZJ (ZT (ZJ (ZB (ZS.mk U v9 uB) 2).1 ([11, 11, 12, 13] : List Int)).1).1 ([30, 10000] : List Int)).2).1 1).1 (ZJ (ZJ (ZT (ZJ (ZB (ZS.mk U v9 uB) 2).1 ([11, 11, 12, 13] : List Int)).1).1 ([30, 10000] : List Int)).1 ([0, 5, 20] : List Int)).2).1.Frame) (ZJ (ZJ (ZJ (ZT (ZJ (ZB (ZS.mk U v9 uB) 2).1 ([11, 11, 12, 13] : List Int)).1).1 ([30, 10000] : List Int)).1 ([0, 5, 20] : List Int)).1 ([0, (-5), 30] : List Int)).2).1.Frame.Zk (Yu (Z9 (Zw (Z3 (ZH.mk (Zv.mk ui uy uz u5 u6) u3 uY uZ ua uc ue ud) (ZB (ZS.mk U v9 uB) 2).2 (ZJ (ZB (ZS.mk U v9 uB) 2).1 ([11, 11, 12, 13] : List Int)).2 (ZT (ZJ (ZB (ZS.mk U v9 uB) 2).1 ([11, 11, 12, 13] : List Int)).1).2 0 (ZJ (ZT (ZJ (ZB (ZS.mk U v9 uB) 2).1 ([11, 11, 12, 13] : List Int)).1).1 ([30, 10000] : List Int)).2).1 1).1 (ZJ (ZJ (ZT (ZJ (ZB (ZS.mk U v9 uB) 2).1 ([11, 11, 12, 13] : List Int)).1).1 ([30, 10000] : List Int)).1 ([0, 5, 20] : List Int)).2).1 0 (Z5 (Z9 (Zw (Z3 (ZH.mk (Zv.mk ui uy uz u5 u6) u3 uY uZ ua uc ue ud) (ZB (ZS.mk U v9 uB) 2).2 (ZJ (ZB (ZS.mk U v9 uB) 2).1 ([11, 11, 12, 13] : List Int)).2 (ZT (ZJ (ZB (ZS.mk U v9 uB) 2).1 ([11, 11, 12, 13] : List Int)).1).2 0 (ZJ (ZT (ZJ (ZB (ZS.mk U v9 uB) 2).1 ([11, 11, 12, 13] : List Int)).1).1 ([30, 10000] : List Int)).2).1 1).1 (ZJ (ZJ (ZT (ZJ (ZB (ZS.mk U v9 uB) 2).1 ([11, 11, 12, 13] : List Int)).1).1 ([30, 10000] : List Int)).1 ([0, 5, 20] : List Int)).2).1.Frame) (ZJ (ZJ (ZJ (ZT (ZJ (ZB (ZS.mk U v9 uB) 2).1 ([11, 11, 12, 13] : List Int)).1).1 ([30, 10000] : List Int)).1 ([0, 5, 20] : List Int)).1 ([0, (-5), 30] : List Int)).2).1.Frame.ZD (Yu (Z9 (Zw (Z3 (ZH.mk (Zv.mk ui uy uz u5 u6) u3 uY uZ ua uc ue ud) (ZB (ZS.mk U v9 uB) 2).2 (ZJ (ZB (ZS.mk U v9 uB) 2).1 ([11, 11, 12, 13] : List Int)).2 (ZT (ZJ (ZB (ZS.mk U v9 uB) 2).1 ([11, 11, 12, 13] : List Int)).1).2 0 (ZJ (ZT (ZJ (ZB (ZS.mk U v9 uB) 2).1 ([11, 11, 12, 13] : List Int)).1).1 ([30, 10000] : List Int)).2).1 1).1 (ZJ (ZJ (ZT (ZJ (ZB (ZS.mk U v9 uB) 2).1 ([11, 11, 12, 13] : List Int)).1).1 ([30, 10000] : List Int)).1 ([0, 5, 20] : List Int)).2).1 0 (Z5 (Z9 (Zw (Z3 (ZH.mk (Zv.mk ui uy uz u5 u6) u3 uY uZ ua uc ue ud) (ZB (ZS.mk U v9 uB) 2).2 (ZJ (ZB (ZS.mk U v9 uB) 2).1 ([11, 11, 12, 13] : List Int)).2 (ZT (ZJ (ZB (ZS.mk U v9 uB) 2).1 ([11, 11, 12, 13] : List Int)).1).2 0 (ZJ (ZT (ZJ (ZB (ZS.mk U v9 uB) 2).1 ([11, 11, 12, 13] : List Int)).1).1 ([30, 10000] : List Int)).2).1 1).1 (ZJ (ZJ (ZT (ZJ (ZB (ZS.mk U v9 uB) 2).1 ([11, 11, 12, 13] : List Int)).1).1 ([30, 10000] : List Int)).1 ([0, 5, 20] : List Int)).2).1.Frame) (ZJ (ZJ (ZJ (ZT (ZJ (ZB (ZS.mk U v9 uB) 2).1 ([11, 11, 12, 13] : List Int)).1).1 ([30, 10000] : List Int)).1 ([0, 5, 20] : List Int)).1 ([0, (-5), 30] : List Int)).2).1.Frame.Methods (Yu (Z9 (Zw (Z3 (ZH.mk (Zv.mk ui uy uz u5 u6) u3 uY uZ ua uc ue ud) (ZB (ZS.mk U v9 uB) 2).2 (ZJ (ZB (ZS.mk U v9 uB) 2).1 ([11, 11, 12, 13] : List Int)).2 (ZT (ZJ (ZB (ZS.mk U v9 uB) 2).1 ([11, 11, 12, 13] : List Int)).1).2 0 (ZJ (ZT (ZJ (ZB (ZS.mk U v9 uB) 2).1 ([11, 11, 12, 13] : List Int)).1).1 ([30, 10000] : List Int)).2).1 1).1 (ZJ (ZJ (ZT (ZJ (ZB (ZS.mk U v9 uB) 2).1 ([11, 11, 12, 13] : List Int)).1).1 ([30, 10000] : List Int)).1 ([0, 5, 20] : List Int)).2).1 0 (Z5 (Z9 (Zw (Z3 (ZH.mk (Zv.mk ui uy uz u5 u6) u3 uY uZ ua uc ue ud) (ZB (ZS.mk U v9 uB) 2).2 (ZJ (ZB (ZS.mk U v9 uB) 2).1 ([11, 11, 12, 13] : List Int)).2 (ZT (ZJ (ZB (ZS.mk U v9 uB) 2).1 ([11, 11, 12, 13] : List Int)).1).2 0 (ZJ (ZT (ZJ (ZB (ZS.mk U v9 uB) 2).1 ([11, 11, 12, 13] : List Int)).1).1 ([30, 10000] : List Int)).2).1 1).1 (ZJ (ZJ (ZT (ZJ (ZB (ZS.mk U v9 uB) 2).1 ([11, 11, 12, 13] : List Int)).1).1 ([30, 10000] : List Int)).1 ([0, 5, 20] : List Int)).2).1.Frame) (ZJ (ZJ (ZJ (ZT (ZJ (ZB (ZS.mk U v9 uB) 2).1 ([11, 11, 12, 13] : List Int)).1).1 ([30, 10000] : List Int)).1 ([0, 5, 20] : List Int)).1 ([0, (-5), 30] : List Int)).2).1.Frame.Ky (Yu (Z9 (Zw (Z3 (ZH.mk (Zv.mk ui uy uz u5 u6) u3 uY uZ ua uc ue ud) (ZB (ZS.mk U v9 uB) 2).2 (ZJ (ZB (ZS.mk U v9 uB) 2).1 ([11, 11, 12, 13] : List Int)).2 (ZT (ZJ (ZB (ZS.mk U v9 uB) 2).1 ([11, 11, 12, 13] : List Int)).1).2 0 (ZJ (ZT (ZJ (ZB (ZS.mk U v9 uB) 2).1 ([11, 11, 12, 13] : List Int)).1).1 ([30, 10000] : List Int)).2).1 1).1 (ZJ (ZJ (ZT (ZJ (ZB (ZS.mk U v9 uB) 2).1 ([11, 11, 12, 13] : List Int)).1).1 ([30, 10000] : List Int)).1 ([0, 5, 20] : List Int)).2).1 0 (Z5 (Z9 (Zw (Z3 (ZH.mk (Zv.mk ui uy uz u5 u6) u3 uY uZ ua uc ue ud) (ZB (ZS.mk U v9 uB) 2).2 (ZJ (ZB (ZS.mk U v9 uB) 2).1 ([11, 11, 12, 13] : List Int)).2 (ZT (ZJ (ZB (ZS.mk U v9 uB) 2).1 ([11, 11, 12, 13] : List Int)).1).2 0 (ZJ (ZT (ZJ (ZB (ZS.mk U v9 uB) 2).1 ([11, 11, 12, 13] : List Int)).1).1 ([30, 10000] : List Int)).2).1 1).1 (ZJ (ZJ (ZT (ZJ (ZB (ZS.mk U v9 uB) 2).1 ([11, 11, 12, 13] : List Int)).1).1 ([30, 10000] : List Int)).1 ([0, 5, 20] : List Int)).2).1.Frame) (ZJ (ZJ (ZJ (ZT (ZJ (ZB (ZS.mk U v9 uB) 2).1 ([11, 11, 12, 13] : List Int)).1).1 ([30, 10000] : List Int)).1 ([0, 5, 20] : List Int)).1 ([0, (-5), 30] : List Int)).2).1.Frame.Now (Yu (Z9 (Zw (Z3 (ZH.mk (Zv.mk ui uy uz u5 u6) u3 uY uZ ua uc ue ud) (ZB (ZS.mk U v9 uB) 2).2 (ZJ (ZB (ZS.mk U v9 uB) 2).1 ([11, 11, 12, 13] : List Int)).2 (ZT (ZJ (ZB (ZS.mk U v9 uB) 2).1 ([11, 11, 12, 13] : List Int)).1).2 0 (ZJ (ZT (ZJ (ZB (ZS.mk U v9 uB) 2).1 ([11, 11, 12, 13] : List Int)).1).1 ([30, 10000] : List Int)).2).1 1).1 (ZJ (ZJ (ZT (ZJ (ZB (ZS.mk U v9 uB) 2).1 ([11, 11, 12, 13] : List Int)).1).1 ([30, 10000] : List Int)).1 ([0, 5, 20] : List Int)).2).1 0 (Z5 (Z9 (Zw (Z3 (ZH.mk (Zv.mk ui uy uz u5 u6) u3 uY uZ ua uc ue ud) (ZB (ZS.mk U v9 uB) 2).2 (ZJ (ZB (ZS.mk U v9 uB) 2).1 ([11, 11, 12, 13] : List Int)).2 (ZT (ZJ (ZB (ZS.mk U v9 uB) 2).1 ([11, 11, 12, 13] : List Int)).1).2 0 (ZJ (ZT (ZJ (ZB (ZS.mk U v9 uB) 2).1 ([11, 11, 12, 13] : List Int)).1).1 ([30, 10000] : List Int)).2).1 1).1 (ZJ (ZJ (ZT (ZJ (ZB (ZS.mk U v9 uB) 2).1 ([11, 11, 12, 13] : List Int)).1).1 ([30, 10000] : List Int)).1 ([0, 5, 20] : List Int)).2).1.Frame) (ZJ (ZJ (ZJ (ZT (ZJ (ZB (ZS.mk U v9 uB) 2).1 ([11, 11, 12, 13] : List Int)).1).1 ([30, 10000] : List Int)).1 ([0, 5, 20] : List Int)).1 ([0, (-5), 30] : List Int)).2).1.ZR (Yu (Z9 (Zw (Z3 (ZH.mk (Zv.mk ui uy uz u5 u6) u3 uY uZ ua uc ue ud) (ZB (ZS.mk U v9 uB) 2).2 (ZJ (ZB (ZS.mk U v9 uB) 2).1 ([11, 11, 12, 13] : List Int)).2 (ZT (ZJ (ZB (ZS.mk U v9 uB) 2).1 ([11, 11, 12, 13] : List Int)).1).2 0 (ZJ (ZT (ZJ (ZB (ZS.mk U v9 uB) 2).1 ([11, 11, 12, 13] : List Int)).1).1 ([30, 10000] : List Int)).2).1 1).1 (ZJ (ZJ (ZT (ZJ (ZB (ZS.mk U v9 uB) 2).1 ([11, 11, 12, 13] : List Int)).1).1 ([30, 10000] : List Int)).1 ([0, 5, 20] : List Int)).2).1 0 (Z5 (Z9 (Zw (Z3 (ZH.mk (Zv.mk ui uy uz u5 u6) u3 uY uZ ua uc ue ud) (ZB (ZS.mk U v9 uB) 2).2 (ZJ (ZB (ZS.mk U v9 uB) 2).1 ([11, 11, 12, 13] : List Int)).2 (ZT (ZJ (ZB (ZS.mk U v9 uB) 2).1 ([11, 11, 12, 13] : List Int)).1).2 0 (ZJ (ZT (ZJ (ZB (ZS.mk U v9 uB) 2).1 ([11, 11, 12, 13] : List Int)).1).1 ([30, 10000] : List Int)).2).1 1).1 (ZJ (ZJ (ZT (ZJ (ZB (ZS.mk U v9 uB) 2).1 ([11, 11, 12, 13] : List Int)).1).1 ([30, 10000] : List Int)).1 ([0, 5, 20] : List Int)).2).1.Frame) (ZJ (ZJ (ZJ (ZT (ZJ (ZB (ZS.mk U v9 uB) 2).1 ([11, 11, 12, 13] : List Int)).1).1 ([30, 10000] : List Int)).1 ([0, 5, 20] : List Int)).1 ([0, (-5), 30] : List Int)).2).1.Zu (Yu (Z9 (Zw (Z3 (ZH.mk (Zv.mk ui uy uz u5 u6) u3 uY uZ ua uc ue ud) (ZB (ZS.mk U v9 uB) 2).2 (ZJ (ZB (ZS.mk U v9 uB) 2).1 ([11, 11, 12, 13] : List Int)).2 (ZT (ZJ (ZB (ZS.mk U v9 uB) 2).1 ([11, 11, 12, 13] : List Int)).1).2 0 (ZJ (ZT (ZJ (ZB (ZS.mk U v9 uB) 2).1 ([11, 11, 12, 13] : List Int)).1).1 ([30, 10000] : List Int)).2).1 1).1 (ZJ (ZJ (ZT (ZJ (ZB (ZS.mk U v9 uB) 2).1 ([11, 11, 12, 13] : List Int)).1).1 ([30, 10000] : List Int)).1 ([0, 5, 20] : List Int)).2).1 0 (Z5 (Z9 (Zw (Z3 (ZH.mk (Zv.mk ui uy uz u5 u6) u3 uY uZ ua uc ue ud) (ZB (ZS.mk U v9 uB) 2).2 (ZJ (ZB (ZS.mk U v9 uB) 2).1 ([11, 11, 12, 13] : List Int)).2 (ZT (ZJ (ZB (ZS.mk U v9 uB) 2).1 ([11, 11, 12, 13] : List Int)).1).2 0 (ZJ (ZT (ZJ (ZB (ZS.mk U v9 uB) 2).1 ([11, 11, 12, 13] : List Int)).1).1 ([30, 10000] : List Int)).2).1 1).1 (ZJ (ZJ (ZT (ZJ (ZB (ZS.mk U v9 uB) 2).1 ([11, 11, 12, 13] : List Int)).1).1 ([30, 10000] : List Int)).1 ([0, 5, 20] : List Int)).2).1.Frame) (ZJ (ZJ (ZJ (ZT (ZJ (ZB (ZS.mk U v9 uB) 2).1 ([11, 11, 12, 13] : List Int)).1).1 ([30, 10000] : List Int)).1 ([0, 5, 20] : List Int)).1 ([0, (-5), 30] : List Int)).2).1.ZA (Yu (Z9 (Zw (Z3 (ZH.mk (Zv.mk ui uy uz u5 u6) u3 uY uZ ua uc ue ud) (ZB (ZS.mk U v9 uB) 2).2 (ZJ (ZB (ZS.mk U v9 uB) 2).1 ([11, 11, 12, 13] : List Int)).2 (ZT (ZJ (ZB (ZS.mk U v9 uB) 2).1 ([11, 11, 12, 13] : List Int)).1).2 0 (ZJ (ZT (ZJ (ZB (ZS.mk U v9 uB) 2).1 ([11, 11, 12, 13] : List Int)).1).1 ([30, 10000] : List Int)).2).1 1).1 (ZJ (ZJ (ZT (ZJ (ZB (ZS.mk U v9 uB) 2).1 ([11, 11, 12, 13] : List Int)).1).1 ([30, 10000] : List Int)).1 ([0, 5, 20] : List Int)).2).1 0 (Z5 (Z9 (Zw (Z3 (ZH.mk (Zv.mk ui uy uz u5 u6) u3 uY uZ ua uc ue ud) (ZB (ZS.mk U v9 uB) 2).2 (ZJ (ZB (ZS.mk U v9 uB) 2).1 ([11, 11, 12, 13] : List Int)).2 (ZT (ZJ (ZB (ZS.mk U v9 uB) 2).1 ([11, 11, 12, 13] : List Int)).1).2 0 (ZJ (ZT (ZJ (ZB (ZS.mk U v9 uB) 2).1 ([11, 11, 12, 13] : List Int)).1).1 ([30, 10000] : List Int)).2).1 1).1 (ZJ (ZJ (ZT (ZJ (ZB (ZS.mk U v9 uB) 2).1 ([11, 11, 12, 13] : List Int)).1).1 ([30, 10000] : List Int)).1 ([0, 5, 20] : List Int)).2).1.Frame) (ZJ (ZJ (ZJ (ZT (ZJ (ZB (ZS.mk U v9 uB) 2).1 ([11, 11, 12, 13] : List Int)).1).1 ([30, 10000] : List Int)).1 ([0, 5, 20] : List Int)).1 ([0, (-5), 30] : List Int)).2).1.YG (Yu (Z9 (Zw (Z3 (ZH.mk (Zv.mk ui uy uz u5 u6) u3 uY uZ ua uc ue ud) (ZB (ZS.mk U v9 uB) 2).2 (ZJ (ZB (ZS.mk U v9 uB) 2).1 ([11, 11, 12, 13] : List Int)).2 (ZT (ZJ (ZB (ZS.mk U v9 uB) 2).1 ([11, 11, 12, 13] : List Int)).1).2 0 (ZJ (ZT (ZJ (ZB (ZS.mk U v9 uB) 2).1 ([11, 11, 12, 13] : List Int)).1).1 ([30, 10000] : List Int)).2).1 1).1 (ZJ (ZJ (ZT (ZJ (ZB (ZS.mk U v9 uB) 2).1 ([11, 11, 12, 13] : List Int)).1).1 ([30, 10000] : List Int)).1 ([0, 5, 20] : List Int)).2).1 0 (Z5 (Z9 (Zw (Z3 (ZH.mk (Zv.mk ui uy uz u5 u6) u3 uY uZ ua uc ue ud) (ZB (ZS.mk U v9 uB) 2).2 (ZJ (ZB (ZS.mk U v9 uB) 2).1 ([11, 11, 12, 13] : List Int)).2 (ZT (ZJ (ZB (ZS.mk U v9 uB) 2).1 ([11, 11, 12, 13] : List Int)).1).2 0 (ZJ (ZT (ZJ (ZB (ZS.mk U v9 uB) 2).1 ([11, 11, 12, 13] : List Int)).1).1 ([30, 10000] : List Int)).2).1 1).1 (ZJ (ZJ (ZT (ZJ (ZB (ZS.mk U v9 uB) 2).1 ([11, 11, 12, 13] : List Int)).1).1 ([30, 10000] : List Int)).1 ([0, 5, 20] : List Int)).2).1.Frame) (ZJ (ZJ (ZJ (ZT (ZJ (ZB (ZS.mk U v9 uB) 2).1 ([11, 11, 12, 13] : List Int)).1).1 ([30, 10000] : List Int)).1 ([0, 5, 20] : List Int)).1 ([0, (-5), 30] : List Int)).2).1.YW (Yu (Z9 (Zw (Z3 (ZH.mk (Zv.mk ui uy uz u5 u6) u3 uY uZ ua uc ue ud) (ZB (ZS.mk U v9 uB) 2).2 (ZJ (ZB (ZS.mk U v9 uB) 2).1 ([11, 11, 12, 13] : List Int)).2 (ZT (ZJ (ZB (ZS.mk U v9 uB) 2).1 ([11, 11, 12, 13] : List Int)).1).2 0 (ZJ (ZT (ZJ (ZB (ZS.mk U v9 uB) 2).1 ([11, 11, 12, 13] : List Int)).1).1 ([30, 10000] : List Int)).2).1 1).1 (ZJ (ZJ (ZT (ZJ (ZB (ZS.mk U v9 uB) 2).1 ([11, 11, 12, 13] : List Int)).1).1 ([30, 10000] : List Int)).1 ([0, 5, 20] : List Int)).2).1 0 (Z5 (Z9 (Zw (Z3 (ZH.mk (Zv.mk ui uy uz u5 u6) u3 uY uZ ua uc ue ud) (ZB (ZS.mk U v9 uB) 2).2 (ZJ (ZB (ZS.mk U v9 uB) 2).1 ([11, 11, 12, 13] : List Int)).2 (ZT (ZJ (ZB (ZS.mk U v9 uB) 2).1 ([11, 11, 12, 13] : List Int)).1).2 0 (ZJ (ZT (ZJ (ZB (ZS.mk U v9 uB) 2).1 ([11, 11, 12, 13] : List Int)).1).1 ([30, 10000] : List Int)).2).1 1).1 (ZJ (ZJ (ZT (ZJ (ZB (ZS.mk U v9 uB) 2).1 ([11, 11, 12, 13] : List Int)).1).1 ([30, 10000] : List Int)).1 ([0, 5, 20] : List Int)).2).1.Frame) (ZJ (ZJ (ZJ (ZT (ZJ (ZB (ZS.mk U v9 uB) 2).1 ([11, 11, 12, 13] : List Int)).1).1 ([30, 10000] : List Int)).1 ([0, 5, 20] : List Int)).1 ([0, (-5), 30] : List Int)).2).1.Next (Yu (Z9 (Zw (Z3 (ZH.mk (Zv.mk ui uy uz u5 u6) u3 uY uZ ua uc ue ud) (ZB (ZS.mk U v9 uB) 2).2 (ZJ (ZB (ZS.mk U v9 uB) 2).1 ([11, 11, 12, 13] : List Int)).2 (ZT (ZJ (ZB (ZS.mk U v9 uB) 2).1 ([11, 11, 12, 13] : List Int)).1).2 0 (ZJ (ZT (ZJ (ZB (ZS.mk U v9 uB) 2).1 ([11, 11, 12, 13] : List Int)).1).1 ([30, 10000] : List Int)).2).1 1).1 (ZJ (ZJ (ZT (ZJ (ZB (ZS.mk U v9 uB) 2).1 ([11, 11, 12, 13] : List Int)).1).1 ([30, 10000] : List Int)).1 ([0, 5, 20] : List Int)).2).1 0 (Z5 (Z9 (Zw (Z3 (ZH.mk (Zv.mk ui uy uz u5 u6) u3 uY uZ ua uc ue ud) (ZB (ZS.mk U v9 uB) 2).2 (ZJ (ZB (ZS.mk U v9 uB) 2).1 ([11, 11, 12, 13] : List Int)).2 (ZT (ZJ (ZB (ZS.mk U v9 uB) 2).1 ([11, 11, 12, 13] : List Int)).1).2 0 (ZJ (ZT (ZJ (ZB (ZS.mk U v9 uB) 2).1 ([11, 11, 12, 13] : List Int)).1).1 ([30, 10000] : List Int)).2).1 1).1 (ZJ (ZJ (ZT (ZJ (ZB (ZS.mk U v9 uB) 2).1 ([11, 11, 12, 13] : List Int)).1).1 ([30, 10000] : List Int)).1 ([0, 5, 20] : List Int)).2).1.Frame) (ZJ (ZJ (ZJ (ZT (ZJ (ZB (ZS.mk U v9 uB) 2).1 ([11, 11, 12, 13] : List Int)).1).1 ([30, 10000] : List Int)).1 ([0, 5, 20] : List Int)).1 ([0, (-5), 30] : List Int)).2).1.Yk else ((U, v9, uB, ui, uy, uz, u5, u6, u3, uY, uZ, ua, uc, ue, ud)))
def Zl (a0 : ZS) : ZS × ZH := (match z8 5 (W (1 + (ZB (ZB a0 2).1 3).2)) (ZB (ZB a0 2).1 3).1.b (ZB (ZB a0 2).1 3).1.i (ZB (ZB a0 2).1 3).1.h (YE (ZB a0 2).2).Frame.Zk (YE (ZB a0 2).2).Frame.ZD (YE (ZB a0 2).2).Frame.Methods (YE (ZB a0 2).2).Frame.Ky (YE (ZB a0 2).2).Frame.Now (YE (ZB a0 2).2).ZR (YE (ZB a0 2).2).Zu (YE (ZB a0 2).2).ZA (YE (ZB a0 2).2).YG (YE (ZB a0 2).2).YW (YE (ZB a0 2).2).Next (YE (ZB a0 2).2).Yk with | (z1_0, z1_1, z1_2, z1_3, z1_4, z1_5, z1_6, z1_7, z1_8, z1_9, z1_10, z1_11, z1_12, z1_13, z1_14) => ((ZS.mk z1_0 z1_1 z1_2), (ZH.mk (Zv.mk z1_3 z1_4 z1_5 z1_6 z1_7) z1_8 z1_9 z1_10 z1_11 z1_12 z1_13 z1_14)))
def KP (a0 : ZS) : ZS × Int := ((ZJ a0 ([1, 2, 11, 12, 13, 21, 31, 32, 33, 34, 0, 50] : List Int)).1, (ZJ a0 ([1, 2, 11, 12, 13, 21, 31, 32, 33, 34, 0, 50] : List Int)).2)
def qc (a0 : ZS) : ZS × Zd := (bif ((ZB (ZT a0).1 8).2 == 0) then ((ZJ (ZB (ZT a0).1 8).1 ([(-1), 999, 1000] : List Int)).1, (Zd.mk (ZJ (ZB (ZT a0).1 8).1 ([(-1), 999, 1000] : List Int)).2 (ZT a0).2.YR (ZT a0).2.XP)) else (bif ((ZB (ZT a0).1 8).2 == 1) then ((ZB (ZT a0).1 8).1, (Zd.mk (ZT a0).2.yS ((ZT a0).2.YR ++ ([(⟨#[120]⟩ : ByteArray)] : List ByteArray)) (ZT a0).2.XP)) else (bif ((ZB (ZT a0).1 8).2 == 2) then ((ZJ (ZB (ZT a0).1 8).1 ([0, (-1), 1] : List Int)).1, (Zd.mk (ZT a0).2.yS (ZT a0).2.YR ((ZT a0).2.XP.set 0 (ZJ (ZB (ZT a0).1 8).1 ([0, (-1), 1] : List Int)).2))) else (bif ((ZB (ZT a0).1 8).2 == 3) then ((ZB (ZB (ZT a0).1 8).1 2).1, (Zd.mk (ZT a0).2.yS ((ZT a0).2.YR.set 0 ((⟨#[48, 49, 50, 51, 52, 53, 54, 55, 56, 57, 48, 49, 50, 51, 52, 53, 54, 55, 56, 57, 48, 49, 50, 51, 52, 53, 54, 55, 56, 57, 48, 49, 50, 51, 52, 53, 54, 55, 56, 57, 48]⟩ : ByteArray).extract 0 (W (40 + (ZB (ZB (ZT a0).1 8).1 2).2)).toNat)) (ZT a0).2.XP)) else ((ZB (ZT a0).1 8).1, (ZT a0).2)))))
def QK (a0 : ZS) (a1 : Int) : ZS × Bool := ((ZB a0 a1).1, ((ZB a0 a1).2 == 0))
def Oj (a0 : ZS) : ZS × Int := (bif (QK a0 6).2 then ((ZJ (QK a0 6).1 ([(-1), 0, 10000, 10001, 9223372036854775807, (-9223372036854775808)] : List Int)).1, (ZJ (QK a0 6).1 ([(-1), 0, 10000, 10001, 9223372036854775807, (-9223372036854775808)] : List Int)).2) else ((ZB (QK a0 6).1 40).1, (ZB (QK a0 6).1 40).2))
def ZQ (a0 : List UInt8) : ZH × Int × Int × Zd × Int × Int := ((Zl (Zz a0)).2, (W ((ZB (Zl (Zz a0)).1 4).2 - 1)), (KP (ZB (Zl (Zz a0)).1 4).1).2, (qc (KP (ZB (Zl (Zz a0)).1 4).1).1).2, (ZJ (qc (KP (ZB (Zl (Zz a0)).1 4).1).1).1 ([0, 50, (-1)] : List Int)).2, (Oj (ZJ (qc (KP (ZB (Zl (Zz a0)).1 4).1).1).1 ([0, 50, (-1)] : List Int)).1).2)
def xD (a0 : List Y4) (a1 : Int) : Nat -> Nat -> Sum Int Unit
  | 0, _ => .inr ()
  | n1 + 1, J => (bif (decide ((J : Int) < (a0.length : Int))) then (bif ((nth a0 J).Number == a1) then (.inl (J : Int)) else xD a0 a1 n1 (J + 1)) else (.inr ()))
def YB (a0 : List Y4) (a1 : Int) : Int := (match xD a0 a1 (a0.length + 1) 0 with | .inl r1 => r1 | .inr _ => (-1))
def Uk (a0 : Zv) : Zv := a0
def Tu (a0 : List Int) : List Int := a0
def kF (a0 : Zd) : Zd := a0
def Uj (a0 : Zf) : Zf := a0
def xp (a0 : List Zf) : Nat -> List Zf -> Nat -> (List Zf)
  | 0, _, _ => default
  | n1 + 1, J, U => (bif (decide ((U : Int) < (a0.length : Int))) then xp a0 n1 (J ++ ([(nth a0 U)] : List Zf)) (U + 1) else (J))
def jS (a0 : List Zf) : List Zf := (match xp a0 (a0.length + 1) ([] : List Zf) 0 with | z1_0 => z1_0)
def VE (a0 : List Zo) : List Zo := a0
def WN (a0 : Zc) : Zc := a0
def xO (a0 : Zi) : Nat -> Nat -> List Zc -> (List Zc)
  | 0, _, _ => default
  | n1 + 1, J, U => (bif (decide ((J : Int) < (a0.Zj.length : Int))) then xO a0 n1 (J + 1) (U ++ ([(nth a0.Zj J)] : List Zc)) else (U))
def jU (a0 : Zi) : Zi := (match xO a0 (a0.Zj.length + 1) 0 ([] : List Zc) with | z1_0 => (Zi.mk a0.ZO z1_0))
def SA (a0 : ZZ) : ZZ := a0
def yq (a0 : ZF) : Nat -> Nat -> List ZZ -> (List ZZ)
  | 0, _, _ => default
  | n1 + 1, J, U => (bif (decide ((J : Int) < (a0.ZC.length : Int))) then yq a0 n1 (J + 1) (U ++ ([(nth a0.ZC J)] : List ZZ)) else (U))
def qe (a0 : ZF) : ZF := (match yq a0 (a0.ZC.length + 1) 0 ([] : List ZZ) with | z1_0 => (ZF.mk a0.Id z1_0))
def qX (a0 : ZH) : Nat -> Nat -> List ZF -> (List ZF)
  | 0, _, _ => default
  | n1 + 1, J, U => (bif (decide ((J : Int) < (a0.ZA.length : Int))) then qX a0 n1 (J + 1) (U ++ ([(nth a0.ZA J)] : List ZF)) else (U))
def kj (a0 : ZH) : ZH := (match qX a0 (a0.ZA.length + 1) 0 ([] : List ZF) with | z1_0 => (ZH.mk a0.Frame a0.ZR a0.Zu z1_0 a0.YG a0.YW a0.Next a0.Yk))
def Kr (a0 : List YH) (a1 : Int) : Nat -> Int -> Nat -> Int
  | 0, _, _ => default
  | n1 + 1, J, U => (bif (decide ((U : Int) < (a0.length : Int))) then (bif (((decide ((nth a0 U).Wn <= a1)) && (decide (a1 < (nth a0 U).Ends))) && ((decide (J < 0)) || (decide ((nth a0 U).Ends > (nth a0 J.toNat).Ends)))) then Kr a0 a1 n1 (U : Int) (U + 1) else Kr a0 a1 n1 J (U + 1)) else (J))
def ZX (a0 : List YH) (a1 : Int) : Int := (match Kr a0 a1 (a0.length + 1) (-1) 0 with | z1_0 => (bif (decide (z1_0 < 0)) then (-1) else (nth a0 z1_0.toNat).Id))
def Za (a0 : Int) (a1 : Int) (a2 : Int) : Bool := ((decide (a1 <= a0)) && (decide (a0 <= a2)))
def Z6 (a0 : ZH) (a1 : Int) : Bool := (Za a1 0 (W ((a0.ZA.length : Int) - 1)))
def Ks (a0 : Zd) : Nat -> Nat -> Sum Bool Unit
  | 0, _ => .inr ()
  | n1 + 1, J => (bif (decide ((J : Int) < (a0.YR.length : Int))) then (bif ((decide (((nth a0.YR J).size : Int) > 40)) || (!(Za (nth a0.XP J) 1 1000000000000))) then (.inl false) else Ks a0 n1 (J + 1)) else (.inr ()))
def KI (a0 : Zd) : Bool := (bif (((!(Za a0.yS 0 999)) || (!(Za (a0.YR.length : Int) 1 6))) || ((a0.XP.length : Int) != (a0.YR.length : Int))) then false else (match Ks a0 (a0.YR.length + 1) 0 with | .inl r1 => r1 | .inr _ => true))
def zy (a0 : List UInt8) : Nat -> List Int -> Nat -> (List Int)
  | 0, _, _ => default
  | n1 + 1, J, U => (bif (decide ((U : Int) < (a0.length : Int))) then zy a0 n1 (J ++ ([(W ((nth a0 U).toNat : Int))] : List Int)) (U + 1) else (J))
def qH (a0 : List UInt8) : List Int := (match zy a0 (a0.length + 1) ([] : List Int) 0 with | z1_0 => z1_0)
def GH (a0 : Int) (a1 : Int) : Int := (bif (!(Za a1 1 1000000000000)) then 0 else (Int.tmod (W ((Int.tmod a0 a1) + a1)) a1))
def Ul (a0 : List Int) : Nat -> Int -> Nat -> Int
  | 0, _, _ => default
  | n1 + 1, J, U => (bif (decide ((U : Int) < (a0.length : Int))) then Ul a0 n1 (Int.tmod (W ((W ((W (J * 1000003)) + (GH (nth a0 U) 2147483647))) + 13)) 2147483647) (U + 1) else (J))
def PC (a0 : List Int) : Int := (match Ul a0 (a0.length + 1) 11 0 with | z1_0 => z1_0)
def JE (a0 : Int) (a1 : List Int) : Int := (PC (([7, a0] : List Int) ++ a1))
def xX (a0 : Int) (a1 : ByteArray) (a2 : Int) : Int := (JE a0 (([a2] : List Int) ++ (qH a1.data.toList)))
def ya (a0 : Int) (a1 : Zd) : Nat -> List Int -> Nat -> (List Int)
  | 0, _, _ => default
  | n1 + 1, J, U => (bif (decide ((U : Int) < (a1.YR.length : Int))) then ya a0 a1 n1 (J ++ ([(xX a0 (nth a1.YR U) (nth a1.XP U))] : List Int)) (U + 1) else (J))
def YN (a0 : Int) (a1 : Zd) : Int := (bif (!(KI a1)) then (-1) else (match ya a0 a1 (a1.YR.length + 1) ([a1.yS] : List Int) 0 with | z1_0 => (JE a0 z1_0)))
def Xf (a0 : Zm) : List Int := ([104, a0.Key, a0.ZV, a0.Method, a0.XJ, a0.y6, a0.Org, a0.y1, a0.j6] : List Int)
def qm (a0 : Int) (a1 : List Int) : Int := (PC ((([a0] : List Int) ++ a1) ++ ([a0] : List Int)))
def kE (a0 : Y4) (a1 : List Int) : Int := (qm a0.jC (([a0.Method] : List Int) ++ a1))
def KD (a0 : List Y4) (a1 : Int) (a2 : List Int) : Int × Bool := (bif (decide ((YB a0 a1) < 0)) then (0, false) else ((kE (nth a0 (YB a0 a1).toNat) a2), true))
def yX (a0 : Zm) : Bool := ((((((((Za a0.Key 1 99) && (Za a0.ZV 1 999)) && (Za a0.Method 0 99)) && (Za a0.Org 0 99)) && (Za a0.y6 1 3)) && (Za a0.XJ 0 1000000000000)) && (Za a0.y1 0 1000000000000)) && (Za a0.j6 0 1000000000000))
def Ys (a0 : List Y4) (a1 : Zm) : Zm × Bool := (bif ((!(yX a1)) || (!(KD a0 a1.Key (Xf a1)).2)) then ((Zm.mk 0 0 0 0 0 0 0 0 0), false) else ((Zm.mk a1.Key a1.ZV a1.Method a1.XJ a1.y6 a1.Org a1.y1 a1.j6 (KD a0 a1.Key (Xf a1)).1), true))
def X5 (a0 : Zm) : Zf := (Zf.mk a0.Key (Xf a0) a0.Mark)
def KY (a0 : Ye) : List Int := ([101, a0.ZV, a0.Key, a0.zY, a0.qA, a0.To, a0.Zn] : List Int)
def Qh (a0 : Ye) : Zf := (Zf.mk a0.Zn (KY a0) a0.Mark)
def KG (a0 : ZF) (a1 : Int) : Nat -> Nat -> Sum Int Unit
  | 0, _ => .inr ()
  | n1 + 1, J => (bif (decide ((J : Int) < (a0.ZC.length : Int))) then (bif ((nth a0.ZC J).Id == a1) then (.inl (J : Int)) else KG a0 a1 n1 (J + 1)) else (.inr ()))
def ZU (a0 : ZF) (a1 : Int) : Int := (match KG a0 a1 (a0.ZC.length + 1) 0 with | .inl r1 => r1 | .inr _ => (-1))
def Kd (a0 : Int) : Bool := (Za a0 0 10000)
def qb (a0 : List Int) (a1 : List Int) : Nat -> Nat -> Sum Bool Unit
  | 0, _ => .inr ()
  | n1 + 1, J => (bif (decide ((J : Int) < (a0.length : Int))) then (bif ((nth a0 J) != (nth a1 J)) then (.inl false) else qb a0 a1 n1 (J + 1)) else (.inr ()))
def J8 (a0 : List Int) (a1 : List Int) : Bool := (bif ((a0.length : Int) != (a1.length : Int)) then false else (match qb a0 a1 (a0.length + 1) 0 with | .inl r1 => r1 | .inr _ => true))
def JQ (a0 : Zf) (a1 : Zf) : Bool := (((a0.Key == a1.Key) && (a0.Mark == a1.Mark)) && (J8 a0.Y0 a1.Y0))
def jK (a0 : List Zf) (a1 : Zf) : Nat -> Nat -> Sum Bool Unit
  | 0, _ => .inr ()
  | n1 + 1, J => (bif (decide ((J : Int) < (a0.length : Int))) then (bif (JQ (nth a0 J) a1) then (.inl true) else jK a0 a1 n1 (J + 1)) else (.inr ()))
def jq (a0 : List Zf) (a1 : Zf) : Bool := (match jK a0 a1 (a0.length + 1) 0 with | .inl r1 => r1 | .inr _ => false)
def yK (a0 : Zi) : Nat -> Nat -> Sum Bool Unit
  | 0, _ => .inr ()
  | n2 + 1, uE => (bif (decide ((uE : Int) < (a0.Zj.length : Int))) then (bif ((!(Za (nth a0.Zj uE).Count 1 (a0.ZO.length : Int))) || ((decide ((uE : Int) > 0)) && (decide ((nth a0.Zj uE).Count < (nth a0.Zj (uE - 1)).Count)))) then (.inl false) else yK a0 n2 (uE + 1)) else (.inr ()))
def z7 (a0 : Zi) : Nat -> Nat -> Sum Bool Unit
  | 0, _ => .inr ()
  | n1 + 1, J => (bif (decide ((J : Int) < (a0.ZO.length : Int))) then (bif (jq (a0.ZO.take J) (nth a0.ZO J)) then (.inl false) else z7 a0 n1 (J + 1)) else (.inr ()))
def Xp (a0 : Zi) : Bool := (bif ((!(Za (a0.ZO.length : Int) 1 12)) || (decide ((a0.Zj.length : Int) > 8))) then false else (match z7 a0 (a0.ZO.length + 1) 0 with | .inl r1 => r1 | .inr _ => (match yK a0 (a0.Zj.length + 1) 0 with | .inl r2 => r2 | .inr _ => true)))
def JF (a0 : ZZ) : Bool := (((((Za a0.Id 1 999) && (Kd a0.Y9)) && (KI a0.Doc)) && (Xp a0.ZM)) && (JQ (nth a0.ZM.ZO 0) (X5 a0.Sig)))
def zR (a0 : ZF) : Nat -> Nat -> Sum Bool Unit
  | 0, _ => .inr ()
  | n1 + 1, J => (bif (decide ((J : Int) < (a0.ZC.length : Int))) then (bif ((!(JF (nth a0.ZC J))) || ((decide ((J : Int) > 0)) && (decide ((nth a0.ZC (J - 1)).Id >= (nth a0.ZC J).Id)))) then (.inl false) else zR a0 n1 (J + 1)) else (.inr ()))
def YC (a0 : ZF) : Bool := (match zR a0 (a0.ZC.length + 1) 0 with | .inl r1 => r1 | .inr _ => ((Za a0.Id 0 99) && (decide ((a0.ZC.length : Int) <= 8))))
def Yx (a0 : ZF) (a1 : ZZ) : Nat -> Nat -> Nat
  | 0, _ => default
  | n1 + 1, J => (bif ((decide ((J : Int) < (a0.ZC.length : Int))) && (decide ((nth a0.ZC J).Id < a1.Id))) then Yx a0 a1 n1 (J + 1) else (J))
def YI (a0 : ZF) (a1 : ZZ) : ZF × Bool := (bif ((decide ((ZU a0 a1.Id) >= 0)) || (!(YC a0))) then (a0, false) else (match Yx a0 a1 (a0.ZC.length + 1) 0 with | z1_0 => (bif (!(YC (ZF.mk a0.Id (((a0.ZC.take z1_0) ++ ([a1] : List ZZ)) ++ (a0.ZC.drop z1_0))))) then (a0, false) else ((ZF.mk a0.Id (((a0.ZC.take z1_0) ++ ([a1] : List ZZ)) ++ (a0.ZC.drop z1_0))), true))))
def QP (a0 : ZH) (a1 : Int) (a2 : Int) (a3 : Zd) (a4 : Int) (a5 : Int) : Nat -> Nat -> Sum (ZH × Bool) Unit
  | 0, _ => .inr ()
  | n1 + 1, J => (bif (decide ((J : Int) < (a0.ZR.length : Int))) then (bif ((nth a0.ZR J).Key != a2) then QP a0 a1 a2 a3 a4 a5 n1 (J + 1) else (bif ((!(Ys a0.Frame.Zk (Zm.mk a2 (nth a0.ZR J).ZV (ZX a0.Frame.Methods a0.Frame.Now) (YN (ZX a0.Frame.Methods a0.Frame.Now) a3) 1 a4 0 0 0)).2) || (!(YI (nth a0.ZA a1.toNat) (ZZ.mk a0.Next a5 a3 (Ys a0.Frame.Zk (Zm.mk a2 (nth a0.ZR J).ZV (ZX a0.Frame.Methods a0.Frame.Now) (YN (ZX a0.Frame.Methods a0.Frame.Now) a3) 1 a4 0 0 0)).1 (Zi.mk ([(X5 (Ys a0.Frame.Zk (Zm.mk a2 (nth a0.ZR J).ZV (ZX a0.Frame.Methods a0.Frame.Now) (YN (ZX a0.Frame.Methods a0.Frame.Now) a3) 1 a4 0 0 0)).1), (Qh (nth a0.ZR J))] : List Zf) ([] : List Zc)))).2)) then (.inl (a0, false)) else (.inl ((ZH.mk a0.Frame a0.ZR a0.Zu (a0.ZA.set a1.toNat (YI (nth a0.ZA a1.toNat) (ZZ.mk a0.Next a5 a3 (Ys a0.Frame.Zk (Zm.mk a2 (nth a0.ZR J).ZV (ZX a0.Frame.Methods a0.Frame.Now) (YN (ZX a0.Frame.Methods a0.Frame.Now) a3) 1 a4 0 0 0)).1 (Zi.mk ([(X5 (Ys a0.Frame.Zk (Zm.mk a2 (nth a0.ZR J).ZV (ZX a0.Frame.Methods a0.Frame.Now) (YN (ZX a0.Frame.Methods a0.Frame.Now) a3) 1 a4 0 0 0)).1), (Qh (nth a0.ZR J))] : List Zf) ([] : List Zc)))).1) a0.YG a0.YW (W (a0.Next + 1)) a0.Yk), true)))) else (.inr ()))
def Qk (a0 : ZH) (a1 : Int) (a2 : Int) (a3 : Zd) (a4 : Int) (a5 : Int) : ZH × Bool := (bif (((!(Z6 a0 a1)) || (decide ((YB a0.Frame.Zk a2) < 0))) || (decide ((ZX a0.Frame.Methods a0.Frame.Now) < 0))) then (a0, false) else (match QP a0 a1 a2 a3 a4 a5 (a0.ZR.length + 1) 0 with | .inl r1 => r1 | .inr _ => (a0, false)))
def XK (a0 : ZH) (a1 : Int) (a2 : Int) (a3 : Zd) (a4 : Int) (a5 : Int) : ZH × Bool := (bif ((decide ((YB a0.Frame.Zk a2) < 0)) || (decide ((nth a0.Frame.Zk (YB a0.Frame.Zk a2).toNat).qN > a0.Frame.Now))) then (a0, false) else ((Qk a0 a1 a2 a3 a4 a5).1, (Qk a0 a1 a2 a3 a4 a5).2))
def xu (a0 : Int) : Bool := (Za a0 1 2147483646)
def I0 (a0 : Y4) : Bool := (((((Za a0.Number 1 99) && (Za a0.zY 0 99)) && (Za a0.Method 0 99)) && (Kd a0.qN)) && (xu a0.jC))
def UW (a0 : List Y4) : Nat -> Nat -> Sum Bool Unit
  | 0, _ => .inr ()
  | n1 + 1, J => (bif (decide ((J : Int) < (a0.length : Int))) then (bif ((!(I0 (nth a0 J))) || ((decide ((J : Int) > 0)) && (decide ((nth a0 (J - 1)).Number >= (nth a0 J).Number)))) then (.inl false) else UW a0 n1 (J + 1)) else (.inr ()))
def RW (a0 : List Y4) : Bool := (match UW a0 (a0.length + 1) 0 with | .inl r1 => r1 | .inr _ => (decide ((a0.length : Int) <= 12)))
def yy (a0 : List Zr) : Nat -> Nat -> Sum Bool Unit
  | 0, _ => .inr ()
  | n1 + 1, J => (bif (decide ((J : Int) < (a0.length : Int))) then (bif ((((!(Za (nth a0 J).Id 0 99)) || (!(Za (nth a0 J).Key 1 99))) || (!(Za (nth a0 J).Error 0 100))) || ((decide ((J : Int) > 0)) && (decide ((nth a0 (J - 1)).Id >= (nth a0 J).Id)))) then (.inl false) else yy a0 n1 (J + 1)) else (.inr ()))
def qO (a0 : List Zr) : Bool := (match yy a0 (a0.length + 1) 0 with | .inl r1 => r1 | .inr _ => (decide ((a0.length : Int) <= 6)))
def SE (a0 : YH) : Bool := ((((((Za a0.Id 0 99) && (Kd a0.Wn)) && (Za a0.Ends 1 10001)) && (Za a0.WJ 1 10001)) && (decide (a0.Wn < a0.Ends))) && (decide (a0.Wn < a0.WJ)))
def jj (a0 : List YH) : Nat -> Nat -> Sum Bool Unit
  | 0, _ => .inr ()
  | n1 + 1, J => (bif (decide ((J : Int) < (a0.length : Int))) then (bif ((!(SE (nth a0 J))) || ((decide ((J : Int) > 0)) && (decide ((nth a0 (J - 1)).Id >= (nth a0 J).Id)))) then (.inl false) else jj a0 n1 (J + 1)) else (.inr ()))
def Wz (a0 : List YH) : Bool := (match jj a0 (a0.length + 1) 0 with | .inl r1 => r1 | .inr _ => (decide ((a0.length : Int) <= 8)))
def yR (a0 : Zv) : Bool := (((((RW a0.Zk) && (qO a0.ZD)) && (Wz a0.Methods)) && (Za a0.Ky 0 6)) && (Kd a0.Now))
def qQ (a0 : List Int) : Nat -> Nat -> Sum Bool Unit
  | 0, _ => .inr ()
  | n1 + 1, J => (bif (decide ((J : Int) < (a0.length : Int))) then (bif (decide ((nth a0 (J - 1)) >= (nth a0 J))) then (.inl false) else qQ a0 n1 (J + 1)) else (.inr ()))
def Qg (a0 : List Int) : Bool := (match qQ a0 (a0.length + 1) 1 with | .inl r1 => r1 | .inr _ => true)
def qL (a0 : Ye) : jI := (jI.mk a0.qA a0.To)
def Un (a0 : jI) : Bool := (((Kd a0.qA) && (Kd a0.To)) && (decide (a0.qA <= a0.To)))
def V5 (a0 : Ye) : Bool := ((((((Za a0.ZV 1 999) && (Za a0.Key 1 99)) && (Za a0.Zn 1 99)) && (a0.Key != a0.Zn)) && (Za a0.zY 0 99)) && (Un (qL a0)))
def UB (a0 : List Y4) (a1 : Int) (a2 : List Int) (a3 : Int) : Bool := ((KD a0 a1 a2).2 && ((KD a0 a1 a2).1 == a3))
def RN (a0 : List Y4) (a1 : Int) : Int := (bif (decide ((YB a0 a1) >= 0)) then (nth a0 (YB a0 a1).toNat).zY else (-1))
def kW (a0 : List Y4) (a1 : Ye) : Bool := (((V5 a1) && (UB a0 a1.Zn (KY a1) a1.Mark)) && (a1.zY == (RN a0 a1.Key)))
def zB (a0 : List Ye) (a1 : Int) : Nat -> Nat -> Sum Int Unit
  | 0, _ => .inr ()
  | n1 + 1, J => (bif (decide ((J : Int) < (a0.length : Int))) then (bif ((nth a0 J).ZV == a1) then (.inl (J : Int)) else zB a0 a1 n1 (J + 1)) else (.inr ()))
def XU (a0 : List Ye) (a1 : Int) : Int := (match zB a0 a1 (a0.length + 1) 0 with | .inl r1 => r1 | .inr _ => (-1))
def kq (a0 : List Int) (a1 : Int) : Nat -> Nat -> Sum Int Unit
  | 0, _ => .inr ()
  | n1 + 1, J => (bif (decide ((J : Int) < (a0.length : Int))) then (bif ((nth a0 J) == a1) then (.inl (J : Int)) else kq a0 a1 n1 (J + 1)) else (.inr ()))
def Uy (a0 : List Int) (a1 : Int) : Int := (match kq a0 a1 (a0.length + 1) 0 with | .inl r1 => r1 | .inr _ => (-1))
def Jd (a0 : List Int) (a1 : Int) : Bool := (decide ((Uy a0 a1) >= 0))
def QT (a0 : List Zr) (a1 : Int) : Nat -> Nat -> Sum Int Unit
  | 0, _ => .inr ()
  | n1 + 1, J => (bif (decide ((J : Int) < (a0.length : Int))) then (bif ((nth a0 J).Id == a1) then (.inl (J : Int)) else QT a0 a1 n1 (J + 1)) else (.inr ()))
def ZW (a0 : List Zr) (a1 : Int) : Int := (match QT a0 a1 (a0.length + 1) 0 with | .inl r1 => r1 | .inr _ => (-1))
def J7 (a0 : ZH) (uR : Nat) : Nat -> List Int -> Nat -> Sum Bool (List Int)
  | 0, _, _ => .inr default
  | n3 + 1, tD, sQ => (bif (decide ((sQ : Int) < ((nth a0.ZA uR).ZC.length : Int))) then (bif ((Jd tD (nth (nth a0.ZA uR).ZC sQ).Id) || (decide ((nth (nth a0.ZA uR).ZC sQ).Id >= a0.Next))) then (.inl false) else J7 a0 uR n3 (tD ++ ([(nth (nth a0.ZA uR).ZC sQ).Id] : List Int)) (sQ + 1)) else (.inr tD))
def qv (a0 : ZH) : Nat -> Nat -> Sum Bool Unit
  | 0, _ => .inr ()
  | n5 + 1, rA => (bif (decide ((rA : Int) < (a0.YW.length : Int))) then (bif (decide ((ZW a0.Frame.ZD (nth a0.YW rA)) < 0)) then (.inl false) else qv a0 n5 (rA + 1)) else (.inr ()))
def qi (a0 : ZH) : Nat -> Nat -> Sum Bool Unit
  | 0, _ => .inr ()
  | n4 + 1, rb => (bif (decide ((rb : Int) < (a0.YG.length : Int))) then (bif (decide ((nth a0.YG rb) < 0)) then (.inl false) else qi a0 n4 (rb + 1)) else (.inr ()))
def Kz (a0 : ZH) : Nat -> List Int -> Nat -> Sum Bool Unit
  | 0, _, _ => .inr ()
  | n2 + 1, uE, uR => (bif (decide ((uR : Int) < (a0.ZA.length : Int))) then (bif ((!(YC (nth a0.ZA uR))) || ((nth a0.ZA uR).Id != (uR : Int))) then (.inl false) else (match J7 a0 uR ((nth a0.ZA uR).ZC.length + 1) uE 0 with | .inl r3 => .inl r3 | .inr z3_0 => Kz a0 n2 z3_0 (uR + 1))) else (.inr ()))
def qk (a0 : ZH) : Nat -> Nat -> Sum Bool Unit
  | 0, _ => .inr ()
  | n1 + 1, J => (bif (decide ((J : Int) < (a0.ZR.length : Int))) then (bif (((!(kW a0.Frame.Zk (nth a0.ZR J))) || ((XU a0.ZR (nth a0.ZR J).ZV) != (J : Int))) || (!(Za (nth a0.Zu J) (-1) 10001))) then (.inl false) else qk a0 n1 (J + 1)) else (.inr ()))
def QM (a0 : ZH) : Bool := (bif ((((((((!(yR a0.Frame)) || ((a0.Zu.length : Int) != (a0.ZR.length : Int))) || (!(Za (a0.ZA.length : Int) 1 4))) || ((a0.YG.length : Int) != (a0.Frame.ZD.length : Int))) || (decide ((a0.YW.length : Int) > a0.Frame.Ky))) || (decide (a0.Next < 1))) || (!(Qg a0.YW))) || (!(Qg a0.Yk))) then false else (match qk a0 (a0.ZR.length + 1) 0 with | .inl r1 => r1 | .inr _ => (match Kz a0 (a0.ZA.length + 1) ([] : List Int) 0 with | .inl r2 => r2 | .inr _ => (match qi a0 (a0.YG.length + 1) 0 with | .inl r4 => r4 | .inr _ => (match qv a0 (a0.YW.length + 1) 0 with | .inl r5 => r5 | .inr _ => true)))))
def yu (a0 : Zv) (a1 : Zv) : Nat -> Nat -> Sum Bool Unit
  | 0, _ => .inr ()
  | n3 + 1, tD => (bif (decide ((tD : Int) < (a0.Methods.length : Int))) then (bif (!(((nth a0.Methods tD).Id == (nth a1.Methods tD).Id) && (((nth a0.Methods tD).Wn == (nth a1.Methods tD).Wn) && (((nth a0.Methods tD).Ends == (nth a1.Methods tD).Ends) && ((nth a0.Methods tD).WJ == (nth a1.Methods tD).WJ))))) then (.inl false) else yu a0 a1 n3 (tD + 1)) else (.inr ()))
def yl (a0 : Zv) (a1 : Zv) : Nat -> Nat -> Sum Bool Unit
  | 0, _ => .inr ()
  | n2 + 1, uE => (bif (decide ((uE : Int) < (a0.ZD.length : Int))) then (bif (!(((nth a0.ZD uE).Id == (nth a1.ZD uE).Id) && (((nth a0.ZD uE).Key == (nth a1.ZD uE).Key) && ((nth a0.ZD uE).Error == (nth a1.ZD uE).Error)))) then (.inl false) else yl a0 a1 n2 (uE + 1)) else (.inr ()))
def yv (a0 : Zv) (a1 : Zv) : Nat -> Nat -> Sum Bool Unit
  | 0, _ => .inr ()
  | n1 + 1, J => (bif (decide ((J : Int) < (a0.Zk.length : Int))) then (bif (!(((nth a0.Zk J).Number == (nth a1.Zk J).Number) && (((nth a0.Zk J).zY == (nth a1.Zk J).zY) && (((nth a0.Zk J).Method == (nth a1.Zk J).Method) && (((nth a0.Zk J).qN == (nth a1.Zk J).qN) && ((nth a0.Zk J).jC == (nth a1.Zk J).jC)))))) then (.inl false) else yv a0 a1 n1 (J + 1)) else (.inr ()))
def yi (a0 : Zv) (a1 : Zv) : Bool := (bif ((((((a0.Zk.length : Int) != (a1.Zk.length : Int)) || ((a0.ZD.length : Int) != (a1.ZD.length : Int))) || ((a0.Methods.length : Int) != (a1.Methods.length : Int))) || (a0.Ky != a1.Ky)) || (a0.Now != a1.Now)) then false else (match yv a0 a1 (a0.Zk.length + 1) 0 with | .inl r1 => r1 | .inr _ => (match yl a0 a1 (a0.ZD.length + 1) 0 with | .inl r2 => r2 | .inr _ => (match yu a0 a1 (a0.Methods.length + 1) 0 with | .inl r3 => r3 | .inr _ => true))))
def yH (a0 : List ByteArray) (a1 : List ByteArray) : Nat -> Nat -> Sum Bool Unit
  | 0, _ => .inr ()
  | n1 + 1, J => (bif (decide ((J : Int) < (a0.length : Int))) then (bif (!decide ((nth a0 J) = (nth a1 J))) then (.inl false) else yH a0 a1 n1 (J + 1)) else (.inr ()))
def xi (a0 : List ByteArray) (a1 : List ByteArray) : Bool := (bif ((a0.length : Int) != (a1.length : Int)) then false else (match yH a0 a1 (a0.length + 1) 0 with | .inl r1 => r1 | .inr _ => true))
def Ki (a0 : Zd) (a1 : Zd) : Bool := (((a0.yS == a1.yS) && (xi a0.YR a1.YR)) && (J8 a0.XP a1.XP))
def KZ (a0 : List Zf) (a1 : List Zf) : Nat -> Nat -> Sum Bool Unit
  | 0, _ => .inr ()
  | n1 + 1, J => (bif (decide ((J : Int) < (a0.length : Int))) then (bif (!(JQ (nth a0 J) (nth a1 J))) then (.inl false) else KZ a0 a1 n1 (J + 1)) else (.inr ()))
def zb (a0 : List Zf) (a1 : List Zf) : Bool := (bif ((a0.length : Int) != (a1.length : Int)) then false else (match KZ a0 a1 (a0.length + 1) 0 with | .inl r1 => r1 | .inr _ => true))
def yk (a0 : List Zo) (a1 : List Zo) : Nat -> Nat -> Sum Bool Unit
  | 0, _ => .inr ()
  | n1 + 1, J => (bif (decide ((J : Int) < (a0.length : Int))) then (bif (!(((nth a0 J).Authority == (nth a1 J).Authority) && (((nth a0 J).Seq == (nth a1 J).Seq) && (((nth a0 J).Time == (nth a1 J).Time) && (((nth a0 J).XJ == (nth a1 J).XJ) && ((nth a0 J).Mark == (nth a1 J).Mark)))))) then (.inl false) else yk a0 a1 n1 (J + 1)) else (.inr ()))
def qU (a0 : List Zo) (a1 : List Zo) : Bool := (bif ((a0.length : Int) != (a1.length : Int)) then false else (match yk a0 a1 (a0.length + 1) 0 with | .inl r1 => r1 | .inr _ => true))
def zX (a0 : Zc) (a1 : Zc) : Nat -> Nat -> Sum Bool Unit
  | 0, _ => .inr ()
  | n1 + 1, J => (bif (decide ((J : Int) < (a0.Path.length : Int))) then (bif (!(((nth a0.Path J).XJ == (nth a1.Path J).XJ) && ((nth a0.Path J).Left == (nth a1.Path J).Left))) then (.inl false) else zX a0 a1 n1 (J + 1)) else (.inr ()))
def Jv (a0 : Zc) (a1 : Zc) : Bool := (bif ((((a0.Count != a1.Count) || (a0.Method != a1.Method)) || (a0.GB != a1.GB)) || ((a0.Path.length : Int) != (a1.Path.length : Int))) then false else (match zX a0 a1 (a0.Path.length + 1) 0 with | .inl r1 => r1 | .inr _ => (qU a0.Xe a1.Xe)))
def yA (a0 : Zi) (a1 : Zi) : Nat -> Nat -> Sum Bool Unit
  | 0, _ => .inr ()
  | n1 + 1, J => (bif (decide ((J : Int) < (a0.Zj.length : Int))) then (bif (!(Jv (nth a0.Zj J) (nth a1.Zj J))) then (.inl false) else yA a0 a1 n1 (J + 1)) else (.inr ()))
def zl (a0 : Zi) (a1 : Zi) : Bool := (bif ((!(zb a0.ZO a1.ZO)) || ((a0.Zj.length : Int) != (a1.Zj.length : Int))) then false else (match yA a0 a1 (a0.Zj.length + 1) 0 with | .inl r1 => r1 | .inr _ => true))
def yE (a0 : ZZ) (a1 : ZZ) : Bool := (((((a0.Id == a1.Id) && (a0.Y9 == a1.Y9)) && (Ki a0.Doc a1.Doc)) && ((a0.Sig.Key == a1.Sig.Key) && ((a0.Sig.ZV == a1.Sig.ZV) && ((a0.Sig.Method == a1.Sig.Method) && ((a0.Sig.XJ == a1.Sig.XJ) && ((a0.Sig.y6 == a1.Sig.y6) && ((a0.Sig.Org == a1.Sig.Org) && ((a0.Sig.y1 == a1.Sig.y1) && ((a0.Sig.j6 == a1.Sig.j6) && (a0.Sig.Mark == a1.Sig.Mark)))))))))) && (zl a0.ZM a1.ZM))
def zZ (a0 : ZF) (a1 : ZF) : Nat -> Nat -> Sum Bool Unit
  | 0, _ => .inr ()
  | n1 + 1, J => (bif (decide ((J : Int) < (a0.ZC.length : Int))) then (bif (!(yE (nth a0.ZC J) (nth a1.ZC J))) then (.inl false) else zZ a0 a1 n1 (J + 1)) else (.inr ()))
def Jy (a0 : ZF) (a1 : ZF) : Bool := (bif ((a0.Id != a1.Id) || ((a0.ZC.length : Int) != (a1.ZC.length : Int))) then false else (match zZ a0 a1 (a0.ZC.length + 1) 0 with | .inl r1 => r1 | .inr _ => true))
def yo (a0 : ZH) (a1 : ZH) : Nat -> Nat -> Sum Bool Unit
  | 0, _ => .inr ()
  | n2 + 1, uE => (bif (decide ((uE : Int) < (a0.ZA.length : Int))) then (bif (!(Jy (nth a0.ZA uE) (nth a1.ZA uE))) then (.inl false) else yo a0 a1 n2 (uE + 1)) else (.inr ()))
def ym (a0 : ZH) (a1 : ZH) : Nat -> Nat -> Sum Bool Unit
  | 0, _ => .inr ()
  | n1 + 1, J => (bif (decide ((J : Int) < (a0.ZR.length : Int))) then (bif (!(((nth a0.ZR J).ZV == (nth a1.ZR J).ZV) && (((nth a0.ZR J).Key == (nth a1.ZR J).Key) && (((nth a0.ZR J).zY == (nth a1.ZR J).zY) && (((nth a0.ZR J).qA == (nth a1.ZR J).qA) && (((nth a0.ZR J).To == (nth a1.ZR J).To) && (((nth a0.ZR J).Zn == (nth a1.ZR J).Zn) && ((nth a0.ZR J).Mark == (nth a1.ZR J).Mark)))))))) then (.inl false) else ym a0 a1 n1 (J + 1)) else (.inr ()))
def KT (a0 : ZH) (a1 : ZH) : Bool := (bif ((((((((!(yi a0.Frame a1.Frame)) || ((a0.ZR.length : Int) != (a1.ZR.length : Int))) || ((a0.ZA.length : Int) != (a1.ZA.length : Int))) || (!(J8 a0.Zu a1.Zu))) || (!(J8 a0.YG a1.YG))) || (!(J8 a0.YW a1.YW))) || (a0.Next != a1.Next)) || (!(J8 a0.Yk a1.Yk))) then false else (match ym a0 a1 (a0.ZR.length + 1) 0 with | .inl r1 => r1 | .inr _ => (match yo a0 a1 (a0.ZA.length + 1) 0 with | .inl r2 => r2 | .inr _ => true)))
def ZK (a0 : List UInt8) : ZH × Int × (List Int) × Int := (bif ((ZB (Zl (Zz a0)).1 6).2 == 0) then ((Zl (Zz a0)).2, (W ((ZB (ZB (ZB (Zl (Zz a0)).1 6).1 6).1 4).2 - 1)), ([(ZB (ZB (Zl (Zz a0)).1 6).1 6).2, 2] : List Int), (ZJ (ZB (ZB (ZB (Zl (Zz a0)).1 6).1 6).1 4).1 ([0, (-20), 20, 10000, (-10001)] : List Int)).2) else (bif ((ZB (Zl (Zz a0)).1 6).2 == 1) then ((Zl (Zz a0)).2, (W ((ZB (ZB (Zl (Zz a0)).1 6).1 4).2 - 1)), ([1, 2, 3, 4] : List Int), (ZJ (ZB (ZB (Zl (Zz a0)).1 6).1 4).1 ([0, (-20), 20, 10000, (-10001)] : List Int)).2) else ((Zl (Zz a0)).2, (W ((ZB (ZB (Zl (Zz a0)).1 6).1 4).2 - 1)), (Z5 (Zl (Zz a0)).2.Frame), (ZJ (ZB (ZB (Zl (Zz a0)).1 6).1 4).1 ([0, (-20), 20, 10000, (-10001)] : List Int)).2)))
def Q4 (a0 : Zo) : List Int := ([103, a0.Authority, a0.Seq, a0.Time, a0.XJ] : List Int)
def KK (a1 : Zc) : Nat -> List Int -> Nat -> (List Int)
  | 0, _, _ => default
  | n2 + 1, uE, uR => (bif (decide ((uR : Int) < (a1.Xe.length : Int))) then KK a1 n2 ((uE ++ (Q4 (nth a1.Xe uR))) ++ ([(nth a1.Xe uR).Mark] : List Int)) (uR + 1) else (uE))
def JB (a1 : Zc) : Nat -> List Int -> Nat -> (List Int)
  | 0, _, _ => default
  | n1 + 1, J, U => (bif (decide ((U : Int) < (a1.Path.length : Int))) then (bif (nth a1.Path U).Left then JB a1 n1 (J ++ ([(nth a1.Path U).XJ, 1] : List Int)) (U + 1) else JB a1 n1 (J ++ ([(nth a1.Path U).XJ, 0] : List Int)) (U + 1)) else (J))
def JD (a0 : Int) (a1 : Zc) : Int := (match JB a1 (a1.Path.length + 1) ([4, a1.Count, a1.Method, a1.GB] : List Int) 0 with | z1_0 => (match KK a1 (a1.Xe.length + 1) (z1_0 ++ ([(a1.Xe.length : Int)] : List Int)) 0 with | z2_0 => (JE a0 z2_0)))
def Kj (a0 : Int) (a1 : List Zf) : Nat -> List Int -> Nat -> (List Int)
  | 0, _, _ => default
  | n1 + 1, J, U => (bif (decide ((U : Int) < (a1.length : Int))) then Kj a0 a1 n1 (J ++ ([(JE a0 (([(nth a1 U).Key, (nth a1 U).Mark] : List Int) ++ (nth a1 U).Y0))] : List Int)) (U + 1) else (J))
def Qt (a0 : Int) (a1 : List Zf) : Int := (match Kj a0 a1 (a1.length + 1) ([2] : List Int) 0 with | z1_0 => (JE a0 z1_0))
def WU (a0 : Int) (a1 : Int) (a2 : List Zf) (a3 : Int) : Int := (JE a0 ([3, a1, (Qt a0 a2), a3] : List Int))
def Wq (a0 : ZZ) (a1 : Int) : Int := (bif (decide ((a0.ZM.Zj.length : Int) > 0)) then (WU a1 (YN a1 a0.Doc) a0.ZM.ZO (JD a1 (nth a0.ZM.Zj (a0.ZM.Zj.length - 1)))) else (WU a1 (YN a1 a0.Doc) a0.ZM.ZO 0))
def zJ (a0 : ZF) (a1 : Int) : Nat -> List Int -> Nat -> (List Int)
  | 0, _, _ => default
  | n1 + 1, J, U => (bif (decide ((U : Int) < (a0.ZC.length : Int))) then zJ a0 a1 n1 (J ++ ([(Wq (nth a0.ZC U) a1)] : List Int)) (U + 1) else (J))
def Y6 (a0 : ZF) (a1 : Int) : List Int := (match zJ a0 a1 (a0.ZC.length + 1) ([] : List Int) 0 with | z1_0 => z1_0)
def xY (a0 : Int) (a1 : Int) (a2 : Int) : Int := (JE a0 ([1, a1, a2] : List Int))
def QZ (a0 : Int) (a1 : List Int) : Nat -> List Int -> Nat -> (List Int)
  | 0, _, _ => default
  | n1 + 1, J, U => (bif (decide ((U : Int) < (a1.length : Int))) then (bif (decide ((W ((U : Int) + 1)) < (a1.length : Int))) then QZ a0 a1 n1 (J ++ ([(xY a0 (nth a1 U) (nth a1 (W ((U : Int) + 1)).toNat))] : List Int)) (U + 2) else QZ a0 a1 n1 (J ++ ([(nth a1 U)] : List Int)) (U + 2)) else (J))
def Qs (a0 : Int) (a1 : List Int) : List Int := (match QZ a0 a1 (a1.length + 1) ([] : List Int) 0 with | z1_0 => z1_0)
def xW (a0 : Int) : Nat -> List Int -> (List Int)
  | 0, _ => default
  | n1 + 1, J => (bif (decide ((J.length : Int) > 1)) then xW a0 n1 (Qs a0 J) else (J))
def y0 (a0 : Int) (a1 : List Int) : Int := (bif (!(Za (a1.length : Int) 1 16)) then (-1) else (match xW a0 (a1.length + 1) a1 with | z1_0 => (nth z1_0 0)))
def XR (a0 : ZF) (a1 : Int) : Int := (y0 a1 (Y6 a0 a1))
def JV (a0 : List Y4) (a1 : List Zr) (a2 : Zo) : Zo × Bool := (bif (((decide ((ZW a1 a2.Authority) < 0)) || (decide (a2.Seq < 0))) || (!(Kd a2.Time))) then ((Zo.mk 0 0 0 0 0), false) else (bif (!(KD a0 (nth a1 (ZW a1 a2.Authority).toNat).Key (Q4 a2)).2) then ((Zo.mk 0 0 0 0 0), false) else ((Zo.mk a2.Authority a2.Seq a2.Time a2.XJ (KD a0 (nth a1 (ZW a1 a2.Authority).toNat).Key (Q4 a2)).1), true)))
def JN (a0 : Int) : Nat -> List Int -> Int -> List X4 -> (List X4)
  | 0, _, _, _ => default
  | n1 + 1, J, U, v9 => (bif (decide ((J.length : Int) > 1)) then (bif ((Int.tmod U 2) == 1) then JN a0 n1 (Qs a0 J) (W (Int.tdiv U 2)) (v9 ++ ([(X4.mk (nth J (W (U - 1)).toNat) true)] : List X4)) else (bif (decide ((W (U + 1)) < (J.length : Int))) then JN a0 n1 (Qs a0 J) (W (Int.tdiv U 2)) (v9 ++ ([(X4.mk (nth J (W (U + 1)).toNat) false)] : List X4)) else JN a0 n1 (Qs a0 J) (W (Int.tdiv U 2)) v9)) else (v9))
def X3 (a0 : Int) (a1 : List Int) (a2 : Int) : List X4 := (bif ((!(Za a2 0 (W ((a1.length : Int) - 1)))) || (decide ((a1.length : Int) > 16))) then ([] : List X4) else (match JN a0 (a1.length + 1) a1 a2 ([] : List X4) with | z1_0 => z1_0))
def XF (a0 : Zi) (a1 : Zc) : Zi × Bool := (bif (!(Xp (Zi.mk a0.ZO (a0.Zj ++ ([a1] : List Zc))))) then (a0, false) else ((Zi.mk a0.ZO (a0.Zj ++ ([a1] : List Zc))), true))
def XA (a0 : ZF) (a1 : Int) (a2 : List Zo) : Nat -> Nat -> List ZZ -> Sum (ZF × Bool) (List ZZ)
  | 0, _, _ => .inr default
  | n1 + 1, J, U => (bif (decide ((J : Int) < (a0.ZC.length : Int))) then (bif (!(XF (nth a0.ZC J).ZM (Zc.mk ((nth a0.ZC J).ZM.ZO.length : Int) a1 (XR a0 a1) (X3 a1 (Y6 a0 a1) (J : Int)) a2)).2) then (.inl (a0, false)) else XA a0 a1 a2 n1 (J + 1) (U.set J (ZZ.mk (nth U J).Id (nth U J).Y9 (nth U J).Doc (nth U J).Sig (XF (nth a0.ZC J).ZM (Zc.mk ((nth a0.ZC J).ZM.ZO.length : Int) a1 (XR a0 a1) (X3 a1 (Y6 a0 a1) (J : Int)) a2)).1))) else (.inr U))
def Yl (a0 : ZF) (a1 : Int) (a2 : List Zo) : ZF × Bool := (bif (((a0.ZC.length : Int) == 0) || (!(YC a0))) then (a0, false) else (match XA a0 a1 a2 (a0.ZC.length + 1) 0 a0.ZC with | .inl r1 => r1 | .inr z1_0 => (bif (!(YC (ZF.mk a0.Id z1_0))) then (a0, false) else ((ZF.mk a0.Id z1_0), true))))
def Ya (a0 : ZH) (a1 : Int) (a2 : List Int) (a3 : Int) : Nat -> List Zo -> Nat -> List Int -> Sum (ZH × Bool) ((List Zo) × (List Int))
  | 0, _, _, _ => .inr (default, default)
  | n1 + 1, J, U, v9 => (bif (decide ((U : Int) < (a2.length : Int))) then (bif ((decide ((ZW a0.Frame.ZD (nth a2 U)) < 0)) || (decide ((ZW a0.Frame.ZD (nth a2 U)) >= (a0.YG.length : Int)))) then (.inl (a0, false)) else (bif ((decide ((YB a0.Frame.Zk (nth a0.Frame.ZD (ZW a0.Frame.ZD (nth a2 U)).toNat).Key) < 0)) || (decide ((nth a0.Frame.Zk (YB a0.Frame.Zk (nth a0.Frame.ZD (ZW a0.Frame.ZD (nth a2 U)).toNat).Key).toNat).qN > a0.Frame.Now))) then (.inl (a0, false)) else (bif (Jd a0.YW (nth a2 U)) then (bif (!(JV a0.Frame.Zk a0.Frame.ZD (Zo.mk (nth a2 U) (nth a0.YG (ZW a0.Frame.ZD (nth a2 U)).toNat) (if (if (W (a0.Frame.Now + a3)) < 10000 then (W (a0.Frame.Now + a3)) else 10000) > 0 then (if (W (a0.Frame.Now + a3)) < 10000 then (W (a0.Frame.Now + a3)) else 10000) else 0) (XR (nth a0.ZA a1.toNat) (ZX a0.Frame.Methods a0.Frame.Now)) 0)).2) then (.inl (a0, false)) else Ya a0 a1 a2 a3 n1 (J ++ ([(JV a0.Frame.Zk a0.Frame.ZD (Zo.mk (nth a2 U) (nth a0.YG (ZW a0.Frame.ZD (nth a2 U)).toNat) (if (if (W (a0.Frame.Now + a3)) < 10000 then (W (a0.Frame.Now + a3)) else 10000) > 0 then (if (W (a0.Frame.Now + a3)) < 10000 then (W (a0.Frame.Now + a3)) else 10000) else 0) (XR (nth a0.ZA a1.toNat) (ZX a0.Frame.Methods a0.Frame.Now)) 0)).1] : List Zo)) (U + 1) (v9.set (ZW a0.Frame.ZD (nth a2 U)).toNat (W ((nth v9 (ZW a0.Frame.ZD (nth a2 U)).toNat) + 1)))) else (bif (!(JV a0.Frame.Zk a0.Frame.ZD (Zo.mk (nth a2 U) (nth a0.YG (ZW a0.Frame.ZD (nth a2 U)).toNat) a0.Frame.Now (XR (nth a0.ZA a1.toNat) (ZX a0.Frame.Methods a0.Frame.Now)) 0)).2) then (.inl (a0, false)) else Ya a0 a1 a2 a3 n1 (J ++ ([(JV a0.Frame.Zk a0.Frame.ZD (Zo.mk (nth a2 U) (nth a0.YG (ZW a0.Frame.ZD (nth a2 U)).toNat) a0.Frame.Now (XR (nth a0.ZA a1.toNat) (ZX a0.Frame.Methods a0.Frame.Now)) 0)).1] : List Zo)) (U + 1) (v9.set (ZW a0.Frame.ZD (nth a2 U)).toNat (W ((nth v9 (ZW a0.Frame.ZD (nth a2 U)).toNat) + 1))))))) else (.inr (J, v9)))
def YV (a0 : ZH) (a1 : Int) (a2 : List Int) (a3 : Int) : ZH × Bool := (bif (((((!(Z6 a0 a1)) || (decide ((ZX a0.Frame.Methods a0.Frame.Now) < 0))) || (!(Qg a2))) || ((a2.length : Int) == 0)) || (!(Za a3 (-10000) 10000))) then (a0, false) else (match Ya a0 a1 a2 a3 (a2.length + 1) ([] : List Zo) 0 a0.YG with | .inl r1 => r1 | .inr (z1_0, z1_1) => (bif (!(Yl (nth a0.ZA a1.toNat) (ZX a0.Frame.Methods a0.Frame.Now) z1_0).2) then (a0, false) else ((ZH.mk a0.Frame a0.ZR a0.Zu (a0.ZA.set a1.toNat (Yl (nth a0.ZA a1.toNat) (ZX a0.Frame.Methods a0.Frame.Now) z1_0).1) z1_1 a0.YW a0.Next a0.Yk), true))))
def KA (a0 : ZH) (a1 : Int) : ZH × Bool := (bif ((!(Z8 a1 0 (W ((a0.Zu.length : Int) - 1)))) || ((nth a0.Zu a1.toNat) != (-1))) then (a0, false) else ((ZH.mk a0.Frame a0.ZR (a0.Zu.set a1.toNat (W (a0.Frame.Now + 1))) a0.ZA a0.YG a0.YW a0.Next a0.Yk), true))
def Ym (a0 : List UInt8) : ZH × Int := (bif (QK (Zl (Zz a0)).1 3).2 then ((KA (Zl (Zz a0)).2 0).1, (ZB (QK (Zl (Zz a0)).1 3).1 5).2) else ((Zl (Zz a0)).2, (ZB (QK (Zl (Zz a0)).1 3).1 5).2))
def zj (a0 : ZH) (a1 : Int) : Nat -> Nat -> Sum (Int × Int) Unit
  | 0, _ => .inr ()
  | n1 + 1, J => (bif (decide ((J : Int) < (a0.ZA.length : Int))) then (bif (decide ((ZU (nth a0.ZA J) a1) >= 0)) then (.inl ((J : Int), (ZU (nth a0.ZA J) a1))) else zj a0 a1 n1 (J + 1)) else (.inr ()))
def Yi (a0 : ZH) (a1 : Int) : Int × Int := (match zj a0 a1 (a0.ZA.length + 1) 0 with | .inl r1 => r1 | .inr _ => ((-1), (-1)))
def Xt (a0 : Zf) : Int := (bif ((((a0.Y0.length : Int) == 0) || (!(Za (nth a0.Y0 0) 101 105))) || ((a0.Y0.length : Int) != (nth ([7, 5, 5, 9, 6] : List Int) (W ((nth a0.Y0 0) - 101)).toNat))) then 0 else (nth a0.Y0 0))
def JT (a0 : Zf) : Ye × Bool := (bif (((Xt a0) != 101) || ((nth a0.Y0 6) != a0.Key)) then ((Ye.mk 0 0 0 0 0 0 0), false) else ((Ye.mk (nth a0.Y0 1) (nth a0.Y0 2) (nth a0.Y0 3) (nth a0.Y0 4) (nth a0.Y0 5) (nth a0.Y0 6) a0.Mark), true))
def YK (a0 : ZH) (a1 : Int) : Int × Int × Bool := (bif ((decide ((Yi a0 a1).1 < 0)) || (decide (((nth (nth a0.ZA (Yi a0 a1).1.toNat).ZC (Yi a0 a1).2.toNat).ZM.ZO.length : Int) < 2))) then (0, 0, false) else ((Yi a0 a1).1, (XU a0.ZR (JT (nth (nth (nth a0.ZA (Yi a0 a1).1.toNat).ZC (Yi a0 a1).2.toNat).ZM.ZO 1)).1.ZV), ((JT (nth (nth (nth a0.ZA (Yi a0 a1).1.toNat).ZC (Yi a0 a1).2.toNat).ZM.ZO 1)).2 && (decide ((XU a0.ZR (JT (nth (nth (nth a0.ZA (Yi a0 a1).1.toNat).ZC (Yi a0 a1).2.toNat).ZM.ZO 1)).1.ZV) >= 0)))))
def QQ (a0 : Zp) : List Int := ([102, a0.ZV, a0.Sr, a0.Zu, a0.Zn] : List Int)
def ji (a0 : Zp) : Bool := ((((Za a0.ZV 1 999) && (Kd a0.Sr)) && (Za a0.Zu (-1) (W (a0.Sr + 1)))) && (Za a0.Zn 1 99))
def YQ (a0 : List Y4) (a1 : Zp) : Zp × Bool := (bif ((!(ji a1)) || (!(KD a0 a1.Zn (QQ a1)).2)) then ((Zp.mk 0 0 0 0 0), false) else ((Zp.mk a1.ZV a1.Sr a1.Zu a1.Zn (KD a0 a1.Zn (QQ a1)).1), true))
def Yr (a0 : Zp) : Zf := (Zf.mk a0.Zn (QQ a0) a0.Mark)
def Xo (a0 : Zi) (a1 : Zf) : Zi × Bool := (bif (!(Xp (Zi.mk (a0.ZO ++ ([a1] : List Zf)) a0.Zj))) then (a0, false) else ((Zi.mk (a0.ZO ++ ([a1] : List Zf)) a0.Zj), true))
def Yv (a0 : ZF) (a1 : Int) (a2 : Zf) : ZF × Bool := (bif (decide ((ZU a0 a1) < 0)) then (a0, false) else ((ZF.mk a0.Id (a0.ZC.set (ZU a0 a1).toNat (ZZ.mk (nth a0.ZC (ZU a0 a1).toNat).Id (nth a0.ZC (ZU a0 a1).toNat).Y9 (nth a0.ZC (ZU a0 a1).toNat).Doc (nth a0.ZC (ZU a0 a1).toNat).Sig (Xo (nth a0.ZC (ZU a0 a1).toNat).ZM a2).1))), (Xo (nth a0.ZC (ZU a0 a1).toNat).ZM a2).2))
def QG (a0 : ZH) (a1 : Int) (a2 : Int) (a3 : Zp) : ZH × Bool := (bif ((!(YQ a0.Frame.Zk a3).2) || (!(Yv (nth a0.ZA a1.toNat) a2 (Yr (YQ a0.Frame.Zk a3).1)).2)) then (a0, false) else ((ZH.mk a0.Frame a0.ZR a0.Zu (a0.ZA.set a1.toNat (Yv (nth a0.ZA a1.toNat) a2 (Yr (YQ a0.Frame.Zk a3).1)).1) a0.YG a0.YW a0.Next a0.Yk), true))
def Qb (a0 : ZH) (a1 : Int) : ZH × Bool := (bif ((!(YK a0 a1).2.2) || (decide ((YK a0 a1).2.1 >= (a0.Zu.length : Int)))) then (a0, false) else (bif ((decide ((YB a0.Frame.Zk (nth a0.ZR (YK a0 a1).2.1.toNat).Zn) < 0)) || (decide ((nth a0.Frame.Zk (YB a0.Frame.Zk (nth a0.ZR (YK a0 a1).2.1.toNat).Zn).toNat).qN > a0.Frame.Now))) then (a0, false) else (bif (decide ((nth a0.Zu (YK a0 a1).2.1.toNat) > (W (a0.Frame.Now + 1)))) then ((QG a0 (YK a0 a1).1 a1 (Zp.mk (nth a0.ZR (YK a0 a1).2.1.toNat).ZV a0.Frame.Now (-1) (nth a0.ZR (YK a0 a1).2.1.toNat).Zn 0)).1, (QG a0 (YK a0 a1).1 a1 (Zp.mk (nth a0.ZR (YK a0 a1).2.1.toNat).ZV a0.Frame.Now (-1) (nth a0.ZR (YK a0 a1).2.1.toNat).Zn 0)).2) else ((QG a0 (YK a0 a1).1 a1 (Zp.mk (nth a0.ZR (YK a0 a1).2.1.toNat).ZV a0.Frame.Now (nth a0.Zu (YK a0 a1).2.1.toNat) (nth a0.ZR (YK a0 a1).2.1.toNat).Zn 0)).1, (QG a0 (YK a0 a1).1 a1 (Zp.mk (nth a0.ZR (YK a0 a1).2.1.toNat).ZV a0.Frame.Now (nth a0.Zu (YK a0 a1).2.1.toNat) (nth a0.ZR (YK a0 a1).2.1.toNat).Zn 0)).2))))
def ZY (a0 : List UInt8) : ZH × Int := (bif (QK (Zl (Zz a0)).1 3).2 then ((KA (Zl (Zz a0)).2 1).1, (W ((ZB (QK (Zl (Zz a0)).1 3).1 5).2 - 1))) else ((Zl (Zz a0)).2, (W ((ZB (QK (Zl (Zz a0)).1 3).1 5).2 - 1))))
def Z7 (a0 : ZH) (a1 : Int) : ZH × Bool := (bif ((!(Za a1 0 (W ((a0.Zu.length : Int) - 1)))) || ((nth a0.Zu a1.toNat) != (-1))) then (a0, false) else ((ZH.mk a0.Frame a0.ZR (a0.Zu.set a1.toNat (W (a0.Frame.Now + 1))) a0.ZA a0.YG a0.YW a0.Next a0.Yk), true))
def Z1 (a0 : List UInt8) : ZH × Int × Int × Int := ((Zl (Zz a0)).2, (ZB (Zl (Zz a0)).1 3).2, (ZB (ZB (Zl (Zz a0)).1 3).1 3).2, (ZB (ZB (ZB (Zl (Zz a0)).1 3).1 3).1 5).2)
def kI (a0 : Int) (a1 : ZZ) : Nat -> List Int -> Nat -> (List Int)
  | 0, _, _ => default
  | n1 + 1, J, U => (bif (decide ((U : Int) < (a1.ZM.Zj.length : Int))) then kI a0 a1 n1 (J ++ ([(JD a0 (nth a1.ZM.Zj U))] : List Int)) (U + 1) else (J))
def VB (a0 : Int) (a1 : ZZ) : Int := (match kI a0 a1 (a1.ZM.Zj.length + 1) ([5, a1.Id, a1.Y9, (YN a0 a1.Doc), (Qt a0 a1.ZM.ZO)] : List Int) 0 with | z1_0 => (JE a0 z1_0))
def xj (a0 : Int) (a1 : List ZZ) : Nat -> List Int -> Nat -> (List Int)
  | 0, _, _ => default
  | n1 + 1, J, U => (bif (decide ((U : Int) < (a1.length : Int))) then xj a0 a1 n1 (J ++ ([(VB a0 (nth a1 U))] : List Int)) (U + 1) else (J))
def QD (a0 : Int) (a1 : List ZZ) : Int := (match xj a0 a1 (a1.length + 1) ([] : List Int) 0 with | z1_0 => (y0 a0 z1_0))
def X9 (a0 : ZF) (a2 : List Int) : Nat -> Nat -> List ZZ -> Sum (XE × Bool) (List ZZ)
  | 0, _, _ => .inr default
  | n1 + 1, J, U => (bif (decide ((J : Int) < (a2.length : Int))) then (bif (decide ((ZU a0 (nth a2 J)) < 0)) then (.inl ((XE.mk 0 0 ([] : List ZZ) 0), false)) else X9 a0 a2 n1 (J + 1) (U ++ ([(nth a0.ZC (ZU a0 (nth a2 J)).toNat)] : List ZZ))) else (.inr U))
def Y2 (a0 : ZF) (a1 : Int) (a2 : List Int) (a3 : Int) : XE × Bool := (match X9 a0 a2 (a2.length + 1) 0 ([] : List ZZ) with | .inl r1 => r1 | .inr z1_0 => (bif ((a2.length : Int) == 0) then ((XE.mk 0 0 ([] : List ZZ) 0), false) else ((XE.mk a0.Id a1 z1_0 (QD a3 z1_0)), true)))
def Jx (a0 : XE) : Nat -> Nat -> Sum Bool Unit
  | 0, _ => .inr ()
  | n1 + 1, J => (bif (decide ((J : Int) < (a0.ZC.length : Int))) then (bif (!(JF (nth a0.ZC J))) then (.inl false) else Jx a0 n1 (J + 1)) else (.inr ()))
def zI (a0 : XE) (a1 : Int) : Bool := (match Jx a0 (a0.ZC.length + 1) 0 with | .inl r1 => r1 | .inr _ => ((Za (a0.ZC.length : Int) 1 8) && (a0.XJ == (QD a1 a0.ZC))))
def Xz (a0 : ZF) (a1 : XE) : Nat -> Nat -> Int -> List ZZ -> Sum (ZF × Bool) (Int × (List ZZ))
  | 0, _, _, _ => .inr (default, default)
  | n1 + 1, J, U, v9 => (bif (decide ((J : Int) < (a1.ZC.length : Int))) then (bif (!(YI (ZF.mk U v9) (nth a1.ZC J)).2) then (.inl (a0, false)) else Xz a0 a1 n1 (J + 1) (YI (ZF.mk U v9) (nth a1.ZC J)).1.Id (YI (ZF.mk U v9) (nth a1.ZC J)).1.ZC) else (.inr (U, v9)))
def XD (a0 : ZF) (a1 : XE) (a2 : Int) : ZF × Bool := (bif ((!(zI a1 a2)) || (a1.To != a0.Id)) then (a0, false) else (match Xz a0 a1 (a1.ZC.length + 1) 0 a0.Id a0.ZC with | .inl r1 => r1 | .inr (z1_0, z1_1) => ((ZF.mk z1_0 z1_1), true)))
def X2 (a0 : ZF) (a1 : Int) : ZF × Bool := (bif (decide ((ZU a0 a1) < 0)) then (a0, false) else ((ZF.mk a0.Id (a0.ZC.take (ZU a0 a1).toNat ++ (a0.ZC.drop (W ((ZU a0 a1) + 1)).toNat))), true))
def Qo (a0 : ZF) (a1 : ZF) (a2 : List Int) : Nat -> Nat -> Int -> List ZZ -> Sum (ZF × ZF × Bool) (Int × (List ZZ))
  | 0, _, _, _ => .inr (default, default)
  | n1 + 1, J, U, v9 => (bif (decide ((J : Int) < (a2.length : Int))) then (bif (!(X2 (ZF.mk U v9) (nth a2 J)).2) then (.inl (a0, a1, false)) else Qo a0 a1 a2 n1 (J + 1) (X2 (ZF.mk U v9) (nth a2 J)).1.Id (X2 (ZF.mk U v9) (nth a2 J)).1.ZC) else (.inr (U, v9)))
def Yt (a0 : ZF) (a1 : ZF) (a2 : List Int) (a3 : Int) : ZF × ZF × Bool := (bif ((!(Y2 a0 a1.Id a2 a3).2) || (!(XD a1 (Y2 a0 a1.Id a2 a3).1 a3).2)) then (a0, a1, false) else (match Qo a0 a1 a2 (a2.length + 1) 0 a0.Id a0.ZC with | .inl r1 => r1 | .inr (z1_0, z1_1) => ((ZF.mk z1_0 z1_1), (XD a1 (Y2 a0 a1.Id a2 a3).1 a3).1, true)))
def Je (a0 : ZH) (a1 : Int) (a2 : Int) (a3 : Int) : ZH × Bool := (bif ((((!(Z6 a0 a1)) || (!(Z6 a0 a2))) || (a1 == a2)) || (decide ((ZX a0.Frame.Methods a0.Frame.Now) < 0))) then (a0, false) else (bif (Yt (nth a0.ZA a1.toNat) (nth a0.ZA a2.toNat) ([a3] : List Int) (ZX a0.Frame.Methods a0.Frame.Now)).2.2 then ((ZH.mk a0.Frame a0.ZR a0.Zu ((a0.ZA.set a1.toNat (Yt (nth a0.ZA a1.toNat) (nth a0.ZA a2.toNat) ([a3] : List Int) (ZX a0.Frame.Methods a0.Frame.Now)).1).set a2.toNat (Yt (nth a0.ZA a1.toNat) (nth a0.ZA a2.toNat) ([a3] : List Int) (ZX a0.Frame.Methods a0.Frame.Now)).2.1) a0.YG a0.YW a0.Next a0.Yk), (Yt (nth a0.ZA a1.toNat) (nth a0.ZA a2.toNat) ([a3] : List Int) (ZX a0.Frame.Methods a0.Frame.Now)).2.2) else (a0, (Yt (nth a0.ZA a1.toNat) (nth a0.ZA a2.toNat) ([a3] : List Int) (ZX a0.Frame.Methods a0.Frame.Now)).2.2)))
def YY (a0 : List UInt8) : ZH × Int := ((Zl (Zz a0)).2, (W ((ZB (Zl (Zz a0)).1 4).2 - 1)))
def X7 (a0 : ZF) (a1 : Int) : Nat -> Nat -> List ZZ -> (List ZZ)
  | 0, _, _ => default
  | n1 + 1, J, U => (bif (decide ((J : Int) < (a0.ZC.length : Int))) then (bif (decide ((nth a0.ZC J).Y9 >= a1)) then X7 a0 a1 n1 (J + 1) (U ++ ([(nth a0.ZC J)] : List ZZ)) else X7 a0 a1 n1 (J + 1) U) else (U))
def KE (a0 : ZF) (a1 : Int) : ZF × Int := (match X7 a0 a1 (a0.ZC.length + 1) 0 ([] : List ZZ) with | z1_0 => ((ZF.mk a0.Id z1_0), (W ((a0.ZC.length : Int) - (z1_0.length : Int)))))
def QU (a0 : ZH) (a1 : Int) : ZH × Bool := (bif (!(Z6 a0 a1)) then (a0, false) else ((ZH.mk a0.Frame a0.ZR a0.Zu (a0.ZA.set a1.toNat (KE (nth a0.ZA a1.toNat) a0.Frame.Now).1) a0.YG a0.YW a0.Next a0.Yk), true))
def qw (a0 : List UInt8) : Nat -> Nat -> Sum Bool Unit
  | 0, _ => .inr ()
  | n1 + 1, J => (bif ((decide ((J : Int) < ((ZK a0).1.YG.length : Int))) && (YV (ZK a0).1 (ZK a0).2.1 (ZK a0).2.2.1 (ZK a0).2.2.2).2) then (bif (decide ((nth (YV (ZK a0).1 (ZK a0).2.1 (ZK a0).2.2.1 (ZK a0).2.2.2).1.YG J) < (nth (ZK a0).1.YG J))) then (.inl false) else qw a0 n1 (J + 1)) else (.inr ()))
def WY (a0 : List UInt8) : Bool := (bif (F4 a0) then true else (bif (((XK (ZQ a0).1 (ZQ a0).2.1 (ZQ a0).2.2.1 (ZQ a0).2.2.2.1 (ZQ a0).2.2.2.2.1 (ZQ a0).2.2.2.2.2).2 && ((!(QM (XK (ZQ a0).1 (ZQ a0).2.1 (ZQ a0).2.2.1 (ZQ a0).2.2.2.1 (ZQ a0).2.2.2.2.1 (ZQ a0).2.2.2.2.2).1)) || ((XK (ZQ a0).1 (ZQ a0).2.1 (ZQ a0).2.2.1 (ZQ a0).2.2.2.1 (ZQ a0).2.2.2.2.1 (ZQ a0).2.2.2.2.2).1.Next != (W ((ZQ a0).1.Next + 1))))) || ((!(XK (ZQ a0).1 (ZQ a0).2.1 (ZQ a0).2.2.1 (ZQ a0).2.2.2.1 (ZQ a0).2.2.2.2.1 (ZQ a0).2.2.2.2.2).2) && (!(KT (XK (ZQ a0).1 (ZQ a0).2.1 (ZQ a0).2.2.1 (ZQ a0).2.2.2.1 (ZQ a0).2.2.2.2.1 (ZQ a0).2.2.2.2.2).1 (ZQ a0).1)))) then false else (bif (((YV (ZK a0).1 (ZK a0).2.1 (ZK a0).2.2.1 (ZK a0).2.2.2).2 && (!(QM (YV (ZK a0).1 (ZK a0).2.1 (ZK a0).2.2.1 (ZK a0).2.2.2).1))) || ((!(YV (ZK a0).1 (ZK a0).2.1 (ZK a0).2.2.1 (ZK a0).2.2.2).2) && (!(KT (ZK a0).1 (YV (ZK a0).1 (ZK a0).2.1 (ZK a0).2.2.1 (ZK a0).2.2.2).1)))) then false else (match qw a0 ((ZK a0).1.YG.length + 1) 0 with | .inl r1 => r1 | .inr _ => (((((!(Qb (Ym a0).1 (Ym a0).2).2) || (QM (Qb (Ym a0).1 (Ym a0).2).1)) && ((!(Z7 (ZY a0).1 (ZY a0).2).2) || ((QM (Z7 (ZY a0).1 (ZY a0).2).1) && ((nth (Z7 (ZY a0).1 (ZY a0).2).1.Zu (ZY a0).2.toNat) == (W ((ZY a0).1.Frame.Now + 1)))))) && ((!(Je (Z1 a0).1 (Z1 a0).2.1 (Z1 a0).2.2.1 (Z1 a0).2.2.2).2) || (QM (Je (Z1 a0).1 (Z1 a0).2.1 (Z1 a0).2.2.1 (Z1 a0).2.2.2).1))) && ((!(QU (YY a0).1 (YY a0).2).2) || (QM (QU (YY a0).1 (YY a0).2).1)))))))
def jn (a0 : ZH) (a1 : Int) : ZH × Bool := (bif ((!(Za a1 0 100)) || (decide ((W (a0.Frame.Now + a1)) > 10000))) then (a0, false) else ((ZH.mk (Zv.mk a0.Frame.Zk a0.Frame.ZD a0.Frame.Methods a0.Frame.Ky (W (a0.Frame.Now + a1))) a0.ZR a0.Zu a0.ZA a0.YG a0.YW a0.Next a0.Yk), true))
end Go.Mo
