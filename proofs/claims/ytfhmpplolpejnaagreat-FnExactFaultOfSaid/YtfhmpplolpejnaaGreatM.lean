/- Models of the functions: what each computes, on typed data. No condition. -/
import Derived.Test.YtfhmpplolpejnaaGreatMo
namespace Go.Mo
open Go.Vm
def Xv (a0 : List Zy) (a1 : Int) : Int := (bif (decide ((W (a1 - (↑a0.length : Int))) < 0)) then (-1) else (W (a1 - (↑a0.length : Int))))
def Y6 (a0 : List ZF) (a1 : Int) : Int := (bif (decide ((W (a1 - (↑a0.length : Int))) < 0)) then (-1) else (W (a1 - (↑a0.length : Int))))
def zW (a0 : List Zg) (a1 : Int) : Int := (bif (decide ((W (a1 - (↑a0.length : Int))) < 0)) then (-1) else (W (a1 - (↑a0.length : Int))))
def Z0 (a0 : ZH) (a1 : Int) : Int := (bif (decide ((Xv a0.Yb a1) < 0)) then (-1) else (bif (decide ((Y6 a0.ZU (Xv a0.Yb a1)) < 0)) then (-1) else (bif (decide ((zW a0.Methods (Y6 a0.ZU (Xv a0.Yb a1))) < 0)) then (-1) else (zW a0.Methods (Y6 a0.ZU (Xv a0.Yb a1))))))
def YC (a0 : List Zs) (a1 : Int) : Int := (bif (decide ((W (a1 - (↑a0.length : Int))) < 0)) then (-1) else (W (a1 - (↑a0.length : Int))))
def Zk (a0 : List Int) (a1 : Int) : Int := (bif (decide ((W (a1 - (↑a0.length : Int))) < 0)) then (-1) else (W (a1 - (↑a0.length : Int))))
def xj (a0 : List ByteArray) : Nat → Int → Nat → Sum Int Int
  | 0, _, _ => .inr default
  | n1 + 1, v1_0, v1_1 => (bif (decide ((↑v1_1 : Int) < (↑a0.length : Int))) then (bif (decide ((W (v1_0 - (↑(nth a0 v1_1).size : Int))) < 0)) then (.inl (-1)) else xj a0 n1 (W (v1_0 - (↑(nth a0 v1_1).size : Int))) (v1_1 + 1)) else (.inr v1_0))
def Xh (a0 : List ByteArray) (a1 : Int) : Int := (bif (decide ((W (a1 - (↑a0.length : Int))) < 0)) then (-1) else (match xj a0 (a0.length + 1) (W (a1 - (↑a0.length : Int))) 0 with | .inl r1 => r1 | .inr z1_0 => z1_0))
def XD (a0 : Zd) (a1 : Int) : Int := (bif (decide ((Xh a0.YY a1) < 0)) then (-1) else (bif (decide ((Zk a0.XI (Xh a0.YY a1)) < 0)) then (-1) else (Zk a0.XI (Xh a0.YY a1))))
def qS (a0 : ZB) (a1 : Int) : Int := (bif (decide ((Zk a0.Zb a1) < 0)) then (-1) else (Zk a0.Zb a1))
def jD (a0 : List ZB) : Nat → Int → Nat → Sum Int Int
  | 0, _, _ => .inr default
  | n1 + 1, v1_0, v1_1 => (bif (decide ((↑v1_1 : Int) < (↑a0.length : Int))) then (bif (decide ((qS (nth a0 v1_1) v1_0) < 0)) then (.inl (-1)) else jD a0 n1 (qS (nth a0 v1_1) v1_0) (v1_1 + 1)) else (.inr v1_0))
def QF (a0 : List ZB) (a1 : Int) : Int := (bif (decide ((W (a1 - (↑a0.length : Int))) < 0)) then (-1) else (match jD a0 (a0.length + 1) (W (a1 - (↑a0.length : Int))) 0 with | .inl r1 => r1 | .inr z1_0 => z1_0))
def Qx (a0 : List Yq) (a1 : Int) : Int := (bif (decide ((W (a1 - (↑a0.length : Int))) < 0)) then (-1) else (W (a1 - (↑a0.length : Int))))
def yR (a0 : List ZZ) (a1 : Int) : Int := (bif (decide ((W (a1 - (↑a0.length : Int))) < 0)) then (-1) else (W (a1 - (↑a0.length : Int))))
def zS (a0 : ZV) (a1 : Int) : Int := (bif (decide ((Qx a0.Path a1) < 0)) then (-1) else (bif (decide ((yR a0.Zf (Qx a0.Path a1)) < 0)) then (-1) else (yR a0.Zf (Qx a0.Path a1))))
def yd (a0 : List ZV) : Nat → Int → Nat → Sum Int Int
  | 0, _, _ => .inr default
  | n1 + 1, v1_0, v1_1 => (bif (decide ((↑v1_1 : Int) < (↑a0.length : Int))) then (bif (decide ((zS (nth a0 v1_1) v1_0) < 0)) then (.inl (-1)) else yd a0 n1 (zS (nth a0 v1_1) v1_0) (v1_1 + 1)) else (.inr v1_0))
def KR (a0 : List ZV) (a1 : Int) : Int := (bif (decide ((W (a1 - (↑a0.length : Int))) < 0)) then (-1) else (match yd a0 (a0.length + 1) (W (a1 - (↑a0.length : Int))) 0 with | .inl r1 => r1 | .inr z1_0 => z1_0))
def KY (a0 : ZK) (a1 : Int) : Int := (bif (decide ((QF a0.ZT a1) < 0)) then (-1) else (bif (decide ((KR a0.ZM (QF a0.ZT a1)) < 0)) then (-1) else (KR a0.ZM (QF a0.ZT a1))))
def xt (a0 : Zt) (a1 : Int) : Int := (bif (decide ((XD a0.Doc a1) < 0)) then (-1) else (bif (decide ((KY a0.Yl (XD a0.Doc a1)) < 0)) then (-1) else (KY a0.Yl (XD a0.Doc a1))))
def qg (a0 : List Zt) : Nat → Int → Nat → Sum Int Int
  | 0, _, _ => .inr default
  | n1 + 1, v1_0, v1_1 => (bif (decide ((↑v1_1 : Int) < (↑a0.length : Int))) then (bif (decide ((xt (nth a0 v1_1) v1_0) < 0)) then (.inl (-1)) else qg a0 n1 (xt (nth a0 v1_1) v1_0) (v1_1 + 1)) else (.inr v1_0))
def J2 (a0 : List Zt) (a1 : Int) : Int := (bif (decide ((W (a1 - (↑a0.length : Int))) < 0)) then (-1) else (match qg a0 (a0.length + 1) (W (a1 - (↑a0.length : Int))) 0 with | .inl r1 => r1 | .inr z1_0 => z1_0))
def Qn (a0 : Zc) (a1 : Int) : Int := (bif (decide ((J2 a0.Zh a1) < 0)) then (-1) else (J2 a0.Zh a1))
def K9 (a0 : List Zc) : Nat → Int → Nat → Sum Int Int
  | 0, _, _ => .inr default
  | n1 + 1, v1_0, v1_1 => (bif (decide ((↑v1_1 : Int) < (↑a0.length : Int))) then (bif (decide ((Qn (nth a0 v1_1) v1_0) < 0)) then (.inl (-1)) else K9 a0 n1 (Qn (nth a0 v1_1) v1_0) (v1_1 + 1)) else (.inr v1_0))
def YG (a0 : List Zc) (a1 : Int) : Int := (bif (decide ((W (a1 - (↑a0.length : Int))) < 0)) then (-1) else (match K9 a0 (a0.length + 1) (W (a1 - (↑a0.length : Int))) 0 with | .inl r1 => r1 | .inr z1_0 => z1_0))
def zC (a0 : Zi) (a1 : Int) : Int := (bif (decide ((Z0 a0.Frame a1) < 0)) then (-1) else (bif (decide ((YC a0.YN (Z0 a0.Frame a1)) < 0)) then (-1) else (bif (decide ((Zk a0.YX (YC a0.YN (Z0 a0.Frame a1))) < 0)) then (-1) else (bif (decide ((YG a0.ZE (Zk a0.YX (YC a0.YN (Z0 a0.Frame a1)))) < 0)) then (-1) else (bif (decide ((Zk a0.Qg (YG a0.ZE (Zk a0.YX (YC a0.YN (Z0 a0.Frame a1))))) < 0)) then (-1) else (bif (decide ((Zk a0.Y4 (Zk a0.Qg (YG a0.ZE (Zk a0.YX (YC a0.YN (Z0 a0.Frame a1)))))) < 0)) then (-1) else (bif (decide ((Zk a0.XQ (Zk a0.Y4 (Zk a0.Qg (YG a0.ZE (Zk a0.YX (YC a0.YN (Z0 a0.Frame a1))))))) < 0)) then (-1) else (Zk a0.XQ (Zk a0.Y4 (Zk a0.Qg (YG a0.ZE (Zk a0.YX (YC a0.YN (Z0 a0.Frame a1))))))))))))))
def IK (a0 : Zy) : Zy := a0
def SF (a0 : List Zy) : Nat → Nat → List Zy → (List Zy)
  | 0, _, _ => default
  | n1 + 1, v1_0, v1_1 => (bif (decide ((↑v1_0 : Int) < (↑a0.length : Int))) then SF a0 n1 (v1_0 + 1) (v1_1.set v1_0 (nth a0 v1_0)) else (v1_1))
def Hj (a0 : List Zy) : List Zy := (match SF a0 (a0.length + 1) 0 (List.replicate a0.length (Zy.mk 0 0 0 0 0)) with | z1_0 => z1_0)
def kQ (a0 : ZF) : ZF := a0
def y6 (a0 : List ZF) : Nat → Nat → List ZF → (List ZF)
  | 0, _, _ => default
  | n1 + 1, v1_0, v1_1 => (bif (decide ((↑v1_0 : Int) < (↑a0.length : Int))) then y6 a0 n1 (v1_0 + 1) (v1_1.set v1_0 (nth a0 v1_0)) else (v1_1))
def VP (a0 : List ZF) : List ZF := (match y6 a0 (a0.length + 1) 0 (List.replicate a0.length (ZF.mk 0 0 0)) with | z1_0 => z1_0)
def SB (a0 : Zg) : Zg := a0
def kO (a0 : List Zg) : Nat → Nat → List Zg → (List Zg)
  | 0, _, _ => default
  | n1 + 1, v1_0, v1_1 => (bif (decide ((↑v1_0 : Int) < (↑a0.length : Int))) then kO a0 n1 (v1_0 + 1) (v1_1.set v1_0 (nth a0 v1_0)) else (v1_1))
def RJ (a0 : List Zg) : List Zg := (match kO a0 (a0.length + 1) 0 (List.replicate a0.length (Zg.mk 0 0 0 0)) with | z1_0 => z1_0)
def R9 (a0 : ZH) : ZH := a0
def Oj (a0 : Zs) : Zs := a0
def Vq (a0 : List Zs) : Nat → Nat → List Zs → (List Zs)
  | 0, _, _ => default
  | n1 + 1, v1_0, v1_1 => (bif (decide ((↑v1_0 : Int) < (↑a0.length : Int))) then Vq a0 n1 (v1_0 + 1) (v1_1.set v1_0 (nth a0 v1_0)) else (v1_1))
def ML (a0 : List Zs) : List Zs := (match Vq a0 (a0.length + 1) 0 (List.replicate a0.length (Zs.mk 0 0 0 0 0 0 0)) with | z1_0 => z1_0)
def TZ (a0 : List Int) : Nat → Nat → List Int → (List Int)
  | 0, _, _ => default
  | n1 + 1, v1_0, v1_1 => (bif (decide ((↑v1_0 : Int) < (↑a0.length : Int))) then TZ a0 n1 (v1_0 + 1) (v1_1.set v1_0 (nth a0 v1_0)) else (v1_1))
def Iz (a0 : List Int) : List Int := (match TZ a0 (a0.length + 1) 0 (List.replicate a0.length 0) with | z1_0 => z1_0)
def kI (a0 : List ByteArray) : Nat → Nat → List ByteArray → (List ByteArray)
  | 0, _, _ => default
  | n1 + 1, v1_0, v1_1 => (bif (decide ((↑v1_0 : Int) < (↑a0.length : Int))) then kI a0 n1 (v1_0 + 1) (v1_1.set v1_0 (nth a0 v1_0)) else (v1_1))
def S7 (a0 : List ByteArray) : List ByteArray := (match kI a0 (a0.length + 1) 0 (List.replicate a0.length (⟨#[]⟩ : ByteArray)) with | z1_0 => z1_0)
def WZ (a0 : Zd) : Zd := a0
def kD (a0 : ZY) : ZY := a0
def R7 (a0 : ZB) : ZB := a0
def We (a0 : List ZB) : Nat → Nat → List ZB → (List ZB)
  | 0, _, _ => default
  | n1 + 1, v1_0, v1_1 => (bif (decide ((↑v1_0 : Int) < (↑a0.length : Int))) then We a0 n1 (v1_0 + 1) (v1_1.set v1_0 (nth a0 v1_0)) else (v1_1))
def P5 (a0 : List ZB) : List ZB := (match We a0 (a0.length + 1) 0 (List.replicate a0.length (ZB.mk 0 ([] : List Int) 0)) with | z1_0 => z1_0)
def OV (a0 : Yq) : Yq := a0
def Vn (a0 : List Yq) : Nat → Nat → List Yq → (List Yq)
  | 0, _, _ => default
  | n1 + 1, v1_0, v1_1 => (bif (decide ((↑v1_0 : Int) < (↑a0.length : Int))) then Vn a0 n1 (v1_0 + 1) (v1_1.set v1_0 (nth a0 v1_0)) else (v1_1))
def Nd (a0 : List Yq) : List Yq := (match Vn a0 (a0.length + 1) 0 (List.replicate a0.length (Yq.mk 0 false)) with | z1_0 => z1_0)
def R6 (a0 : ZZ) : ZZ := a0
def Wo (a0 : List ZZ) : Nat → Nat → List ZZ → (List ZZ)
  | 0, _, _ => default
  | n1 + 1, v1_0, v1_1 => (bif (decide ((↑v1_0 : Int) < (↑a0.length : Int))) then Wo a0 n1 (v1_0 + 1) (v1_1.set v1_0 (nth a0 v1_0)) else (v1_1))
def Pu (a0 : List ZZ) : List ZZ := (match Wo a0 (a0.length + 1) 0 (List.replicate a0.length (ZZ.mk 0 0 0 0 0)) with | z1_0 => z1_0)
def V7 (a0 : ZV) : ZV := a0
def jC (a0 : List ZV) : Nat → Nat → List ZV → (List ZV)
  | 0, _, _ => default
  | n1 + 1, v1_0, v1_1 => (bif (decide ((↑v1_0 : Int) < (↑a0.length : Int))) then jC a0 n1 (v1_0 + 1) (v1_1.set v1_0 (nth a0 v1_0)) else (v1_1))
def Tp (a0 : List ZV) : List ZV := (match jC a0 (a0.length + 1) 0 (List.replicate a0.length (ZV.mk 0 0 0 ([] : List Yq) ([] : List ZZ))) with | z1_0 => z1_0)
def Tl (a0 : ZK) : ZK := a0
def OX (a0 : Zt) : Zt := a0
def UM (a0 : List Zt) : Nat → Nat → List Zt → (List Zt)
  | 0, _, _ => default
  | n1 + 1, v1_0, v1_1 => (bif (decide ((↑v1_0 : Int) < (↑a0.length : Int))) then UM a0 n1 (v1_0 + 1) (v1_1.set v1_0 (nth a0 v1_0)) else (v1_1))
def Nm (a0 : List Zt) : List Zt := (match UM a0 (a0.length + 1) 0 (List.replicate a0.length (Zt.mk 0 0 (Zd.mk 0 ([] : List ByteArray) ([] : List Int)) (ZY.mk 0 0 0 0 0 0 0 0 0) (ZK.mk ([] : List ZB) ([] : List ZV)))) with | z1_0 => z1_0)
def V4 (a0 : Zc) : Zc := a0
def jS (a0 : List Zc) : Nat → Nat → List Zc → (List Zc)
  | 0, _, _ => default
  | n1 + 1, v1_0, v1_1 => (bif (decide ((↑v1_0 : Int) < (↑a0.length : Int))) then jS a0 n1 (v1_0 + 1) (v1_1.set v1_0 (nth a0 v1_0)) else (v1_1))
def T3 (a0 : List Zc) : List Zc := (match jS a0 (a0.length + 1) 0 (List.replicate a0.length (Zc.mk 0 ([] : List Zt))) with | z1_0 => z1_0)
def R8 (a0 : Zi) : Zi := a0
def Qw (a0 : List ZF) (a1 : Int) : Nat → Nat → Sum Int Unit
  | 0, _ => .inr ()
  | n1 + 1, v1_0 => (bif (decide ((↑v1_0 : Int) < (↑a0.length : Int))) then (bif ((nth a0 v1_0).Id == a1) then (.inl (↑v1_0 : Int)) else Qw a0 a1 n1 (v1_0 + 1)) else (.inr ()))
def Z2 (a0 : List ZF) (a1 : Int) : Int := (match Qw a0 a1 (a0.length + 1) 0 with | .inl r1 => r1 | .inr _ => (-1))
def Zw (a0 : Int) (a1 : Int) (a2 : Int) : Bool := ((decide (a0 ≥ a1)) && (decide (a0 ≤ a2)))
def yO (a0 : Int) : Bool := (Zw a0 0 10000)
def je (a0 : Int) : Bool := (Zw a0 1 2147483646)
def P9 (a0 : Zy) : Bool := (((((Zw a0.Number 1 99) && (Zw a0.JZ 0 99)) && (Zw a0.Method 0 99)) && (yO a0.Nq)) && (je a0.jz))
def kq (a0 : List Zy) : Nat → Nat → Sum Bool Unit
  | 0, _ => .inr ()
  | n1 + 1, v1_0 => (bif (decide ((↑v1_0 : Int) < (↑a0.length : Int))) then (bif ((!(P9 (nth a0 v1_0))) || ((decide ((↑v1_0 : Int) > 0)) && (decide ((nth a0 (v1_0 - 1)).Number ≥ (nth a0 v1_0).Number)))) then (.inl false) else kq a0 n1 (v1_0 + 1)) else (.inr ()))
def U8 (a0 : List Zy) : Bool := (match kq a0 (a0.length + 1) 0 with | .inl r1 => r1 | .inr _ => (decide ((↑a0.length : Int) ≤ 12)))
def Jn (a0 : List ZF) : Nat → Nat → Sum Bool Unit
  | 0, _ => .inr ()
  | n1 + 1, v1_0 => (bif (decide ((↑v1_0 : Int) < (↑a0.length : Int))) then (bif ((((!(Zw (nth a0 v1_0).Id 0 99)) || (!(Zw (nth a0 v1_0).Key 1 99))) || (!(Zw (nth a0 v1_0).Error 0 100))) || ((decide ((↑v1_0 : Int) > 0)) && (decide ((nth a0 (v1_0 - 1)).Id ≥ (nth a0 v1_0).Id)))) then (.inl false) else Jn a0 n1 (v1_0 + 1)) else (.inr ()))
def Ku (a0 : List ZF) : Bool := (match Jn a0 (a0.length + 1) 0 with | .inl r1 => r1 | .inr _ => (decide ((↑a0.length : Int) ≤ 6)))
def VZ (a0 : Zg) : Bool := ((((((Zw a0.Id 0 99) && (yO a0.U0)) && (Zw a0.Ends 1 10001)) && (Zw a0.js 1 10001)) && (decide (a0.U0 < a0.Ends))) && (decide (a0.U0 < a0.js)))
def yN (a0 : List Zg) : Nat → Nat → Sum Bool Unit
  | 0, _ => .inr ()
  | n1 + 1, v1_0 => (bif (decide ((↑v1_0 : Int) < (↑a0.length : Int))) then (bif ((!(VZ (nth a0 v1_0))) || ((decide ((↑v1_0 : Int) > 0)) && (decide ((nth a0 (v1_0 - 1)).Id ≥ (nth a0 v1_0).Id)))) then (.inl false) else yN a0 n1 (v1_0 + 1)) else (.inr ()))
def qo (a0 : List Zg) : Bool := (match yN a0 (a0.length + 1) 0 with | .inl r1 => r1 | .inr _ => (decide ((↑a0.length : Int) ≤ 8)))
def jr (a0 : ZH) : Bool := (((((U8 a0.Yb) && (Ku a0.ZU)) && (qo a0.Methods)) && (Zw a0.QK 0 6)) && (yO a0.Now))
def yf (a0 : Zs) : ZD := (ZD.mk a0.YE a0.To)
def JF (a0 : ZD) : Bool := (((yO a0.YE) && (yO a0.To)) && (decide (a0.YE ≤ a0.To)))
def RO (a0 : Zs) : Bool := ((((((Zw a0.Z1 1 999) && (Zw a0.Key 1 99)) && (Zw a0.QP 1 99)) && (a0.Key != a0.QP)) && (Zw a0.JZ 0 99)) && (JF (yf a0)))
def zu (a0 : Zs) : List Int := ([101, a0.Z1, a0.Key, a0.JZ, a0.YE, a0.To, a0.QP] : List Int)
def qJ (a0 : List Zy) (a1 : Int) : Nat → Nat → Sum Int Unit
  | 0, _ => .inr ()
  | n1 + 1, v1_0 => (bif (decide ((↑v1_0 : Int) < (↑a0.length : Int))) then (bif ((nth a0 v1_0).Number == a1) then (.inl (↑v1_0 : Int)) else qJ a0 a1 n1 (v1_0 + 1)) else (.inr ()))
def Yc (a0 : List Zy) (a1 : Int) : Int := (match qJ a0 a1 (a0.length + 1) 0 with | .inl r1 => r1 | .inr _ => (-1))
def BQ (a0 : Int) (a1 : Int) : Int := (bif (!(Zw a1 1 1000000000000)) then 0 else (Int.tmod (W ((Int.tmod a0 a1) + a1)) a1))
def Rv (a0 : List Int) : Nat → Int → Nat → Int
  | 0, _, _ => default
  | n1 + 1, v1_0, v1_1 => (bif (decide ((↑v1_1 : Int) < (↑a0.length : Int))) then Rv a0 n1 (Int.tmod (W ((W ((W (v1_0 * 1000003)) + (BQ (nth a0 v1_1) 2147483647))) + 13)) 2147483647) (v1_1 + 1) else (v1_0))
def Nr (a0 : List Int) : Int := (match Rv a0 (a0.length + 1) 11 0 with | z1_0 => z1_0)
def kr (a0 : Int) (a1 : List Int) : Int := (Nr ((([a0] : List Int) ++ a1) ++ ([a0] : List Int)))
def j8 (a0 : Zy) (a1 : List Int) : Int := (kr a0.jz (([a0.Method] : List Int) ++ a1))
def zR (a0 : List Zy) (a1 : Int) (a2 : List Int) (a3 : Int) : Bool := ((decide ((Yc a0 a1) ≥ 0)) && ((j8 (nth a0 (Yc a0 a1).toNat) a2) == a3))
def Ws (a0 : List Zy) (a1 : Int) : Int := (bif (decide ((Yc a0 a1) < 0)) then (-1) else (nth a0 (Yc a0 a1).toNat).JZ)
def qZ (a0 : List Zy) (a1 : Zs) : Bool := (((RO a1) && (zR a0 a1.QP (zu a1) a1.Mark)) && ((Ws a0 a1.Key) == a1.JZ))
def jN (a0 : List Zs) (a1 : Int) : Nat → Nat → Sum Int Unit
  | 0, _ => .inr ()
  | n1 + 1, v1_0 => (bif (decide ((↑v1_0 : Int) < (↑a0.length : Int))) then (bif ((nth a0 v1_0).Z1 == a1) then (.inl (↑v1_0 : Int)) else jN a0 a1 n1 (v1_0 + 1)) else (.inr ()))
def VG (a0 : List Zs) (a1 : Int) : Int := (match jN a0 a1 (a0.length + 1) 0 with | .inl r1 => r1 | .inr _ => (-1))
def Wa (a0 : Zi) : Nat → Nat → Sum Bool Unit
  | 0, _ => .inr ()
  | n2 + 1, v2_0 => (bif (decide ((↑v2_0 : Int) < (↑a0.YX.length : Int))) then (bif (!(Zw (nth a0.YX v2_0) (-1) 10001)) then (.inl false) else Wa a0 n2 (v2_0 + 1)) else (.inr ()))
def Wd (a0 : Zi) : Nat → Nat → Sum Bool Unit
  | 0, _ => .inr ()
  | n1 + 1, v1_0 => (bif (decide ((↑v1_0 : Int) < (↑a0.YN.length : Int))) then (bif ((!(qZ a0.Frame.Yb (nth a0.YN v1_0))) || (decide ((VG a0.YN (nth a0.YN v1_0).Z1) < (↑v1_0 : Int)))) then (.inl false) else Wd a0 n1 (v1_0 + 1)) else (.inr ()))
def Tr (a0 : Zi) : Bool := (match Wd a0 (a0.YN.length + 1) 0 with | .inl r1 => r1 | .inr _ => (match Wa a0 (a0.YX.length + 1) 0 with | .inl r2 => r2 | .inr _ => ((↑a0.YX.length : Int) == (↑a0.YN.length : Int))))
def zB (a0 : Zd) : Nat → Nat → Sum Bool Unit
  | 0, _ => .inr ()
  | n2 + 1, v2_0 => (bif (decide ((↑v2_0 : Int) < (↑a0.XI.length : Int))) then (bif (!(Zw (nth a0.XI v2_0) 1 1000000000000)) then (.inl false) else zB a0 n2 (v2_0 + 1)) else (.inr ()))
def Km (a0 : Zd) : Nat → Nat → Sum Bool Unit
  | 0, _ => .inr ()
  | n1 + 1, v1_0 => (bif (decide ((↑v1_0 : Int) < (↑a0.YY.length : Int))) then (bif (decide ((↑(nth a0.YY v1_0).size : Int) > 40)) then (.inl false) else Km a0 n1 (v1_0 + 1)) else (.inr ()))
def J6 (a0 : Zd) : Bool := (match Km a0 (a0.YY.length + 1) 0 with | .inl r1 => r1 | .inr _ => (match zB a0 (a0.XI.length + 1) 0 with | .inl r2 => r2 | .inr _ => (((Zw a0.jK 0 999) && (Zw (↑a0.YY.length : Int) 1 6)) && ((↑a0.XI.length : Int) == (↑a0.YY.length : Int)))))
def kC (a0 : List Int) (a1 : List Int) : Nat → Nat → Sum Bool Unit
  | 0, _ => .inr ()
  | n1 + 1, v1_0 => (bif (decide ((↑v1_0 : Int) < (↑a0.length : Int))) then (bif ((nth a0 v1_0) != (nth a1 v1_0)) then (.inl false) else kC a0 a1 n1 (v1_0 + 1)) else (.inr ()))
def UI (a0 : List Int) (a1 : List Int) : Bool := (bif ((↑a0.length : Int) != (↑a1.length : Int)) then false else (match kC a0 a1 (a0.length + 1) 0 with | .inl r1 => r1 | .inr _ => true))
def JQ (a0 : ZB) (a1 : ZB) : Bool := (((a0.Key == a1.Key) && (a0.Mark == a1.Mark)) && (UI a0.Zb a1.Zb))
def yB (a0 : ZK) (a1 : ZB) : Nat → Nat → Sum Int Unit
  | 0, _ => .inr ()
  | n1 + 1, v1_0 => (bif (decide ((↑v1_0 : Int) < (↑a0.ZT.length : Int))) then (bif (JQ (nth a0.ZT v1_0) a1) then (.inl (↑v1_0 : Int)) else yB a0 a1 n1 (v1_0 + 1)) else (.inr ()))
def Qj (a0 : ZK) (a1 : ZB) : Int := (match yB a0 a1 (a0.ZT.length + 1) 0 with | .inl r1 => r1 | .inr _ => (-1))
def xL (a0 : ZK) : Nat → Nat → Sum Bool Unit
  | 0, _ => .inr ()
  | n2 + 1, v2_0 => (bif (decide ((↑v2_0 : Int) < (↑a0.ZM.length : Int))) then (bif ((!(Zw (nth a0.ZM v2_0).Count 1 (↑a0.ZT.length : Int))) || ((decide ((↑v2_0 : Int) > 0)) && (decide ((nth a0.ZM (v2_0 - 1)).Count > (nth a0.ZM v2_0).Count)))) then (.inl false) else xL a0 n2 (v2_0 + 1)) else (.inr ()))
def y7 (a0 : ZK) : Nat → Nat → Sum Bool Unit
  | 0, _ => .inr ()
  | n1 + 1, v1_0 => (bif (decide ((↑v1_0 : Int) < (↑a0.ZT.length : Int))) then (bif (decide ((Qj a0 (nth a0.ZT v1_0)) < (↑v1_0 : Int))) then (.inl false) else y7 a0 n1 (v1_0 + 1)) else (.inr ()))
def qC (a0 : ZK) : Bool := (match y7 a0 (a0.ZT.length + 1) 0 with | .inl r1 => r1 | .inr _ => (match xL a0 (a0.ZM.length + 1) 0 with | .inl r2 => r2 | .inr _ => ((Zw (↑a0.ZT.length : Int) 1 12) && (decide ((↑a0.ZM.length : Int) ≤ 8)))))
def Xa (a0 : ZY) : List Int := ([104, a0.Key, a0.Z1, a0.Method, a0.Yo, a0.WL, a0.Org, a0.WR, a0.yG] : List Int)
def Yz (a0 : ZY) : ZB := (ZB.mk a0.Key (Xa a0) a0.Mark)
def RC (a0 : Zt) : Bool := (((((Zw a0.Id 1 999) && (yO a0.XM)) && (J6 a0.Doc)) && (qC a0.Yl)) && (JQ (nth a0.Yl.ZT 0) (Yz a0.Sig)))
def xk (a0 : Zc) : Nat → Nat → Sum Bool Unit
  | 0, _ => .inr ()
  | n1 + 1, v1_0 => (bif (decide ((↑v1_0 : Int) < (↑a0.Zh.length : Int))) then (bif ((!(RC (nth a0.Zh v1_0))) || ((decide ((↑v1_0 : Int) > 0)) && (decide ((nth a0.Zh (v1_0 - 1)).Id ≥ (nth a0.Zh v1_0).Id)))) then (.inl false) else xk a0 n1 (v1_0 + 1)) else (.inr ()))
def kp (a0 : Zc) : Bool := (match xk a0 (a0.Zh.length + 1) 0 with | .inl r1 => r1 | .inr _ => ((Zw a0.Id 0 99) && (decide ((↑a0.Zh.length : Int) ≤ 8))))
def PB (a0 : List Int) (a1 : Int) : Nat → Nat → Sum Bool Unit
  | 0, _ => .inr ()
  | n1 + 1, v1_0 => (bif (decide ((↑v1_0 : Int) < (↑a0.length : Int))) then (bif ((nth a0 v1_0) == a1) then (.inl true) else PB a0 a1 n1 (v1_0 + 1)) else (.inr ()))
def Ry (a0 : List Int) (a1 : Int) : Bool := (match PB a0 a1 (a0.length + 1) 0 with | .inl r1 => r1 | .inr _ => false)
def jY (a0 : Zi) (v1_1 : Nat) : Nat → List Int → Nat → Sum Bool (List Int)
  | 0, _, _ => .inr default
  | n2 + 1, v2_0, v2_1 => (bif (decide ((↑v2_1 : Int) < (↑(nth a0.ZE v1_1).Zh.length : Int))) then (bif ((Ry v2_0 (nth (nth a0.ZE v1_1).Zh v2_1).Id) || (decide ((nth (nth a0.ZE v1_1).Zh v2_1).Id ≥ a0.Next))) then (.inl false) else jY a0 v1_1 n2 (v2_0 ++ ([(nth (nth a0.ZE v1_1).Zh v2_1).Id] : List Int)) (v2_1 + 1)) else (.inr v2_0))
def Ou (a0 : Zi) (v1_1 : Nat) : Nat → List Int → Nat → Sum Bool (List Int)
  | 0, _, _ => .inr default
  | n3 + 1, v3_0, v3_1 => (bif (decide ((↑v3_1 : Int) < (↑(nth a0.ZE v1_1).Zh.length : Int))) then (bif ((Ry v3_0 (nth (nth a0.ZE v1_1).Zh v3_1).Id) || (decide ((nth (nth a0.ZE v1_1).Zh v3_1).Id ≥ a0.Next))) then (.inl false) else Ou a0 v1_1 n3 (v3_0 ++ ([(nth (nth a0.ZE v1_1).Zh v3_1).Id] : List Int)) (v3_1 + 1)) else (.inr v3_0))
def xJ (a0 : Zi) : Nat → List Int → Nat → Sum Bool Unit
  | 0, _, _ => .inr ()
  | n1 + 1, v1_0, v1_1 => (bif (decide ((↑v1_1 : Int) < (↑a0.ZE.length : Int))) then (bif ((!(kp (nth a0.ZE v1_1))) || ((nth a0.ZE v1_1).Id != (↑v1_1 : Int))) then (.inl false) else (match jY a0 v1_1 ((nth a0.ZE v1_1).Zh.length + 1) v1_0 0 with | .inl r2 => .inl r2 | .inr z2_0 => xJ a0 n1 z2_0 (v1_1 + 1))) else (.inr ()))
def T1 (a0 : Zi) : Bool := (match xJ a0 (a0.ZE.length + 1) ([] : List Int) 0 with | .inl r1 => r1 | .inr _ => ((Zw (↑a0.ZE.length : Int) 1 4) && (decide (a0.Next ≥ 1))))
def V1 (a0 : Zi) : Nat → Nat → Sum Bool Unit
  | 0, _ => .inr ()
  | n3 + 1, v3_0 => (bif (decide ((↑v3_0 : Int) < (↑a0.XQ.length : Int))) then (bif (decide ((nth a0.XQ (v3_0 - 1)) ≥ (nth a0.XQ v3_0))) then (.inl false) else V1 a0 n3 (v3_0 + 1)) else (.inr ()))
def UA (a0 : Zi) : Nat → Nat → Sum Bool Unit
  | 0, _ => .inr ()
  | n2 + 1, v2_0 => (bif (decide ((↑v2_0 : Int) < (↑a0.Y4.length : Int))) then (bif ((decide ((Z2 a0.Frame.ZU (nth a0.Y4 v2_0)) < 0)) || ((decide ((↑v2_0 : Int) > 0)) && (decide ((nth a0.Y4 (v2_0 - 1)) ≥ (nth a0.Y4 v2_0))))) then (.inl false) else UA a0 n2 (v2_0 + 1)) else (.inr ()))
def UK (a0 : Zi) : Nat → Nat → Sum Bool Unit
  | 0, _ => .inr ()
  | n1 + 1, v1_0 => (bif (decide ((↑v1_0 : Int) < (↑a0.Qg.length : Int))) then (bif (decide ((nth a0.Qg v1_0) < 0)) then (.inl false) else UK a0 n1 (v1_0 + 1)) else (.inr ()))
def Uo (a0 : Zi) : Bool := (match UK a0 (a0.Qg.length + 1) 0 with | .inl r1 => r1 | .inr _ => (match UA a0 (a0.Y4.length + 1) 0 with | .inl r2 => r2 | .inr _ => (match V1 a0 (a0.XQ.length + 1) 1 with | .inl r3 => r3 | .inr _ => (((((jr a0.Frame) && (Tr a0)) && (T1 a0)) && ((↑a0.Qg.length : Int) == (↑a0.Frame.ZU.length : Int))) && (decide ((↑a0.Y4.length : Int) ≤ a0.Frame.QK))))))
def xO (a0 : Zc) (a1 : Int) : Nat → Nat → Sum Int Unit
  | 0, _ => .inr ()
  | n1 + 1, v1_0 => (bif (decide ((↑v1_0 : Int) < (↑a0.Zh.length : Int))) then (bif ((nth a0.Zh v1_0).Id == a1) then (.inl (↑v1_0 : Int)) else xO a0 a1 n1 (v1_0 + 1)) else (.inr ()))
def y3 (a0 : Zc) (a1 : Int) : Int := (match xO a0 a1 (a0.Zh.length + 1) 0 with | .inl r1 => r1 | .inr _ => (-1))
def yW (a0 : Zi) (a1 : Int) : Nat → Nat → Sum (Int × Int) Unit
  | 0, _ => .inr ()
  | n1 + 1, v1_0 => (bif (decide ((↑v1_0 : Int) < (↑a0.ZE.length : Int))) then (bif (decide ((y3 (nth a0.ZE v1_0) a1) ≥ 0)) then (.inl ((↑v1_0 : Int), (y3 (nth a0.ZE v1_0) a1))) else yW a0 a1 n1 (v1_0 + 1)) else (.inr ()))
def QB (a0 : Zi) (a1 : Int) : Int × Int := (match yW a0 a1 (a0.ZE.length + 1) 0 with | .inl r1 => r1 | .inr _ => ((-1), (-1)))
def Nw (a0 : ZB) : ZB := a0
def T5 (a0 : List ZB) : Nat → List ZB → Nat → (List ZB)
  | 0, _, _ => default
  | n1 + 1, v1_0, v1_1 => (bif (decide ((↑v1_1 : Int) < (↑a0.length : Int))) then T5 a0 n1 (v1_0 ++ ([(nth a0 v1_1)] : List ZB)) (v1_1 + 1) else (v1_0))
def OI (a0 : List ZB) : List ZB := (match T5 a0 (a0.length + 1) ([] : List ZB) 0 with | z1_0 => z1_0)
def MG (a0 : ZV) : ZV := a0
def Vu (a0 : ZK) : Nat → Nat → List ZV → (List ZV)
  | 0, _, _ => default
  | n1 + 1, v1_0, v1_1 => (bif (decide ((↑v1_0 : Int) < (↑a0.ZM.length : Int))) then Vu a0 n1 (v1_0 + 1) (v1_1 ++ ([(nth a0.ZM v1_0)] : List ZV)) else (v1_1))
def PA (a0 : ZK) : ZK := (match Vu a0 (a0.ZM.length + 1) 0 ([] : List ZV) with | z1_0 => (ZK.mk a0.ZT z1_0))
def Kn (a0 : Zt) : ZI := (ZI.mk ([a0.Yl] : List ZK) ([] : List (List ZZ)))
def QQ (a0 : Int) (a1 : List Int) : Int := (Nr (([7, a0] : List Int) ++ a1))
def y1 (a1 : ByteArray) : Nat → List Int → Nat → (List Int)
  | 0, _, _ => default
  | n1 + 1, v1_0, v1_1 => (bif (decide ((↑v1_1 : Int) < (↑a1.size : Int))) then y1 a1 n1 (v1_0 ++ ([(W (↑(bAt a1 v1_1) : Int))] : List Int)) (v1_1 + 1) else (v1_0))
def qn (a0 : Int) (a1 : ByteArray) (a2 : Int) : Int := (match y1 a1 (a1.size + 1) ([a2] : List Int) 0 with | z1_0 => (QQ a0 z1_0))
def xp (a0 : Int) (a1 : Zd) : Nat → List Int → Nat → (List Int)
  | 0, _, _ => default
  | n1 + 1, v1_0, v1_1 => (bif (decide ((↑v1_1 : Int) < (↑a1.YY.length : Int))) then xp a0 a1 n1 (v1_0 ++ ([(qn a0 (nth a1.YY v1_1) (nth a1.XI v1_1))] : List Int)) (v1_1 + 1) else (v1_0))
def yV (a0 : Int) (a1 : Zd) : Int := (bif (!(J6 a1)) then (-1) else (match xp a0 a1 (a1.YY.length + 1) ([a1.jK] : List Int) 0 with | z1_0 => (QQ a0 z1_0)))
def Jg (a0 : ZK) (a1 : Zd) : Nat → List Int → Nat → (List Int)
  | 0, _, _ => default
  | n1 + 1, v1_0, v1_1 => (bif (decide ((↑v1_1 : Int) < (↑a0.ZM.length : Int))) then Jg a0 a1 n1 (v1_0 ++ ([(yV (nth a0.ZM v1_1).Method a1)] : List Int)) (v1_1 + 1) else (v1_0))
def zi (a0 : ZK) (a1 : Zd) : List Int := (match Jg a0 a1 (a0.ZM.length + 1) ([] : List Int) 0 with | z1_0 => z1_0)
def X6 (a0 : ZI) (a1 : Zd) : Nat → List (List Int) → Nat → (List (List Int))
  | 0, _, _ => default
  | n1 + 1, v1_0, v1_1 => (bif (decide ((↑v1_1 : Int) < (↑a0.ZL.length : Int))) then X6 a0 a1 n1 (v1_0 ++ ([(zi (nth a0.ZL v1_1) a1)] : List (List Int))) (v1_1 + 1) else (v1_0))
def JE (a0 : ZI) (a1 : Zd) : List (List Int) := (match X6 a0 a1 (a0.ZL.length + 1) ([] : List (List Int)) 0 with | z1_0 => z1_0)
def qV (a0 : Int) : Ym := (Ym.mk 3 a0 (ZD.mk 0 0))
def Kj (a0 : ZY) : Bool := ((((((((Zw a0.Key 1 99) && (Zw a0.Z1 1 999)) && (Zw a0.Method 0 99)) && (Zw a0.Org 0 99)) && (Zw a0.WL 1 3)) && (Zw a0.Yo 0 1000000000000)) && (Zw a0.WR 0 1000000000000)) && (Zw a0.yG 0 1000000000000))
def Rq (a0 : Int) : Ym := (Ym.mk 2 a0 (ZD.mk 0 0))
def zM (a0 : List Zy) (a1 : ZY) : Bool := ((Kj a1) && (zR a0 a1.Key (Xa a1) a1.Mark))
def jl (a0 : ZH) (a1 : Int) (a2 : ZY) : Ym := (bif (!(jr a0)) then (qV 1) else (bif (!(Kj a2)) then (Rq 1) else (bif (decide (a1 < 0)) then (qV 2) else (bif (a1 != a2.Yo) then (Rq 2) else (bif (decide ((Yc a0.Yb a2.Key) < 0)) then (qV 3) else (bif (!(zM a0.Yb a2)) then (Rq 4) else (Ym.mk 0 0 (ZD.mk 0 0))))))))
def yH (a0 : Int) (a1 : Int) : Int := (bif (decide (a1 > a0)) then a1 else a0)
def VQ (a0 : Int) (a1 : Int) : Int := (bif (decide (a1 < a0)) then a1 else a0)
def XO (a0 : Int) (a1 : Int) : ZD × Bool := (bif (decide ((yH 0 a0) > (VQ 10000 a1))) then ((ZD.mk 0 0), false) else ((ZD.mk (yH 0 a0) (VQ 10000 a1)), true))
def J9 (a0 : List ZF) (a1 : ZZ) : ZD × Bool := (bif (((decide ((Z2 a0 a1.Authority) < 0)) || (decide ((nth a0 (Z2 a0 a1.Authority).toNat).Error < 0))) || (!(yO a1.Time))) then ((ZD.mk 0 0), false) else ((XO (W (a1.Time - (nth a0 (Z2 a0 a1.Authority).toNat).Error)) (W (a1.Time + (nth a0 (Z2 a0 a1.Authority).toNat).Error))).1, (XO (W (a1.Time - (nth a0 (Z2 a0 a1.Authority).toNat).Error)) (W (a1.Time + (nth a0 (Z2 a0 a1.Authority).toNat).Error))).2))
def qW (a0 : List ZD) (a1 : Int) : Nat → Int → Nat → Int
  | 0, _, _ => default
  | n1 + 1, v1_0, v1_1 => (bif (decide ((↑v1_1 : Int) < (↑a0.length : Int))) then (bif (((JF (nth a0 v1_1)) && (decide ((nth a0 v1_1).YE ≤ a1))) && (decide (a1 ≤ (nth a0 v1_1).To))) then qW a0 a1 n1 (W (v1_0 + 1)) (v1_1 + 1) else qW a0 a1 n1 v1_0 (v1_1 + 1)) else (v1_0))
def TG (a0 : List ZD) (a1 : Int) : Int := (match qW a0 a1 (a0.length + 1) 0 0 with | z1_0 => z1_0)
def KX (a0 : List ZD) (a1 : Int) (a2 : Int) : Bool := ((Zw a2 0 (W ((↑a0.length : Int) - 1))) && (decide ((TG a0 a1) ≥ (W ((↑a0.length : Int) - a2)))))
def XJ (a0 : List ZD) (a1 : Int) : Nat → Int → Int → Nat → Int × Int
  | 0, _, _, _ => (default, default)
  | n1 + 1, v1_0, v1_1, v1_2 => (bif (decide ((↑v1_2 : Int) < (↑a0.length : Int))) then (bif (((JF (nth a0 v1_2)) && (KX a0 (nth a0 v1_2).YE a1)) && ((decide (v1_0 < 0)) || (decide ((nth a0 v1_2).YE < v1_0)))) then (bif ((JF (nth a0 v1_2)) && (KX a0 (nth a0 v1_2).To a1)) then XJ a0 a1 n1 (nth a0 v1_2).YE (yH v1_1 (nth a0 v1_2).To) (v1_2 + 1) else XJ a0 a1 n1 (nth a0 v1_2).YE v1_1 (v1_2 + 1)) else (bif ((JF (nth a0 v1_2)) && (KX a0 (nth a0 v1_2).To a1)) then XJ a0 a1 n1 v1_0 (yH v1_1 (nth a0 v1_2).To) (v1_2 + 1) else XJ a0 a1 n1 v1_0 v1_1 (v1_2 + 1))) else ((v1_0, v1_1)))
def JI (a0 : List ZD) (a1 : Int) : ZD × Bool := (bif (!(Zw a1 0 (W ((↑a0.length : Int) - 1)))) then ((ZD.mk 0 0), false) else (match XJ a0 a1 (a0.length + 1) (-1) (-1) 0 with | (z1_0, z1_1) => (bif (decide (z1_0 < 0)) then ((ZD.mk 0 0), false) else ((ZD.mk z1_0 z1_1), true))))
def z6 (a0 : List ZF) (a1 : ZV) : Nat → List ZD → Nat → Sum (ZD × Bool) (List ZD)
  | 0, _, _ => .inr default
  | n1 + 1, v1_0, v1_1 => (bif (decide ((↑v1_1 : Int) < (↑a1.Zf.length : Int))) then (bif (!(J9 a0 (nth a1.Zf v1_1)).2) then (.inl ((ZD.mk 0 0), false)) else z6 a0 a1 n1 (v1_0 ++ ([(J9 a0 (nth a1.Zf v1_1)).1] : List ZD)) (v1_1 + 1)) else (.inr v1_0))
def Xp (a0 : List ZF) (a1 : ZV) (a2 : Int) : ZD × Bool := (match z6 a0 a1 (a1.Zf.length + 1) ([] : List ZD) 0 with | .inl r1 => r1 | .inr z1_0 => ((JI z1_0 a2).1, (JI z1_0 a2).2))
def Ko (a0 : List Zg) (a1 : Int) : Nat → Nat → Sum Int Unit
  | 0, _ => .inr ()
  | n1 + 1, v1_0 => (bif (decide ((↑v1_0 : Int) < (↑a0.length : Int))) then (bif ((nth a0 v1_0).Id == a1) then (.inl (↑v1_0 : Int)) else Ko a0 a1 n1 (v1_0 + 1)) else (.inr ()))
def J8 (a0 : List Zg) (a1 : Int) : Int := (match Ko a0 a1 (a0.length + 1) 0 with | .inl r1 => r1 | .inr _ => (-1))
def K3 (a0 : List Zg) (a1 : Int) : Int := (bif (decide ((J8 a0 a1) < 0)) then 0 else (nth a0 (J8 a0 a1).toNat).js)
def Xf (a0 : List ZF) (a1 : ZZ) : Int := (bif (decide ((Z2 a0 a1.Authority) < 0)) then 0 else (nth a0 (Z2 a0 a1.Authority).toNat).Key)
def Kl (a0 : List Zy) (a1 : List ZF) (a2 : List Zg) (a3 : ZV) : Nat → Int → Nat → Sum Int Int
  | 0, _, _ => .inr default
  | n1 + 1, v1_0, v1_1 => (bif (decide ((↑v1_1 : Int) < (↑a3.Zf.length : Int))) then (bif (decide ((Yc a0 (Xf a1 (nth a3.Zf v1_1))) < 0)) then (.inl 0) else Kl a0 a1 a2 a3 n1 (VQ v1_0 (K3 a2 (nth a0 (Yc a0 (Xf a1 (nth a3.Zf v1_1))).toNat).Method)) (v1_1 + 1)) else (.inr v1_0))
def zF (a0 : List Zy) (a1 : List ZF) (a2 : List Zg) (a3 : ZV) : Int := (match Kl a0 a1 a2 a3 (a3.Zf.length + 1) (K3 a2 a3.Method) 0 with | .inl r1 => r1 | .inr z1_0 => z1_0)
def kx (a0 : ZH) (a1 : ZK) (a2 : Int) : Bool := (bif (!(Zw a2 0 (W ((↑a1.ZM.length : Int) - 1)))) then false else (bif (a2 == (W ((↑a1.ZM.length : Int) - 1))) then (decide (a0.Now < (zF a0.Yb a0.ZU a0.Methods (nth a1.ZM a2.toNat)))) else ((Xp a0.ZU (nth a1.ZM (W (a2 + 1)).toNat) a0.QK).2 && (decide ((Xp a0.ZU (nth a1.ZM (W (a2 + 1)).toNat) a0.QK).1.To < (zF a0.Yb a0.ZU a0.Methods (nth a1.ZM a2.toNat)))))))
def Qp (a0 : ZZ) : List Int := ([103, a0.Authority, a0.Seq, a0.Time, a0.Yo] : List Int)
def KA (a1 : ZV) : Nat → List Int → Nat → (List Int)
  | 0, _, _ => default
  | n2 + 1, v2_0, v2_1 => (bif (decide ((↑v2_1 : Int) < (↑a1.Zf.length : Int))) then KA a1 n2 ((v2_0 ++ (Qp (nth a1.Zf v2_1))) ++ ([(nth a1.Zf v2_1).Mark] : List Int)) (v2_1 + 1) else (v2_0))
def Qs (a1 : ZV) : Nat → List Int → Nat → (List Int)
  | 0, _, _ => default
  | n1 + 1, v1_0, v1_1 => (bif (decide ((↑v1_1 : Int) < (↑a1.Path.length : Int))) then (bif (nth a1.Path v1_1).Left then Qs a1 n1 ((v1_0 ++ ([(nth a1.Path v1_1).Yo] : List Int)) ++ ([1] : List Int)) (v1_1 + 1) else Qs a1 n1 ((v1_0 ++ ([(nth a1.Path v1_1).Yo] : List Int)) ++ ([0] : List Int)) (v1_1 + 1)) else (v1_0))
def JB (a0 : Int) (a1 : ZV) : Int := (match Qs a1 (a1.Path.length + 1) ([4, a1.Count, a1.Method, a1.MD] : List Int) 0 with | z1_0 => (match KA a1 (a1.Zf.length + 1) (z1_0 ++ ([(↑a1.Zf.length : Int)] : List Int)) 0 with | z2_0 => (QQ a0 z2_0)))
def K2 (a0 : Int) (a1 : List ZB) : Nat → List Int → Nat → (List Int)
  | 0, _, _ => default
  | n1 + 1, v1_0, v1_1 => (bif (decide ((↑v1_1 : Int) < (↑a1.length : Int))) then K2 a0 a1 n1 (v1_0 ++ ([(QQ a0 (([(nth a1 v1_1).Key, (nth a1 v1_1).Mark] : List Int) ++ (nth a1 v1_1).Zb))] : List Int)) (v1_1 + 1) else (v1_0))
def Kx (a0 : Int) (a1 : List ZB) : Int := (match K2 a0 a1 (a1.length + 1) ([2] : List Int) 0 with | z1_0 => (QQ a0 z1_0))
def U2 (a0 : Int) (a1 : Int) (a2 : List ZB) (a3 : Int) : Int := (QQ a0 ([3, a1, (Kx a0 a2), a3] : List Int))
def TH (a0 : ZK) (a1 : List Int) (a2 : Int) : Int := (bif (((!(Zw a2 0 (W ((↑a0.ZM.length : Int) - 1)))) || ((↑a1.length : Int) != (↑a0.ZM.length : Int))) || (!(Zw (nth a0.ZM a2.toNat).Count 0 (↑a0.ZT.length : Int)))) then (-1) else (bif (decide (a2 > 0)) then (U2 (nth a0.ZM a2.toNat).Method (nth a1 a2.toNat) (a0.ZT.take (nth a0.ZM a2.toNat).Count.toNat) (JB (nth a0.ZM a2.toNat).Method (nth a0.ZM (W (a2 - 1)).toNat))) else (U2 (nth a0.ZM a2.toNat).Method (nth a1 a2.toNat) (a0.ZT.take (nth a0.ZM a2.toNat).Count.toNat) 0)))
def xP (a0 : Int) (a1 : Int) (a2 : Int) : Int := (QQ a0 ([1, a1, a2] : List Int))
def K8 (a0 : Int) (a2 : List Yq) : Nat → Int → Nat → Int
  | 0, _, _ => default
  | n1 + 1, v1_0, v1_1 => (bif (decide ((↑v1_1 : Int) < (↑a2.length : Int))) then (bif (nth a2 v1_1).Left then K8 a0 a2 n1 (xP a0 (nth a2 v1_1).Yo v1_0) (v1_1 + 1) else K8 a0 a2 n1 (xP a0 v1_0 (nth a2 v1_1).Yo) (v1_1 + 1)) else (v1_0))
def qy (a0 : Int) (a1 : Int) (a2 : List Yq) : Int := (match K8 a0 a2 (a2.length + 1) a1 0 with | z1_0 => z1_0)
def Ql (a0 : List Zy) (a1 : List ZF) (a2 : ZZ) : ZZ × Bool := (bif (((decide ((Z2 a1 a2.Authority) < 0)) || (decide (a2.Seq < 0))) || (!(yO a2.Time))) then ((ZZ.mk 0 0 0 0 0), false) else (bif (decide ((Yc a0 (nth a1 (Z2 a1 a2.Authority).toNat).Key) < 0)) then ((ZZ.mk 0 0 0 0 0), false) else ((ZZ.mk a2.Authority a2.Seq a2.Time a2.Yo (j8 (nth a0 (Yc a0 (nth a1 (Z2 a1 a2.Authority).toNat).Key).toNat) (Qp a2))), true)))
def jX (a0 : List Zy) (a1 : List ZF) (a2 : ZZ) : Bool := ((Ql a0 a1 a2).2 && (((Ql a0 a1 a2).1.Authority == a2.Authority) && (((Ql a0 a1 a2).1.Seq == a2.Seq) && (((Ql a0 a1 a2).1.Time == a2.Time) && (((Ql a0 a1 a2).1.Yo == a2.Yo) && ((Ql a0 a1 a2).1.Mark == a2.Mark))))))
def zK (a0 : List Zy) (a1 : List ZF) (a2 : ZV) : Nat → Nat → Sum Bool Unit
  | 0, _ => .inr ()
  | n1 + 1, v1_0 => (bif (decide ((↑v1_0 : Int) < (↑a2.Zf.length : Int))) then (bif ((((nth a2.Zf v1_0).Yo != a2.MD) || ((decide ((↑v1_0 : Int) > 0)) && (decide ((nth a2.Zf (v1_0 - 1)).Authority ≥ (nth a2.Zf v1_0).Authority)))) || (!(jX a0 a1 (nth a2.Zf v1_0)))) then (.inl false) else zK a0 a1 a2 n1 (v1_0 + 1)) else (.inr ()))
def yU (a0 : List Zy) (a1 : List ZF) (a2 : ZV) (a3 : Int) : Bool := (bif (((decide ((↑a2.Path.length : Int) > 4)) || ((qy a2.Method a3 a2.Path) != a2.MD)) || (!(Zw (↑a2.Zf.length : Int) 1 6))) then false else (match zK a0 a1 a2 (a2.Zf.length + 1) 0 with | .inl r1 => r1 | .inr _ => true))
def PC (a0 : ZH) (a1 : ZK) (a2 : List Int) (a3 : Int) : Bool := (((Xp a0.ZU (nth a1.ZM a3.toNat) a0.QK).2 && (kx a0 a1 a3)) && (yU a0.Yb a0.ZU (nth a1.ZM a3.toNat) (TH a1 a2 a3)))
def KW (a0 : ZH) (a1 : ZK) (a2 : List Int) : Nat → Nat → Nat
  | 0, _ => default
  | n1 + 1, v1_0 => (bif ((decide ((↑v1_0 : Int) > 0)) && (PC a0 a1 a2 (W ((↑v1_0 : Int) - 1)))) then KW a0 a1 a2 n1 (v1_0 - 1) else (v1_0))
def J3 (a0 : ZH) (a1 : ZK) (a2 : List Int) : Int := (match KW a0 a1 a2 (a1.ZM.length + 1) a1.ZM.length with | z1_0 => (↑z1_0 : Int))
def qK (a0 : ZH) (a1 : ZK) (a3 : Int) : Nat → Int → Int → Int
  | 0, _, _ => default
  | n1 + 1, v1_0, v1_1 => (bif (decide (v1_1 < (↑a1.ZM.length : Int))) then (bif (decide ((nth a1.ZM v1_1.toNat).Count > a3)) then qK a0 a1 a3 n1 (VQ v1_0 (Xp a0.ZU (nth a1.ZM v1_1.toNat) a0.QK).1.To) (W (v1_1 + 1)) else qK a0 a1 a3 n1 v1_0 (W (v1_1 + 1))) else (v1_0))
def TJ (a0 : ZH) (a1 : ZK) (a2 : List Int) (a3 : Int) : Int := (match qK a0 a1 a3 (a1.ZM.length + 2) a0.Now (J3 a0 a1 a2) with | z1_0 => z1_0)
def xK (a0 : ZH) (a1 : ZK) (a2 : List Int) (a3 : ZB) : Int := (bif (decide ((Qj a1 a3) < 0)) then a0.Now else (TJ a0 a1 a2 (Qj a1 a3)))
def KE (a0 : ZH) (a1 : ZI) (a2 : List (List Int)) (a3 : ZB) : Nat → Int → Nat → Int
  | 0, _, _ => default
  | n1 + 1, v1_0, v1_1 => (bif ((decide ((↑v1_1 : Int) < (↑a1.ZL.length : Int))) && (decide ((↑v1_1 : Int) < (↑a2.length : Int)))) then KE a0 a1 a2 a3 n1 (VQ v1_0 (xK a0 (nth a1.ZL v1_1) (nth a2 v1_1) a3)) (v1_1 + 1) else (v1_0))
def Yf (a0 : ZH) (a1 : ZI) (a2 : List (List Int)) (a3 : ZB) : Int := (match KE a0 a1 a2 a3 (a1.ZL.length + 1) a0.Now 0 with | z1_0 => z1_0)
def Y2 (a0 : ZB) : Int := (bif (((↑a0.Zb.length : Int) == 0) || (!(Zw (nth a0.Zb 0) 101 105))) then 0 else (bif ((↑a0.Zb.length : Int) != (nth ([7, 5, 5, 9, 6] : List Int) (W ((nth a0.Zb 0) - 101)).toNat)) then 0 else (nth a0.Zb 0)))
def XA (a0 : ZB) : Zs × Bool := (bif (((Y2 a0) != 101) || ((nth a0.Zb 6) != a0.Key)) then ((Zs.mk 0 0 0 0 0 0 0), false) else ((Zs.mk (nth a0.Zb 1) (nth a0.Zb 2) (nth a0.Zb 3) (nth a0.Zb 4) (nth a0.Zb 5) (nth a0.Zb 6) a0.Mark), true))
def X1 (a0 : ZB) : Zo × Bool := (bif (((Y2 a0) != 102) || ((nth a0.Zb 4) != a0.Key)) then ((Zo.mk 0 0 0 0 0), false) else ((Zo.mk (nth a0.Zb 1) (nth a0.Zb 2) (nth a0.Zb 3) (nth a0.Zb 4) a0.Mark), true))
def xD (a0 : ZB) : ZZ × Bool := (bif ((Y2 a0) != 103) then ((ZZ.mk 0 0 0 0 0), false) else ((ZZ.mk (nth a0.Zb 1) (nth a0.Zb 2) (nth a0.Zb 3) (nth a0.Zb 4) a0.Mark), true))
def qh (a0 : ZB) : ZY × Bool := (bif (((Y2 a0) != 104) || ((nth a0.Zb 1) != a0.Key)) then ((ZY.mk 0 0 0 0 0 0 0 0 0), false) else ((ZY.mk (nth a0.Zb 1) (nth a0.Zb 2) (nth a0.Zb 3) (nth a0.Zb 4) (nth a0.Zb 5) (nth a0.Zb 6) (nth a0.Zb 7) (nth a0.Zb 8) a0.Mark), true))
def Qm (a0 : ZB) : Zr × Bool := (bif (((Y2 a0) != 105) || ((nth a0.Zb 5) != a0.Key)) then ((Zr.mk 0 0 0 0 0 0), false) else ((Zr.mk (nth a0.Zb 1) (nth a0.Zb 2) (nth a0.Zb 3) (nth a0.Zb 4) (nth a0.Zb 5) a0.Mark), true))
def SJ (a0 : ZB) : Bool := (((((XA a0).2 || (X1 a0).2) || (xD a0).2) || (qh a0).2) || (Qm a0).2)
def xU (a0 : List Zy) (a1 : ZB) : Bool := ((SJ a1) && (zR a0 a1.Key a1.Zb a1.Mark))
def ku (a0 : ZH) (a1 : ZI) (a2 : List (List Int)) (a3 : ZB) : Bool := (((decide ((Yc a0.Yb a3.Key) ≥ 0)) && (xU a0.Yb a3)) && (decide ((Yf a0 a1 a2 a3) < (K3 a0.Methods (nth a0.Yb (Yc a0.Yb a3.Key).toNat).Method))))
def z9 (a0 : ZB) (a1 : ZB) : Nat → Nat → Sum Bool Unit
  | 0, _ => .inr ()
  | n1 + 1, v1_0 => (bif ((decide ((↑v1_0 : Int) < (↑a0.Zb.length : Int))) && (decide ((↑v1_0 : Int) < (↑a1.Zb.length : Int)))) then (bif ((nth a0.Zb v1_0) != (nth a1.Zb v1_0)) then (.inl (decide ((nth a0.Zb v1_0) < (nth a1.Zb v1_0)))) else z9 a0 a1 n1 (v1_0 + 1)) else (.inr ()))
def xv (a0 : ZB) (a1 : ZB) : Bool := (match z9 a0 a1 (a0.Zb.length + 1) 0 with | .inl r1 => r1 | .inr _ => (bif ((↑a0.Zb.length : Int) != (↑a1.Zb.length : Int)) then (decide ((↑a0.Zb.length : Int) < (↑a1.Zb.length : Int))) else (bif (a0.Key != a1.Key) then (decide (a0.Key < a1.Key)) else (decide (a0.Mark < a1.Mark)))))
def X4 (a0 : List ZB) (a1 : ZB) : Nat → Nat → Nat
  | 0, _ => default
  | n1 + 1, v1_0 => (bif ((decide ((↑v1_0 : Int) < (↑a0.length : Int))) && (xv (nth a0 v1_0) a1)) then X4 a0 a1 n1 (v1_0 + 1) else (v1_0))
def z8 (a0 : List ZB) (a1 : ZB) : List ZB := (match X4 a0 a1 (a0.length + 1) 0 with | z1_0 => (bif ((decide ((↑z1_0 : Int) < (↑a0.length : Int))) && (JQ (nth a0 z1_0) a1)) then a0 else (((a0.take z1_0) ++ ([a1] : List ZB)) ++ (a0.drop z1_0))))
def XN (a0 : ZH) (a1 : ZI) (a2 : List (List Int)) (v1_1 : Nat) : Nat → List ZB → Nat → (List ZB)
  | 0, _, _ => default
  | n2 + 1, v2_0, v2_1 => (bif (decide ((↑v2_1 : Int) < (↑(nth a1.ZL v1_1).ZT.length : Int))) then (bif (ku a0 a1 a2 (nth (nth a1.ZL v1_1).ZT v2_1)) then XN a0 a1 a2 v1_1 n2 (z8 v2_0 (nth (nth a1.ZL v1_1).ZT v2_1)) (v2_1 + 1) else XN a0 a1 a2 v1_1 n2 v2_0 (v2_1 + 1)) else (v2_0))
def QN (a0 : ZH) (a1 : ZI) (a2 : List (List Int)) : Nat → List ZB → Nat → (List ZB)
  | 0, _, _ => default
  | n1 + 1, v1_0, v1_1 => (bif (decide ((↑v1_1 : Int) < (↑a1.ZL.length : Int))) then (match XN a0 a1 a2 v1_1 ((nth a1.ZL v1_1).ZT.length + 1) v1_0 0 with | z2_0 => QN a0 a1 a2 n1 z2_0 (v1_1 + 1)) else (v1_0))
def Zl (a0 : ZH) (a1 : ZI) (a2 : List (List Int)) : List ZB := (match QN a0 a1 a2 (a1.ZL.length + 1) ([] : List ZB) 0 with | z1_0 => z1_0)
def qR (a0 : ZH) (a1 : List ZB) (a2 : ZY) : Nat → Int → Nat → Int → Int → Int → Int → Int → Int → Int → Int × Int × Int × Int × Int × Int × Int × Int
  | 0, _, _, _, _, _, _, _, _, _ => (default, default, default, default, default, default, default, default)
  | n1 + 1, v1_0, v1_1, v1_2, v1_3, v1_4, v1_5, v1_6, v1_7, v1_8 => (bif (decide ((↑v1_1 : Int) < (↑a1.length : Int))) then (bif ((((XA (nth a1 v1_1)).2 && (qZ a0.Yb (XA (nth a1 v1_1)).1)) && ((XA (nth a1 v1_1)).1.Z1 == a2.Z1)) && ((XA (nth a1 v1_1)).1.Key == a2.Key)) then qR a0 a1 a2 n1 (W (v1_0 + 1)) (v1_1 + 1) (XA (nth a1 v1_1)).1.Z1 (XA (nth a1 v1_1)).1.Key (XA (nth a1 v1_1)).1.JZ (XA (nth a1 v1_1)).1.YE (XA (nth a1 v1_1)).1.To (XA (nth a1 v1_1)).1.QP (XA (nth a1 v1_1)).1.Mark else qR a0 a1 a2 n1 v1_0 (v1_1 + 1) v1_2 v1_3 v1_4 v1_5 v1_6 v1_7 v1_8) else ((v1_0, v1_2, v1_3, v1_4, v1_5, v1_6, v1_7, v1_8)))
def Xw (a0 : ZH) (a1 : List ZB) (a2 : ZY) : Zs × Bool := (match qR a0 a1 a2 (a1.length + 1) 0 0 0 0 0 0 0 0 0 with | (z1_0, z1_1, z1_2, z1_3, z1_4, z1_5, z1_6, z1_7) => (bif (z1_0 != 1) then ((Zs.mk 0 0 0 0 0 0 0), false) else ((Zs.mk z1_1 z1_2 z1_3 z1_4 z1_5 z1_6 z1_7), true)))
def Ky (a1 : List ZZ) : Nat → List Int → Nat → (List Int)
  | 0, _, _ => default
  | n1 + 1, v1_0, v1_1 => (bif (decide ((↑v1_1 : Int) < (↑a1.length : Int))) then Ky a1 n1 (v1_0 ++ ([(nth a1 v1_1).Mark] : List Int)) (v1_1 + 1) else (v1_0))
def Kq (a0 : Int) (a1 : List ZZ) : Int := (bif ((↑a1.length : Int) == 0) then 0 else (match Ky a1 (a1.length + 1) ([] : List Int) 0 with | z1_0 => (yH 1 (QQ a0 z1_0))))
def zm (a0 : Int) (a1 : ZZ) : ZB := (ZB.mk a0 (Qp a1) a1.Mark)
def VE (a0 : List ZB) (a1 : ZB) : Nat → Nat → Sum Bool Unit
  | 0, _ => .inr ()
  | n1 + 1, v1_0 => (bif (decide ((↑v1_0 : Int) < (↑a0.length : Int))) then (bif (JQ (nth a0 v1_0) a1) then (.inl true) else VE a0 a1 n1 (v1_0 + 1)) else (.inr ()))
def Rr (a0 : List ZB) (a1 : ZB) : Bool := (match VE a0 a1 (a0.length + 1) 0 with | .inl r1 => r1 | .inr _ => false)
def jU (a0 : ZH) (a1 : List ZB) (a2 : List ZZ) : Nat → List ZD → Nat → Sum (Int × Bool) (List ZD)
  | 0, _, _ => .inr default
  | n1 + 1, v1_0, v1_1 => (bif (decide ((↑v1_1 : Int) < (↑a2.length : Int))) then (bif (((!(J9 a0.ZU (nth a2 v1_1)).2) || ((decide ((↑v1_1 : Int) > 0)) && (decide ((nth a2 (v1_1 - 1)).Authority ≥ (nth a2 v1_1).Authority)))) || (!(Rr a1 (zm (Xf a0.ZU (nth a2 v1_1)) (nth a2 v1_1))))) then (.inl (0, false)) else jU a0 a1 a2 n1 (v1_0 ++ ([(J9 a0.ZU (nth a2 v1_1)).1] : List ZD)) (v1_1 + 1)) else (.inr v1_0))
def Jr (a0 : ZH) (a1 : List ZB) (a2 : List ZZ) : Int × Bool := (match jU a0 a1 a2 (a2.length + 1) ([] : List ZD) 0 with | .inl r1 => r1 | .inr z1_0 => ((JI z1_0 a0.QK).1.YE, (JI z1_0 a0.QK).2))
def X3 (a0 : ZH) (a1 : ZI) (a2 : List ZB) (a3 : ZY) : Nat → Int → Nat → Int
  | 0, _, _ => default
  | n1 + 1, v1_0, v1_1 => (bif ((decide ((↑v1_1 : Int) < (↑a1.Zp.length : Int))) && (a3.yG != 0)) then (bif ((Kq a3.Method (nth a1.Zp v1_1)) != a3.yG) then X3 a0 a1 a2 a3 n1 v1_0 (v1_1 + 1) else (bif (Jr a0 a2 (nth a1.Zp v1_1)).2 then X3 a0 a1 a2 a3 n1 (yH v1_0 (Jr a0 a2 (nth a1.Zp v1_1)).1) (v1_1 + 1) else X3 a0 a1 a2 a3 n1 v1_0 (v1_1 + 1))) else (v1_0))
def KT (a0 : ZH) (a1 : ZI) (a2 : List ZB) (a3 : ZY) : Nat → Int → Nat → Int
  | 0, _, _ => default
  | n2 + 1, v2_0, v2_1 => (bif ((decide ((↑v2_1 : Int) < (↑a1.Zp.length : Int))) && (a3.yG != 0)) then (bif ((Kq a3.Method (nth a1.Zp v2_1)) != a3.yG) then KT a0 a1 a2 a3 n2 v2_0 (v2_1 + 1) else (bif (Jr a0 a2 (nth a1.Zp v2_1)).2 then KT a0 a1 a2 a3 n2 (yH v2_0 (Jr a0 a2 (nth a1.Zp v2_1)).1) (v2_1 + 1) else KT a0 a1 a2 a3 n2 v2_0 (v2_1 + 1))) else (v2_0))
def XW (a0 : ZH) (a1 : ZI) (a2 : List ZB) (a3 : ZY) : Int := (bif (decide ((Yc a0.Yb a3.Key) ≥ 0)) then (match X3 a0 a1 a2 a3 (a1.Zp.length + 1) (nth a0.Yb (Yc a0.Yb a3.Key).toNat).Nq 0 with | z1_0 => z1_0) else (match KT a0 a1 a2 a3 (a1.Zp.length + 1) 0 0 with | z2_0 => z2_0))
def Q7 (a0 : List ZB) (a1 : Zs) : Nat → List Zo → Nat → (List Zo)
  | 0, _, _ => default
  | n1 + 1, v1_0, v1_1 => (bif (decide ((↑v1_1 : Int) < (↑a0.length : Int))) then (bif (((X1 (nth a0 v1_1)).2 && ((X1 (nth a0 v1_1)).1.Z1 == a1.Z1)) && ((X1 (nth a0 v1_1)).1.QP == a1.QP)) then Q7 a0 a1 n1 (v1_0 ++ ([(X1 (nth a0 v1_1)).1] : List Zo)) (v1_1 + 1) else Q7 a0 a1 n1 v1_0 (v1_1 + 1)) else (v1_0))
def Qb (a0 : List ZB) (a1 : Zs) : List Zo := (match Q7 a0 a1 (a0.length + 1) ([] : List Zo) 0 with | z1_0 => z1_0)
def Yv (a0 : List ZD) (a1 : Int) (a2 : Int) : List ZD := (bif (!(XO a1 a2).2) then a0 else (a0 ++ ([(XO a1 a2).1] : List ZD)))
def ye (a0 : List Zo) (a1 : Int) : Nat → Int → Int → Nat → Int × Int
  | 0, _, _, _ => (default, default)
  | n1 + 1, v1_0, v1_1, v1_2 => (bif (decide ((↑v1_2 : Int) < (↑a0.length : Int))) then (bif ((nth a0 v1_2).Z1 != a1) then ye a0 a1 n1 v1_0 v1_1 (v1_2 + 1) else (bif (decide ((nth a0 v1_2).YX ≥ 0)) then ye a0 a1 n1 (yH v1_0 (nth a0 v1_2).YX) v1_1 (v1_2 + 1) else ye a0 a1 n1 v1_0 (yH v1_1 (nth a0 v1_2).Dg) (v1_2 + 1))) else ((v1_0, v1_1)))
def QG (a0 : List Zo) (a1 : Int) : Int := (match ye a0 a1 (a0.length + 1) (-1) (-1) 0 with | (z1_0, z1_1) => (bif (decide (z1_0 < 0)) then 10001 else (yH z1_0 (W (z1_1 + 1)))))
def TD (z1_0 : List ZD) (z1_1 : Int) : Nat → Nat → Nat
  | 0, _ => default
  | n2 + 1, v2_0 => (bif ((decide ((↑v2_0 : Int) < (↑z1_0.length : Int))) && (decide ((nth z1_0 v2_0).YE < z1_1))) then TD z1_0 z1_1 n2 (v2_0 + 1) else (v2_0))
def qL (a0 : List ZD) : Nat → List ZD → Nat → Int → Int → (List ZD) × Int × Int
  | 0, _, _, _, _ => (default, default, default)
  | n1 + 1, v1_0, v1_1, v1_2, v1_3 => (bif (decide ((↑v1_1 : Int) < (↑a0.length : Int))) then (bif ((decide ((W ((nth a0 v1_1).To + 1)) < v1_2)) || (decide ((W (v1_3 + 1)) < (nth a0 v1_1).YE))) then qL a0 n1 (v1_0 ++ ([(nth a0 v1_1)] : List ZD)) (v1_1 + 1) v1_2 v1_3 else qL a0 n1 v1_0 (v1_1 + 1) (VQ v1_2 (nth a0 v1_1).YE) (yH v1_3 (nth a0 v1_1).To)) else ((v1_0, v1_2, v1_3)))
def Tg (a0 : List ZD) (a1 : ZD) : List ZD := (match qL a0 (a0.length + 1) ([] : List ZD) 0 a1.YE a1.To with | (z1_0, z1_1, z1_2) => (match TD z1_0 z1_1 (z1_0.length + 1) 0 with | z2_0 => (((z1_0.take z2_0) ++ ([(ZD.mk z1_1 z1_2)] : List ZD)) ++ ((z1_0.drop z2_0).take (z1_0.length - z2_0)))))
def zQ (a0 : List ZD) : Nat → List ZD → Nat → (List ZD)
  | 0, _, _ => default
  | n1 + 1, v1_0, v1_1 => (bif (decide ((↑v1_1 : Int) < (↑a0.length : Int))) then (bif (JF (nth a0 v1_1)) then zQ a0 n1 (Tg v1_0 (nth a0 v1_1)) (v1_1 + 1) else zQ a0 n1 v1_0 (v1_1 + 1)) else (v1_0))
def XK (a0 : List ZD) : List ZD := (match zQ a0 (a0.length + 1) ([] : List ZD) 0 with | z1_0 => z1_0)
def yn (a0 : Zs) (a1 : List Zo) : List ZD := (bif (decide (a0.YE > 0)) then (bif (decide (a0.To < 10000)) then (XK (Yv (Yv (Yv ([] : List ZD) 0 (W (a0.YE - 1))) (W (a0.To + 1)) 10000) (QG a1 a0.Z1) 10000)) else (XK (Yv (Yv ([] : List ZD) 0 (W (a0.YE - 1))) (QG a1 a0.Z1) 10000))) else (bif (decide (a0.To < 10000)) then (XK (Yv (Yv ([] : List ZD) (W (a0.To + 1)) 10000) (QG a1 a0.Z1) 10000)) else (XK (Yv ([] : List ZD) (QG a1 a0.Z1) 10000))))
def VB (a0 : ZD) (a1 : ZD) : Bool := ((((JF a0) && (JF a1)) && (decide (a1.YE ≤ a0.YE))) && (decide (a0.To ≤ a1.To)))
def yw (a0 : List ZD) (a1 : ZD) : Nat → Nat → Sum Bool Unit
  | 0, _ => .inr ()
  | n1 + 1, v1_0 => (bif (decide ((↑v1_0 : Int) < (↑(XK a0).length : Int))) then (bif (VB a1 (nth (XK a0) v1_0)) then (.inl true) else yw a0 a1 n1 (v1_0 + 1)) else (.inr ()))
def z1 (a0 : List ZD) (a1 : ZD) : Bool := (match yw a0 a1 ((XK a0).length + 1) 0 with | .inl r1 => r1 | .inr _ => false)
def VL (a0 : Zs) (a1 : List Zo) (a2 : ZD) : Bool := (z1 (yn a0 a1) a2)
def JS (a0 : List Zo) (a1 : Int) : Nat → Int → Int → Nat → Int × Int
  | 0, _, _, _ => (default, default)
  | n1 + 1, v1_0, v1_1, v1_2 => (bif (decide ((↑v1_2 : Int) < (↑a0.length : Int))) then (bif ((nth a0 v1_2).Z1 != a1) then JS a0 a1 n1 v1_0 v1_1 (v1_2 + 1) else (bif (decide ((nth a0 v1_2).YX < 0)) then JS a0 a1 n1 v1_0 (yH v1_1 (nth a0 v1_2).Dg) (v1_2 + 1) else (bif ((decide (v1_0 < 0)) || (decide ((nth a0 v1_2).YX < v1_0))) then JS a0 a1 n1 (nth a0 v1_2).YX v1_1 (v1_2 + 1) else JS a0 a1 n1 v1_0 v1_1 (v1_2 + 1)))) else ((v1_0, v1_1)))
def KB (a0 : List Zo) (a1 : Int) : Int := (match JS a0 a1 (a0.length + 1) (-1) (-1) 0 with | (z1_0, z1_1) => (bif (decide (z1_0 ≥ 0)) then (W (z1_0 - 1)) else z1_1))
def J5 (a0 : ZD) (a1 : ZD) : ZD × Bool := (bif ((!(JF a0)) || (!(JF a1))) then ((ZD.mk 0 0), false) else ((XO (yH a0.YE a1.YE) (VQ a0.To a1.To)).1, (XO (yH a0.YE a1.YE) (VQ a0.To a1.To)).2))
def qe (a0 : List ZD) (a1 : List ZD) (v1_1 : Nat) : Nat → List ZD → Nat → (List ZD)
  | 0, _, _ => default
  | n2 + 1, v2_0, v2_1 => (bif (decide ((↑v2_1 : Int) < (↑a1.length : Int))) then (bif (J5 (nth a0 v1_1) (nth a1 v2_1)).2 then qe a0 a1 v1_1 n2 (v2_0 ++ ([(J5 (nth a0 v1_1) (nth a1 v2_1)).1] : List ZD)) (v2_1 + 1) else qe a0 a1 v1_1 n2 v2_0 (v2_1 + 1)) else (v2_0))
def ka (a0 : List ZD) (a1 : List ZD) : Nat → List ZD → Nat → (List ZD)
  | 0, _, _ => default
  | n1 + 1, v1_0, v1_1 => (bif (decide ((↑v1_1 : Int) < (↑a0.length : Int))) then (match qe a0 a1 v1_1 (a1.length + 1) v1_0 0 with | z2_0 => ka a0 a1 n1 z2_0 (v1_1 + 1)) else (v1_0))
def Wu (a0 : List ZD) (a1 : List ZD) : List ZD := (match ka a0 a1 (a0.length + 1) ([] : List ZD) 0 with | z1_0 => (XK z1_0))
def zY (a0 : Zs) (a1 : List Zo) : List ZD := (bif ((!(XO 0 (KB a1 a0.Z1)).2) || (decide ((KB a1 a0.Z1) > 10000))) then ([] : List ZD) else (Wu ([(yf a0)] : List ZD) ([(XO 0 (KB a1 a0.Z1)).1] : List ZD)))
def jR (a0 : Zs) (a1 : List Zo) (a2 : ZD) : Bool := (z1 (zY a0 a1) a2)
def Js (a0 : List ZB) : Nat → List Zr → Nat → (List Zr)
  | 0, _, _ => default
  | n1 + 1, v1_0, v1_1 => (bif (decide ((↑v1_1 : Int) < (↑a0.length : Int))) then (bif (Qm (nth a0 v1_1)).2 then Js a0 n1 (v1_0 ++ ([(Qm (nth a0 v1_1)).1] : List Zr)) (v1_1 + 1) else Js a0 n1 v1_0 (v1_1 + 1)) else (v1_0))
def z3 (a0 : List ZB) : List Zr := (match Js a0 (a0.length + 1) ([] : List Zr) 0 with | z1_0 => z1_0)
def kX (a0 : Zr) : Bool := ((((Zw a0.Org 1 99) && (Zw a0.W8 0 99)) && (Zw a0.Key 1 99)) && (JF (ZD.mk a0.YE a0.To)))
def Qh (a0 : Zr) : List Int := ([105, a0.Org, a0.W8, a0.YE, a0.To, a0.Key] : List Int)
def ya (a0 : List Zy) (a1 : Zr) : Bool := (((kX a1) && ((Ws a0 a1.Key) == a1.Org)) && (zR a0 a1.Key (Qh a1) a1.Mark))
def QW (a0 : List Zy) (a1 : List Zr) (a2 : Int) (a3 : Int) : Nat → List ZD → Nat → (List ZD)
  | 0, _, _ => default
  | n1 + 1, v1_0, v1_1 => (bif (decide ((↑v1_1 : Int) < (↑a1.length : Int))) then (bif ((((nth a1 v1_1).Org == a2) && ((nth a1 v1_1).W8 == a3)) && (ya a0 (nth a1 v1_1))) then QW a0 a1 a2 a3 n1 (v1_0 ++ ([(ZD.mk (nth a1 v1_1).YE (nth a1 v1_1).To)] : List ZD)) (v1_1 + 1) else QW a0 a1 a2 a3 n1 v1_0 (v1_1 + 1)) else (v1_0))
def Jk (a0 : List Zy) (a1 : List Zr) (a2 : Int) (a3 : Int) : List ZD := (match QW a0 a1 a2 a3 (a1.length + 1) ([] : List ZD) 0 with | z1_0 => (XK z1_0))
def jM (a0 : List Zy) (a1 : List Zr) (a2 : Int) (a3 : Int) (a4 : ZD) : Bool := (bif (a2 == 0) then (JF a4) else (z1 (Jk a0 a1 a2 a3) a4))
def y2 (a0 : ZH) (a1 : ZI) (a2 : List (List Int)) (a3 : Int) (a4 : ZY) : Ym := (bif ((jl a0 a3 a4).Code != 0) then (jl a0 a3 a4) else (bif ((decide ((Yf a0 a1 a2 (Yz a4)) ≥ (K3 a0.Methods (nth a0.Yb (Yc a0.Yb a4.Key).toNat).Method))) || (decide ((Yf a0 a1 a2 (Yz a4)) ≥ (K3 a0.Methods a4.Method)))) then (qV 5) else (bif (!(Xw a0 (Zl a0 a1 a2) a4).2) then (qV 6) else (bif (decide ((XW a0 a1 (Zl a0 a1 a2) a4) > (Yf a0 a1 a2 (Yz a4)))) then (qV 7) else (bif (VL (Xw a0 (Zl a0 a1 a2) a4).1 (Qb (Zl a0 a1 a2) (Xw a0 (Zl a0 a1 a2) a4).1) (ZD.mk (XW a0 a1 (Zl a0 a1 a2) a4) (Yf a0 a1 a2 (Yz a4)))) then (Ym.mk 2 8 (ZD.mk (XW a0 a1 (Zl a0 a1 a2) a4) (Yf a0 a1 a2 (Yz a4)))) else (bif (!(jR (Xw a0 (Zl a0 a1 a2) a4).1 (Qb (Zl a0 a1 a2) (Xw a0 (Zl a0 a1 a2) a4).1) (ZD.mk (XW a0 a1 (Zl a0 a1 a2) a4) (Yf a0 a1 a2 (Yz a4))))) then (Ym.mk 3 7 (ZD.mk (XW a0 a1 (Zl a0 a1 a2) a4) (Yf a0 a1 a2 (Yz a4)))) else (bif (!(jM a0.Yb (z3 (Zl a0 a1 a2)) a4.Org (Xw a0 (Zl a0 a1 a2) a4).1.JZ (ZD.mk (XW a0 a1 (Zl a0 a1 a2) a4) (Yf a0 a1 a2 (Yz a4))))) then (Ym.mk 3 9 (ZD.mk (XW a0 a1 (Zl a0 a1 a2) a4) (Yf a0 a1 a2 (Yz a4)))) else (Ym.mk 1 0 (ZD.mk (XW a0 a1 (Zl a0 a1 a2) a4) (Yf a0 a1 a2 (Yz a4)))))))))))
def NG (a0 : ZH) (a1 : ZI) (a2 : Zd) (a3 : ZY) : Ym := (y2 a0 a1 (JE a1 a2) (yV a3.Method a2) a3)
def ki (a0 : ZH) (a1 : Zt) : Ym := (NG a0 (Kn a1) a1.Doc a1.Sig)
def Qf (a0 : Zi) (a1 : Int) : Ym := (bif (decide ((QB a0 a1).1 < 0)) then (Ym.mk 0 0 (ZD.mk 0 0)) else (ki a0.Frame (nth (nth a0.ZE (QB a0 a1).1.toNat).Zh (QB a0 a1).2.toNat)))
def Kz (a0 : Zi) (v1_1 : Nat) : Nat → List Int → Nat → (List Int)
  | 0, _, _ => default
  | n2 + 1, v2_0, v2_1 => (bif (decide ((↑v2_1 : Int) < (↑(nth a0.ZE v1_1).Zh.length : Int))) then (bif ((Qf a0 (nth (nth a0.ZE v1_1).Zh v2_1).Id).Code == 1) then Kz a0 v1_1 n2 (v2_0 ++ ([(nth (nth a0.ZE v1_1).Zh v2_1).Id] : List Int)) (v2_1 + 1) else Kz a0 v1_1 n2 v2_0 (v2_1 + 1)) else (v2_0))
def yr (a0 : Zi) : Nat → List Int → Nat → (List Int)
  | 0, _, _ => default
  | n1 + 1, v1_0, v1_1 => (bif (decide ((↑v1_1 : Int) < (↑a0.ZE.length : Int))) then (match Kz a0 v1_1 ((nth a0.ZE v1_1).Zh.length + 1) v1_0 0 with | z2_0 => yr a0 n1 z2_0 (v1_1 + 1)) else (v1_0))
def XE (a0 : Zi) : List Int := (match yr a0 (a0.ZE.length + 1) ([] : List Int) 0 with | z1_0 => z1_0)
def J1 (a0 : Zi) : Nat → List Int → Nat → (List Int)
  | 0, _, _ => default
  | n1 + 1, v1_0, v1_1 => (bif (decide ((↑v1_1 : Int) < (↑(XE a0).length : Int))) then (bif (Ry a0.XQ (nth (XE a0) v1_1)) then J1 a0 n1 (v1_0 ++ ([(nth (XE a0) v1_1)] : List Int)) (v1_1 + 1) else J1 a0 n1 v1_0 (v1_1 + 1)) else (v1_0))
def xg (a0 : Zi) : List Int := (match J1 a0 ((XE a0).length + 1) ([] : List Int) 0 with | z1_0 => z1_0)
def Uu (a0 : Zi) : ByteArray := (bif (!(Uo a0)) then (⟨#[119, 111, 114, 108, 100]⟩ : ByteArray) else (bif (decide ((↑(xg a0).length : Int) > 0)) then (⟨#[102, 111, 114, 103, 101, 100]⟩ : ByteArray) else (⟨#[]⟩ : ByteArray)))
def ZS (a0 : Int) (a1 : Int) (a2 : Int) : Bool := ((decide (a1 ≤ a0)) && (decide (a0 ≤ a2)))
def J4 (a0 : Int) : Bool := (ZS a0 0 10000)
def jZ (a0 : Int) : Bool := (ZS a0 1 2147483646)
def NM (a0 : Zy) : Bool := (((((ZS a0.Number 1 99) && (ZS a0.JZ 0 99)) && (ZS a0.Method 0 99)) && (J4 a0.Nq)) && (jZ a0.jz))
def km (a0 : List Zy) : Nat → Nat → Sum Bool Unit
  | 0, _ => .inr ()
  | n1 + 1, v1_0 => (bif (decide ((↑v1_0 : Int) < (↑a0.length : Int))) then (bif ((!(NM (nth a0 v1_0))) || ((decide ((↑v1_0 : Int) > 0)) && (decide ((nth a0 (v1_0 - 1)).Number ≥ (nth a0 v1_0).Number)))) then (.inl false) else km a0 n1 (v1_0 + 1)) else (.inr ()))
def Up (a0 : List Zy) : Bool := (match km a0 (a0.length + 1) 0 with | .inl r1 => r1 | .inr _ => (decide ((↑a0.length : Int) ≤ 12)))
def Jt (a0 : List ZF) : Nat → Nat → Sum Bool Unit
  | 0, _ => .inr ()
  | n1 + 1, v1_0 => (bif (decide ((↑v1_0 : Int) < (↑a0.length : Int))) then (bif ((((!(ZS (nth a0 v1_0).Id 0 99)) || (!(ZS (nth a0 v1_0).Key 1 99))) || (!(ZS (nth a0 v1_0).Error 0 100))) || ((decide ((↑v1_0 : Int) > 0)) && (decide ((nth a0 (v1_0 - 1)).Id ≥ (nth a0 v1_0).Id)))) then (.inl false) else Jt a0 n1 (v1_0 + 1)) else (.inr ()))
def zJ (a0 : List ZF) : Bool := (match Jt a0 (a0.length + 1) 0 with | .inl r1 => r1 | .inr _ => (decide ((↑a0.length : Int) ≤ 6)))
def VK (a0 : Zg) : Bool := ((((((ZS a0.Id 0 99) && (J4 a0.U0)) && (ZS a0.Ends 1 10001)) && (ZS a0.js 1 10001)) && (decide (a0.U0 < a0.Ends))) && (decide (a0.U0 < a0.js)))
def yy (a0 : List Zg) : Nat → Nat → Sum Bool Unit
  | 0, _ => .inr ()
  | n1 + 1, v1_0 => (bif (decide ((↑v1_0 : Int) < (↑a0.length : Int))) then (bif ((!(VK (nth a0 v1_0))) || ((decide ((↑v1_0 : Int) > 0)) && (decide ((nth a0 (v1_0 - 1)).Id ≥ (nth a0 v1_0).Id)))) then (.inl false) else yy a0 n1 (v1_0 + 1)) else (.inr ()))
def qz (a0 : List Zg) : Bool := (match yy a0 (a0.length + 1) 0 with | .inl r1 => r1 | .inr _ => (decide ((↑a0.length : Int) ≤ 8)))
def jk (a0 : ZH) : Bool := (((((Up a0.Yb) && (zJ a0.ZU)) && (qz a0.Methods)) && (ZS a0.QK 0 6)) && (J4 a0.Now))
def xf (a0 : List Int) : Nat → Nat → Sum Bool Unit
  | 0, _ => .inr ()
  | n1 + 1, v1_0 => (bif (decide ((↑v1_0 : Int) < (↑a0.length : Int))) then (bif (decide ((nth a0 (v1_0 - 1)) ≥ (nth a0 v1_0))) then (.inl false) else xf a0 n1 (v1_0 + 1)) else (.inr ()))
def qi (a0 : List Int) : Bool := (match xf a0 (a0.length + 1) 1 with | .inl r1 => r1 | .inr _ => true)
def yv (a0 : Zs) : ZD := (ZD.mk a0.YE a0.To)
def YF (a0 : ZD) : Bool := (((J4 a0.YE) && (J4 a0.To)) && (decide (a0.YE ≤ a0.To)))
def RX (a0 : Zs) : Bool := ((((((ZS a0.Z1 1 999) && (ZS a0.Key 1 99)) && (ZS a0.QP 1 99)) && (a0.Key != a0.QP)) && (ZS a0.JZ 0 99)) && (YF (yv a0)))
def z4 (a0 : Zs) : List Int := ([101, a0.Z1, a0.Key, a0.JZ, a0.YE, a0.To, a0.QP] : List Int)
def qY (a0 : List Zy) (a1 : Int) : Nat → Nat → Sum Int Unit
  | 0, _ => .inr ()
  | n1 + 1, v1_0 => (bif (decide ((↑v1_0 : Int) < (↑a0.length : Int))) then (bif ((nth a0 v1_0).Number == a1) then (.inl (↑v1_0 : Int)) else qY a0 a1 n1 (v1_0 + 1)) else (.inr ()))
def Yg (a0 : List Zy) (a1 : Int) : Int := (match qY a0 a1 (a0.length + 1) 0 with | .inl r1 => r1 | .inr _ => (-1))
def BV (a0 : Int) (a1 : Int) : Int := (bif (!(ZS a1 1 1000000000000)) then 0 else (Int.tmod (W ((Int.tmod a0 a1) + a1)) a1))
def RB (a0 : List Int) : Nat → Int → Nat → Int
  | 0, _, _ => default
  | n1 + 1, v1_0, v1_1 => (bif (decide ((↑v1_1 : Int) < (↑a0.length : Int))) then RB a0 n1 (Int.tmod (W ((W ((W (v1_0 * 1000003)) + (BV (nth a0 v1_1) 2147483647))) + 13)) 2147483647) (v1_1 + 1) else (v1_0))
def MC (a0 : List Int) : Int := (match RB a0 (a0.length + 1) 11 0 with | z1_0 => z1_0)
def kn (a0 : Int) (a1 : List Int) : Int := (MC ((([a0] : List Int) ++ a1) ++ ([a0] : List Int)))
def VF (a0 : Zy) (a1 : List Int) : Int := (kn a0.jz (([a0.Method] : List Int) ++ a1))
def xx (a0 : List Zy) (a1 : Int) (a2 : List Int) : Int × Bool := (bif (decide ((Yg a0 a1) < 0)) then (0, false) else ((VF (nth a0 (Yg a0 a1).toNat) a2), true))
def Xg (a0 : List Zy) (a1 : Int) (a2 : List Int) (a3 : Int) : Bool := ((xx a0 a1 a2).2 && ((xx a0 a1 a2).1 == a3))
def Wq (a0 : List Zy) (a1 : Int) : Int := (bif (decide ((Yg a0 a1) ≥ 0)) then (nth a0 (Yg a0 a1).toNat).JZ else (-1))
def qX (a0 : List Zy) (a1 : Zs) : Bool := (((RX a1) && (Xg a0 a1.QP (z4 a1) a1.Mark)) && (a1.JZ == (Wq a0 a1.Key)))
def y9 (a0 : List Zs) (a1 : Int) : Nat → Nat → Sum Int Unit
  | 0, _ => .inr ()
  | n1 + 1, v1_0 => (bif (decide ((↑v1_0 : Int) < (↑a0.length : Int))) then (bif ((nth a0 v1_0).Z1 == a1) then (.inl (↑v1_0 : Int)) else y9 a0 a1 n1 (v1_0 + 1)) else (.inr ()))
def j9 (a0 : List Zs) (a1 : Int) : Int := (match y9 a0 a1 (a0.length + 1) 0 with | .inl r1 => r1 | .inr _ => (-1))
def zN (a0 : Zd) : Nat → Nat → Sum Bool Unit
  | 0, _ => .inr ()
  | n1 + 1, v1_0 => (bif (decide ((↑v1_0 : Int) < (↑a0.YY.length : Int))) then (bif ((decide ((↑(nth a0.YY v1_0).size : Int) > 40)) || (!(ZS (nth a0.XI v1_0) 1 1000000000000))) then (.inl false) else zN a0 n1 (v1_0 + 1)) else (.inr ()))
def KD (a0 : Zd) : Bool := (bif (((!(ZS a0.jK 0 999)) || (!(ZS (↑a0.YY.length : Int) 1 6))) || ((↑a0.XI.length : Int) != (↑a0.YY.length : Int))) then false else (match zN a0 (a0.YY.length + 1) 0 with | .inl r1 => r1 | .inr _ => true))
def kK (a0 : List Int) (a1 : List Int) : Nat → Nat → Sum Bool Unit
  | 0, _ => .inr ()
  | n1 + 1, v1_0 => (bif (decide ((↑v1_0 : Int) < (↑a0.length : Int))) then (bif ((nth a0 v1_0) != (nth a1 v1_0)) then (.inl false) else kK a0 a1 n1 (v1_0 + 1)) else (.inr ()))
def Vs (a0 : List Int) (a1 : List Int) : Bool := (bif ((↑a0.length : Int) != (↑a1.length : Int)) then false else (match kK a0 a1 (a0.length + 1) 0 with | .inl r1 => r1 | .inr _ => true))
def JU (a0 : ZB) (a1 : ZB) : Bool := (((a0.Key == a1.Key) && (a0.Mark == a1.Mark)) && (Vs a0.Zb a1.Zb))
def zj (a0 : List ZB) (a1 : ZB) : Nat → Nat → Sum Bool Unit
  | 0, _ => .inr ()
  | n1 + 1, v1_0 => (bif (decide ((↑v1_0 : Int) < (↑a0.length : Int))) then (bif (JU (nth a0 v1_0) a1) then (.inl true) else zj a0 a1 n1 (v1_0 + 1)) else (.inr ()))
def XP (a0 : List ZB) (a1 : ZB) : Bool := (match zj a0 a1 (a0.length + 1) 0 with | .inl r1 => r1 | .inr _ => false)
def xF (a0 : ZK) : Nat → Nat → Sum Bool Unit
  | 0, _ => .inr ()
  | n2 + 1, v2_0 => (bif (decide ((↑v2_0 : Int) < (↑a0.ZM.length : Int))) then (bif ((!(ZS (nth a0.ZM v2_0).Count 1 (↑a0.ZT.length : Int))) || ((decide ((↑v2_0 : Int) > 0)) && (decide ((nth a0.ZM v2_0).Count < (nth a0.ZM (v2_0 - 1)).Count)))) then (.inl false) else xF a0 n2 (v2_0 + 1)) else (.inr ()))
def xG (a0 : ZK) : Nat → Nat → Sum Bool Unit
  | 0, _ => .inr ()
  | n1 + 1, v1_0 => (bif (decide ((↑v1_0 : Int) < (↑a0.ZT.length : Int))) then (bif (XP (a0.ZT.take v1_0) (nth a0.ZT v1_0)) then (.inl false) else xG a0 n1 (v1_0 + 1)) else (.inr ()))
def qE (a0 : ZK) : Bool := (bif ((!(ZS (↑a0.ZT.length : Int) 1 12)) || (decide ((↑a0.ZM.length : Int) > 8))) then false else (match xG a0 (a0.ZT.length + 1) 0 with | .inl r1 => r1 | .inr _ => (match xF a0 (a0.ZM.length + 1) 0 with | .inl r2 => r2 | .inr _ => true)))
def XY (a0 : ZY) : List Int := ([104, a0.Key, a0.Z1, a0.Method, a0.Yo, a0.WL, a0.Org, a0.WR, a0.yG] : List Int)
def Yx (a0 : ZY) : ZB := (ZB.mk a0.Key (XY a0) a0.Mark)
def Sv (a0 : Zt) : Bool := (((((ZS a0.Id 1 999) && (J4 a0.XM)) && (KD a0.Doc)) && (qE a0.Yl)) && (JU (nth a0.Yl.ZT 0) (Yx a0.Sig)))
def xd (a0 : Zc) : Nat → Nat → Sum Bool Unit
  | 0, _ => .inr ()
  | n1 + 1, v1_0 => (bif (decide ((↑v1_0 : Int) < (↑a0.Zh.length : Int))) then (bif ((!(Sv (nth a0.Zh v1_0))) || ((decide ((↑v1_0 : Int) > 0)) && (decide ((nth a0.Zh (v1_0 - 1)).Id ≥ (nth a0.Zh v1_0).Id)))) then (.inl false) else xd a0 n1 (v1_0 + 1)) else (.inr ()))
def qa (a0 : Zc) : Bool := (match xd a0 (a0.Zh.length + 1) 0 with | .inl r1 => r1 | .inr _ => ((ZS a0.Id 0 99) && (decide ((↑a0.Zh.length : Int) ≤ 8))))
def UO (a0 : List Int) (a1 : Int) : Nat → Nat → Sum Int Unit
  | 0, _ => .inr ()
  | n1 + 1, v1_0 => (bif (decide ((↑v1_0 : Int) < (↑a0.length : Int))) then (bif ((nth a0 v1_0) == a1) then (.inl (↑v1_0 : Int)) else UO a0 a1 n1 (v1_0 + 1)) else (.inr ()))
def R3 (a0 : List Int) (a1 : Int) : Int := (match UO a0 a1 (a0.length + 1) 0 with | .inl r1 => r1 | .inr _ => (-1))
def kT (a0 : List Int) (a1 : Int) : Bool := (decide ((R3 a0 a1) ≥ 0))
def Qt (a0 : List ZF) (a1 : Int) : Nat → Nat → Sum Int Unit
  | 0, _ => .inr ()
  | n1 + 1, v1_0 => (bif (decide ((↑v1_0 : Int) < (↑a0.length : Int))) then (bif ((nth a0 v1_0).Id == a1) then (.inl (↑v1_0 : Int)) else Qt a0 a1 n1 (v1_0 + 1)) else (.inr ()))
def Z4 (a0 : List ZF) (a1 : Int) : Int := (match Qt a0 a1 (a0.length + 1) 0 with | .inl r1 => r1 | .inr _ => (-1))
def zZ (a0 : Zi) (v2_1 : Nat) : Nat → List Int → Nat → Sum Bool (List Int)
  | 0, _, _ => .inr default
  | n3 + 1, v3_0, v3_1 => (bif (decide ((↑v3_1 : Int) < (↑(nth a0.ZE v2_1).Zh.length : Int))) then (bif ((kT v3_0 (nth (nth a0.ZE v2_1).Zh v3_1).Id) || (decide ((nth (nth a0.ZE v2_1).Zh v3_1).Id ≥ a0.Next))) then (.inl false) else zZ a0 v2_1 n3 (v3_0 ++ ([(nth (nth a0.ZE v2_1).Zh v3_1).Id] : List Int)) (v3_1 + 1)) else (.inr v3_0))
def kh (a0 : Zi) : Nat → Nat → Sum Bool Unit
  | 0, _ => .inr ()
  | n5 + 1, v5_0 => (bif (decide ((↑v5_0 : Int) < (↑a0.Y4.length : Int))) then (bif (decide ((Z4 a0.Frame.ZU (nth a0.Y4 v5_0)) < 0)) then (.inl false) else kh a0 n5 (v5_0 + 1)) else (.inr ()))
def kZ (a0 : Zi) : Nat → Nat → Sum Bool Unit
  | 0, _ => .inr ()
  | n4 + 1, v4_0 => (bif (decide ((↑v4_0 : Int) < (↑a0.Qg.length : Int))) then (bif (decide ((nth a0.Qg v4_0) < 0)) then (.inl false) else kZ a0 n4 (v4_0 + 1)) else (.inr ()))
def zT (a0 : Zi) : Nat → List Int → Nat → Sum Bool Unit
  | 0, _, _ => .inr ()
  | n2 + 1, v2_0, v2_1 => (bif (decide ((↑v2_1 : Int) < (↑a0.ZE.length : Int))) then (bif ((!(qa (nth a0.ZE v2_1))) || ((nth a0.ZE v2_1).Id != (↑v2_1 : Int))) then (.inl false) else (match zZ a0 v2_1 ((nth a0.ZE v2_1).Zh.length + 1) v2_0 0 with | .inl r3 => .inl r3 | .inr z3_0 => zT a0 n2 z3_0 (v2_1 + 1))) else (.inr ()))
def ke (a0 : Zi) : Nat → Nat → Sum Bool Unit
  | 0, _ => .inr ()
  | n1 + 1, v1_0 => (bif (decide ((↑v1_0 : Int) < (↑a0.YN.length : Int))) then (bif (((!(qX a0.Frame.Yb (nth a0.YN v1_0))) || ((j9 a0.YN (nth a0.YN v1_0).Z1) != (↑v1_0 : Int))) || (!(ZS (nth a0.YX v1_0) (-1) 10001))) then (.inl false) else ke a0 n1 (v1_0 + 1)) else (.inr ()))
def TS (a0 : Zi) : Bool := (bif ((((((((!(jk a0.Frame)) || ((↑a0.YX.length : Int) != (↑a0.YN.length : Int))) || (!(ZS (↑a0.ZE.length : Int) 1 4))) || ((↑a0.Qg.length : Int) != (↑a0.Frame.ZU.length : Int))) || (decide ((↑a0.Y4.length : Int) > a0.Frame.QK))) || (decide (a0.Next < 1))) || (!(qi a0.Y4))) || (!(qi a0.XQ))) then false else (match ke a0 (a0.YN.length + 1) 0 with | .inl r1 => r1 | .inr _ => (match zT a0 (a0.ZE.length + 1) ([] : List Int) 0 with | .inl r2 => r2 | .inr _ => (match kZ a0 (a0.Qg.length + 1) 0 with | .inl r4 => r4 | .inr _ => (match kh a0 (a0.Y4.length + 1) 0 with | .inl r5 => r5 | .inr _ => true)))))
def Vt (a0 : Zi) : Nat → List Zt → Nat → (List Zt)
  | 0, _, _ => default
  | n1 + 1, v1_0, v1_1 => (bif (decide ((↑v1_1 : Int) < (↑a0.ZE.length : Int))) then Vt a0 n1 (v1_0 ++ (nth a0.ZE v1_1).Zh) (v1_1 + 1) else (v1_0))
def Xc (a0 : Zi) : List Zt := (match Vt a0 (a0.ZE.length + 1) ([] : List Zt) 0 with | z1_0 => z1_0)
def xI (a0 : Zc) (a1 : Int) : Nat → Nat → Sum Int Unit
  | 0, _ => .inr ()
  | n1 + 1, v1_0 => (bif (decide ((↑v1_0 : Int) < (↑a0.Zh.length : Int))) then (bif ((nth a0.Zh v1_0).Id == a1) then (.inl (↑v1_0 : Int)) else xI a0 a1 n1 (v1_0 + 1)) else (.inr ()))
def yo (a0 : Zc) (a1 : Int) : Int := (match xI a0 a1 (a0.Zh.length + 1) 0 with | .inl r1 => r1 | .inr _ => (-1))
def yQ (a0 : Zi) (a1 : Int) : Nat → Nat → Sum (Int × Int) Unit
  | 0, _ => .inr ()
  | n1 + 1, v1_0 => (bif (decide ((↑v1_0 : Int) < (↑a0.ZE.length : Int))) then (bif (decide ((yo (nth a0.ZE v1_0) a1) ≥ 0)) then (.inl ((↑v1_0 : Int), (yo (nth a0.ZE v1_0) a1))) else yQ a0 a1 n1 (v1_0 + 1)) else (.inr ()))
def QD (a0 : Zi) (a1 : Int) : Int × Int := (match yQ a0 a1 (a0.ZE.length + 1) 0 with | .inl r1 => r1 | .inr _ => ((-1), (-1)))
def Pm (a0 : List Int) : List Int := a0
def RQ (a0 : ZB) : ZB := a0
def jQ (a0 : List ZB) : Nat → List ZB → Nat → (List ZB)
  | 0, _, _ => default
  | n1 + 1, v1_0, v1_1 => (bif (decide ((↑v1_1 : Int) < (↑a0.length : Int))) then jQ a0 n1 (v1_0 ++ ([(nth a0 v1_1)] : List ZB)) (v1_1 + 1) else (v1_0))
def Wg (a0 : List ZB) : List ZB := (match jQ a0 (a0.length + 1) ([] : List ZB) 0 with | z1_0 => z1_0)
def T6 (a0 : List ZZ) : List ZZ := a0
def UZ (a0 : ZV) : ZV := a0
def jW (a0 : ZK) : Nat → Nat → List ZV → (List ZV)
  | 0, _, _ => default
  | n1 + 1, v1_0, v1_1 => (bif (decide ((↑v1_0 : Int) < (↑a0.ZM.length : Int))) then jW a0 n1 (v1_0 + 1) (v1_1 ++ ([(nth a0.ZM v1_0)] : List ZV)) else (v1_1))
def Wh (a0 : ZK) : ZK := (match jW a0 (a0.ZM.length + 1) 0 ([] : List ZV) with | z1_0 => (ZK.mk a0.ZT z1_0))
def zG (a0 : Zt) : ZI := (ZI.mk ([a0.Yl] : List ZK) ([] : List (List ZZ)))
def yJ (a0 : List UInt8) : Nat → List Int → Nat → (List Int)
  | 0, _, _ => default
  | n1 + 1, v1_0, v1_1 => (bif (decide ((↑v1_1 : Int) < (↑a0.length : Int))) then yJ a0 n1 (v1_0 ++ ([(W (↑(nth a0 v1_1).toNat : Int))] : List Int)) (v1_1 + 1) else (v1_0))
def jn (a0 : List UInt8) : List Int := (match yJ a0 (a0.length + 1) ([] : List Int) 0 with | z1_0 => z1_0)
def QT (a0 : Int) (a1 : List Int) : Int := (MC (([7, a0] : List Int) ++ a1))
def jb (a0 : Int) (a1 : ByteArray) (a2 : Int) : Int := (QT a0 (([a2] : List Int) ++ (jn a1.data.toList)))
def xi (a0 : Int) (a1 : Zd) : Nat → List Int → Nat → (List Int)
  | 0, _, _ => default
  | n1 + 1, v1_0, v1_1 => (bif (decide ((↑v1_1 : Int) < (↑a1.YY.length : Int))) then xi a0 a1 n1 (v1_0 ++ ([(jb a0 (nth a1.YY v1_1) (nth a1.XI v1_1))] : List Int)) (v1_1 + 1) else (v1_0))
def yh (a0 : Int) (a1 : Zd) : Int := (bif (!(KD a1)) then (-1) else (match xi a0 a1 (a1.YY.length + 1) ([a1.jK] : List Int) 0 with | z1_0 => (QT a0 z1_0)))
def Jb (a0 : ZK) (a1 : Zd) : Nat → List Int → Nat → (List Int)
  | 0, _, _ => default
  | n1 + 1, v1_0, v1_1 => (bif (decide ((↑v1_1 : Int) < (↑a0.ZM.length : Int))) then Jb a0 a1 n1 (v1_0 ++ ([(yh (nth a0.ZM v1_1).Method a1)] : List Int)) (v1_1 + 1) else (v1_0))
def KG (a0 : ZK) (a1 : Zd) : List Int := (match Jb a0 a1 (a0.ZM.length + 1) ([] : List Int) 0 with | z1_0 => z1_0)
def X8 (a0 : ZI) (a1 : Zd) : Nat → List (List Int) → Nat → (List (List Int))
  | 0, _, _ => default
  | n1 + 1, v1_0, v1_1 => (bif (decide ((↑v1_1 : Int) < (↑a0.ZL.length : Int))) then X8 a0 a1 n1 (v1_0 ++ ([(KG (nth a0.ZL v1_1) a1)] : List (List Int))) (v1_1 + 1) else (v1_0))
def JA (a0 : ZI) (a1 : Zd) : List (List Int) := (match X8 a0 a1 (a0.ZL.length + 1) ([] : List (List Int)) 0 with | z1_0 => z1_0)
def Ro (a0 : Int) : Ym := (Ym.mk 3 a0 (ZD.mk 0 0))
def Kf (a0 : ZY) : Bool := ((((((((ZS a0.Key 1 99) && (ZS a0.Z1 1 999)) && (ZS a0.Method 0 99)) && (ZS a0.Org 0 99)) && (ZS a0.WL 1 3)) && (ZS a0.Yo 0 1000000000000)) && (ZS a0.WR 0 1000000000000)) && (ZS a0.yG 0 1000000000000))
def TW (a0 : Int) : Ym := (Ym.mk 2 a0 (ZD.mk 0 0))
def JW (a0 : List Zy) (a1 : ZY) : Bool := ((Kf a1) && (Xg a0 a1.Key (XY a1) a1.Mark))
def xn (a0 : ZK) (a1 : ZB) : Nat → Nat → Sum Int Unit
  | 0, _ => .inr ()
  | n1 + 1, v1_0 => (bif (decide ((↑v1_0 : Int) < (↑a0.ZT.length : Int))) then (bif (JU (nth a0.ZT v1_0) a1) then (.inl (↑v1_0 : Int)) else xn a0 a1 n1 (v1_0 + 1)) else (.inr ()))
def yu (a0 : ZK) (a1 : ZB) : Int := (match xn a0 a1 (a0.ZT.length + 1) 0 with | .inl r1 => r1 | .inr _ => (-1))
def Q0 (a0 : Int) (a1 : Int) : ZD × Bool := (bif ((decide (a0 > a1)) || (!(YF (ZD.mk (if 0 > a0 then 0 else a0) (if 10000 < a1 then 10000 else a1))))) then ((ZD.mk 0 0), false) else ((ZD.mk (if 0 > a0 then 0 else a0) (if 10000 < a1 then 10000 else a1)), true))
def JP (a0 : List ZF) (a1 : ZZ) : ZD × Bool := (bif (((decide ((Z4 a0 a1.Authority) < 0)) || (decide ((nth a0 (Z4 a0 a1.Authority).toNat).Error < 0))) || (!(J4 a1.Time))) then ((ZD.mk 0 0), false) else ((Q0 (W (a1.Time - (nth a0 (Z4 a0 a1.Authority).toNat).Error)) (W (a1.Time + (nth a0 (Z4 a0 a1.Authority).toNat).Error))).1, (Q0 (W (a1.Time - (nth a0 (Z4 a0 a1.Authority).toNat).Error)) (W (a1.Time + (nth a0 (Z4 a0 a1.Authority).toNat).Error))).2))
def zP (a0 : List ZD) (a1 : Int) : Nat → Int → Nat → Int
  | 0, _, _ => default
  | n1 + 1, v1_0, v1_1 => (bif (decide ((↑v1_1 : Int) < (↑a0.length : Int))) then (bif ((YF (nth a0 v1_1)) && (ZS a1 (nth a0 v1_1).YE (nth a0 v1_1).To)) then zP a0 a1 n1 (W (v1_0 + 1)) (v1_1 + 1) else zP a0 a1 n1 v1_0 (v1_1 + 1)) else (v1_0))
def jo (a0 : List ZD) (a1 : Int) : Int := (match zP a0 a1 (a0.length + 1) 0 0 with | z1_0 => z1_0)
def Zm (a0 : List ZD) (a1 : Int) (a2 : Int) : Bool := ((ZS a2 0 (W ((↑a0.length : Int) - 1))) && (decide ((jo a0 a1) ≥ (W ((↑a0.length : Int) - a2)))))
def X7 (a0 : List ZD) (a1 : Int) : Nat → Bool → Nat → Int → Int → Bool × Int × Int
  | 0, _, _, _, _ => (default, default, default)
  | n1 + 1, v1_0, v1_1, v1_2, v1_3 => (bif (decide ((↑v1_1 : Int) ≤ 10000)) then (bif (Zm a0 (↑v1_1 : Int) a1) then (bif (!v1_0) then X7 a0 a1 n1 true (v1_1 + 1) (↑v1_1 : Int) (↑v1_1 : Int) else X7 a0 a1 n1 true (v1_1 + 1) v1_2 (↑v1_1 : Int)) else X7 a0 a1 n1 v1_0 (v1_1 + 1) v1_2 v1_3) else ((v1_0, v1_2, v1_3)))
def zf (a0 : List ZD) (a1 : Int) : ZD × Bool := (match X7 a0 a1 10002 false 0 0 0 with | (z1_0, z1_1, z1_2) => ((ZD.mk z1_1 z1_2), z1_0))
def Xd (a0 : List ZF) (a1 : List ZZ) : Nat → List ZD → Nat → Sum (ZD × Bool) (List ZD)
  | 0, _, _ => .inr default
  | n1 + 1, v1_0, v1_1 => (bif (decide ((↑v1_1 : Int) < (↑a1.length : Int))) then (bif (!(JP a0 (nth a1 v1_1)).2) then (.inl ((ZD.mk 0 0), false)) else Xd a0 a1 n1 (v1_0 ++ ([(JP a0 (nth a1 v1_1)).1] : List ZD)) (v1_1 + 1)) else (.inr v1_0))
def Xt (a0 : List ZF) (a1 : List ZZ) (a2 : Int) : ZD × Bool := (match Xd a0 a1 (a1.length + 1) ([] : List ZD) 0 with | .inl r1 => r1 | .inr z1_0 => ((zf z1_0 a2).1, (zf z1_0 a2).2))
def JR (a0 : List ZF) (a1 : ZV) (a2 : Int) : ZD × Bool := ((Xt a0 a1.Zf a2).1, (Xt a0 a1.Zf a2).2)
def XX (a0 : ZH) (a1 : ZV) : ZD × Bool := ((JR a0.ZU a1 a0.QK).1, (JR a0.ZU a1 a0.QK).2)
def QI (a0 : ZZ) : List Int := ([103, a0.Authority, a0.Seq, a0.Time, a0.Yo] : List Int)
def KC (a1 : ZV) : Nat → List Int → Nat → (List Int)
  | 0, _, _ => default
  | n2 + 1, v2_0, v2_1 => (bif (decide ((↑v2_1 : Int) < (↑a1.Zf.length : Int))) then KC a1 n2 ((v2_0 ++ (QI (nth a1.Zf v2_1))) ++ ([(nth a1.Zf v2_1).Mark] : List Int)) (v2_1 + 1) else (v2_0))
def Qu (a1 : ZV) : Nat → List Int → Nat → (List Int)
  | 0, _, _ => default
  | n1 + 1, v1_0, v1_1 => (bif (decide ((↑v1_1 : Int) < (↑a1.Path.length : Int))) then (bif (nth a1.Path v1_1).Left then Qu a1 n1 (v1_0 ++ ([(nth a1.Path v1_1).Yo, 1] : List Int)) (v1_1 + 1) else Qu a1 n1 (v1_0 ++ ([(nth a1.Path v1_1).Yo, 0] : List Int)) (v1_1 + 1)) else (v1_0))
def Q8 (a0 : Int) (a1 : ZV) : Int := (match Qu a1 (a1.Path.length + 1) ([4, a1.Count, a1.Method, a1.MD] : List Int) 0 with | z1_0 => (match KC a1 (a1.Zf.length + 1) (z1_0 ++ ([(↑a1.Zf.length : Int)] : List Int)) 0 with | z2_0 => (QT a0 z2_0)))
def K4 (a0 : Int) (a1 : List ZB) : Nat → List Int → Nat → (List Int)
  | 0, _, _ => default
  | n1 + 1, v1_0, v1_1 => (bif (decide ((↑v1_1 : Int) < (↑a1.length : Int))) then K4 a0 a1 n1 (v1_0 ++ ([(QT a0 (([(nth a1 v1_1).Key, (nth a1 v1_1).Mark] : List Int) ++ (nth a1 v1_1).Zb))] : List Int)) (v1_1 + 1) else (v1_0))
def zO (a0 : Int) (a1 : List ZB) : Int := (match K4 a0 a1 (a1.length + 1) ([2] : List Int) 0 with | z1_0 => (QT a0 z1_0))
def TF (a0 : Int) (a1 : Int) (a2 : List ZB) (a3 : Int) : Int := (QT a0 ([3, a1, (zO a0 a2), a3] : List Int))
def W2 (a0 : ZK) (a1 : List Int) (a2 : Int) : Int := (bif (((!(ZS a2 0 (W ((↑a0.ZM.length : Int) - 1)))) || ((↑a1.length : Int) != (↑a0.ZM.length : Int))) || (!(ZS (nth a0.ZM a2.toNat).Count 0 (↑a0.ZT.length : Int)))) then (-1) else (bif (decide (a2 > 0)) then (TF (nth a0.ZM a2.toNat).Method (nth a1 a2.toNat) (a0.ZT.take (nth a0.ZM a2.toNat).Count.toNat) (Q8 (nth a0.ZM a2.toNat).Method (nth a0.ZM (W (a2 - 1)).toNat))) else (TF (nth a0.ZM a2.toNat).Method (nth a1 a2.toNat) (a0.ZT.take (nth a0.ZM a2.toNat).Count.toNat) 0)))
def xQ (a0 : Int) (a1 : Int) (a2 : Int) : Int := (QT a0 ([1, a1, a2] : List Int))
def Kw (a0 : Int) (a2 : List Yq) : Nat → Int → Nat → Int
  | 0, _, _ => default
  | n1 + 1, v1_0, v1_1 => (bif (decide ((↑v1_1 : Int) < (↑a2.length : Int))) then (bif (nth a2 v1_1).Left then Kw a0 a2 n1 (xQ a0 (nth a2 v1_1).Yo v1_0) (v1_1 + 1) else Kw a0 a2 n1 (xQ a0 v1_0 (nth a2 v1_1).Yo) (v1_1 + 1)) else (v1_0))
def jE (a0 : Int) (a1 : Int) (a2 : List Yq) : Int := (match Kw a0 a2 (a2.length + 1) a1 0 with | z1_0 => z1_0)
def QM (a0 : List ZZ) : Nat → Nat → Sum Bool Unit
  | 0, _ => .inr ()
  | n1 + 1, v1_0 => (bif (decide ((↑v1_0 : Int) < (↑a0.length : Int))) then (bif (decide ((nth a0 (v1_0 - 1)).Authority ≥ (nth a0 v1_0).Authority)) then (.inl false) else QM a0 n1 (v1_0 + 1)) else (.inr ()))
def Yn (a0 : List ZZ) : Bool := (match QM a0 (a0.length + 1) 1 with | .inl r1 => r1 | .inr _ => true)
def Qi (a0 : List Zy) (a1 : List ZF) (a2 : ZZ) : ZZ × Bool := (bif (((decide ((Z4 a1 a2.Authority) < 0)) || (decide (a2.Seq < 0))) || (!(J4 a2.Time))) then ((ZZ.mk 0 0 0 0 0), false) else (bif (!(xx a0 (nth a1 (Z4 a1 a2.Authority).toNat).Key (QI a2)).2) then ((ZZ.mk 0 0 0 0 0), false) else ((ZZ.mk a2.Authority a2.Seq a2.Time a2.Yo (xx a0 (nth a1 (Z4 a1 a2.Authority).toNat).Key (QI a2)).1), true)))
def qx (a0 : List Zy) (a1 : List ZF) (a2 : ZZ) : Bool := ((Qi a0 a1 a2).2 && (((Qi a0 a1 a2).1.Authority == a2.Authority) && (((Qi a0 a1 a2).1.Seq == a2.Seq) && (((Qi a0 a1 a2).1.Time == a2.Time) && (((Qi a0 a1 a2).1.Yo == a2.Yo) && ((Qi a0 a1 a2).1.Mark == a2.Mark))))))
def K0 (a0 : List Zy) (a1 : List ZF) (a2 : ZV) : Nat → Nat → Sum Bool Unit
  | 0, _ => .inr ()
  | n1 + 1, v1_0 => (bif (decide ((↑v1_0 : Int) < (↑a2.Zf.length : Int))) then (bif (((nth a2.Zf v1_0).Yo != a2.MD) || (!(qx a0 a1 (nth a2.Zf v1_0)))) then (.inl false) else K0 a0 a1 a2 n1 (v1_0 + 1)) else (.inr ()))
def K7 (a0 : List Zy) (a1 : List ZF) (a2 : ZV) (a3 : Int) : Bool := (bif ((((decide ((↑a2.Path.length : Int) > 4)) || ((jE a2.Method a3 a2.Path) != a2.MD)) || (!(ZS (↑a2.Zf.length : Int) 1 6))) || (!(Yn a2.Zf))) then false else (match K0 a0 a1 a2 (a2.Zf.length + 1) 0 with | .inl r1 => r1 | .inr _ => true))
def Kt (a0 : List Zg) (a1 : Int) : Nat → Nat → Sum Int Unit
  | 0, _ => .inr ()
  | n1 + 1, v1_0 => (bif (decide ((↑v1_0 : Int) < (↑a0.length : Int))) then (bif ((nth a0 v1_0).Id == a1) then (.inl (↑v1_0 : Int)) else Kt a0 a1 n1 (v1_0 + 1)) else (.inr ()))
def KJ (a0 : List Zg) (a1 : Int) : Int := (match Kt a0 a1 (a0.length + 1) 0 with | .inl r1 => r1 | .inr _ => (-1))
def zI (a0 : List Zg) (a1 : Int) : Int := (bif (decide ((KJ a0 a1) ≥ 0)) then (nth a0 (KJ a0 a1).toNat).js else 0)
def XH (a0 : List ZF) (a1 : ZZ) : Int := (bif (decide ((Z4 a0 a1.Authority) ≥ 0)) then (nth a0 (Z4 a0 a1.Authority).toNat).Key else 0)
def K5 (a0 : List Zy) (a1 : List ZF) (a2 : List Zg) (a3 : ZV) : Nat → Int → Nat → Sum Int Int
  | 0, _, _ => .inr default
  | n1 + 1, v1_0, v1_1 => (bif (decide ((↑v1_1 : Int) < (↑a3.Zf.length : Int))) then (bif (decide ((Yg a0 (XH a1 (nth a3.Zf v1_1))) < 0)) then (.inl 0) else K5 a0 a1 a2 a3 n1 (if (zI a2 (nth a0 (Yg a0 (XH a1 (nth a3.Zf v1_1))).toNat).Method) < v1_0 then (zI a2 (nth a0 (Yg a0 (XH a1 (nth a3.Zf v1_1))).toNat).Method) else v1_0) (v1_1 + 1)) else (.inr v1_0))
def Kv (a0 : List Zy) (a1 : List ZF) (a2 : List Zg) (a3 : ZV) : Int := (match K5 a0 a1 a2 a3 (a3.Zf.length + 1) (zI a2 a3.Method) 0 with | .inl r1 => r1 | .inr z1_0 => z1_0)
def qc (a0 : ZH) (a1 : ZK) (a2 : Int) : Bool := (bif (!(ZS a2 0 (W ((↑a1.ZM.length : Int) - 1)))) then false else (bif (a2 == (W ((↑a1.ZM.length : Int) - 1))) then (decide (a0.Now < (Kv a0.Yb a0.ZU a0.Methods (nth a1.ZM a2.toNat)))) else ((XX a0 (nth a1.ZM (W (a2 + 1)).toNat)).2 && (decide ((XX a0 (nth a1.ZM (W (a2 + 1)).toNat)).1.To < (Kv a0.Yb a0.ZU a0.Methods (nth a1.ZM a2.toNat)))))))
def Kg (a0 : ZH) (a1 : ZK) (a2 : List Int) : Nat → Nat → Nat
  | 0, _ => default
  | n1 + 1, v1_0 => (bif (decide ((↑v1_0 : Int) > 0)) then (bif (((!(XX a0 (nth a1.ZM (v1_0 - 1))).2) || (!(K7 a0.Yb a0.ZU (nth a1.ZM (v1_0 - 1)) (W2 a1 a2 (W ((↑v1_0 : Int) - 1)))))) || (!(qc a0 a1 (W ((↑v1_0 : Int) - 1))))) then (v1_0) else Kg a0 a1 a2 n1 (v1_0 - 1)) else (v1_0))
def KN (a0 : ZH) (a1 : ZK) (a2 : List Int) : Int := (match Kg a0 a1 a2 (a1.ZM.length + 1) a1.ZM.length with | z1_0 => (↑z1_0 : Int))
def qI (a0 : ZH) (a1 : ZK) (a3 : Int) : Nat → Int → Int → Int
  | 0, _, _ => default
  | n1 + 1, v1_0, v1_1 => (bif (decide (v1_1 < (↑a1.ZM.length : Int))) then (bif (decide ((nth a1.ZM v1_1.toNat).Count > a3)) then qI a0 a1 a3 n1 (if (XX a0 (nth a1.ZM v1_1.toNat)).1.To < v1_0 then (XX a0 (nth a1.ZM v1_1.toNat)).1.To else v1_0) (W (v1_1 + 1)) else qI a0 a1 a3 n1 v1_0 (W (v1_1 + 1))) else (v1_0))
def Un (a0 : ZH) (a1 : ZK) (a2 : List Int) (a3 : Int) : Int := (match qI a0 a1 a3 (a1.ZM.length + 2) a0.Now (KN a0 a1 a2) with | z1_0 => z1_0)
def xM (a0 : ZH) (a1 : ZK) (a2 : List Int) (a3 : ZB) : Int := (bif (decide ((yu a1 a3) < 0)) then a0.Now else (Un a0 a1 a2 (yu a1 a3)))
def Xj (a0 : ZH) (a1 : ZI) (a2 : List (List Int)) (a3 : ZB) : Nat → Int → Nat → Int
  | 0, _, _ => default
  | n1 + 1, v1_0, v1_1 => (bif (decide ((↑v1_1 : Int) < (↑a1.ZL.length : Int))) then (bif (decide ((↑v1_1 : Int) < (↑a2.length : Int))) then Xj a0 a1 a2 a3 n1 (if (xM a0 (nth a1.ZL v1_1) (nth a2 v1_1) a3) < v1_0 then (xM a0 (nth a1.ZL v1_1) (nth a2 v1_1) a3) else v1_0) (v1_1 + 1) else Xj a0 a1 a2 a3 n1 v1_0 (v1_1 + 1)) else (v1_0))
def YO (a0 : ZH) (a1 : ZI) (a2 : List (List Int)) (a3 : ZB) : Int := (match Xj a0 a1 a2 a3 (a1.ZL.length + 1) a0.Now 0 with | z1_0 => z1_0)
def JJ (a0 : ZH) (a1 : Int) : Int := (bif (decide ((Yg a0.Yb a1) < 0)) then 0 else (zI a0.Methods (nth a0.Yb (Yg a0.Yb a1).toNat).Method))
def Zv (a0 : ZB) : Int := (bif ((((↑a0.Zb.length : Int) == 0) || (!(ZS (nth a0.Zb 0) 101 105))) || ((↑a0.Zb.length : Int) != (nth ([7, 5, 5, 9, 6] : List Int) (W ((nth a0.Zb 0) - 101)).toNat))) then 0 else (nth a0.Zb 0))
def Y0 (a0 : ZB) : Zs × Bool := (bif (((Zv a0) != 101) || ((nth a0.Zb 6) != a0.Key)) then ((Zs.mk 0 0 0 0 0 0 0), false) else ((Zs.mk (nth a0.Zb 1) (nth a0.Zb 2) (nth a0.Zb 3) (nth a0.Zb 4) (nth a0.Zb 5) (nth a0.Zb 6) a0.Mark), true))
def XZ (a0 : ZB) : Zo × Bool := (bif (((Zv a0) != 102) || ((nth a0.Zb 4) != a0.Key)) then ((Zo.mk 0 0 0 0 0), false) else ((Zo.mk (nth a0.Zb 1) (nth a0.Zb 2) (nth a0.Zb 3) (nth a0.Zb 4) a0.Mark), true))
def KO (a0 : ZB) : ZZ × Bool := (bif ((Zv a0) != 103) then ((ZZ.mk 0 0 0 0 0), false) else ((ZZ.mk (nth a0.Zb 1) (nth a0.Zb 2) (nth a0.Zb 3) (nth a0.Zb 4) a0.Mark), true))
def zX (a0 : ZB) : ZY × Bool := (bif (((Zv a0) != 104) || ((nth a0.Zb 1) != a0.Key)) then ((ZY.mk 0 0 0 0 0 0 0 0 0), false) else ((ZY.mk (nth a0.Zb 1) (nth a0.Zb 2) (nth a0.Zb 3) (nth a0.Zb 4) (nth a0.Zb 5) (nth a0.Zb 6) (nth a0.Zb 7) (nth a0.Zb 8) a0.Mark), true))
def Xm (a0 : ZB) : Zr × Bool := (bif (((Zv a0) != 105) || ((nth a0.Zb 5) != a0.Key)) then ((Zr.mk 0 0 0 0 0 0), false) else ((Zr.mk (nth a0.Zb 1) (nth a0.Zb 2) (nth a0.Zb 3) (nth a0.Zb 4) (nth a0.Zb 5) a0.Mark), true))
def JH (a0 : List Zy) (a1 : ZB) : Bool := (bif ((Zv a1) == 101) then ((Y0 a1).2 && (Xg a0 a1.Key a1.Zb a1.Mark)) else (bif ((Zv a1) == 102) then ((XZ a1).2 && (Xg a0 a1.Key a1.Zb a1.Mark)) else (bif ((Zv a1) == 103) then ((KO a1).2 && (Xg a0 a1.Key a1.Zb a1.Mark)) else (bif ((Zv a1) == 104) then ((zX a1).2 && (Xg a0 a1.Key a1.Zb a1.Mark)) else (bif ((Zv a1) == 105) then ((Xm a1).2 && (Xg a0 a1.Key a1.Zb a1.Mark)) else (false && (Xg a0 a1.Key a1.Zb a1.Mark)))))))
def Q5 (a0 : ZB) (a1 : ZB) : Nat → Nat → Sum Bool Unit
  | 0, _ => .inr ()
  | n1 + 1, v1_0 => (bif ((decide ((↑v1_0 : Int) < (↑a0.Zb.length : Int))) && (decide ((↑v1_0 : Int) < (↑a1.Zb.length : Int)))) then (bif ((nth a0.Zb v1_0) != (nth a1.Zb v1_0)) then (.inl (decide ((nth a0.Zb v1_0) < (nth a1.Zb v1_0)))) else Q5 a0 a1 n1 (v1_0 + 1)) else (.inr ()))
def Yi (a0 : ZB) (a1 : ZB) : Bool := (match Q5 a0 a1 (a0.Zb.length + 1) 0 with | .inl r1 => r1 | .inr _ => (bif ((↑a0.Zb.length : Int) != (↑a1.Zb.length : Int)) then (decide ((↑a0.Zb.length : Int) < (↑a1.Zb.length : Int))) else (bif (a0.Key != a1.Key) then (decide (a0.Key < a1.Key)) else (decide (a0.Mark < a1.Mark)))))
def JV (a1 : ZI) (v1_1 : Nat) (v2_0 : List ZB) (v2_1 : Nat) : Nat → Nat → Nat
  | 0, _ => default
  | n3 + 1, v3_0 => (bif ((decide ((↑v3_0 : Int) < (↑v2_0.length : Int))) && (Yi (nth v2_0 v3_0) (nth (nth a1.ZL v1_1).ZT v2_1))) then JV a1 v1_1 v2_0 v2_1 n3 (v3_0 + 1) else (v3_0))
def Xe (a0 : ZH) (a1 : ZI) (a2 : List (List Int)) (v1_1 : Nat) : Nat → List ZB → Nat → (List ZB)
  | 0, _, _ => default
  | n2 + 1, v2_0, v2_1 => (bif (decide ((↑v2_1 : Int) < (↑(nth a1.ZL v1_1).ZT.length : Int))) then (bif (((XP v2_0 (nth (nth a1.ZL v1_1).ZT v2_1)) || (!(JH a0.Yb (nth (nth a1.ZL v1_1).ZT v2_1)))) || (decide ((YO a0 a1 a2 (nth (nth a1.ZL v1_1).ZT v2_1)) ≥ (JJ a0 (nth (nth a1.ZL v1_1).ZT v2_1).Key)))) then Xe a0 a1 a2 v1_1 n2 v2_0 (v2_1 + 1) else (match JV a1 v1_1 v2_0 v2_1 (v2_0.length + 1) 0 with | z3_0 => Xe a0 a1 a2 v1_1 n2 (((v2_0.take z3_0) ++ ([(nth (nth a1.ZL v1_1).ZT v2_1)] : List ZB)) ++ ((v2_0.drop z3_0).take (v2_0.length - z3_0))) (v2_1 + 1))) else (v2_0))
def QO (a0 : ZH) (a1 : ZI) (a2 : List (List Int)) : Nat → List ZB → Nat → (List ZB)
  | 0, _, _ => default
  | n1 + 1, v1_0, v1_1 => (bif (decide ((↑v1_1 : Int) < (↑a1.ZL.length : Int))) then (match Xe a0 a1 a2 v1_1 ((nth a1.ZL v1_1).ZT.length + 1) v1_0 0 with | z2_0 => QO a0 a1 a2 n1 z2_0 (v1_1 + 1)) else (v1_0))
def Zj (a0 : ZH) (a1 : ZI) (a2 : List (List Int)) : List ZB := (match QO a0 a1 a2 (a1.ZL.length + 1) ([] : List ZB) 0 with | z1_0 => z1_0)
def qP (a0 : ZH) (a1 : List ZB) (a2 : ZY) : Nat → Int → Nat → Int → Int → Int → Int → Int → Int → Int → Int × Int × Int × Int × Int × Int × Int × Int
  | 0, _, _, _, _, _, _, _, _, _ => (default, default, default, default, default, default, default, default)
  | n1 + 1, v1_0, v1_1, v1_2, v1_3, v1_4, v1_5, v1_6, v1_7, v1_8 => (bif (decide ((↑v1_1 : Int) < (↑a1.length : Int))) then (bif ((((Y0 (nth a1 v1_1)).2 && (qX a0.Yb (Y0 (nth a1 v1_1)).1)) && ((Y0 (nth a1 v1_1)).1.Z1 == a2.Z1)) && ((Y0 (nth a1 v1_1)).1.Key == a2.Key)) then qP a0 a1 a2 n1 (W (v1_0 + 1)) (v1_1 + 1) (Y0 (nth a1 v1_1)).1.Z1 (Y0 (nth a1 v1_1)).1.Key (Y0 (nth a1 v1_1)).1.JZ (Y0 (nth a1 v1_1)).1.YE (Y0 (nth a1 v1_1)).1.To (Y0 (nth a1 v1_1)).1.QP (Y0 (nth a1 v1_1)).1.Mark else qP a0 a1 a2 n1 v1_0 (v1_1 + 1) v1_2 v1_3 v1_4 v1_5 v1_6 v1_7 v1_8) else ((v1_0, v1_2, v1_3, v1_4, v1_5, v1_6, v1_7, v1_8)))
def Xx (a0 : ZH) (a1 : List ZB) (a2 : ZY) : Zs × Bool := (match qP a0 a1 a2 (a1.length + 1) 0 0 0 0 0 0 0 0 0 with | (z1_0, z1_1, z1_2, z1_3, z1_4, z1_5, z1_6, z1_7) => (bif (z1_0 != 1) then ((Zs.mk 0 0 0 0 0 0 0), false) else ((Zs.mk z1_1 z1_2 z1_3 z1_4 z1_5 z1_6 z1_7), true)))
def wH (a0 : Int) (a1 : Int) : Int := (if a1 > a0 then a1 else a0)
def Kr (a1 : List ZZ) : Nat → List Int → Nat → (List Int)
  | 0, _, _ => default
  | n1 + 1, v1_0, v1_1 => (bif (decide ((↑v1_1 : Int) < (↑a1.length : Int))) then Kr a1 n1 (v1_0 ++ ([(nth a1 v1_1).Mark] : List Int)) (v1_1 + 1) else (v1_0))
def Jp (a0 : Int) (a1 : List ZZ) : Int := (bif ((↑a1.length : Int) == 0) then 0 else (match Kr a1 (a1.length + 1) ([] : List Int) 0 with | z1_0 => (wH 1 (QT a0 z1_0))))
def QZ (a0 : Int) (a1 : ZZ) : ZB := (ZB.mk a0 (QI a1) a1.Mark)
def Xn (a0 : ZH) (a1 : ZI) (a2 : List ZB) (v1_1 : Nat) : Nat → Bool → Nat → Bool
  | 0, _, _ => default
  | n2 + 1, v2_0, v2_1 => (bif (decide ((↑v2_1 : Int) < (↑(nth a1.Zp v1_1).length : Int))) then Xn a0 a1 a2 v1_1 n2 (v2_0 && (XP a2 (QZ (XH a0.ZU (nth (nth a1.Zp v1_1) v2_1)) (nth (nth a1.Zp v1_1) v2_1)))) (v2_1 + 1) else (v2_0))
def Xq (a0 : ZH) (a1 : ZI) (a2 : List ZB) (a3 : ZY) : Nat → Int → Nat → Int
  | 0, _, _ => default
  | n1 + 1, v1_0, v1_1 => (bif (decide ((↑v1_1 : Int) < (↑a1.Zp.length : Int))) then (bif (((a3.yG == 0) || (!(Yn (nth a1.Zp v1_1)))) || ((Jp a3.Method (nth a1.Zp v1_1)) != a3.yG)) then Xq a0 a1 a2 a3 n1 v1_0 (v1_1 + 1) else (match Xn a0 a1 a2 v1_1 ((nth a1.Zp v1_1).length + 1) true 0 with | z2_0 => (bif (z2_0 && (Xt a0.ZU (nth a1.Zp v1_1) a0.QK).2) then Xq a0 a1 a2 a3 n1 (if (Xt a0.ZU (nth a1.Zp v1_1) a0.QK).1.YE > v1_0 then (Xt a0.ZU (nth a1.Zp v1_1) a0.QK).1.YE else v1_0) (v1_1 + 1) else Xq a0 a1 a2 a3 n1 v1_0 (v1_1 + 1)))) else (v1_0))
def xe (a0 : ZH) (a1 : ZI) (a2 : List ZB) (v3_1 : Nat) : Nat → Bool → Nat → Bool
  | 0, _, _ => default
  | n4 + 1, v4_0, v4_1 => (bif (decide ((↑v4_1 : Int) < (↑(nth a1.Zp v3_1).length : Int))) then xe a0 a1 a2 v3_1 n4 (v4_0 && (XP a2 (QZ (XH a0.ZU (nth (nth a1.Zp v3_1) v4_1)) (nth (nth a1.Zp v3_1) v4_1)))) (v4_1 + 1) else (v4_0))
def KU (a0 : ZH) (a1 : ZI) (a2 : List ZB) (a3 : ZY) : Nat → Int → Nat → Int
  | 0, _, _ => default
  | n3 + 1, v3_0, v3_1 => (bif (decide ((↑v3_1 : Int) < (↑a1.Zp.length : Int))) then (bif (((a3.yG == 0) || (!(Yn (nth a1.Zp v3_1)))) || ((Jp a3.Method (nth a1.Zp v3_1)) != a3.yG)) then KU a0 a1 a2 a3 n3 v3_0 (v3_1 + 1) else (match xe a0 a1 a2 v3_1 ((nth a1.Zp v3_1).length + 1) true 0 with | z4_0 => (bif (z4_0 && (Xt a0.ZU (nth a1.Zp v3_1) a0.QK).2) then KU a0 a1 a2 a3 n3 (if (Xt a0.ZU (nth a1.Zp v3_1) a0.QK).1.YE > v3_0 then (Xt a0.ZU (nth a1.Zp v3_1) a0.QK).1.YE else v3_0) (v3_1 + 1) else KU a0 a1 a2 a3 n3 v3_0 (v3_1 + 1)))) else (v3_0))
def XV (a0 : ZH) (a1 : ZI) (a2 : List ZB) (a3 : ZY) : Int := (bif (decide ((Yg a0.Yb a3.Key) ≥ 0)) then (match Xq a0 a1 a2 a3 (a1.Zp.length + 1) (nth a0.Yb (Yg a0.Yb a3.Key).toNat).Nq 0 with | z1_0 => z1_0) else (match KU a0 a1 a2 a3 (a1.Zp.length + 1) 0 0 with | z3_0 => z3_0))
def JD (a0 : List ZB) (a1 : Zs) : Nat → List Zo → Nat → (List Zo)
  | 0, _, _ => default
  | n1 + 1, v1_0, v1_1 => (bif (decide ((↑v1_1 : Int) < (↑a0.length : Int))) then (bif (((XZ (nth a0 v1_1)).2 && ((XZ (nth a0 v1_1)).1.Z1 == a1.Z1)) && ((XZ (nth a0 v1_1)).1.QP == a1.QP)) then JD a0 a1 n1 (v1_0 ++ ([(XZ (nth a0 v1_1)).1] : List Zo)) (v1_1 + 1) else JD a0 a1 n1 v1_0 (v1_1 + 1)) else (v1_0))
def Qc (a0 : List ZB) (a1 : Zs) : List Zo := (match JD a0 a1 (a0.length + 1) ([] : List Zo) 0 with | z1_0 => z1_0)
def Ze (a0 : Int) (a1 : Int) (a2 : List ZD) : List ZD := (bif (Q0 a0 a1).2 then (a2 ++ ([(Q0 a0 a1).1] : List ZD)) else a2)
def yj (a0 : List Zo) (a1 : Int) : Nat → Int → Int → Int → Nat → Int × Int × Int
  | 0, _, _, _, _ => (default, default, default)
  | n1 + 1, v1_0, v1_1, v1_2, v1_3 => (bif (decide ((↑v1_3 : Int) < (↑a0.length : Int))) then (bif ((nth a0 v1_3).Z1 != a1) then yj a0 a1 n1 v1_0 v1_1 v1_2 (v1_3 + 1) else (bif (decide ((nth a0 v1_3).YX < 0)) then yj a0 a1 n1 v1_0 v1_1 (if (nth a0 v1_3).Dg > v1_2 then (nth a0 v1_3).Dg else v1_2) (v1_3 + 1) else (bif ((decide (v1_0 < 0)) || (decide ((nth a0 v1_3).YX < v1_0))) then yj a0 a1 n1 (nth a0 v1_3).YX (if (nth a0 v1_3).YX > v1_1 then (nth a0 v1_3).YX else v1_1) v1_2 (v1_3 + 1) else yj a0 a1 n1 v1_0 (if (nth a0 v1_3).YX > v1_1 then (nth a0 v1_3).YX else v1_1) v1_2 (v1_3 + 1)))) else ((v1_0, v1_1, v1_2)))
def jJ (a0 : List Zo) (a1 : Int) : Int × Int × Int := (match yj a0 a1 (a0.length + 1) (-1) (-1) (-1) 0 with | (z1_0, z1_1, z1_2) => (z1_0, z1_1, z1_2))
def XR (a0 : List Zo) (a1 : Int) : Int := (bif (decide ((jJ a0 a1).2.1 < 0)) then 10001 else (if (W ((jJ a0 a1).2.2 + 1)) > (jJ a0 a1).2.1 then (W ((jJ a0 a1).2.2 + 1)) else (jJ a0 a1).2.1))
def kS (z2_0 : List ZD) (z2_1 : Int) : Nat → Nat → Nat
  | 0, _ => default
  | n3 + 1, v3_0 => (bif ((decide ((↑v3_0 : Int) < (↑z2_0.length : Int))) && (decide ((nth z2_0 v3_0).YE < z2_1))) then kS z2_0 z2_1 n3 (v3_0 + 1) else (v3_0))
def zb (v1_0 : List ZD) : Nat → List ZD → Nat → Int → Int → (List ZD) × Int × Int
  | 0, _, _, _, _ => (default, default, default)
  | n2 + 1, v2_0, v2_1, v2_2, v2_3 => (bif (decide ((↑v2_1 : Int) < (↑v1_0.length : Int))) then (bif ((decide ((W ((nth v1_0 v2_1).To + 1)) < v2_2)) || (decide ((W (v2_3 + 1)) < (nth v1_0 v2_1).YE))) then zb v1_0 n2 (v2_0 ++ ([(nth v1_0 v2_1)] : List ZD)) (v2_1 + 1) v2_2 v2_3 else zb v1_0 n2 v2_0 (v2_1 + 1) (if (nth v1_0 v2_1).YE < v2_2 then (nth v1_0 v2_1).YE else v2_2) (if (nth v1_0 v2_1).To > v2_3 then (nth v1_0 v2_1).To else v2_3)) else ((v2_0, v2_2, v2_3)))
def zc (a0 : List ZD) : Nat → List ZD → Nat → (List ZD)
  | 0, _, _ => default
  | n1 + 1, v1_0, v1_1 => (bif (decide ((↑v1_1 : Int) < (↑a0.length : Int))) then (bif (!(YF (nth a0 v1_1))) then zc a0 n1 v1_0 (v1_1 + 1) else (match zb v1_0 (v1_0.length + 1) ([] : List ZD) 0 (nth a0 v1_1).YE (nth a0 v1_1).To with | (z2_0, z2_1, z2_2) => (match kS z2_0 z2_1 (z2_0.length + 1) 0 with | z3_0 => zc a0 n1 (((z2_0.take z3_0) ++ ([(ZD.mk z2_1 z2_2)] : List ZD)) ++ ((z2_0.drop z3_0).take (z2_0.length - z3_0))) (v1_1 + 1)))) else (v1_0))
def Y1 (a0 : List ZD) : List ZD := (match zc a0 (a0.length + 1) ([] : List ZD) 0 with | z1_0 => z1_0)
def yS (a0 : Zs) (a1 : List Zo) : List ZD := (bif (decide (a0.YE > 0)) then (bif (decide (a0.To < 10000)) then (Y1 (Ze (XR a1 a0.Z1) 10000 (Ze (W (a0.To + 1)) 10000 (Ze 0 (W (a0.YE - 1)) ([] : List ZD))))) else (Y1 (Ze (XR a1 a0.Z1) 10000 (Ze 0 (W (a0.YE - 1)) ([] : List ZD))))) else (bif (decide (a0.To < 10000)) then (Y1 (Ze (XR a1 a0.Z1) 10000 (Ze (W (a0.To + 1)) 10000 ([] : List ZD)))) else (Y1 (Ze (XR a1 a0.Z1) 10000 ([] : List ZD)))))
def qB (a0 : ZD) (a1 : ZD) : Bool := ((((YF a0) && (YF a1)) && (decide (a1.YE ≤ a0.YE))) && (decide (a0.To ≤ a1.To)))
def K6 (a0 : List ZD) (a1 : ZD) : Nat → Nat → Sum Bool Unit
  | 0, _ => .inr ()
  | n1 + 1, v1_0 => (bif (decide ((↑v1_0 : Int) < (↑(Y1 a0).length : Int))) then (bif (qB a1 (nth (Y1 a0) v1_0)) then (.inl true) else K6 a0 a1 n1 (v1_0 + 1)) else (.inr ()))
def QY (a0 : List ZD) (a1 : ZD) : Bool := (match K6 a0 a1 ((Y1 a0).length + 1) 0 with | .inl r1 => r1 | .inr _ => false)
def VT (a0 : Zs) (a1 : List Zo) (a2 : ZD) : Bool := (QY (yS a0 a1) a2)
def yL (a0 : List Zo) (a1 : Int) : Int := (bif (decide ((jJ a0 a1).1 ≥ 0)) then (W ((jJ a0 a1).1 - 1)) else (jJ a0 a1).2.2)
def QJ (a0 : ZD) (a1 : ZD) : ZD × Bool := (bif (((!(YF a0)) || (!(YF a1))) || (!(YF (ZD.mk (if a1.YE > a0.YE then a1.YE else a0.YE) (if a1.To < a0.To then a1.To else a0.To))))) then ((ZD.mk 0 0), false) else ((ZD.mk (if a1.YE > a0.YE then a1.YE else a0.YE) (if a1.To < a0.To then a1.To else a0.To)), true))
def KF (a0 : List ZD) (a1 : List ZD) (v1_1 : Nat) : Nat → List ZD → Nat → (List ZD)
  | 0, _, _ => default
  | n2 + 1, v2_0, v2_1 => (bif (decide ((↑v2_1 : Int) < (↑a1.length : Int))) then (bif (QJ (nth a0 v1_1) (nth a1 v2_1)).2 then KF a0 a1 v1_1 n2 (v2_0 ++ ([(QJ (nth a0 v1_1) (nth a1 v2_1)).1] : List ZD)) (v2_1 + 1) else KF a0 a1 v1_1 n2 v2_0 (v2_1 + 1)) else (v2_0))
def qQ (a0 : List ZD) (a1 : List ZD) : Nat → List ZD → Nat → (List ZD)
  | 0, _, _ => default
  | n1 + 1, v1_0, v1_1 => (bif (decide ((↑v1_1 : Int) < (↑a0.length : Int))) then (match KF a0 a1 v1_1 (a1.length + 1) v1_0 0 with | z2_0 => qQ a0 a1 n1 z2_0 (v1_1 + 1)) else (v1_0))
def j7 (a0 : List ZD) (a1 : List ZD) : List ZD := (match qQ a0 a1 (a0.length + 1) ([] : List ZD) 0 with | z1_0 => (Y1 z1_0))
def zV (a0 : Zs) (a1 : List Zo) : List ZD := (j7 ([(yv a0)] : List ZD) ([(ZD.mk 0 (yL a1 a0.Z1))] : List ZD))
def jA (a0 : Zs) (a1 : List Zo) (a2 : ZD) : Bool := (QY (zV a0 a1) a2)
def Je (a0 : List ZB) : Nat → List Zr → Nat → (List Zr)
  | 0, _, _ => default
  | n1 + 1, v1_0, v1_1 => (bif (decide ((↑v1_1 : Int) < (↑a0.length : Int))) then (bif (Xm (nth a0 v1_1)).2 then Je a0 n1 (v1_0 ++ ([(Xm (nth a0 v1_1)).1] : List Zr)) (v1_1 + 1) else Je a0 n1 v1_0 (v1_1 + 1)) else (v1_0))
def zs (a0 : List ZB) : List Zr := (match Je a0 (a0.length + 1) ([] : List Zr) 0 with | z1_0 => z1_0)
def kb (a0 : Zr) : Bool := ((((ZS a0.Org 1 99) && (ZS a0.W8 0 99)) && (ZS a0.Key 1 99)) && (YF (ZD.mk a0.YE a0.To)))
def QX (a0 : Zr) : List Int := ([105, a0.Org, a0.W8, a0.YE, a0.To, a0.Key] : List Int)
def yz (a0 : List Zy) (a1 : Zr) : Bool := (((kb a1) && ((Wq a0 a1.Key) == a1.Org)) && (Xg a0 a1.Key (QX a1) a1.Mark))
def QS (a0 : List Zy) (a1 : List Zr) (a2 : Int) (a3 : Int) : Nat → List ZD → Nat → (List ZD)
  | 0, _, _ => default
  | n1 + 1, v1_0, v1_1 => (bif (decide ((↑v1_1 : Int) < (↑a1.length : Int))) then (bif ((((nth a1 v1_1).Org == a2) && ((nth a1 v1_1).W8 == a3)) && (yz a0 (nth a1 v1_1))) then QS a0 a1 a2 a3 n1 (v1_0 ++ ([(ZD.mk (nth a1 v1_1).YE (nth a1 v1_1).To)] : List ZD)) (v1_1 + 1) else QS a0 a1 a2 a3 n1 v1_0 (v1_1 + 1)) else (v1_0))
def Qk (a0 : List Zy) (a1 : List Zr) (a2 : Int) (a3 : Int) : List ZD := (match QS a0 a1 a2 a3 (a1.length + 1) ([] : List ZD) 0 with | z1_0 => (Y1 z1_0))
def jT (a0 : List Zy) (a1 : List Zr) (a2 : Int) (a3 : Int) (a4 : ZD) : Bool := (((a2 == 0) && (YF a4)) || (QY (Qk a0 a1 a2 a3) a4))
def yX (a0 : ZH) (a1 : ZI) (a2 : List (List Int)) (a3 : Int) (a4 : ZY) : Ym := (bif (!(jk a0)) then (Ro 1) else (bif (!(Kf a4)) then (TW 1) else (bif (decide (a3 < 0)) then (Ro 2) else (bif (a3 != a4.Yo) then (TW 2) else (bif (decide ((Yg a0.Yb a4.Key) < 0)) then (Ro 3) else (bif (!(JW a0.Yb a4)) then (TW 4) else (bif ((decide ((YO a0 a1 a2 (Yx a4)) ≥ (JJ a0 a4.Key))) || (decide ((YO a0 a1 a2 (Yx a4)) ≥ (zI a0.Methods a4.Method)))) then (Ro 5) else (bif (!(Xx a0 (Zj a0 a1 a2) a4).2) then (Ro 6) else (bif (decide ((XV a0 a1 (Zj a0 a1 a2) a4) > (YO a0 a1 a2 (Yx a4)))) then (Ro 7) else (bif (VT (Xx a0 (Zj a0 a1 a2) a4).1 (Qc (Zj a0 a1 a2) (Xx a0 (Zj a0 a1 a2) a4).1) (ZD.mk (XV a0 a1 (Zj a0 a1 a2) a4) (YO a0 a1 a2 (Yx a4)))) then (Ym.mk 2 8 (ZD.mk (XV a0 a1 (Zj a0 a1 a2) a4) (YO a0 a1 a2 (Yx a4)))) else (bif (!(jA (Xx a0 (Zj a0 a1 a2) a4).1 (Qc (Zj a0 a1 a2) (Xx a0 (Zj a0 a1 a2) a4).1) (ZD.mk (XV a0 a1 (Zj a0 a1 a2) a4) (YO a0 a1 a2 (Yx a4))))) then (Ym.mk 3 7 (ZD.mk (XV a0 a1 (Zj a0 a1 a2) a4) (YO a0 a1 a2 (Yx a4)))) else (bif (!(jT a0.Yb (zs (Zj a0 a1 a2)) a4.Org (Xx a0 (Zj a0 a1 a2) a4).1.JZ (ZD.mk (XV a0 a1 (Zj a0 a1 a2) a4) (YO a0 a1 a2 (Yx a4))))) then (Ym.mk 3 9 (ZD.mk (XV a0 a1 (Zj a0 a1 a2) a4) (YO a0 a1 a2 (Yx a4)))) else (Ym.mk 1 0 (ZD.mk (XV a0 a1 (Zj a0 a1 a2) a4) (YO a0 a1 a2 (Yx a4))))))))))))))))
def OT (a0 : ZH) (a1 : ZI) (a2 : Zd) (a3 : ZY) : Ym := (yX a0 a1 (JA a1 a2) (yh a3.Method a2) a3)
def kR (a0 : ZH) (a1 : Zt) : Ym := (OT a0 (zG a1) a1.Doc a1.Sig)
def KZ (a0 : Zi) (a1 : Int) : Ym := (bif (decide ((QD a0 a1).1 < 0)) then (Ym.mk 0 0 (ZD.mk 0 0)) else (kR a0.Frame (nth (nth a0.ZE (QD a0 a1).1.toNat).Zh (QD a0 a1).2.toNat)))
def yp (a0 : Zi) : Nat → List Int → Nat → (List Int)
  | 0, _, _ => default
  | n1 + 1, v1_0, v1_1 => (bif (decide ((↑v1_1 : Int) < (↑(Xc a0).length : Int))) then (bif ((KZ a0 (nth (Xc a0) v1_1).Id).Code == 1) then yp a0 n1 (v1_0 ++ ([(nth (Xc a0) v1_1).Id] : List Int)) (v1_1 + 1) else yp a0 n1 v1_0 (v1_1 + 1)) else (v1_0))
def Y5 (a0 : Zi) : List Int := (match yp a0 ((Xc a0).length + 1) ([] : List Int) 0 with | z1_0 => z1_0)
def J0 (a0 : Zi) : Nat → List Int → Nat → (List Int)
  | 0, _, _ => default
  | n1 + 1, v1_0, v1_1 => (bif (decide ((↑v1_1 : Int) < (↑(Y5 a0).length : Int))) then (bif (kT a0.XQ (nth (Y5 a0) v1_1)) then J0 a0 n1 (v1_0 ++ ([(nth (Y5 a0) v1_1)] : List Int)) (v1_1 + 1) else J0 a0 n1 v1_0 (v1_1 + 1)) else (v1_0))
def xm (a0 : Zi) : List Int := (match J0 a0 ((Y5 a0).length + 1) ([] : List Int) 0 with | z1_0 => z1_0)
def TU (a0 : Zi) : ByteArray := (bif (!(TS a0)) then (⟨#[119, 111, 114, 108, 100]⟩ : ByteArray) else (bif (decide ((↑(xm a0).length : Int) > 0)) then (⟨#[102, 111, 114, 103, 101, 100]⟩ : ByteArray) else (⟨#[]⟩ : ByteArray)))
def PD (a0 : Zy) (a1 : Zy) : Bool := (bif (a0.Number != a1.Number) then false else (bif (a0.JZ != a1.JZ) then false else (bif (a0.Method != a1.Method) then false else (bif (a0.Nq != a1.Nq) then false else (bif (a0.jz != a1.jz) then false else true)))))
def T4 (a0 : List Zy) (a1 : List Zy) : Nat → Nat → Sum Bool Unit
  | 0, _ => .inr ()
  | n1 + 1, v1_0 => (bif (decide ((↑v1_0 : Int) < (↑a0.length : Int))) then (bif (!(PD (nth a0 v1_0) (nth a1 v1_0))) then (.inl false) else T4 a0 a1 n1 (v1_0 + 1)) else (.inr ()))
def Rb (a0 : List Zy) (a1 : List Zy) : Bool := (bif ((↑a0.length : Int) != (↑a1.length : Int)) then false else (match T4 a0 a1 (a0.length + 1) 0 with | .inl r1 => r1 | .inr _ => true))
def yA (a0 : ZF) (a1 : ZF) : Bool := (bif (a0.Id != a1.Id) then false else (bif (a0.Key != a1.Key) then false else (bif (a0.Error != a1.Error) then false else true)))
def xV (a0 : List ZF) (a1 : List ZF) : Nat → Nat → Sum Bool Unit
  | 0, _ => .inr ()
  | n1 + 1, v1_0 => (bif (decide ((↑v1_0 : Int) < (↑a0.length : Int))) then (bif (!(yA (nth a0 v1_0) (nth a1 v1_0))) then (.inl false) else xV a0 a1 n1 (v1_0 + 1)) else (.inr ()))
def yP (a0 : List ZF) (a1 : List ZF) : Bool := (bif ((↑a0.length : Int) != (↑a1.length : Int)) then false else (match xV a0 a1 (a0.length + 1) 0 with | .inl r1 => r1 | .inr _ => true))
def kA (a0 : Zg) (a1 : Zg) : Bool := (bif (a0.Id != a1.Id) then false else (bif (a0.U0 != a1.U0) then false else (bif (a0.Ends != a1.Ends) then false else (bif (a0.js != a1.js) then false else true))))
def kP (a0 : List Zg) (a1 : List Zg) : Nat → Nat → Sum Bool Unit
  | 0, _ => .inr ()
  | n1 + 1, v1_0 => (bif (decide ((↑v1_0 : Int) < (↑a0.length : Int))) then (bif (!(kA (nth a0 v1_0) (nth a1 v1_0))) then (.inl false) else kP a0 a1 n1 (v1_0 + 1)) else (.inr ()))
def ks (a0 : List Zg) (a1 : List Zg) : Bool := (bif ((↑a0.length : Int) != (↑a1.length : Int)) then false else (match kP a0 a1 (a0.length + 1) 0 with | .inl r1 => r1 | .inr _ => true))
def Ul (a0 : ZH) (a1 : ZH) : Bool := (bif (!(Rb a0.Yb a1.Yb)) then false else (bif (!(yP a0.ZU a1.ZU)) then false else (bif (!(ks a0.Methods a1.Methods)) then false else (bif (a0.QK != a1.QK) then false else (bif (a0.Now != a1.Now) then false else true)))))
def TV (a0 : Zs) (a1 : Zs) : Bool := (bif (a0.Z1 != a1.Z1) then false else (bif (a0.Key != a1.Key) then false else (bif (a0.JZ != a1.JZ) then false else (bif (a0.YE != a1.YE) then false else (bif (a0.To != a1.To) then false else (bif (a0.QP != a1.QP) then false else (bif (a0.Mark != a1.Mark) then false else true)))))))
def UD (a0 : List Zs) (a1 : List Zs) : Nat → Nat → Sum Bool Unit
  | 0, _ => .inr ()
  | n1 + 1, v1_0 => (bif (decide ((↑v1_0 : Int) < (↑a0.length : Int))) then (bif (!(TV (nth a0 v1_0) (nth a1 v1_0))) then (.inl false) else UD a0 a1 n1 (v1_0 + 1)) else (.inr ()))
def U6 (a0 : List Zs) (a1 : List Zs) : Bool := (bif ((↑a0.length : Int) != (↑a1.length : Int)) then false else (match UD a0 a1 (a0.length + 1) 0 with | .inl r1 => r1 | .inr _ => true))
def Tj (a0 : List Int) (a1 : List Int) : Nat → Nat → Sum Bool Unit
  | 0, _ => .inr ()
  | n1 + 1, v1_0 => (bif (decide ((↑v1_0 : Int) < (↑a0.length : Int))) then (bif ((nth a0 v1_0) != (nth a1 v1_0)) then (.inl false) else Tj a0 a1 n1 (v1_0 + 1)) else (.inr ()))
def xr (a0 : List Int) (a1 : List Int) : Bool := (bif ((↑a0.length : Int) != (↑a1.length : Int)) then false else (match Tj a0 a1 (a0.length + 1) 0 with | .inl r1 => r1 | .inr _ => true))
def kH (a0 : List ByteArray) (a1 : List ByteArray) : Nat → Nat → Sum Bool Unit
  | 0, _ => .inr ()
  | n1 + 1, v1_0 => (bif (decide ((↑v1_0 : Int) < (↑a0.length : Int))) then (bif (!decide ((nth a0 v1_0) = (nth a1 v1_0))) then (.inl false) else kH a0 a1 n1 (v1_0 + 1)) else (.inr ()))
def kg (a0 : List ByteArray) (a1 : List ByteArray) : Bool := (bif ((↑a0.length : Int) != (↑a1.length : Int)) then false else (match kH a0 a1 (a0.length + 1) 0 with | .inl r1 => r1 | .inr _ => true))
def qq (a0 : Zd) (a1 : Zd) : Bool := (bif (a0.jK != a1.jK) then false else (bif (!(kg a0.YY a1.YY)) then false else (bif (!(xr a0.XI a1.XI)) then false else true)))
def xl (a0 : ZY) (a1 : ZY) : Bool := (bif (a0.Key != a1.Key) then false else (bif (a0.Z1 != a1.Z1) then false else (bif (a0.Method != a1.Method) then false else (bif (a0.Yo != a1.Yo) then false else (bif (a0.WL != a1.WL) then false else (bif (a0.Org != a1.Org) then false else (bif (a0.WR != a1.WR) then false else (bif (a0.yG != a1.yG) then false else (bif (a0.Mark != a1.Mark) then false else true)))))))))
def Wr (a0 : ZB) (a1 : ZB) : Bool := (bif (a0.Key != a1.Key) then false else (bif (!(xr a0.Zb a1.Zb)) then false else (bif (a0.Mark != a1.Mark) then false else true)))
def Wj (a0 : List ZB) (a1 : List ZB) : Nat → Nat → Sum Bool Unit
  | 0, _ => .inr ()
  | n1 + 1, v1_0 => (bif (decide ((↑v1_0 : Int) < (↑a0.length : Int))) then (bif (!(Wr (nth a0 v1_0) (nth a1 v1_0))) then (.inl false) else Wj a0 a1 n1 (v1_0 + 1)) else (.inr ()))
def VC (a0 : List ZB) (a1 : List ZB) : Bool := (bif ((↑a0.length : Int) != (↑a1.length : Int)) then false else (match Wj a0 a1 (a0.length + 1) 0 with | .inl r1 => r1 | .inr _ => true))
def Uq (a0 : Yq) (a1 : Yq) : Bool := (bif (a0.Yo != a1.Yo) then false else (bif (!(a0.Left == a1.Left)) then false else true))
def UP (a0 : List Yq) (a1 : List Yq) : Nat → Nat → Sum Bool Unit
  | 0, _ => .inr ()
  | n1 + 1, v1_0 => (bif (decide ((↑v1_0 : Int) < (↑a0.length : Int))) then (bif (!(Uq (nth a0 v1_0) (nth a1 v1_0))) then (.inl false) else UP a0 a1 n1 (v1_0 + 1)) else (.inr ()))
def TC (a0 : List Yq) (a1 : List Yq) : Bool := (bif ((↑a0.length : Int) != (↑a1.length : Int)) then false else (match UP a0 a1 (a0.length + 1) 0 with | .inl r1 => r1 | .inr _ => true))
def Wv (a0 : ZZ) (a1 : ZZ) : Bool := (bif (a0.Authority != a1.Authority) then false else (bif (a0.Seq != a1.Seq) then false else (bif (a0.Time != a1.Time) then false else (bif (a0.Yo != a1.Yo) then false else (bif (a0.Mark != a1.Mark) then false else true)))))
def Wi (a0 : List ZZ) (a1 : List ZZ) : Nat → Nat → Sum Bool Unit
  | 0, _ => .inr ()
  | n1 + 1, v1_0 => (bif (decide ((↑v1_0 : Int) < (↑a0.length : Int))) then (bif (!(Wv (nth a0 v1_0) (nth a1 v1_0))) then (.inl false) else Wi a0 a1 n1 (v1_0 + 1)) else (.inr ()))
def Wz (a0 : List ZZ) (a1 : List ZZ) : Bool := (bif ((↑a0.length : Int) != (↑a1.length : Int)) then false else (match Wi a0 a1 (a0.length + 1) 0 with | .inl r1 => r1 | .inr _ => true))
def qH (a0 : ZV) (a1 : ZV) : Bool := (bif (a0.Count != a1.Count) then false else (bif (a0.Method != a1.Method) then false else (bif (a0.MD != a1.MD) then false else (bif (!(TC a0.Path a1.Path)) then false else (bif (!(Wz a0.Zf a1.Zf)) then false else true)))))
def jd (a0 : List ZV) (a1 : List ZV) : Nat → Nat → Sum Bool Unit
  | 0, _ => .inr ()
  | n1 + 1, v1_0 => (bif (decide ((↑v1_0 : Int) < (↑a0.length : Int))) then (bif (!(qH (nth a0 v1_0) (nth a1 v1_0))) then (.inl false) else jd a0 a1 n1 (v1_0 + 1)) else (.inr ()))
def qm (a0 : List ZV) (a1 : List ZV) : Bool := (bif ((↑a0.length : Int) != (↑a1.length : Int)) then false else (match jd a0 a1 (a0.length + 1) 0 with | .inl r1 => r1 | .inr _ => true))
def Wy (a0 : ZK) (a1 : ZK) : Bool := (bif (!(VC a0.ZT a1.ZT)) then false else (bif (!(qm a0.ZM a1.ZM)) then false else true))
def TP (a0 : Zt) (a1 : Zt) : Bool := (bif (a0.Id != a1.Id) then false else (bif (a0.XM != a1.XM) then false else (bif (!(qq a0.Doc a1.Doc)) then false else (bif (!(xl a0.Sig a1.Sig)) then false else (bif (!(Wy a0.Yl a1.Yl)) then false else true)))))
def Vo (a0 : List Zt) (a1 : List Zt) : Nat → Nat → Sum Bool Unit
  | 0, _ => .inr ()
  | n1 + 1, v1_0 => (bif (decide ((↑v1_0 : Int) < (↑a0.length : Int))) then (bif (!(TP (nth a0 v1_0) (nth a1 v1_0))) then (.inl false) else Vo a0 a1 n1 (v1_0 + 1)) else (.inr ()))
def TY (a0 : List Zt) (a1 : List Zt) : Bool := (bif ((↑a0.length : Int) != (↑a1.length : Int)) then false else (match Vo a0 a1 (a0.length + 1) 0 with | .inl r1 => r1 | .inr _ => true))
def qb (a0 : Zc) (a1 : Zc) : Bool := (bif (a0.Id != a1.Id) then false else (bif (!(TY a0.Zh a1.Zh)) then false else true))
def ql (a0 : List Zc) (a1 : List Zc) : Nat → Nat → Sum Bool Unit
  | 0, _ => .inr ()
  | n1 + 1, v1_0 => (bif (decide ((↑v1_0 : Int) < (↑a0.length : Int))) then (bif (!(qb (nth a0 v1_0) (nth a1 v1_0))) then (.inl false) else ql a0 a1 n1 (v1_0 + 1)) else (.inr ()))
def jP (a0 : List Zc) (a1 : List Zc) : Bool := (bif ((↑a0.length : Int) != (↑a1.length : Int)) then false else (match ql a0 a1 (a0.length + 1) 0 with | .inl r1 => r1 | .inr _ => true))
def TK (a0 : Zi) (a1 : Zi) : Bool := (bif (!(Ul a0.Frame a1.Frame)) then false else (bif (!(U6 a0.YN a1.YN)) then false else (bif (!(xr a0.YX a1.YX)) then false else (bif (!(jP a0.ZE a1.ZE)) then false else (bif (!(xr a0.Qg a1.Qg)) then false else (bif (!(xr a0.Y4 a1.Y4)) then false else (bif (a0.Next != a1.Next) then false else (bif (!(xr a0.XQ a1.XQ)) then false else true))))))))
def xB (a0 : Zi) : Bool := (bif (decide ((zC a0 1048576) < 0)) then true else (bif (!decide ((TU a0) = (Uu a0))) then false else (bif (!(TK a0 a0)) then false else true)))
end Go.Mo
