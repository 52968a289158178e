/- Models of the functions: what each computes, on typed data. No condition. -/
import Derived.Test.YtngnbcmfckmklaaGreatMo
namespace Go.Mo
open Go.Vm
def JU (a0 : List YZ) (a1 : Int) : Int := (bif (decide ((W (a1 - (a0.length : Int))) < 0)) then (-1) else (W (a1 - (a0.length : Int))))
def Xh (a0 : List ZR) (a1 : Int) : Int := (bif (decide ((W (a1 - (a0.length : Int))) < 0)) then (-1) else (W (a1 - (a0.length : Int))))
def yR (a0 : List Zj) (a1 : Int) : Int := (bif (decide ((W (a1 - (a0.length : Int))) < 0)) then (-1) else (W (a1 - (a0.length : Int))))
def YH (a0 : Zq) (a1 : Int) : Int := (bif (decide ((JU a0.Zm a1) < 0)) then (-1) else (bif (decide ((Xh a0.ZE (JU a0.Zm a1)) < 0)) then (-1) else (bif (decide ((yR a0.Methods (Xh a0.ZE (JU a0.Zm a1))) < 0)) then (-1) else (yR a0.Methods (Xh a0.ZE (JU a0.Zm a1))))))
def Yl (a0 : List Z1) (a1 : Int) : Int := (bif (decide ((W (a1 - (a0.length : Int))) < 0)) then (-1) else (W (a1 - (a0.length : Int))))
def Zv (a0 : List Int) (a1 : Int) : Int := (bif (decide ((W (a1 - (a0.length : Int))) < 0)) then (-1) else (W (a1 - (a0.length : Int))))
def qZ (a0 : List ByteArray) : Nat -> Int -> Nat -> Sum Int Int
  | 0, _, _ => .inr default
  | n1 + 1, J, U => (bif (decide ((U : Int) < (a0.length : Int))) then (bif (decide ((W (J - ((nth a0 U).size : Int))) < 0)) then (.inl (-1)) else qZ a0 n1 (W (J - ((nth a0 U).size : Int))) (U + 1)) else (.inr J))
def Qv (a0 : List ByteArray) (a1 : Int) : Int := (bif (decide ((W (a1 - (a0.length : Int))) < 0)) then (-1) else (match qZ a0 (a0.length + 1) (W (a1 - (a0.length : Int))) 0 with | .inl r1 => r1 | .inr z1_0 => z1_0))
def Yo (a0 : ZT) (a1 : Int) : Int := (bif (decide ((Qv a0.ZU a1) < 0)) then (-1) else (bif (decide ((Zv a0.Zk (Qv a0.ZU a1)) < 0)) then (-1) else (Zv a0.Zk (Qv a0.ZU a1))))
def jW (a0 : ZO) (a1 : Int) : Int := (bif (decide ((Zv a0.Ys a1) < 0)) then (-1) else (Zv a0.Ys a1))
def jr (a0 : List ZO) : Nat -> Int -> Nat -> Sum Int Int
  | 0, _, _ => .inr default
  | n1 + 1, J, U => (bif (decide ((U : Int) < (a0.length : Int))) then (bif (decide ((jW (nth a0 U) J) < 0)) then (.inl (-1)) else jr a0 n1 (jW (nth a0 U) J) (U + 1)) else (.inr J))
def Jf (a0 : List ZO) (a1 : Int) : Int := (bif (decide ((W (a1 - (a0.length : Int))) < 0)) then (-1) else (match jr a0 (a0.length + 1) (W (a1 - (a0.length : Int))) 0 with | .inl r1 => r1 | .inr z1_0 => z1_0))
def KP (a0 : List Zy) (a1 : Int) : Int := (bif (decide ((W (a1 - (a0.length : Int))) < 0)) then (-1) else (W (a1 - (a0.length : Int))))
def xP (a0 : List ZW) (a1 : Int) : Int := (bif (decide ((W (a1 - (a0.length : Int))) < 0)) then (-1) else (W (a1 - (a0.length : Int))))
def yM (a0 : ZK) (a1 : Int) : Int := (bif (decide ((KP a0.Path a1) < 0)) then (-1) else (bif (decide ((xP a0.Yi (KP a0.Path a1)) < 0)) then (-1) else (xP a0.Yi (KP a0.Path a1))))
def xW (a0 : List ZK) : Nat -> Int -> Nat -> Sum Int Int
  | 0, _, _ => .inr default
  | n1 + 1, J, U => (bif (decide ((U : Int) < (a0.length : Int))) then (bif (decide ((yM (nth a0 U) J) < 0)) then (.inl (-1)) else xW a0 n1 (yM (nth a0 U) J) (U + 1)) else (.inr J))
def zd (a0 : List ZK) (a1 : Int) : Int := (bif (decide ((W (a1 - (a0.length : Int))) < 0)) then (-1) else (match xW a0 (a0.length + 1) (W (a1 - (a0.length : Int))) 0 with | .inl r1 => r1 | .inr z1_0 => z1_0))
def zk (a0 : Za) (a1 : Int) : Int := (bif (decide ((Jf a0.ZL a1) < 0)) then (-1) else (bif (decide ((zd a0.Zf (Jf a0.ZL a1)) < 0)) then (-1) else (zd a0.Zf (Jf a0.ZL a1))))
def WU (a0 : ZM) (a1 : Int) : Int := (bif (decide ((Yo a0.Doc a1) < 0)) then (-1) else (bif (decide ((zk a0.ZJ (Yo a0.Doc a1)) < 0)) then (-1) else (zk a0.ZJ (Yo a0.Doc a1))))
def We (a0 : List ZM) : Nat -> Int -> Nat -> Sum Int Int
  | 0, _, _ => .inr default
  | n1 + 1, J, U => (bif (decide ((U : Int) < (a0.length : Int))) then (bif (decide ((WU (nth a0 U) J) < 0)) then (.inl (-1)) else We a0 n1 (WU (nth a0 U) J) (U + 1)) else (.inr J))
def jO (a0 : List ZM) (a1 : Int) : Int := (bif (decide ((W (a1 - (a0.length : Int))) < 0)) then (-1) else (match We a0 (a0.length + 1) (W (a1 - (a0.length : Int))) 0 with | .inl r1 => r1 | .inr z1_0 => z1_0))
def yN (a0 : ZC) (a1 : Int) : Int := (bif (decide ((jO a0.ZD a1) < 0)) then (-1) else (jO a0.ZD a1))
def xq (a0 : List ZC) : Nat -> Int -> Nat -> Sum Int Int
  | 0, _, _ => .inr default
  | n1 + 1, J, U => (bif (decide ((U : Int) < (a0.length : Int))) then (bif (decide ((yN (nth a0 U) J) < 0)) then (.inl (-1)) else xq a0 n1 (yN (nth a0 U) J) (U + 1)) else (.inr J))
def Yn (a0 : List ZC) (a1 : Int) : Int := (bif (decide ((W (a1 - (a0.length : Int))) < 0)) then (-1) else (match xq a0 (a0.length + 1) (W (a1 - (a0.length : Int))) 0 with | .inl r1 => r1 | .inr z1_0 => z1_0))
def KQ (a0 : ZH) (a1 : Int) : Int := (bif (decide ((YH a0.Frame a1) < 0)) then (-1) else (bif (decide ((Yl a0.ZN (YH a0.Frame a1)) < 0)) then (-1) else (bif (decide ((Zv a0.Zl (Yl a0.ZN (YH a0.Frame a1))) < 0)) then (-1) else (bif (decide ((Yn a0.ZA (Zv a0.Zl (Yl a0.ZN (YH a0.Frame a1)))) < 0)) then (-1) else (bif (decide ((Zv a0.YX (Yn a0.ZA (Zv a0.Zl (Yl a0.ZN (YH a0.Frame a1))))) < 0)) then (-1) else (bif (decide ((Zv a0.YJ (Zv a0.YX (Yn a0.ZA (Zv a0.Zl (Yl a0.ZN (YH a0.Frame a1)))))) < 0)) then (-1) else (bif (decide ((Zv a0.Z4 (Zv a0.YJ (Zv a0.YX (Yn a0.ZA (Zv a0.Zl (Yl a0.ZN (YH a0.Frame a1))))))) < 0)) then (-1) else (Zv a0.Z4 (Zv a0.YJ (Zv a0.YX (Yn a0.ZA (Zv a0.Zl (Yl a0.ZN (YH a0.Frame a1))))))))))))))
def jS (a0 : Zp) (a1 : Int) : Int := (bif (decide ((Yo a0.Doc a1) < 0)) then (-1) else (bif (decide ((Zv a0.Ids (Yo a0.Doc a1)) < 0)) then (-1) else (Zv a0.Ids (Yo a0.Doc a1))))
def jj (a0 : List Zp) : Nat -> Int -> Nat -> Sum Int Int
  | 0, _, _ => .inr default
  | n1 + 1, J, U => (bif (decide ((U : Int) < (a0.length : Int))) then (bif (decide ((jS (nth a0 U) J) < 0)) then (.inl (-1)) else jj a0 n1 (jS (nth a0 U) J) (U + 1)) else (.inr J))
def kV (a0 : List Zp) (a1 : Int) : Int := (bif (decide ((W (a1 - (a0.length : Int))) < 0)) then (-1) else (match jj a0 (a0.length + 1) (W (a1 - (a0.length : Int))) 0 with | .inl r1 => r1 | .inr z1_0 => z1_0))
def Hr (a0 : YZ) : YZ := a0
def Sp (a0 : List YZ) : Nat -> Nat -> List YZ -> (List YZ)
  | 0, _, _ => default
  | n1 + 1, J, U => (bif (decide ((J : Int) < (a0.length : Int))) then Sp a0 n1 (J + 1) (U.set J (nth a0 J)) else (U))
def Fh (a0 : List YZ) : List YZ := (match Sp a0 (a0.length + 1) 0 (List.replicate a0.length (YZ.mk 0 0 0 0 0)) with | z1_0 => z1_0)
def WL (a0 : ZR) : ZR := a0
def qB (a0 : List ZR) : Nat -> Nat -> List ZR -> (List ZR)
  | 0, _, _ => default
  | n1 + 1, J, U => (bif (decide ((J : Int) < (a0.length : Int))) then qB a0 n1 (J + 1) (U.set J (nth a0 J)) else (U))
def VW (a0 : List ZR) : List ZR := (match qB a0 (a0.length + 1) 0 (List.replicate a0.length (ZR.mk 0 0 0)) with | z1_0 => z1_0)
def SX (a0 : Zj) : Zj := a0
def WJ (a0 : List Zj) : Nat -> Nat -> List Zj -> (List Zj)
  | 0, _, _ => default
  | n1 + 1, J, U => (bif (decide ((J : Int) < (a0.length : Int))) then WJ a0 n1 (J + 1) (U.set J (nth a0 J)) else (U))
def PG (a0 : List Zj) : List Zj := (match WJ a0 (a0.length + 1) 0 (List.replicate a0.length (Zj.mk 0 0 0 0)) with | z1_0 => z1_0)
def P5 (a0 : Zq) : Zq := a0
def Nq (a0 : Z1) : Z1 := a0
def Up (a0 : List Z1) : Nat -> Nat -> List Z1 -> (List Z1)
  | 0, _, _ => default
  | n1 + 1, J, U => (bif (decide ((J : Int) < (a0.length : Int))) then Up a0 n1 (J + 1) (U.set J (nth a0 J)) else (U))
def LJ (a0 : List Z1) : List Z1 := (match Up a0 (a0.length + 1) 0 (List.replicate a0.length (Z1.mk 0 0 0 0 0 0 0)) with | z1_0 => z1_0)
def SZ (a0 : List Int) : Nat -> Nat -> List Int -> (List Int)
  | 0, _, _ => default
  | n1 + 1, J, U => (bif (decide ((J : Int) < (a0.length : Int))) then SZ a0 n1 (J + 1) (U.set J (nth a0 J)) else (U))
def Hv (a0 : List Int) : List Int := (match SZ a0 (a0.length + 1) 0 (List.replicate a0.length 0) with | z1_0 => z1_0)
def WM (a0 : List ByteArray) : Nat -> Nat -> List ByteArray -> (List ByteArray)
  | 0, _, _ => default
  | n1 + 1, J, U => (bif (decide ((J : Int) < (a0.length : Int))) then WM a0 n1 (J + 1) (U.set J (nth a0 J)) else (U))
def Pa (a0 : List ByteArray) : List ByteArray := (match WM a0 (a0.length + 1) 0 (List.replicate a0.length (⟨#[]⟩ : ByteArray)) with | z1_0 => z1_0)
def W3 (a0 : ZT) : ZT := a0
def kv (a0 : Zc) : Zc := a0
def P4 (a0 : ZO) : ZO := a0
def W4 (a0 : List ZO) : Nat -> Nat -> List ZO -> (List ZO)
  | 0, _, _ => default
  | n1 + 1, J, U => (bif (decide ((J : Int) < (a0.length : Int))) then W4 a0 n1 (J + 1) (U.set J (nth a0 J)) else (U))
def Oz (a0 : List ZO) : List ZO := (match W4 a0 (a0.length + 1) 0 (List.replicate a0.length (ZO.mk 0 ([] : List Int) 0)) with | z1_0 => z1_0)
def Nw (a0 : Zy) : Zy := a0
def Uc (a0 : List Zy) : Nat -> Nat -> List Zy -> (List Zy)
  | 0, _, _ => default
  | n1 + 1, J, U => (bif (decide ((J : Int) < (a0.length : Int))) then Uc a0 n1 (J + 1) (U.set J (nth a0 J)) else (U))
def Mi (a0 : List Zy) : List Zy := (match Uc a0 (a0.length + 1) 0 (List.replicate a0.length (Zy.mk 0 false)) with | z1_0 => z1_0)
def Ps (a0 : ZW) : ZW := a0
def VB (a0 : List ZW) : Nat -> Nat -> List ZW -> (List ZW)
  | 0, _, _ => default
  | n1 + 1, J, U => (bif (decide ((J : Int) < (a0.length : Int))) then VB a0 n1 (J + 1) (U.set J (nth a0 J)) else (U))
def Om (a0 : List ZW) : List ZW := (match VB a0 (a0.length + 1) 0 (List.replicate a0.length (ZW.mk 0 0 0 0 0)) with | z1_0 => z1_0)
def UY (a0 : ZK) : ZK := a0
def ji (a0 : List ZK) : Nat -> Nat -> List ZK -> (List ZK)
  | 0, _, _ => default
  | n1 + 1, J, U => (bif (decide ((J : Int) < (a0.length : Int))) then ji a0 n1 (J + 1) (U.set J (nth a0 J)) else (U))
def SU (a0 : List ZK) : List ZK := (match ji a0 (a0.length + 1) 0 (List.replicate a0.length (ZK.mk 0 0 0 ([] : List Zy) ([] : List ZW))) with | z1_0 => z1_0)
def Sw (a0 : Za) : Za := a0
def MH (a0 : ZM) : ZM := a0
def UU (a0 : List ZM) : Nat -> Nat -> List ZM -> (List ZM)
  | 0, _, _ => default
  | n1 + 1, J, U => (bif (decide ((J : Int) < (a0.length : Int))) then UU a0 n1 (J + 1) (U.set J (nth a0 J)) else (U))
def LN (a0 : List ZM) : List ZM := (match UU a0 (a0.length + 1) 0 (List.replicate a0.length (ZM.mk 0 0 (ZT.mk 0 ([] : List ByteArray) ([] : List Int)) (Zc.mk 0 0 0 0 0 0 0 0 0) (Za.mk ([] : List ZO) ([] : List ZK)))) with | z1_0 => z1_0)
def Uo (a0 : ZC) : ZC := a0
def kB (a0 : List ZC) : Nat -> Nat -> List ZC -> (List ZC)
  | 0, _, _ => default
  | n1 + 1, J, U => (bif (decide ((J : Int) < (a0.length : Int))) then kB a0 n1 (J + 1) (U.set J (nth a0 J)) else (U))
def SM (a0 : List ZC) : List ZC := (match kB a0 (a0.length + 1) 0 (List.replicate a0.length (ZC.mk 0 ([] : List ZM))) with | z1_0 => z1_0)
def Pn (a0 : ZH) : ZH := a0
def Pm (a0 : Zp) : Zp := a0
def W6 (a0 : List Zp) : Nat -> Nat -> List Zp -> (List Zp)
  | 0, _, _ => default
  | n1 + 1, J, U => (bif (decide ((J : Int) < (a0.length : Int))) then W6 a0 n1 (J + 1) (U.set J (nth a0 J)) else (U))
def Oo (a0 : List Zp) : List Zp := (match W6 a0 (a0.length + 1) 0 (List.replicate a0.length (Zp.mk 0 0 0 0 0 (ZT.mk 0 ([] : List ByteArray) ([] : List Int)) ([] : List Int))) with | z1_0 => z1_0)
def Ou (a0 : Zq) : Zq := a0
def ES (a0 : ZT) : ZT := a0
def LV (a0 : ZO) : ZO := a0
def Su (a0 : List ZO) : Nat -> List ZO -> Nat -> (List ZO)
  | 0, _, _ => default
  | n1 + 1, J, U => (bif (decide ((U : Int) < (a0.length : Int))) then Su a0 n1 (J ++ ([(nth a0 U)] : List ZO)) (U + 1) else (J))
def NY (a0 : List ZO) : List ZO := (match Su a0 (a0.length + 1) ([] : List ZO) 0 with | z1_0 => z1_0)
def M6 (a0 : ZK) : ZK := a0
def Um (a0 : Za) : Nat -> Nat -> List ZK -> (List ZK)
  | 0, _, _ => default
  | n1 + 1, J, U => (bif (decide ((J : Int) < (a0.Zf.length : Int))) then Um a0 n1 (J + 1) (U ++ ([(nth a0.Zf J)] : List ZK)) else (U))
def Pu (a0 : Za) : Za := (match Um a0 (a0.Zf.length + 1) 0 ([] : List ZK) with | z1_0 => (Za.mk a0.ZL z1_0))
def M9 (a0 : ZM) : ZM := a0
def Un (a0 : ZC) : Nat -> Nat -> List ZM -> (List ZM)
  | 0, _, _ => default
  | n1 + 1, J, U => (bif (decide ((J : Int) < (a0.ZD.length : Int))) then Un a0 n1 (J + 1) (U ++ ([(nth a0.ZD J)] : List ZM)) else (U))
def Py (a0 : ZC) : ZC := (match Un a0 (a0.ZD.length + 1) 0 ([] : List ZM) with | z1_0 => (ZC.mk a0.Id z1_0))
def UO (a0 : ZH) : Nat -> Nat -> List ZC -> (List ZC)
  | 0, _, _ => default
  | n1 + 1, J, U => (bif (decide ((J : Int) < (a0.ZA.length : Int))) then UO a0 n1 (J + 1) (U ++ ([(nth a0.ZA J)] : List ZC)) else (U))
def Px (a0 : ZH) : ZH := (match UO a0 (a0.ZA.length + 1) 0 ([] : List ZC) with | z1_0 => (ZH.mk a0.Frame a0.ZN a0.Zl z1_0 a0.YX a0.YJ a0.Next a0.Z4))
def YN (a0 : Int) (a1 : Int) (a2 : Int) : Bool := ((decide (a0 >= a1)) && (decide (a0 <= a2)))
def qy (a0 : ZH) (a1 : Int) : ZH × Bool := (bif ((!(YN a1 0 100)) || (decide ((W (a0.Frame.Now + a1)) > 10000))) then (a0, false) else ((ZH.mk (Zq.mk a0.Frame.Zm a0.Frame.ZE a0.Frame.Methods a0.Frame.KZ (W (a0.Frame.Now + a1))) a0.ZN a0.Zl a0.ZA a0.YX a0.YJ a0.Next a0.Z4), true))
def jY (a0 : List YZ) (a1 : Int) : Nat -> Nat -> Sum Int Unit
  | 0, _ => .inr ()
  | n1 + 1, J => (bif (decide ((J : Int) < (a0.length : Int))) then (bif ((nth a0 J).Number == a1) then (.inl (J : Int)) else jY a0 a1 n1 (J + 1)) else (.inr ()))
def Ye (a0 : List YZ) (a1 : Int) : Int := (match jY a0 a1 (a0.length + 1) 0 with | .inl r1 => r1 | .inr _ => (-1))
def Qo (a0 : ZH) (a1 : Int) : Bool := (YN a1 0 (W ((a0.ZA.length : Int) - 1)))
def yD (a0 : List Zj) (a1 : Int) : Nat -> Int -> Nat -> Int
  | 0, _, _ => default
  | n1 + 1, J, U => (bif (decide ((U : Int) < (a0.length : Int))) then (bif (((decide (a1 >= (nth a0 U).Nc)) && (decide (a1 < (nth a0 U).Ends))) && ((decide (J < 0)) || (decide ((nth a0 U).Ends > (nth a0 J.toNat).Ends)))) then yD a0 a1 n1 (U : Int) (U + 1) else yD a0 a1 n1 J (U + 1)) else (J))
def Zg (a0 : List Zj) (a1 : Int) : Int := (match yD a0 a1 (a0.length + 1) (-1) 0 with | z1_0 => (bif (decide (z1_0 < 0)) then (-1) else (nth a0 z1_0.toNat).Id))
def J3 (a0 : ZH) (a1 : Int) : Nat -> Nat -> Sum Int Unit
  | 0, _ => .inr ()
  | n1 + 1, J => (bif (decide ((J : Int) < (a0.ZN.length : Int))) then (bif ((nth a0.ZN J).Key == a1) then (.inl (J : Int)) else J3 a0 a1 n1 (J + 1)) else (.inr ()))
def XY (a0 : ZH) (a1 : Int) : Int := (match J3 a0 a1 (a0.ZN.length + 1) 0 with | .inl r1 => r1 | .inr _ => (-1))
def zy (a0 : ZT) : Nat -> Nat -> Sum Bool Unit
  | 0, _ => .inr ()
  | n2 + 1, iZ => (bif (decide ((iZ : Int) < (a0.Zk.length : Int))) then (bif (!(YN (nth a0.Zk iZ) 1 1000000000000)) then (.inl false) else zy a0 n2 (iZ + 1)) else (.inr ()))
def yK (a0 : ZT) : Nat -> Nat -> Sum Bool Unit
  | 0, _ => .inr ()
  | n1 + 1, J => (bif (decide ((J : Int) < (a0.ZU.length : Int))) then (bif (decide (((nth a0.ZU J).size : Int) > 40)) then (.inl false) else yK a0 n1 (J + 1)) else (.inr ()))
def ze (a0 : ZT) : Bool := (match yK a0 (a0.ZU.length + 1) 0 with | .inl r1 => r1 | .inr _ => (match zy a0 (a0.Zk.length + 1) 0 with | .inl r2 => r2 | .inr _ => (((YN a0.qn 0 999) && (YN (a0.ZU.length : Int) 1 6)) && ((a0.Zk.length : Int) == (a0.ZU.length : Int)))))
def w8 (a0 : Int) (a1 : Int) : Int := (bif (!(YN a1 1 1000000000000)) then 0 else (Int.tmod (W ((Int.tmod a0 a1) + a1)) a1))
def Rr (a0 : List Int) : Nat -> Int -> Nat -> Int
  | 0, _, _ => default
  | n1 + 1, J, U => (bif (decide ((U : Int) < (a0.length : Int))) then Rr a0 n1 (Int.tmod (W ((W ((W (J * 1000003)) + (w8 (nth a0 U) 2147483647))) + 13)) 2147483647) (U + 1) else (J))
def Ms (a0 : List Int) : Int := (match Rr a0 (a0.length + 1) 11 0 with | z1_0 => z1_0)
def KX (a0 : Int) (a1 : List Int) : Int := (Ms (([7, a0] : List Int) ++ a1))
def xm (a1 : ByteArray) : Nat -> List Int -> Nat -> (List Int)
  | 0, _, _ => default
  | n1 + 1, J, U => (bif (decide ((U : Int) < (a1.size : Int))) then xm a1 n1 (J ++ ([(W ((bAt a1 U) : Int))] : List Int)) (U + 1) else (J))
def jl (a0 : Int) (a1 : ByteArray) (a2 : Int) : Int := (match xm a1 (a1.size + 1) ([a2] : List Int) 0 with | z1_0 => (KX a0 z1_0))
def qe (a0 : Int) (a1 : ZT) : Nat -> List Int -> Nat -> (List Int)
  | 0, _, _ => default
  | n1 + 1, J, U => (bif (decide ((U : Int) < (a1.ZU.length : Int))) then qe a0 a1 n1 (J ++ ([(jl a0 (nth a1.ZU U) (nth a1.Zk U))] : List Int)) (U + 1) else (J))
def Qr (a0 : Int) (a1 : ZT) : Int := (bif (!(ze a1)) then (-1) else (match qe a0 a1 (a1.ZU.length + 1) ([a1.qn] : List Int) 0 with | z1_0 => (KX a0 z1_0)))
def qc (a0 : Zc) : Bool := ((((((((YN a0.Key 1 99) && (YN a0.Zi 1 999)) && (YN a0.Method 0 99)) && (YN a0.Org 0 99)) && (YN a0.qX 1 3)) && (YN a0.Xa 0 1000000000000)) && (YN a0.qW 0 1000000000000)) && (YN a0.Wy 0 1000000000000))
def Qe (a0 : Zc) : List Int := ([104, a0.Key, a0.Zi, a0.Method, a0.Xa, a0.qX, a0.Org, a0.qW, a0.Wy] : List Int)
def WT (a0 : Int) (a1 : List Int) : Int := (Ms ((([a0] : List Int) ++ a1) ++ ([a0] : List Int)))
def jB (a0 : YZ) (a1 : List Int) : Int := (WT a0.V8 (([a0.Method] : List Int) ++ a1))
def Kg (a0 : List YZ) (a1 : Zc) : Zc × Bool := (bif ((!(qc a1)) || (decide ((Ye a0 a1.Key) < 0))) then ((Zc.mk 0 0 0 0 0 0 0 0 0), false) else ((Zc.mk a1.Key a1.Zi a1.Method a1.Xa a1.qX a1.Org a1.qW a1.Wy (jB (nth a0 (Ye a0 a1.Key).toNat) (Qe a1))), true))
def yT (a0 : Zc) : ZO := (ZO.mk a0.Key (Qe a0) a0.Mark)
def xj (a0 : Z1) : List Int := ([101, a0.Zi, a0.Key, a0.WY, a0.UM, a0.To, a0.Z2] : List Int)
def jd (a0 : Z1) : ZO := (ZO.mk a0.Z2 (xj a0) a0.Mark)
def Xv (a0 : ZH) (a1 : Int) (a2 : ZT) (a3 : Int) (a4 : Int) : ZM × Bool := (bif ((decide ((Zg a0.Frame.Methods a0.Frame.Now) < 0)) || (decide ((XY a0 a1) < 0))) then ((ZM.mk 0 0 (ZT.mk 0 ([] : List ByteArray) ([] : List Int)) (Zc.mk 0 0 0 0 0 0 0 0 0) (Za.mk ([] : List ZO) ([] : List ZK))), false) else ((ZM.mk a0.Next a4 a2 (Kg a0.Frame.Zm (Zc.mk a1 (nth a0.ZN (XY a0 a1).toNat).Zi (Zg a0.Frame.Methods a0.Frame.Now) (Qr (Zg a0.Frame.Methods a0.Frame.Now) a2) 1 a3 0 0 0)).1 (Za.mk ([(yT (Kg a0.Frame.Zm (Zc.mk a1 (nth a0.ZN (XY a0 a1).toNat).Zi (Zg a0.Frame.Methods a0.Frame.Now) (Qr (Zg a0.Frame.Methods a0.Frame.Now) a2) 1 a3 0 0 0)).1), (jd (nth a0.ZN (XY a0 a1).toNat))] : List ZO) ([] : List ZK))), (Kg a0.Frame.Zm (Zc.mk a1 (nth a0.ZN (XY a0 a1).toNat).Zi (Zg a0.Frame.Methods a0.Frame.Now) (Qr (Zg a0.Frame.Methods a0.Frame.Now) a2) 1 a3 0 0 0)).2))
def Ti (a0 : Int) : Bool := (YN a0 0 10000)
def WG (a0 : List Int) (a1 : List Int) : Nat -> Nat -> Sum Bool Unit
  | 0, _ => .inr ()
  | n1 + 1, J => (bif (decide ((J : Int) < (a0.length : Int))) then (bif ((nth a0 J) != (nth a1 J)) then (.inl false) else WG a0 a1 n1 (J + 1)) else (.inr ()))
def UQ (a0 : List Int) (a1 : List Int) : Bool := (bif ((a0.length : Int) != (a1.length : Int)) then false else (match WG a0 a1 (a0.length + 1) 0 with | .inl r1 => r1 | .inr _ => true))
def y6 (a0 : ZO) (a1 : ZO) : Bool := (((a0.Key == a1.Key) && (a0.Mark == a1.Mark)) && (UQ a0.Ys a1.Ys))
def WN (a0 : Za) (a1 : ZO) : Nat -> Nat -> Sum Int Unit
  | 0, _ => .inr ()
  | n1 + 1, J => (bif (decide ((J : Int) < (a0.ZL.length : Int))) then (bif (y6 (nth a0.ZL J) a1) then (.inl (J : Int)) else WN a0 a1 n1 (J + 1)) else (.inr ()))
def jc (a0 : Za) (a1 : ZO) : Int := (match WN a0 a1 (a0.ZL.length + 1) 0 with | .inl r1 => r1 | .inr _ => (-1))
def qC (a0 : Za) : Nat -> Nat -> Sum Bool Unit
  | 0, _ => .inr ()
  | n2 + 1, iZ => (bif (decide ((iZ : Int) < (a0.Zf.length : Int))) then (bif ((!(YN (nth a0.Zf iZ).Count 1 (a0.ZL.length : Int))) || ((decide ((iZ : Int) > 0)) && (decide ((nth a0.Zf (iZ - 1)).Count > (nth a0.Zf iZ).Count)))) then (.inl false) else qC a0 n2 (iZ + 1)) else (.inr ()))
def qD (a0 : Za) : Nat -> Nat -> Sum Bool Unit
  | 0, _ => .inr ()
  | n1 + 1, J => (bif (decide ((J : Int) < (a0.ZL.length : Int))) then (bif (decide ((jc a0 (nth a0.ZL J)) < (J : Int))) then (.inl false) else qD a0 n1 (J + 1)) else (.inr ()))
def yj (a0 : Za) : Bool := (match qD a0 (a0.ZL.length + 1) 0 with | .inl r1 => r1 | .inr _ => (match qC a0 (a0.Zf.length + 1) 0 with | .inl r2 => r2 | .inr _ => ((YN (a0.ZL.length : Int) 1 12) && (decide ((a0.Zf.length : Int) <= 8)))))
def Tj (a0 : ZM) : Bool := (((((YN a0.Id 1 999) && (Ti a0.XB)) && (ze a0.Doc)) && (yj a0.ZJ)) && (y6 (nth a0.ZJ.ZL 0) (yT a0.Sig)))
def qg (a0 : ZC) : Nat -> Nat -> Sum Bool Unit
  | 0, _ => .inr ()
  | n1 + 1, J => (bif (decide ((J : Int) < (a0.ZD.length : Int))) then (bif ((!(Tj (nth a0.ZD J))) || ((decide ((J : Int) > 0)) && (decide ((nth a0.ZD (J - 1)).Id >= (nth a0.ZD J).Id)))) then (.inl false) else qg a0 n1 (J + 1)) else (.inr ()))
def JP (a0 : ZC) : Bool := (match qg a0 (a0.ZD.length + 1) 0 with | .inl r1 => r1 | .inr _ => ((YN a0.Id 0 99) && (decide ((a0.ZD.length : Int) <= 8))))
def qI (a0 : ZC) (a1 : Int) : Nat -> Nat -> Sum Int Unit
  | 0, _ => .inr ()
  | n1 + 1, J => (bif (decide ((J : Int) < (a0.ZD.length : Int))) then (bif ((nth a0.ZD J).Id == a1) then (.inl (J : Int)) else qI a0 a1 n1 (J + 1)) else (.inr ()))
def Yj (a0 : ZC) (a1 : Int) : Int := (match qI a0 a1 (a0.ZD.length + 1) 0 with | .inl r1 => r1 | .inr _ => (-1))
def QZ (a0 : ZC) (a1 : ZM) : Nat -> Bool -> Nat -> List ZM -> Bool × (List ZM)
  | 0, _, _, _ => (default, default)
  | n1 + 1, J, U, iQ => (bif (decide ((U : Int) < (a0.ZD.length : Int))) then (bif ((!J) && (decide (a1.Id < (nth a0.ZD U).Id))) then QZ a0 a1 n1 true (U + 1) ((iQ ++ ([a1] : List ZM)) ++ ([(nth a0.ZD U)] : List ZM)) else QZ a0 a1 n1 J (U + 1) (iQ ++ ([(nth a0.ZD U)] : List ZM))) else ((J, iQ)))
def Q0 (a0 : ZC) (a1 : ZM) : ZC × Bool := (bif ((!(JP a0)) || (decide ((Yj a0 a1.Id) >= 0))) then (a0, false) else (match QZ a0 a1 (a0.ZD.length + 1) false 0 ([] : List ZM) with | (z1_0, z1_1) => (bif (!z1_0) then (bif (!(JP (ZC.mk a0.Id (z1_1 ++ ([a1] : List ZM))))) then (a0, false) else ((ZC.mk a0.Id (z1_1 ++ ([a1] : List ZM))), true)) else (bif (!(JP (ZC.mk a0.Id z1_1))) then (a0, false) else ((ZC.mk a0.Id z1_1), true)))))
def jM (a0 : ZH) (a1 : Int) (a2 : Int) (a3 : ZT) (a4 : Int) (a5 : Int) : ZH × Bool := (bif (((!(Qo a0 a1)) || (decide ((Ye a0.Frame.Zm a2) < 0))) || (decide ((nth a0.Frame.Zm (Ye a0.Frame.Zm a2).toNat).Vz > a0.Frame.Now))) then (a0, false) else (bif (!(Xv a0 a2 a3 a4 a5).2) then (a0, false) else (bif (!(Q0 (nth a0.ZA a1.toNat) (Xv a0 a2 a3 a4 a5).1).2) then (a0, false) else ((ZH.mk a0.Frame a0.ZN a0.Zl (a0.ZA.set a1.toNat (Q0 (nth a0.ZA a1.toNat) (Xv a0 a2 a3 a4 a5).1).1) a0.YX a0.YJ (W (a0.Next + 1)) a0.Z4), true))))
def xS (a0 : ZH) (a1 : Int) : Nat -> Nat -> Sum (Int × Int) Unit
  | 0, _ => .inr ()
  | n1 + 1, J => (bif (decide ((J : Int) < (a0.ZA.length : Int))) then (bif (decide ((Yj (nth a0.ZA J) a1) >= 0)) then (.inl ((J : Int), (Yj (nth a0.ZA J) a1))) else xS a0 a1 n1 (J + 1)) else (.inr ()))
def ZF (a0 : ZH) (a1 : Int) : Int × Int := (match xS a0 a1 (a0.ZA.length + 1) 0 with | .inl r1 => r1 | .inr _ => ((-1), (-1)))
def Qj (a0 : ZO) : Int := (bif (((a0.Ys.length : Int) == 0) || (!(YN (nth a0.Ys 0) 101 105))) then 0 else (bif ((a0.Ys.length : Int) != (nth ([7, 5, 5, 9, 6] : List Int) (W ((nth a0.Ys 0) - 101)).toNat)) then 0 else (nth a0.Ys 0)))
def Zb (a0 : ZO) : Z1 × Bool := (bif (((Qj a0) != 101) || ((nth a0.Ys 6) != a0.Key)) then ((Z1.mk 0 0 0 0 0 0 0), false) else ((Z1.mk (nth a0.Ys 1) (nth a0.Ys 2) (nth a0.Ys 3) (nth a0.Ys 4) (nth a0.Ys 5) (nth a0.Ys 6) a0.Mark), true))
def qA (a0 : List Z1) (a1 : Int) : Nat -> Nat -> Sum Int Unit
  | 0, _ => .inr ()
  | n1 + 1, J => (bif (decide ((J : Int) < (a0.length : Int))) then (bif ((nth a0 J).Zi == a1) then (.inl (J : Int)) else qA a0 a1 n1 (J + 1)) else (.inr ()))
def Zx (a0 : List Z1) (a1 : Int) : Int := (match qA a0 a1 (a0.length + 1) 0 with | .inl r1 => r1 | .inr _ => (-1))
def kc (a0 : Z0) : Bool := ((((YN a0.Zi 1 999) && (Ti a0.O4)) && (YN a0.Zl (-1) (W (a0.O4 + 1)))) && (YN a0.Z2 1 99))
def J2 (a0 : Z0) : List Int := ([102, a0.Zi, a0.O4, a0.Zl, a0.Z2] : List Int)
def Ya (a0 : List YZ) (a1 : Z0) : Z0 × Bool := (bif ((!(kc a1)) || (decide ((Ye a0 a1.Z2) < 0))) then ((Z0.mk 0 0 0 0 0), false) else ((Z0.mk a1.Zi a1.O4 a1.Zl a1.Z2 (jB (nth a0 (Ye a0 a1.Z2).toNat) (J2 a1))), true))
def Y0 (a0 : Z0) : ZO := (ZO.mk a0.Z2 (J2 a0) a0.Mark)
def yZ (a0 : Za) (a1 : ZO) : Za × Bool := (bif (!(yj (Za.mk (a0.ZL ++ ([a1] : List ZO)) a0.Zf))) then (a0, false) else ((Za.mk (a0.ZL ++ ([a1] : List ZO)) a0.Zf), true))
def Xx (a0 : ZC) (a1 : Int) (a2 : ZO) : ZC × Bool := (bif (decide ((Yj a0 a1) < 0)) then (a0, false) else ((ZC.mk a0.Id (a0.ZD.set (Yj a0 a1).toNat (ZM.mk (nth a0.ZD (Yj a0 a1).toNat).Id (nth a0.ZD (Yj a0 a1).toNat).XB (nth a0.ZD (Yj a0 a1).toNat).Doc (nth a0.ZD (Yj a0 a1).toNat).Sig (yZ (nth a0.ZD (Yj a0 a1).toNat).ZJ a2).1))), (yZ (nth a0.ZD (Yj a0 a1).toNat).ZJ a2).2))
def yg (a0 : ZH) (a1 : Int) : ZH × Bool := (bif ((decide ((ZF a0 a1).1 < 0)) || (decide (((nth (nth a0.ZA (ZF a0 a1).1.toNat).ZD (ZF a0 a1).2.toNat).ZJ.ZL.length : Int) < 2))) then (a0, false) else (bif (((!(Zb (nth (nth (nth a0.ZA (ZF a0 a1).1.toNat).ZD (ZF a0 a1).2.toNat).ZJ.ZL 1)).2) || (decide ((Zx a0.ZN (Zb (nth (nth (nth a0.ZA (ZF a0 a1).1.toNat).ZD (ZF a0 a1).2.toNat).ZJ.ZL 1)).1.Zi) < 0))) || (decide ((Zx a0.ZN (Zb (nth (nth (nth a0.ZA (ZF a0 a1).1.toNat).ZD (ZF a0 a1).2.toNat).ZJ.ZL 1)).1.Zi) >= (a0.Zl.length : Int)))) then (a0, false) else (bif (decide ((nth a0.Zl (Zx a0.ZN (Zb (nth (nth (nth a0.ZA (ZF a0 a1).1.toNat).ZD (ZF a0 a1).2.toNat).ZJ.ZL 1)).1.Zi).toNat) <= (W (a0.Frame.Now + 1)))) then (bif ((!(Ya a0.Frame.Zm (Z0.mk (Zb (nth (nth (nth a0.ZA (ZF a0 a1).1.toNat).ZD (ZF a0 a1).2.toNat).ZJ.ZL 1)).1.Zi a0.Frame.Now (nth a0.Zl (Zx a0.ZN (Zb (nth (nth (nth a0.ZA (ZF a0 a1).1.toNat).ZD (ZF a0 a1).2.toNat).ZJ.ZL 1)).1.Zi).toNat) (nth a0.ZN (Zx a0.ZN (Zb (nth (nth (nth a0.ZA (ZF a0 a1).1.toNat).ZD (ZF a0 a1).2.toNat).ZJ.ZL 1)).1.Zi).toNat).Z2 0)).2) || (decide ((nth a0.Frame.Zm (Ye a0.Frame.Zm (nth a0.ZN (Zx a0.ZN (Zb (nth (nth (nth a0.ZA (ZF a0 a1).1.toNat).ZD (ZF a0 a1).2.toNat).ZJ.ZL 1)).1.Zi).toNat).Z2).toNat).Vz > a0.Frame.Now))) then (a0, false) else ((ZH.mk a0.Frame a0.ZN a0.Zl (a0.ZA.set (ZF a0 a1).1.toNat (Xx (nth a0.ZA (ZF a0 a1).1.toNat) a1 (Y0 (Ya a0.Frame.Zm (Z0.mk (Zb (nth (nth (nth a0.ZA (ZF a0 a1).1.toNat).ZD (ZF a0 a1).2.toNat).ZJ.ZL 1)).1.Zi a0.Frame.Now (nth a0.Zl (Zx a0.ZN (Zb (nth (nth (nth a0.ZA (ZF a0 a1).1.toNat).ZD (ZF a0 a1).2.toNat).ZJ.ZL 1)).1.Zi).toNat) (nth a0.ZN (Zx a0.ZN (Zb (nth (nth (nth a0.ZA (ZF a0 a1).1.toNat).ZD (ZF a0 a1).2.toNat).ZJ.ZL 1)).1.Zi).toNat).Z2 0)).1)).1) a0.YX a0.YJ a0.Next a0.Z4), (Xx (nth a0.ZA (ZF a0 a1).1.toNat) a1 (Y0 (Ya a0.Frame.Zm (Z0.mk (Zb (nth (nth (nth a0.ZA (ZF a0 a1).1.toNat).ZD (ZF a0 a1).2.toNat).ZJ.ZL 1)).1.Zi a0.Frame.Now (nth a0.Zl (Zx a0.ZN (Zb (nth (nth (nth a0.ZA (ZF a0 a1).1.toNat).ZD (ZF a0 a1).2.toNat).ZJ.ZL 1)).1.Zi).toNat) (nth a0.ZN (Zx a0.ZN (Zb (nth (nth (nth a0.ZA (ZF a0 a1).1.toNat).ZD (ZF a0 a1).2.toNat).ZJ.ZL 1)).1.Zi).toNat).Z2 0)).1)).2)) else (bif ((!(Ya a0.Frame.Zm (Z0.mk (Zb (nth (nth (nth a0.ZA (ZF a0 a1).1.toNat).ZD (ZF a0 a1).2.toNat).ZJ.ZL 1)).1.Zi a0.Frame.Now (-1) (nth a0.ZN (Zx a0.ZN (Zb (nth (nth (nth a0.ZA (ZF a0 a1).1.toNat).ZD (ZF a0 a1).2.toNat).ZJ.ZL 1)).1.Zi).toNat).Z2 0)).2) || (decide ((nth a0.Frame.Zm (Ye a0.Frame.Zm (nth a0.ZN (Zx a0.ZN (Zb (nth (nth (nth a0.ZA (ZF a0 a1).1.toNat).ZD (ZF a0 a1).2.toNat).ZJ.ZL 1)).1.Zi).toNat).Z2).toNat).Vz > a0.Frame.Now))) then (a0, false) else ((ZH.mk a0.Frame a0.ZN a0.Zl (a0.ZA.set (ZF a0 a1).1.toNat (Xx (nth a0.ZA (ZF a0 a1).1.toNat) a1 (Y0 (Ya a0.Frame.Zm (Z0.mk (Zb (nth (nth (nth a0.ZA (ZF a0 a1).1.toNat).ZD (ZF a0 a1).2.toNat).ZJ.ZL 1)).1.Zi a0.Frame.Now (-1) (nth a0.ZN (Zx a0.ZN (Zb (nth (nth (nth a0.ZA (ZF a0 a1).1.toNat).ZD (ZF a0 a1).2.toNat).ZJ.ZL 1)).1.Zi).toNat).Z2 0)).1)).1) a0.YX a0.YJ a0.Next a0.Z4), (Xx (nth a0.ZA (ZF a0 a1).1.toNat) a1 (Y0 (Ya a0.Frame.Zm (Z0.mk (Zb (nth (nth (nth a0.ZA (ZF a0 a1).1.toNat).ZD (ZF a0 a1).2.toNat).ZJ.ZL 1)).1.Zi a0.Frame.Now (-1) (nth a0.ZN (Zx a0.ZN (Zb (nth (nth (nth a0.ZA (ZF a0 a1).1.toNat).ZD (ZF a0 a1).2.toNat).ZJ.ZL 1)).1.Zi).toNat).Z2 0)).1)).2)))))
def yh (a0 : ZH) (a1 : Int) : ZH × Bool := (bif ((!(YN a1 0 (W ((a0.Zl.length : Int) - 1)))) || ((nth a0.Zl a1.toNat) != (-1))) then (a0, false) else ((ZH.mk a0.Frame a0.ZN (a0.Zl.set a1.toNat (W (a0.Frame.Now + 1))) a0.ZA a0.YX a0.YJ a0.Next a0.Z4), true))
def KM (a0 : List ZR) (a1 : Int) : Nat -> Nat -> Sum Int Unit
  | 0, _ => .inr ()
  | n1 + 1, J => (bif (decide ((J : Int) < (a0.length : Int))) then (bif ((nth a0 J).Id == a1) then (.inl (J : Int)) else KM a0 a1 n1 (J + 1)) else (.inr ()))
def Ze (a0 : List ZR) (a1 : Int) : Int := (match KM a0 a1 (a0.length + 1) 0 with | .inl r1 => r1 | .inr _ => (-1))
def xi (a0 : ZH) (a1 : List Int) : Nat -> Nat -> Sum Bool Unit
  | 0, _ => .inr ()
  | n1 + 1, J => (bif (decide ((J : Int) < (a1.length : Int))) then (bif (((decide ((Ze a0.Frame.ZE (nth a1 J)) < 0)) || (decide ((Ze a0.Frame.ZE (nth a1 J)) >= (a0.YX.length : Int)))) || ((decide ((J : Int) > 0)) && (decide ((nth a1 (J - 1)) >= (nth a1 J))))) then (.inl false) else (bif ((decide ((Ye a0.Frame.Zm (nth a0.Frame.ZE (Ze a0.Frame.ZE (nth a1 J)).toNat).Key) < 0)) || (decide ((nth a0.Frame.Zm (Ye a0.Frame.Zm (nth a0.Frame.ZE (Ze a0.Frame.ZE (nth a1 J)).toNat).Key).toNat).Vz > a0.Frame.Now))) then (.inl false) else xi a0 a1 n1 (J + 1))) else (.inr ()))
def zY (a0 : ZH) (a1 : List Int) : Bool := (match xi a0 a1 (a1.length + 1) 0 with | .inl r1 => r1 | .inr _ => (decide ((a1.length : Int) > 0)))
def yF (a0 : Za) (a1 : ZT) : Nat -> List Int -> Nat -> (List Int)
  | 0, _, _ => default
  | n1 + 1, J, U => (bif (decide ((U : Int) < (a0.Zf.length : Int))) then yF a0 a1 n1 (J ++ ([(Qr (nth a0.Zf U).Method a1)] : List Int)) (U + 1) else (J))
def J9 (a0 : Za) (a1 : ZT) : List Int := (match yF a0 a1 (a0.Zf.length + 1) ([] : List Int) 0 with | z1_0 => z1_0)
def Kq (a0 : ZW) : List Int := ([103, a0.Authority, a0.Seq, a0.Time, a0.Xa] : List Int)
def zU (a1 : ZK) : Nat -> List Int -> Nat -> (List Int)
  | 0, _, _ => default
  | n2 + 1, iZ, gN => (bif (decide ((gN : Int) < (a1.Yi.length : Int))) then zU a1 n2 ((iZ ++ (Kq (nth a1.Yi gN))) ++ ([(nth a1.Yi gN).Mark] : List Int)) (gN + 1) else (iZ))
def KO (a1 : ZK) : Nat -> List Int -> Nat -> (List Int)
  | 0, _, _ => default
  | n1 + 1, J, U => (bif (decide ((U : Int) < (a1.Path.length : Int))) then (bif (nth a1.Path U).Left then KO a1 n1 ((J ++ ([(nth a1.Path U).Xa] : List Int)) ++ ([1] : List Int)) (U + 1) else KO a1 n1 ((J ++ ([(nth a1.Path U).Xa] : List Int)) ++ ([0] : List Int)) (U + 1)) else (J))
def KT (a0 : Int) (a1 : ZK) : Int := (match KO a1 (a1.Path.length + 1) ([4, a1.Count, a1.Method, a1.GK] : List Int) 0 with | z1_0 => (match zU a1 (a1.Yi.length + 1) (z1_0 ++ ([(a1.Yi.length : Int)] : List Int)) 0 with | z2_0 => (KX a0 z2_0)))
def yA (a0 : Int) (a1 : List ZO) : Nat -> List Int -> Nat -> (List Int)
  | 0, _, _ => default
  | n1 + 1, J, U => (bif (decide ((U : Int) < (a1.length : Int))) then yA a0 a1 n1 (J ++ ([(KX a0 (([(nth a1 U).Key, (nth a1 U).Mark] : List Int) ++ (nth a1 U).Ys))] : List Int)) (U + 1) else (J))
def KF (a0 : Int) (a1 : List ZO) : Int := (match yA a0 a1 (a1.length + 1) ([2] : List Int) 0 with | z1_0 => (KX a0 z1_0))
def Ta (a0 : Int) (a1 : Int) (a2 : List ZO) (a3 : Int) : Int := (KX a0 ([3, a1, (KF a0 a2), a3] : List Int))
def TX (a0 : Za) (a1 : List Int) (a2 : Int) : Int := (bif (((!(YN a2 0 (W ((a0.Zf.length : Int) - 1)))) || ((a1.length : Int) != (a0.Zf.length : Int))) || (!(YN (nth a0.Zf a2.toNat).Count 0 (a0.ZL.length : Int)))) then (-1) else (bif (decide (a2 > 0)) then (Ta (nth a0.Zf a2.toNat).Method (nth a1 a2.toNat) (a0.ZL.take (nth a0.Zf a2.toNat).Count.toNat) (KT (nth a0.Zf a2.toNat).Method (nth a0.Zf (W (a2 - 1)).toNat))) else (Ta (nth a0.Zf a2.toNat).Method (nth a1 a2.toNat) (a0.ZL.take (nth a0.Zf a2.toNat).Count.toNat) 0)))
def KA (a0 : ZC) (a1 : Int) : Nat -> List Int -> Nat -> (List Int)
  | 0, _, _ => default
  | n1 + 1, J, U => (bif (decide ((U : Int) < (a0.ZD.length : Int))) then KA a0 a1 n1 (J ++ ([(TX (Za.mk (nth a0.ZD U).ZJ.ZL ((nth a0.ZD U).ZJ.Zf ++ ([(ZK.mk ((nth a0.ZD U).ZJ.ZL.length : Int) a1 0 ([] : List Zy) ([] : List ZW))] : List ZK))) (J9 (Za.mk (nth a0.ZD U).ZJ.ZL ((nth a0.ZD U).ZJ.Zf ++ ([(ZK.mk ((nth a0.ZD U).ZJ.ZL.length : Int) a1 0 ([] : List Zy) ([] : List ZW))] : List ZK))) (nth a0.ZD U).Doc) (W ((((nth a0.ZD U).ZJ.Zf ++ ([(ZK.mk ((nth a0.ZD U).ZJ.ZL.length : Int) a1 0 ([] : List Zy) ([] : List ZW))] : List ZK)).length : Int) - 1)))] : List Int)) (U + 1) else (J))
def YB (a0 : ZC) (a1 : Int) : List Int := (match KA a0 a1 (a0.ZD.length + 1) ([] : List Int) 0 with | z1_0 => z1_0)
def kC (a0 : Int) (a1 : Int) (a2 : Int) : Int := (KX a0 ([1, a1, a2] : List Int))
def xx (a0 : Int) (a1 : List Int) : Nat -> List Int -> Nat -> (List Int)
  | 0, _, _ => default
  | n1 + 1, J, U => (bif (decide ((U : Int) < (a1.length : Int))) then (bif (decide ((W ((U : Int) + 1)) < (a1.length : Int))) then xx a0 a1 n1 (J ++ ([(kC a0 (nth a1 U) (nth a1 (W ((U : Int) + 1)).toNat))] : List Int)) (U + 2) else xx a0 a1 n1 (J ++ ([(nth a1 U)] : List Int)) (U + 2)) else (J))
def WA (a0 : Int) (a1 : List Int) : List Int := (match xx a0 a1 (a1.length + 1) ([] : List Int) 0 with | z1_0 => z1_0)
def jw (a0 : Int) : Nat -> List Int -> (List Int)
  | 0, _ => default
  | n1 + 1, J => (bif (decide ((J.length : Int) > 1)) then jw a0 n1 (WA a0 J) else (J))
def KW (a0 : Int) (a1 : List Int) : Int := (bif (!(YN (a1.length : Int) 1 16)) then (-1) else (match jw a0 (a1.length + 1) a1 with | z1_0 => (nth z1_0 0)))
def z5 (a0 : ZC) (a1 : Int) : Int := (KW a1 (YB a0 a1))
def P3 (a0 : List Int) (a1 : Int) : Nat -> Nat -> Sum Bool Unit
  | 0, _ => .inr ()
  | n1 + 1, J => (bif (decide ((J : Int) < (a0.length : Int))) then (bif ((nth a0 J) == a1) then (.inl true) else P3 a0 a1 n1 (J + 1)) else (.inr ()))
def P0 (a0 : List Int) (a1 : Int) : Bool := (match P3 a0 a1 (a0.length + 1) 0 with | .inl r1 => r1 | .inr _ => false)
def OR (a0 : Int) (a1 : Int) : Int := (bif (decide (a1 > a0)) then a1 else a0)
def ME (a0 : Int) (a1 : Int) : Int := (bif (decide (a1 < a0)) then a1 else a0)
def KJ (a0 : List YZ) (a1 : List ZR) (a2 : ZW) : ZW × Bool := (bif (((decide ((Ze a1 a2.Authority) < 0)) || (decide (a2.Seq < 0))) || (!(Ti a2.Time))) then ((ZW.mk 0 0 0 0 0), false) else (bif (decide ((Ye a0 (nth a1 (Ze a1 a2.Authority).toNat).Key) < 0)) then ((ZW.mk 0 0 0 0 0), false) else ((ZW.mk a2.Authority a2.Seq a2.Time a2.Xa (jB (nth a0 (Ye a0 (nth a1 (Ze a1 a2.Authority).toNat).Key).toNat) (Kq a2))), true)))
def Ki (a0 : Int) : Nat -> Int -> List Zy -> List Int -> (List Zy)
  | 0, _, _, _ => default
  | n1 + 1, J, U, iQ => (bif (decide ((iQ.length : Int) > 1)) then (bif ((Int.tmod J 2) == 1) then Ki a0 n1 (W (Int.tdiv J 2)) (U ++ ([(Zy.mk (nth iQ (W (J - 1)).toNat) true)] : List Zy)) (WA a0 iQ) else (bif (decide ((W (J + 1)) < (iQ.length : Int))) then Ki a0 n1 (W (Int.tdiv J 2)) (U ++ ([(Zy.mk (nth iQ (W (J + 1)).toNat) false)] : List Zy)) (WA a0 iQ) else Ki a0 n1 (W (Int.tdiv J 2)) U (WA a0 iQ))) else (U))
def K9 (a0 : Int) (a1 : List Int) (a2 : Int) : List Zy := (bif ((decide ((a1.length : Int) > 16)) || (!(YN a2 0 (W ((a1.length : Int) - 1))))) then ([] : List Zy) else (match Ki a0 (a1.length + 1) a2 ([] : List Zy) a1 with | z1_0 => z1_0))
def Qm (a0 : Za) (a1 : ZK) : Za × Bool := (bif (!(yj (Za.mk a0.ZL (a0.Zf ++ ([a1] : List ZK))))) then (a0, false) else ((Za.mk a0.ZL (a0.Zf ++ ([a1] : List ZK))), true))
def JE (a0 : ZC) (a1 : Int) (a2 : List ZW) : Nat -> Bool -> Nat -> List ZM -> Bool × (List ZM)
  | 0, _, _, _ => (default, default)
  | n1 + 1, J, U, iQ => (bif ((decide ((U : Int) < (a0.ZD.length : Int))) && J) then JE a0 a1 a2 n1 (Qm (nth a0.ZD U).ZJ (ZK.mk ((nth a0.ZD U).ZJ.ZL.length : Int) a1 (KW a1 (YB a0 a1)) (K9 a1 (YB a0 a1) (U : Int)) a2)).2 (U + 1) (iQ.set U (ZM.mk (nth iQ U).Id (nth iQ U).XB (nth iQ U).Doc (nth iQ U).Sig (Qm (nth a0.ZD U).ZJ (ZK.mk ((nth a0.ZD U).ZJ.ZL.length : Int) a1 (KW a1 (YB a0 a1)) (K9 a1 (YB a0 a1) (U : Int)) a2)).1)) else ((J, iQ)))
def Qg (a0 : ZC) (a1 : Int) (a2 : List ZW) : ZC × Bool := (match JE a0 a1 a2 (a0.ZD.length + 1) ((JP a0) && (decide ((a0.ZD.length : Int) > 0))) 0 a0.ZD with | (z1_0, z1_1) => (bif ((!z1_0) || (!(JP (ZC.mk a0.Id z1_1)))) then (a0, false) else ((ZC.mk a0.Id z1_1), true)))
def qj (a0 : ZH) (a2 : List Int) : Nat -> Nat -> List Int -> (List Int)
  | 0, _, _ => default
  | n2 + 1, iZ, gN => (bif (decide ((iZ : Int) < (a2.length : Int))) then qj a0 a2 n2 (iZ + 1) (gN.set (Ze a0.Frame.ZE (nth a2 iZ)).toNat (W ((nth a0.YX (Ze a0.Frame.ZE (nth a2 iZ)).toNat) + 1))) else (gN))
def zm (a0 : ZH) (a1 : Int) (a2 : List Int) (a3 : Int) : Nat -> List ZW -> Nat -> Sum (ZH × Bool) (List ZW)
  | 0, _, _ => .inr default
  | n1 + 1, J, U => (bif (decide ((U : Int) < (a2.length : Int))) then (bif (P0 a0.YJ (nth a2 U)) then (bif (!(KJ a0.Frame.Zm a0.Frame.ZE (ZW.mk (nth a2 U) (nth a0.YX (Ze a0.Frame.ZE (nth a2 U)).toNat) (ME 10000 (OR 0 (W (a0.Frame.Now + a3)))) (z5 (nth a0.ZA a1.toNat) (Zg a0.Frame.Methods a0.Frame.Now)) 0)).2) then (.inl (a0, false)) else zm a0 a1 a2 a3 n1 (J ++ ([(KJ a0.Frame.Zm a0.Frame.ZE (ZW.mk (nth a2 U) (nth a0.YX (Ze a0.Frame.ZE (nth a2 U)).toNat) (ME 10000 (OR 0 (W (a0.Frame.Now + a3)))) (z5 (nth a0.ZA a1.toNat) (Zg a0.Frame.Methods a0.Frame.Now)) 0)).1] : List ZW)) (U + 1)) else (bif (!(KJ a0.Frame.Zm a0.Frame.ZE (ZW.mk (nth a2 U) (nth a0.YX (Ze a0.Frame.ZE (nth a2 U)).toNat) a0.Frame.Now (z5 (nth a0.ZA a1.toNat) (Zg a0.Frame.Methods a0.Frame.Now)) 0)).2) then (.inl (a0, false)) else zm a0 a1 a2 a3 n1 (J ++ ([(KJ a0.Frame.Zm a0.Frame.ZE (ZW.mk (nth a2 U) (nth a0.YX (Ze a0.Frame.ZE (nth a2 U)).toNat) a0.Frame.Now (z5 (nth a0.ZA a1.toNat) (Zg a0.Frame.Methods a0.Frame.Now)) 0)).1] : List ZW)) (U + 1))) else (.inr J))
def xn (a0 : ZH) (a1 : Int) (a2 : List Int) (a3 : Int) : ZH × Bool := (bif ((((!(Qo a0 a1)) || (decide ((Zg a0.Frame.Methods a0.Frame.Now) < 0))) || (!(zY a0 a2))) || (!(YN a3 (-10000) 10000))) then (a0, false) else (match zm a0 a1 a2 a3 (a2.length + 1) ([] : List ZW) 0 with | .inl r1 => r1 | .inr z1_0 => (bif (!(Qg (nth a0.ZA a1.toNat) (Zg a0.Frame.Methods a0.Frame.Now) z1_0).2) then (a0, false) else (match qj a0 a2 (a2.length + 1) 0 a0.YX with | z2_0 => ((ZH.mk a0.Frame a0.ZN a0.Zl (a0.ZA.set a1.toNat (Qg (nth a0.ZA a1.toNat) (Zg a0.Frame.Methods a0.Frame.Now) z1_0).1) z2_0 a0.YJ a0.Next a0.Z4), true)))))
def xK (a0 : Int) (a1 : ZM) : Nat -> List Int -> Nat -> (List Int)
  | 0, _, _ => default
  | n1 + 1, J, U => (bif (decide ((U : Int) < (a1.ZJ.Zf.length : Int))) then xK a0 a1 n1 (J ++ ([(KT a0 (nth a1.ZJ.Zf U))] : List Int)) (U + 1) else (J))
def kK (a0 : Int) (a1 : ZM) : Int := (match xK a0 a1 (a1.ZJ.Zf.length + 1) ([5, a1.Id, a1.XB, (Qr a0 a1.Doc), (KF a0 a1.ZJ.ZL)] : List Int) 0 with | z1_0 => (KX a0 z1_0))
def WX (a0 : Int) (a1 : List ZM) : Nat -> List Int -> Nat -> (List Int)
  | 0, _, _ => default
  | n1 + 1, J, U => (bif (decide ((U : Int) < (a1.length : Int))) then WX a0 a1 n1 (J ++ ([(kK a0 (nth a1 U))] : List Int)) (U + 1) else (J))
def VN (a0 : Int) (a1 : List ZM) : Int := (match WX a0 a1 (a1.length + 1) ([] : List Int) 0 with | z1_0 => (KW a0 z1_0))
def Jl (a0 : ZC) (a2 : List Int) : Nat -> Nat -> List ZM -> Sum (YP × Bool) (List ZM)
  | 0, _, _ => .inr default
  | n1 + 1, J, U => (bif (decide ((J : Int) < (a2.length : Int))) then (bif (decide ((Yj a0 (nth a2 J)) < 0)) then (.inl ((YP.mk 0 0 ([] : List ZM) 0), false)) else Jl a0 a2 n1 (J + 1) (U ++ ([(nth a0.ZD (Yj a0 (nth a2 J)).toNat)] : List ZM))) else (.inr U))
def Xm (a0 : ZC) (a1 : Int) (a2 : List Int) (a3 : Int) : YP × Bool := (match Jl a0 a2 (a2.length + 1) 0 ([] : List ZM) with | .inl r1 => r1 | .inr z1_0 => (bif ((a2.length : Int) == 0) then ((YP.mk 0 0 ([] : List ZM) 0), false) else ((YP.mk a0.Id a1 z1_0 (VN a3 z1_0)), true)))
def Jv (a0 : YP) : Nat -> Nat -> Sum Bool Unit
  | 0, _ => .inr ()
  | n1 + 1, J => (bif (decide ((J : Int) < (a0.ZD.length : Int))) then (bif (!(Tj (nth a0.ZD J))) then (.inl false) else Jv a0 n1 (J + 1)) else (.inr ()))
def Ky (a0 : YP) (a1 : Int) : Bool := (match Jv a0 (a0.ZD.length + 1) 0 with | .inl r1 => r1 | .inr _ => ((YN (a0.ZD.length : Int) 1 8) && (a0.Xa == (VN a1 a0.ZD))))
def QE (a1 : YP) : Nat -> Bool -> Nat -> Int -> List ZM -> Bool × Int × (List ZM)
  | 0, _, _, _, _ => (default, default, default)
  | n1 + 1, J, U, iQ, iv => (bif ((decide ((U : Int) < (a1.ZD.length : Int))) && J) then QE a1 n1 (Q0 (ZC.mk iQ iv) (nth a1.ZD U)).2 (U + 1) (Q0 (ZC.mk iQ iv) (nth a1.ZD U)).1.Id (Q0 (ZC.mk iQ iv) (nth a1.ZD U)).1.ZD else ((J, iQ, iv)))
def QY (a0 : ZC) (a1 : YP) (a2 : Int) : ZC × Bool := (match QE a1 (a1.ZD.length + 1) ((Ky a1 a2) && (a1.To == a0.Id)) 0 a0.Id a0.ZD with | (z1_0, z1_1, z1_2) => (bif (!z1_0) then (a0, false) else ((ZC.mk z1_1 z1_2), true)))
def Kf (a0 : ZC) (a1 : Int) : Nat -> Nat -> List ZM -> (List ZM)
  | 0, _, _ => default
  | n1 + 1, J, U => (bif (decide ((J : Int) < (a0.ZD.length : Int))) then (bif ((J : Int) != (Yj a0 a1)) then Kf a0 a1 n1 (J + 1) (U ++ ([(nth a0.ZD J)] : List ZM)) else Kf a0 a1 n1 (J + 1) U) else (U))
def zo (a0 : ZC) (a1 : Int) : ZC × Bool := (bif (decide ((Yj a0 a1) < 0)) then (a0, false) else (match Kf a0 a1 (a0.ZD.length + 1) 0 ([] : List ZM) with | z1_0 => ((ZC.mk a0.Id z1_0), true)))
def JB (a0 : ZC) (a1 : ZC) (a2 : List Int) (a3 : Int) : Nat -> Bool -> Nat -> Int -> List ZM -> Bool × Int × (List ZM)
  | 0, _, _, _, _ => (default, default, default)
  | n1 + 1, J, U, iQ, iv => (bif (((decide ((U : Int) < (a2.length : Int))) && (Xm a0 a1.Id a2 a3).2) && J) then JB a0 a1 a2 a3 n1 (zo (ZC.mk iQ iv) (nth a2 U)).2 (U + 1) (zo (ZC.mk iQ iv) (nth a2 U)).1.Id (zo (ZC.mk iQ iv) (nth a2 U)).1.ZD else ((J, iQ, iv)))
def Qq (a0 : ZC) (a1 : ZC) (a2 : List Int) (a3 : Int) : ZC × ZC × Bool := (match JB a0 a1 a2 a3 (a2.length + 1) (QY a1 (Xm a0 a1.Id a2 a3).1 a3).2 0 a0.Id a0.ZD with | (z1_0, z1_1, z1_2) => (bif ((!(Xm a0 a1.Id a2 a3).2) || (!z1_0)) then (a0, a1, false) else ((ZC.mk z1_1 z1_2), (QY a1 (Xm a0 a1.Id a2 a3).1 a3).1, true)))
def jI (a0 : ZH) (a1 : Int) (a2 : Int) (a3 : Int) : ZH × Bool := (bif ((((!(Qo a0 a1)) || (!(Qo a0 a2))) || (a1 == a2)) || (decide ((Zg a0.Frame.Methods a0.Frame.Now) < 0))) then (a0, false) else ((ZH.mk a0.Frame a0.ZN a0.Zl ((a0.ZA.set a1.toNat (Qq (nth a0.ZA a1.toNat) (nth a0.ZA a2.toNat) ([a3] : List Int) (Zg a0.Frame.Methods a0.Frame.Now)).1).set a2.toNat (Qq (nth a0.ZA a1.toNat) (nth a0.ZA a2.toNat) ([a3] : List Int) (Zg a0.Frame.Methods a0.Frame.Now)).2.1) a0.YX a0.YJ a0.Next a0.Z4), (Qq (nth a0.ZA a1.toNat) (nth a0.ZA a2.toNat) ([a3] : List Int) (Zg a0.Frame.Methods a0.Frame.Now)).2.2))
def K7 (a0 : ZC) (a1 : Int) : Nat -> Int -> Nat -> List ZM -> Int × (List ZM)
  | 0, _, _, _ => (default, default)
  | n1 + 1, J, U, iQ => (bif (decide ((U : Int) < (a0.ZD.length : Int))) then (bif (decide ((nth a0.ZD U).XB < a1)) then K7 a0 a1 n1 (W (J + 1)) (U + 1) iQ else K7 a0 a1 n1 J (U + 1) (iQ ++ ([(nth a0.ZD U)] : List ZM))) else ((J, iQ)))
def yu (a0 : ZC) (a1 : Int) : ZC × Int := (match K7 a0 a1 (a0.ZD.length + 1) 0 0 ([] : List ZM) with | (z1_0, z1_1) => ((ZC.mk a0.Id z1_1), z1_0))
def yr (a0 : ZH) (a1 : Int) : ZH × Bool := (bif (!(Qo a0 a1)) then (a0, false) else ((ZH.mk a0.Frame a0.ZN a0.Zl (a0.ZA.set a1.toNat (yu (nth a0.ZA a1.toNat) a0.Frame.Now).1) a0.YX a0.YJ a0.Next a0.Z4), true))
def z9 (a0 : List Zj) (a1 : Int) : Nat -> Nat -> Sum Int Unit
  | 0, _ => .inr ()
  | n1 + 1, J => (bif (decide ((J : Int) < (a0.length : Int))) then (bif ((nth a0 J).Id == a1) then (.inl (J : Int)) else z9 a0 a1 n1 (J + 1)) else (.inr ()))
def zZ (a0 : List Zj) (a1 : Int) : Int := (match z9 a0 a1 (a0.length + 1) 0 with | .inl r1 => r1 | .inr _ => (-1))
def Tg (a0 : List Zj) (a1 : Int) : Int := (bif (decide ((zZ a0 a1) < 0)) then 0 else (nth a0 (zZ a0 a1).toNat).Si)
def jF (a0 : Zq) (a1 : Int) : Bool := ((decide ((Ye a0.Zm a1) >= 0)) && (decide (a0.Now >= (Tg a0.Methods (nth a0.Zm (Ye a0.Zm a1).toNat).Method))))
def xZ (a0 : ZH) (a1 : Int) (a2 : Int) (a3 : ZT) : ZH × Bool := (bif ((!(Qo a0 a1)) || (!(jF a0.Frame a2))) then (a0, false) else (bif (!(Xv a0 a2 a3 0 10000).2) then (a0, false) else (bif (!(Q0 (nth a0.ZA a1.toNat) (Xv a0 a2 a3 0 10000).1).2) then (a0, false) else ((ZH.mk a0.Frame a0.ZN a0.Zl (a0.ZA.set a1.toNat (Q0 (nth a0.ZA a1.toNat) (Xv a0 a2 a3 0 10000).1).1) a0.YX a0.YJ (W (a0.Next + 1)) (a0.Z4 ++ ([a0.Next] : List Int))), true))))
def Qb (a0 : ZH) : Nat -> List Int -> Nat -> (List Int)
  | 0, _, _ => default
  | n1 + 1, J, U => (bif (decide ((U : Int) < (a0.Frame.ZE.length : Int))) then (bif ((P0 a0.YJ (nth a0.Frame.ZE U).Id) || (jF a0.Frame (nth a0.Frame.ZE U).Key)) then Qb a0 n1 (J ++ ([(nth a0.Frame.ZE U).Id] : List Int)) (U + 1) else Qb a0 n1 J (U + 1)) else (J))
def Yd (a0 : ZH) : List Int := (match Qb a0 (a0.Frame.ZE.length + 1) ([] : List Int) 0 with | z1_0 => z1_0)
def z6 (a0 : ZH) (a1 : Int) (a2 : Int) : Nat -> Nat -> List ZW -> Sum (ZH × Bool) (List ZW)
  | 0, _, _ => .inr default
  | n1 + 1, J, U => (bif (decide ((J : Int) < ((Yd a0).length : Int))) then (bif (!(KJ a0.Frame.Zm a0.Frame.ZE (ZW.mk (nth (Yd a0) J) 0 a2 (nth (YB (nth a0.ZA (ZF a0 a1).1.toNat) (Zg a0.Frame.Methods a0.Frame.Now)) (ZF a0 a1).2.toNat) 0)).2) then (.inl (a0, false)) else z6 a0 a1 a2 n1 (J + 1) (U ++ ([(KJ a0.Frame.Zm a0.Frame.ZE (ZW.mk (nth (Yd a0) J) 0 a2 (nth (YB (nth a0.ZA (ZF a0 a1).1.toNat) (Zg a0.Frame.Methods a0.Frame.Now)) (ZF a0 a1).2.toNat) 0)).1] : List ZW))) else (.inr U))
def zE (a0 : ZH) (a1 : Int) (a2 : Int) : ZH × Bool := (bif ((((decide ((ZF a0 a1).1 < 0)) || (decide ((Zg a0.Frame.Methods a0.Frame.Now) < 0))) || (!(P0 a0.Z4 a1))) || (((Yd a0).length : Int) == 0)) then (a0, false) else (match z6 a0 a1 a2 ((Yd a0).length + 1) 0 ([] : List ZW) with | .inl r1 => r1 | .inr z1_0 => ((ZH.mk a0.Frame a0.ZN a0.Zl (a0.ZA.set (ZF a0 a1).1.toNat (ZC.mk (nth a0.ZA (ZF a0 a1).1.toNat).Id ((nth a0.ZA (ZF a0 a1).1.toNat).ZD.set (ZF a0 a1).2.toNat (ZM.mk (nth (nth a0.ZA (ZF a0 a1).1.toNat).ZD (ZF a0 a1).2.toNat).Id (nth (nth a0.ZA (ZF a0 a1).1.toNat).ZD (ZF a0 a1).2.toNat).XB (nth (nth a0.ZA (ZF a0 a1).1.toNat).ZD (ZF a0 a1).2.toNat).Doc (nth (nth a0.ZA (ZF a0 a1).1.toNat).ZD (ZF a0 a1).2.toNat).Sig (Qm (nth (nth a0.ZA (ZF a0 a1).1.toNat).ZD (ZF a0 a1).2.toNat).ZJ (ZK.mk ((nth (nth a0.ZA (ZF a0 a1).1.toNat).ZD (ZF a0 a1).2.toNat).ZJ.ZL.length : Int) (Zg a0.Frame.Methods a0.Frame.Now) (nth (YB (nth a0.ZA (ZF a0 a1).1.toNat) (Zg a0.Frame.Methods a0.Frame.Now)) (ZF a0 a1).2.toNat) ([] : List Zy) z1_0)).1)))) a0.YX a0.YJ a0.Next a0.Z4), (Qm (nth (nth a0.ZA (ZF a0 a1).1.toNat).ZD (ZF a0 a1).2.toNat).ZJ (ZK.mk ((nth (nth a0.ZA (ZF a0 a1).1.toNat).ZD (ZF a0 a1).2.toNat).ZJ.ZL.length : Int) (Zg a0.Frame.Methods a0.Frame.Now) (nth (YB (nth a0.ZA (ZF a0 a1).1.toNat) (Zg a0.Frame.Methods a0.Frame.Now)) (ZF a0 a1).2.toNat) ([] : List Zy) z1_0)).2)))
def jK (a0 : ZH) (a1 : Int) (a2 : Int) : ZH × Bool := (bif ((decide ((ZF a0 a1).1 < 0)) || (decide (((nth (nth a0.ZA (ZF a0 a1).1.toNat).ZD (ZF a0 a1).2.toNat).ZJ.ZL.length : Int) < 2))) then (a0, false) else (bif (((!(Zb (nth (nth (nth a0.ZA (ZF a0 a1).1.toNat).ZD (ZF a0 a1).2.toNat).ZJ.ZL 1)).2) || (decide ((Zx a0.ZN (Zb (nth (nth (nth a0.ZA (ZF a0 a1).1.toNat).ZD (ZF a0 a1).2.toNat).ZJ.ZL 1)).1.Zi) < 0))) || (!(jF a0.Frame (nth a0.ZN (Zx a0.ZN (Zb (nth (nth (nth a0.ZA (ZF a0 a1).1.toNat).ZD (ZF a0 a1).2.toNat).ZJ.ZL 1)).1.Zi).toNat).Z2))) then (a0, false) else (bif (!(Ya a0.Frame.Zm (Z0.mk (Zb (nth (nth (nth a0.ZA (ZF a0 a1).1.toNat).ZD (ZF a0 a1).2.toNat).ZJ.ZL 1)).1.Zi a2 (-1) (nth a0.ZN (Zx a0.ZN (Zb (nth (nth (nth a0.ZA (ZF a0 a1).1.toNat).ZD (ZF a0 a1).2.toNat).ZJ.ZL 1)).1.Zi).toNat).Z2 0)).2) then (a0, false) else ((ZH.mk a0.Frame a0.ZN a0.Zl (a0.ZA.set (ZF a0 a1).1.toNat (Xx (nth a0.ZA (ZF a0 a1).1.toNat) a1 (Y0 (Ya a0.Frame.Zm (Z0.mk (Zb (nth (nth (nth a0.ZA (ZF a0 a1).1.toNat).ZD (ZF a0 a1).2.toNat).ZJ.ZL 1)).1.Zi a2 (-1) (nth a0.ZN (Zx a0.ZN (Zb (nth (nth (nth a0.ZA (ZF a0 a1).1.toNat).ZD (ZF a0 a1).2.toNat).ZJ.ZL 1)).1.Zi).toNat).Z2 0)).1)).1) a0.YX a0.YJ a0.Next a0.Z4), (Xx (nth a0.ZA (ZF a0 a1).1.toNat) a1 (Y0 (Ya a0.Frame.Zm (Z0.mk (Zb (nth (nth (nth a0.ZA (ZF a0 a1).1.toNat).ZD (ZF a0 a1).2.toNat).ZJ.ZL 1)).1.Zi a2 (-1) (nth a0.ZN (Zx a0.ZN (Zb (nth (nth (nth a0.ZA (ZF a0 a1).1.toNat).ZD (ZF a0 a1).2.toNat).ZJ.ZL 1)).1.Zi).toNat).Z2 0)).1)).2))))
def XL (a0 : ZH) (a1 : Zp) : ZH × Bool := (bif (a1.Kind == 1) then ((qy a0 a1.A).1, (qy a0 a1.A).2) else (bif (a1.Kind == 2) then ((jM a0 a1.A a1.B a1.Doc a1.C a1.D).1, (jM a0 a1.A a1.B a1.Doc a1.C a1.D).2) else (bif (a1.Kind == 3) then ((yg a0 a1.A).1, (yg a0 a1.A).2) else (bif (a1.Kind == 4) then ((yh a0 a1.A).1, (yh a0 a1.A).2) else (bif (a1.Kind == 5) then ((xn a0 a1.A a1.Ids a1.B).1, (xn a0 a1.A a1.Ids a1.B).2) else (bif (a1.Kind == 6) then ((jI a0 a1.A a1.B a1.C).1, (jI a0 a1.A a1.B a1.C).2) else (bif (a1.Kind == 7) then ((yr a0 a1.A).1, (yr a0 a1.A).2) else (bif (a1.Kind == 8) then ((xZ a0 a1.A a1.B a1.Doc).1, (xZ a0 a1.A a1.B a1.Doc).2) else (bif (a1.Kind == 9) then ((zE a0 a1.A a1.B).1, (zE a0 a1.A a1.B).2) else (bif (a1.Kind == 10) then ((jK a0 a1.A a1.B).1, (jK a0 a1.A a1.B).2) else (a0, false)))))))))))
def zw (a1 : List Zp) : Nat -> Nat -> List YZ -> List ZR -> List Zj -> Int -> Int -> List Z1 -> List Int -> List ZC -> List Int -> List Int -> Int -> List Int -> (List YZ) × (List ZR) × (List Zj) × Int × Int × (List Z1) × (List Int) × (List ZC) × (List Int) × (List Int) × Int × (List Int)
  | 0, _, _, _, _, _, _, _, _, _, _, _, _, _ => (default, default, default, default, default, default, default, default, default, default, default, default)
  | n1 + 1, J, U, iQ, iv, gH, gI, gC, gD, gE, gF, iy, hC, iz => (bif (decide ((J : Int) < (a1.length : Int))) then zw a1 n1 (J + 1) (XL (ZH.mk (Zq.mk U iQ iv gH gI) gC gD gE gF iy hC iz) (nth a1 J)).1.Frame.Zm (XL (ZH.mk (Zq.mk U iQ iv gH gI) gC gD gE gF iy hC iz) (nth a1 J)).1.Frame.ZE (XL (ZH.mk (Zq.mk U iQ iv gH gI) gC gD gE gF iy hC iz) (nth a1 J)).1.Frame.Methods (XL (ZH.mk (Zq.mk U iQ iv gH gI) gC gD gE gF iy hC iz) (nth a1 J)).1.Frame.KZ (XL (ZH.mk (Zq.mk U iQ iv gH gI) gC gD gE gF iy hC iz) (nth a1 J)).1.Frame.Now (XL (ZH.mk (Zq.mk U iQ iv gH gI) gC gD gE gF iy hC iz) (nth a1 J)).1.ZN (XL (ZH.mk (Zq.mk U iQ iv gH gI) gC gD gE gF iy hC iz) (nth a1 J)).1.Zl (XL (ZH.mk (Zq.mk U iQ iv gH gI) gC gD gE gF iy hC iz) (nth a1 J)).1.ZA (XL (ZH.mk (Zq.mk U iQ iv gH gI) gC gD gE gF iy hC iz) (nth a1 J)).1.YX (XL (ZH.mk (Zq.mk U iQ iv gH gI) gC gD gE gF iy hC iz) (nth a1 J)).1.YJ (XL (ZH.mk (Zq.mk U iQ iv gH gI) gC gD gE gF iy hC iz) (nth a1 J)).1.Next (XL (ZH.mk (Zq.mk U iQ iv gH gI) gC gD gE gF iy hC iz) (nth a1 J)).1.Z4 else ((U, iQ, iv, gH, gI, gC, gD, gE, gF, iy, hC, iz)))
def Ku (a0 : ZH) (a1 : List Zp) : ZH := (match zw a1 (a1.length + 1) 0 a0.Frame.Zm a0.Frame.ZE a0.Frame.Methods a0.Frame.KZ a0.Frame.Now a0.ZN a0.Zl a0.ZA a0.YX a0.YJ a0.Next a0.Z4 with | (z1_0, z1_1, z1_2, z1_3, z1_4, z1_5, z1_6, z1_7, z1_8, z1_9, z1_10, z1_11) => (ZH.mk (Zq.mk z1_0 z1_1 z1_2 z1_3 z1_4) z1_5 z1_6 z1_7 z1_8 z1_9 z1_10 z1_11))
def Rl (a0 : Zq) : Zq := a0
def Ov (a0 : List Int) : List Int := a0
def Vt (a0 : ZT) : ZT := a0
def PE (a0 : ZO) : ZO := a0
def ju (a0 : List ZO) : Nat -> List ZO -> Nat -> (List ZO)
  | 0, _, _ => default
  | n1 + 1, J, U => (bif (decide ((U : Int) < (a0.length : Int))) then ju a0 n1 (J ++ ([(nth a0 U)] : List ZO)) (U + 1) else (J))
def W5 (a0 : List ZO) : List ZO := (match ju a0 (a0.length + 1) ([] : List ZO) 0 with | z1_0 => z1_0)
def SS (a0 : List ZW) : List ZW := a0
def Uv (a0 : ZK) : ZK := a0
def kN (a0 : Za) : Nat -> Nat -> List ZK -> (List ZK)
  | 0, _, _ => default
  | n1 + 1, J, U => (bif (decide ((J : Int) < (a0.Zf.length : Int))) then kN a0 n1 (J + 1) (U ++ ([(nth a0.Zf J)] : List ZK)) else (U))
def VK (a0 : Za) : Za := (match kN a0 (a0.Zf.length + 1) 0 ([] : List ZK) with | z1_0 => (Za.mk a0.ZL z1_0))
def NG (a0 : ZM) : ZM := a0
def qu (a0 : ZC) : Nat -> Nat -> List ZM -> (List ZM)
  | 0, _, _ => default
  | n1 + 1, J, U => (bif (decide ((J : Int) < (a0.ZD.length : Int))) then qu a0 n1 (J + 1) (U ++ ([(nth a0.ZD J)] : List ZM)) else (U))
def WC (a0 : ZC) : ZC := (match qu a0 (a0.ZD.length + 1) 0 ([] : List ZM) with | z1_0 => (ZC.mk a0.Id z1_0))
def WO (a0 : ZH) : Nat -> Nat -> List ZC -> (List ZC)
  | 0, _, _ => default
  | n1 + 1, J, U => (bif (decide ((J : Int) < (a0.ZA.length : Int))) then WO a0 n1 (J + 1) (U ++ ([(nth a0.ZA J)] : List ZC)) else (U))
def Uf (a0 : ZH) : ZH := (match WO a0 (a0.ZA.length + 1) 0 ([] : List ZC) with | z1_0 => (ZH.mk a0.Frame a0.ZN a0.Zl z1_0 a0.YX a0.YJ a0.Next a0.Z4))
def Zn (a0 : Int) (a1 : Int) (a2 : Int) : Bool := ((decide (a1 <= a0)) && (decide (a0 <= a2)))
def ya (a0 : ZH) (a1 : Int) : ZH × Bool := (bif ((!(Zn a1 0 100)) || (decide ((W (a0.Frame.Now + a1)) > 10000))) then (a0, false) else ((ZH.mk (Zq.mk a0.Frame.Zm a0.Frame.ZE a0.Frame.Methods a0.Frame.KZ (W (a0.Frame.Now + a1))) a0.ZN a0.Zl a0.ZA a0.YX a0.YJ a0.Next a0.Z4), true))
def ja (a0 : List YZ) (a1 : Int) : Nat -> Nat -> Sum Int Unit
  | 0, _ => .inr ()
  | n1 + 1, J => (bif (decide ((J : Int) < (a0.length : Int))) then (bif ((nth a0 J).Number == a1) then (.inl (J : Int)) else ja a0 a1 n1 (J + 1)) else (.inr ()))
def YD (a0 : List YZ) (a1 : Int) : Int := (match ja a0 a1 (a0.length + 1) 0 with | .inl r1 => r1 | .inr _ => (-1))
def z7 (a0 : List Zj) (a1 : Int) : Nat -> Int -> Nat -> Int
  | 0, _, _ => default
  | n1 + 1, J, U => (bif (decide ((U : Int) < (a0.length : Int))) then (bif (((decide ((nth a0 U).Nc <= a1)) && (decide (a1 < (nth a0 U).Ends))) && ((decide (J < 0)) || (decide ((nth a0 U).Ends > (nth a0 J.toNat).Ends)))) then z7 a0 a1 n1 (U : Int) (U + 1) else z7 a0 a1 n1 J (U + 1)) else (J))
def ZP (a0 : List Zj) (a1 : Int) : Int := (match z7 a0 a1 (a0.length + 1) (-1) 0 with | z1_0 => (bif (decide (z1_0 < 0)) then (-1) else (nth a0 z1_0.toNat).Id))
def YR (a0 : ZH) (a1 : Int) : Bool := (Zn a1 0 (W ((a0.ZA.length : Int) - 1)))
def yB (a0 : ZT) : Nat -> Nat -> Sum Bool Unit
  | 0, _ => .inr ()
  | n1 + 1, J => (bif (decide ((J : Int) < (a0.ZU.length : Int))) then (bif ((decide (((nth a0.ZU J).size : Int) > 40)) || (!(Zn (nth a0.Zk J) 1 1000000000000))) then (.inl false) else yB a0 n1 (J + 1)) else (.inr ()))
def zg (a0 : ZT) : Bool := (bif (((!(Zn a0.qn 0 999)) || (!(Zn (a0.ZU.length : Int) 1 6))) || ((a0.Zk.length : Int) != (a0.ZU.length : Int))) then false else (match yB a0 (a0.ZU.length + 1) 0 with | .inl r1 => r1 | .inr _ => true))
def xo (a0 : List UInt8) : Nat -> List Int -> Nat -> (List Int)
  | 0, _, _ => default
  | n1 + 1, J, U => (bif (decide ((U : Int) < (a0.length : Int))) then xo a0 n1 (J ++ ([(W ((nth a0 U).toNat : Int))] : List Int)) (U + 1) else (J))
def kr (a0 : List UInt8) : List Int := (match xo a0 (a0.length + 1) ([] : List Int) 0 with | z1_0 => z1_0)
def Ak (a0 : Int) (a1 : Int) : Int := (bif (!(Zn a1 1 1000000000000)) then 0 else (Int.tmod (W ((Int.tmod a0 a1) + a1)) a1))
def Rp (a0 : List Int) : Nat -> Int -> Nat -> Int
  | 0, _, _ => default
  | n1 + 1, J, U => (bif (decide ((U : Int) < (a0.length : Int))) then Rp a0 n1 (Int.tmod (W ((W ((W (J * 1000003)) + (Ak (nth a0 U) 2147483647))) + 13)) 2147483647) (U + 1) else (J))
def Lh (a0 : List Int) : Int := (match Rp a0 (a0.length + 1) 11 0 with | z1_0 => z1_0)
def KU (a0 : Int) (a1 : List Int) : Int := (Lh (([7, a0] : List Int) ++ a1))
def kL (a0 : Int) (a1 : ByteArray) (a2 : Int) : Int := (KU a0 (([a2] : List Int) ++ (kr a1.data.toList)))
def qd (a0 : Int) (a1 : ZT) : Nat -> List Int -> Nat -> (List Int)
  | 0, _, _ => default
  | n1 + 1, J, U => (bif (decide ((U : Int) < (a1.ZU.length : Int))) then qd a0 a1 n1 (J ++ ([(kL a0 (nth a1.ZU U) (nth a1.Zk U))] : List Int)) (U + 1) else (J))
def Yc (a0 : Int) (a1 : ZT) : Int := (bif (!(zg a1)) then (-1) else (match qd a0 a1 (a1.ZU.length + 1) ([a1.qn] : List Int) 0 with | z1_0 => (KU a0 z1_0)))
def QD (a0 : Zc) : List Int := ([104, a0.Key, a0.Zi, a0.Method, a0.Xa, a0.qX, a0.Org, a0.qW, a0.Wy] : List Int)
def Wd (a0 : Int) (a1 : List Int) : Int := (Lh ((([a0] : List Int) ++ a1) ++ ([a0] : List Int)))
def V5 (a0 : YZ) (a1 : List Int) : Int := (Wd a0.V8 (([a0.Method] : List Int) ++ a1))
def yz (a0 : List YZ) (a1 : Int) (a2 : List Int) : Int × Bool := (bif (decide ((YD a0 a1) < 0)) then (0, false) else ((V5 (nth a0 (YD a0 a1).toNat) a2), true))
def qb (a0 : Zc) : Bool := ((((((((Zn a0.Key 1 99) && (Zn a0.Zi 1 999)) && (Zn a0.Method 0 99)) && (Zn a0.Org 0 99)) && (Zn a0.qX 1 3)) && (Zn a0.Xa 0 1000000000000)) && (Zn a0.qW 0 1000000000000)) && (Zn a0.Wy 0 1000000000000))
def Y5 (a0 : List YZ) (a1 : Zc) : Zc × Bool := (bif ((!(qb a1)) || (!(yz a0 a1.Key (QD a1)).2)) then ((Zc.mk 0 0 0 0 0 0 0 0 0), false) else ((Zc.mk a1.Key a1.Zi a1.Method a1.Xa a1.qX a1.Org a1.qW a1.Wy (yz a0 a1.Key (QD a1)).1), true))
def Qd (a0 : Zc) : ZO := (ZO.mk a0.Key (QD a0) a0.Mark)
def xR (a0 : Z1) : List Int := ([101, a0.Zi, a0.Key, a0.WY, a0.UM, a0.To, a0.Z2] : List Int)
def JL (a0 : Z1) : ZO := (ZO.mk a0.Z2 (xR a0) a0.Mark)
def yX (a0 : ZC) (a1 : Int) : Nat -> Nat -> Sum Int Unit
  | 0, _ => .inr ()
  | n1 + 1, J => (bif (decide ((J : Int) < (a0.ZD.length : Int))) then (bif ((nth a0.ZD J).Id == a1) then (.inl (J : Int)) else yX a0 a1 n1 (J + 1)) else (.inr ()))
def ZX (a0 : ZC) (a1 : Int) : Int := (match yX a0 a1 (a0.ZD.length + 1) 0 with | .inl r1 => r1 | .inr _ => (-1))
def TV (a0 : Int) : Bool := (Zn a0 0 10000)
def WE (a0 : List Int) (a1 : List Int) : Nat -> Nat -> Sum Bool Unit
  | 0, _ => .inr ()
  | n1 + 1, J => (bif (decide ((J : Int) < (a0.length : Int))) then (bif ((nth a0 J) != (nth a1 J)) then (.inl false) else WE a0 a1 n1 (J + 1)) else (.inr ()))
def UX (a0 : List Int) (a1 : List Int) : Bool := (bif ((a0.length : Int) != (a1.length : Int)) then false else (match WE a0 a1 (a0.length + 1) 0 with | .inl r1 => r1 | .inr _ => true))
def y7 (a0 : ZO) (a1 : ZO) : Bool := (((a0.Key == a1.Key) && (a0.Mark == a1.Mark)) && (UX a0.Ys a1.Ys))
def W0 (a0 : List ZO) (a1 : ZO) : Nat -> Nat -> Sum Bool Unit
  | 0, _ => .inr ()
  | n1 + 1, J => (bif (decide ((J : Int) < (a0.length : Int))) then (bif (y7 (nth a0 J) a1) then (.inl true) else W0 a0 a1 n1 (J + 1)) else (.inr ()))
def V4 (a0 : List ZO) (a1 : ZO) : Bool := (match W0 a0 a1 (a0.length + 1) 0 with | .inl r1 => r1 | .inr _ => false)
def qN (a0 : Za) : Nat -> Nat -> Sum Bool Unit
  | 0, _ => .inr ()
  | n2 + 1, iZ => (bif (decide ((iZ : Int) < (a0.Zf.length : Int))) then (bif ((!(Zn (nth a0.Zf iZ).Count 1 (a0.ZL.length : Int))) || ((decide ((iZ : Int) > 0)) && (decide ((nth a0.Zf iZ).Count < (nth a0.Zf (iZ - 1)).Count)))) then (.inl false) else qN a0 n2 (iZ + 1)) else (.inr ()))
def qS (a0 : Za) : Nat -> Nat -> Sum Bool Unit
  | 0, _ => .inr ()
  | n1 + 1, J => (bif (decide ((J : Int) < (a0.ZL.length : Int))) then (bif (V4 (a0.ZL.take J) (nth a0.ZL J)) then (.inl false) else qS a0 n1 (J + 1)) else (.inr ()))
def zp (a0 : Za) : Bool := (bif ((!(Zn (a0.ZL.length : Int) 1 12)) || (decide ((a0.Zf.length : Int) > 8))) then false else (match qS a0 (a0.ZL.length + 1) 0 with | .inl r1 => r1 | .inr _ => (match qN a0 (a0.Zf.length + 1) 0 with | .inl r2 => r2 | .inr _ => true)))
def T9 (a0 : ZM) : Bool := (((((Zn a0.Id 1 999) && (TV a0.XB)) && (zg a0.Doc)) && (zp a0.ZJ)) && (y7 (nth a0.ZJ.ZL 0) (Qd a0.Sig)))
def qh (a0 : ZC) : Nat -> Nat -> Sum Bool Unit
  | 0, _ => .inr ()
  | n1 + 1, J => (bif (decide ((J : Int) < (a0.ZD.length : Int))) then (bif ((!(T9 (nth a0.ZD J))) || ((decide ((J : Int) > 0)) && (decide ((nth a0.ZD (J - 1)).Id >= (nth a0.ZD J).Id)))) then (.inl false) else qh a0 n1 (J + 1)) else (.inr ()))
def Jq (a0 : ZC) : Bool := (match qh a0 (a0.ZD.length + 1) 0 with | .inl r1 => r1 | .inr _ => ((Zn a0.Id 0 99) && (decide ((a0.ZD.length : Int) <= 8))))
def XH (a0 : ZC) (a1 : ZM) : Nat -> Nat -> Nat
  | 0, _ => default
  | n1 + 1, J => (bif ((decide ((J : Int) < (a0.ZD.length : Int))) && (decide ((nth a0.ZD J).Id < a1.Id))) then XH a0 a1 n1 (J + 1) else (J))
def XZ (a0 : ZC) (a1 : ZM) : ZC × Bool := (bif ((decide ((ZX a0 a1.Id) >= 0)) || (!(Jq a0))) then (a0, false) else (match XH a0 a1 (a0.ZD.length + 1) 0 with | z1_0 => (bif (!(Jq (ZC.mk a0.Id (((a0.ZD.take z1_0) ++ ([a1] : List ZM)) ++ (a0.ZD.drop z1_0))))) then (a0, false) else ((ZC.mk a0.Id (((a0.ZD.take z1_0) ++ ([a1] : List ZM)) ++ (a0.ZD.drop z1_0))), true))))
def QO (a0 : ZH) (a1 : Int) (a2 : Int) (a3 : ZT) (a4 : Int) (a5 : Int) : Nat -> Nat -> Sum (ZH × Bool) Unit
  | 0, _ => .inr ()
  | n1 + 1, J => (bif (decide ((J : Int) < (a0.ZN.length : Int))) then (bif ((nth a0.ZN J).Key != a2) then QO a0 a1 a2 a3 a4 a5 n1 (J + 1) else (bif ((!(Y5 a0.Frame.Zm (Zc.mk a2 (nth a0.ZN J).Zi (ZP a0.Frame.Methods a0.Frame.Now) (Yc (ZP a0.Frame.Methods a0.Frame.Now) a3) 1 a4 0 0 0)).2) || (!(XZ (nth a0.ZA a1.toNat) (ZM.mk a0.Next a5 a3 (Y5 a0.Frame.Zm (Zc.mk a2 (nth a0.ZN J).Zi (ZP a0.Frame.Methods a0.Frame.Now) (Yc (ZP a0.Frame.Methods a0.Frame.Now) a3) 1 a4 0 0 0)).1 (Za.mk ([(Qd (Y5 a0.Frame.Zm (Zc.mk a2 (nth a0.ZN J).Zi (ZP a0.Frame.Methods a0.Frame.Now) (Yc (ZP a0.Frame.Methods a0.Frame.Now) a3) 1 a4 0 0 0)).1), (JL (nth a0.ZN J))] : List ZO) ([] : List ZK)))).2)) then (.inl (a0, false)) else (.inl ((ZH.mk a0.Frame a0.ZN a0.Zl (a0.ZA.set a1.toNat (XZ (nth a0.ZA a1.toNat) (ZM.mk a0.Next a5 a3 (Y5 a0.Frame.Zm (Zc.mk a2 (nth a0.ZN J).Zi (ZP a0.Frame.Methods a0.Frame.Now) (Yc (ZP a0.Frame.Methods a0.Frame.Now) a3) 1 a4 0 0 0)).1 (Za.mk ([(Qd (Y5 a0.Frame.Zm (Zc.mk a2 (nth a0.ZN J).Zi (ZP a0.Frame.Methods a0.Frame.Now) (Yc (ZP a0.Frame.Methods a0.Frame.Now) a3) 1 a4 0 0 0)).1), (JL (nth a0.ZN J))] : List ZO) ([] : List ZK)))).1) a0.YX a0.YJ (W (a0.Next + 1)) a0.Z4), true)))) else (.inr ()))
def Yx (a0 : ZH) (a1 : Int) (a2 : Int) (a3 : ZT) (a4 : Int) (a5 : Int) : ZH × Bool := (bif (((!(YR a0 a1)) || (decide ((YD a0.Frame.Zm a2) < 0))) || (decide ((ZP a0.Frame.Methods a0.Frame.Now) < 0))) then (a0, false) else (match QO a0 a1 a2 a3 a4 a5 (a0.ZN.length + 1) 0 with | .inl r1 => r1 | .inr _ => (a0, false)))
def yq (a0 : ZH) (a1 : Int) (a2 : Int) (a3 : ZT) (a4 : Int) (a5 : Int) : ZH × Bool := (bif ((decide ((YD a0.Frame.Zm a2) < 0)) || (decide ((nth a0.Frame.Zm (YD a0.Frame.Zm a2).toNat).Vz > a0.Frame.Now))) then (a0, false) else ((Yx a0 a1 a2 a3 a4 a5).1, (Yx a0 a1 a2 a3 a4 a5).2))
def xp (a0 : ZH) (a1 : Int) : Nat -> Nat -> Sum (Int × Int) Unit
  | 0, _ => .inr ()
  | n1 + 1, J => (bif (decide ((J : Int) < (a0.ZA.length : Int))) then (bif (decide ((ZX (nth a0.ZA J) a1) >= 0)) then (.inl ((J : Int), (ZX (nth a0.ZA J) a1))) else xp a0 a1 n1 (J + 1)) else (.inr ()))
def ZV (a0 : ZH) (a1 : Int) : Int × Int := (match xp a0 a1 (a0.ZA.length + 1) 0 with | .inl r1 => r1 | .inr _ => ((-1), (-1)))
def Qf (a0 : ZO) : Int := (bif ((((a0.Ys.length : Int) == 0) || (!(Zn (nth a0.Ys 0) 101 105))) || ((a0.Ys.length : Int) != (nth ([7, 5, 5, 9, 6] : List Int) (W ((nth a0.Ys 0) - 101)).toNat))) then 0 else (nth a0.Ys 0))
def KC (a0 : ZO) : Z1 × Bool := (bif (((Qf a0) != 101) || ((nth a0.Ys 6) != a0.Key)) then ((Z1.mk 0 0 0 0 0 0 0), false) else ((Z1.mk (nth a0.Ys 1) (nth a0.Ys 2) (nth a0.Ys 3) (nth a0.Ys 4) (nth a0.Ys 5) (nth a0.Ys 6) a0.Mark), true))
def ye (a0 : List Z1) (a1 : Int) : Nat -> Nat -> Sum Int Unit
  | 0, _ => .inr ()
  | n1 + 1, J => (bif (decide ((J : Int) < (a0.length : Int))) then (bif ((nth a0 J).Zi == a1) then (.inl (J : Int)) else ye a0 a1 n1 (J + 1)) else (.inr ()))
def XJ (a0 : List Z1) (a1 : Int) : Int := (match ye a0 a1 (a0.length + 1) 0 with | .inl r1 => r1 | .inr _ => (-1))
def YE (a0 : ZH) (a1 : Int) : Int × Int × Bool := (bif ((decide ((ZV a0 a1).1 < 0)) || (decide (((nth (nth a0.ZA (ZV a0 a1).1.toNat).ZD (ZV a0 a1).2.toNat).ZJ.ZL.length : Int) < 2))) then (0, 0, false) else ((ZV a0 a1).1, (XJ a0.ZN (KC (nth (nth (nth a0.ZA (ZV a0 a1).1.toNat).ZD (ZV a0 a1).2.toNat).ZJ.ZL 1)).1.Zi), ((KC (nth (nth (nth a0.ZA (ZV a0 a1).1.toNat).ZD (ZV a0 a1).2.toNat).ZJ.ZL 1)).2 && (decide ((XJ a0.ZN (KC (nth (nth (nth a0.ZA (ZV a0 a1).1.toNat).ZD (ZV a0 a1).2.toNat).ZJ.ZL 1)).1.Zi) >= 0)))))
def Jm (a0 : Z0) : List Int := ([102, a0.Zi, a0.O4, a0.Zl, a0.Z2] : List Int)
def Vu (a0 : Z0) : Bool := ((((Zn a0.Zi 1 999) && (TV a0.O4)) && (Zn a0.Zl (-1) (W (a0.O4 + 1)))) && (Zn a0.Z2 1 99))
def Yy (a0 : List YZ) (a1 : Z0) : Z0 × Bool := (bif ((!(Vu a1)) || (!(yz a0 a1.Z2 (Jm a1)).2)) then ((Z0.mk 0 0 0 0 0), false) else ((Z0.mk a1.Zi a1.O4 a1.Zl a1.Z2 (yz a0 a1.Z2 (Jm a1)).1), true))
def Xc (a0 : Z0) : ZO := (ZO.mk a0.Z2 (Jm a0) a0.Mark)
def J0 (a0 : Za) (a1 : ZO) : Za × Bool := (bif (!(zp (Za.mk (a0.ZL ++ ([a1] : List ZO)) a0.Zf))) then (a0, false) else ((Za.mk (a0.ZL ++ ([a1] : List ZO)) a0.Zf), true))
def Xg (a0 : ZC) (a1 : Int) (a2 : ZO) : ZC × Bool := (bif (decide ((ZX a0 a1) < 0)) then (a0, false) else ((ZC.mk a0.Id (a0.ZD.set (ZX a0 a1).toNat (ZM.mk (nth a0.ZD (ZX a0 a1).toNat).Id (nth a0.ZD (ZX a0 a1).toNat).XB (nth a0.ZD (ZX a0 a1).toNat).Doc (nth a0.ZD (ZX a0 a1).toNat).Sig (J0 (nth a0.ZD (ZX a0 a1).toNat).ZJ a2).1))), (J0 (nth a0.ZD (ZX a0 a1).toNat).ZJ a2).2))
def JK (a0 : ZH) (a1 : Int) (a2 : Int) (a3 : Z0) : ZH × Bool := (bif ((!(Yy a0.Frame.Zm a3).2) || (!(Xg (nth a0.ZA a1.toNat) a2 (Xc (Yy a0.Frame.Zm a3).1)).2)) then (a0, false) else ((ZH.mk a0.Frame a0.ZN a0.Zl (a0.ZA.set a1.toNat (Xg (nth a0.ZA a1.toNat) a2 (Xc (Yy a0.Frame.Zm a3).1)).1) a0.YX a0.YJ a0.Next a0.Z4), true))
def Kb (a0 : ZH) (a1 : Int) : ZH × Bool := (bif ((!(YE a0 a1).2.2) || (decide ((YE a0 a1).2.1 >= (a0.Zl.length : Int)))) then (a0, false) else (bif ((decide ((YD a0.Frame.Zm (nth a0.ZN (YE a0 a1).2.1.toNat).Z2) < 0)) || (decide ((nth a0.Frame.Zm (YD a0.Frame.Zm (nth a0.ZN (YE a0 a1).2.1.toNat).Z2).toNat).Vz > a0.Frame.Now))) then (a0, false) else (bif (decide ((nth a0.Zl (YE a0 a1).2.1.toNat) > (W (a0.Frame.Now + 1)))) then ((JK a0 (YE a0 a1).1 a1 (Z0.mk (nth a0.ZN (YE a0 a1).2.1.toNat).Zi a0.Frame.Now (-1) (nth a0.ZN (YE a0 a1).2.1.toNat).Z2 0)).1, (JK a0 (YE a0 a1).1 a1 (Z0.mk (nth a0.ZN (YE a0 a1).2.1.toNat).Zi a0.Frame.Now (-1) (nth a0.ZN (YE a0 a1).2.1.toNat).Z2 0)).2) else ((JK a0 (YE a0 a1).1 a1 (Z0.mk (nth a0.ZN (YE a0 a1).2.1.toNat).Zi a0.Frame.Now (nth a0.Zl (YE a0 a1).2.1.toNat) (nth a0.ZN (YE a0 a1).2.1.toNat).Z2 0)).1, (JK a0 (YE a0 a1).1 a1 (Z0.mk (nth a0.ZN (YE a0 a1).2.1.toNat).Zi a0.Frame.Now (nth a0.Zl (YE a0 a1).2.1.toNat) (nth a0.ZN (YE a0 a1).2.1.toNat).Z2 0)).2))))
def Ke (a0 : ZH) (a1 : Int) : ZH × Bool := (bif ((!(Zn a1 0 (W ((a0.Zl.length : Int) - 1)))) || ((nth a0.Zl a1.toNat) != (-1))) then (a0, false) else ((ZH.mk a0.Frame a0.ZN (a0.Zl.set a1.toNat (W (a0.Frame.Now + 1))) a0.ZA a0.YX a0.YJ a0.Next a0.Z4), true))
def WK (a0 : List Int) : Nat -> Nat -> Sum Bool Unit
  | 0, _ => .inr ()
  | n1 + 1, J => (bif (decide ((J : Int) < (a0.length : Int))) then (bif (decide ((nth a0 (J - 1)) >= (nth a0 J))) then (.inl false) else WK a0 n1 (J + 1)) else (.inr ()))
def jb (a0 : List Int) : Bool := (match WK a0 (a0.length + 1) 1 with | .inl r1 => r1 | .inr _ => true)
def KB (a0 : ZW) : List Int := ([103, a0.Authority, a0.Seq, a0.Time, a0.Xa] : List Int)
def zc (a1 : ZK) : Nat -> List Int -> Nat -> (List Int)
  | 0, _, _ => default
  | n2 + 1, iZ, gN => (bif (decide ((gN : Int) < (a1.Yi.length : Int))) then zc a1 n2 ((iZ ++ (KB (nth a1.Yi gN))) ++ ([(nth a1.Yi gN).Mark] : List Int)) (gN + 1) else (iZ))
def KN (a1 : ZK) : Nat -> List Int -> Nat -> (List Int)
  | 0, _, _ => default
  | n1 + 1, J, U => (bif (decide ((U : Int) < (a1.Path.length : Int))) then (bif (nth a1.Path U).Left then KN a1 n1 (J ++ ([(nth a1.Path U).Xa, 1] : List Int)) (U + 1) else KN a1 n1 (J ++ ([(nth a1.Path U).Xa, 0] : List Int)) (U + 1)) else (J))
def KY (a0 : Int) (a1 : ZK) : Int := (match KN a1 (a1.Path.length + 1) ([4, a1.Count, a1.Method, a1.GK] : List Int) 0 with | z1_0 => (match zc a1 (a1.Yi.length + 1) (z1_0 ++ ([(a1.Yi.length : Int)] : List Int)) 0 with | z2_0 => (KU a0 z2_0)))
def yE (a0 : Int) (a1 : List ZO) : Nat -> List Int -> Nat -> (List Int)
  | 0, _, _ => default
  | n1 + 1, J, U => (bif (decide ((U : Int) < (a1.length : Int))) then yE a0 a1 n1 (J ++ ([(KU a0 (([(nth a1 U).Key, (nth a1 U).Mark] : List Int) ++ (nth a1 U).Ys))] : List Int)) (U + 1) else (J))
def KI (a0 : Int) (a1 : List ZO) : Int := (match yE a0 a1 (a1.length + 1) ([2] : List Int) 0 with | z1_0 => (KU a0 z1_0))
def Td (a0 : Int) (a1 : Int) (a2 : List ZO) (a3 : Int) : Int := (KU a0 ([3, a1, (KI a0 a2), a3] : List Int))
def Qy (a0 : ZM) (a1 : Int) : Int := (bif (decide ((a0.ZJ.Zf.length : Int) > 0)) then (Td a1 (Yc a1 a0.Doc) a0.ZJ.ZL (KY a1 (nth a0.ZJ.Zf (a0.ZJ.Zf.length - 1)))) else (Td a1 (Yc a1 a0.Doc) a0.ZJ.ZL 0))
def y3 (a0 : ZC) (a1 : Int) : Nat -> List Int -> Nat -> (List Int)
  | 0, _, _ => default
  | n1 + 1, J, U => (bif (decide ((U : Int) < (a0.ZD.length : Int))) then y3 a0 a1 n1 (J ++ ([(Qy (nth a0.ZD U) a1)] : List Int)) (U + 1) else (J))
def Xi (a0 : ZC) (a1 : Int) : List Int := (match y3 a0 a1 (a0.ZD.length + 1) ([] : List Int) 0 with | z1_0 => z1_0)
def jx (a0 : Int) (a1 : Int) (a2 : Int) : Int := (KU a0 ([1, a1, a2] : List Int))
def Jj (a0 : Int) (a1 : List Int) : Nat -> List Int -> Nat -> (List Int)
  | 0, _, _ => default
  | n1 + 1, J, U => (bif (decide ((U : Int) < (a1.length : Int))) then (bif (decide ((W ((U : Int) + 1)) < (a1.length : Int))) then Jj a0 a1 n1 (J ++ ([(jx a0 (nth a1 U) (nth a1 (W ((U : Int) + 1)).toNat))] : List Int)) (U + 2) else Jj a0 a1 n1 (J ++ ([(nth a1 U)] : List Int)) (U + 2)) else (J))
def J6 (a0 : Int) (a1 : List Int) : List Int := (match Jj a0 a1 (a1.length + 1) ([] : List Int) 0 with | z1_0 => z1_0)
def jh (a0 : Int) : Nat -> List Int -> (List Int)
  | 0, _ => default
  | n1 + 1, J => (bif (decide ((J.length : Int) > 1)) then jh a0 n1 (J6 a0 J) else (J))
def jL (a0 : Int) (a1 : List Int) : Int := (bif (!(Zn (a1.length : Int) 1 16)) then (-1) else (match jh a0 (a1.length + 1) a1 with | z1_0 => (nth z1_0 0)))
def Qx (a0 : ZC) (a1 : Int) : Int := (jL a1 (Xi a0 a1))
def Jd (a0 : List ZR) (a1 : Int) : Nat -> Nat -> Sum Int Unit
  | 0, _ => .inr ()
  | n1 + 1, J => (bif (decide ((J : Int) < (a0.length : Int))) then (bif ((nth a0 J).Id == a1) then (.inl (J : Int)) else Jd a0 a1 n1 (J + 1)) else (.inr ()))
def Zh (a0 : List ZR) (a1 : Int) : Int := (match Jd a0 a1 (a0.length + 1) 0 with | .inl r1 => r1 | .inr _ => (-1))
def UP (a0 : List Int) (a1 : Int) : Nat -> Nat -> Sum Int Unit
  | 0, _ => .inr ()
  | n1 + 1, J => (bif (decide ((J : Int) < (a0.length : Int))) then (bif ((nth a0 J) == a1) then (.inl (J : Int)) else UP a0 a1 n1 (J + 1)) else (.inr ()))
def Pz (a0 : List Int) (a1 : Int) : Int := (match UP a0 a1 (a0.length + 1) 0 with | .inl r1 => r1 | .inr _ => (-1))
def jk (a0 : List Int) (a1 : Int) : Bool := (decide ((Pz a0 a1) >= 0))
def Js (a0 : List YZ) (a1 : List ZR) (a2 : ZW) : ZW × Bool := (bif (((decide ((Zh a1 a2.Authority) < 0)) || (decide (a2.Seq < 0))) || (!(TV a2.Time))) then ((ZW.mk 0 0 0 0 0), false) else (bif (!(yz a0 (nth a1 (Zh a1 a2.Authority).toNat).Key (KB a2)).2) then ((ZW.mk 0 0 0 0 0), false) else ((ZW.mk a2.Authority a2.Seq a2.Time a2.Xa (yz a0 (nth a1 (Zh a1 a2.Authority).toNat).Key (KB a2)).1), true)))
def Jh (a0 : Int) : Nat -> List Int -> Int -> List Zy -> (List Zy)
  | 0, _, _, _ => default
  | n1 + 1, J, U, iQ => (bif (decide ((J.length : Int) > 1)) then (bif ((Int.tmod U 2) == 1) then Jh a0 n1 (J6 a0 J) (W (Int.tdiv U 2)) (iQ ++ ([(Zy.mk (nth J (W (U - 1)).toNat) true)] : List Zy)) else (bif (decide ((W (U + 1)) < (J.length : Int))) then Jh a0 n1 (J6 a0 J) (W (Int.tdiv U 2)) (iQ ++ ([(Zy.mk (nth J (W (U + 1)).toNat) false)] : List Zy)) else Jh a0 n1 (J6 a0 J) (W (Int.tdiv U 2)) iQ)) else (iQ))
def JJ (a0 : Int) (a1 : List Int) (a2 : Int) : List Zy := (bif ((!(Zn a2 0 (W ((a1.length : Int) - 1)))) || (decide ((a1.length : Int) > 16))) then ([] : List Zy) else (match Jh a0 (a1.length + 1) a1 a2 ([] : List Zy) with | z1_0 => z1_0))
def Xl (a0 : Za) (a1 : ZK) : Za × Bool := (bif (!(zp (Za.mk a0.ZL (a0.Zf ++ ([a1] : List ZK))))) then (a0, false) else ((Za.mk a0.ZL (a0.Zf ++ ([a1] : List ZK))), true))
def XQ (a0 : ZC) (a1 : Int) (a2 : List ZW) : Nat -> Nat -> List ZM -> Sum (ZC × Bool) (List ZM)
  | 0, _, _ => .inr default
  | n1 + 1, J, U => (bif (decide ((J : Int) < (a0.ZD.length : Int))) then (bif (!(Xl (nth a0.ZD J).ZJ (ZK.mk ((nth a0.ZD J).ZJ.ZL.length : Int) a1 (Qx a0 a1) (JJ a1 (Xi a0 a1) (J : Int)) a2)).2) then (.inl (a0, false)) else XQ a0 a1 a2 n1 (J + 1) (U.set J (ZM.mk (nth U J).Id (nth U J).XB (nth U J).Doc (nth U J).Sig (Xl (nth a0.ZD J).ZJ (ZK.mk ((nth a0.ZD J).ZJ.ZL.length : Int) a1 (Qx a0 a1) (JJ a1 (Xi a0 a1) (J : Int)) a2)).1))) else (.inr U))
def Qh (a0 : ZC) (a1 : Int) (a2 : List ZW) : ZC × Bool := (bif (((a0.ZD.length : Int) == 0) || (!(Jq a0))) then (a0, false) else (match XQ a0 a1 a2 (a0.ZD.length + 1) 0 a0.ZD with | .inl r1 => r1 | .inr z1_0 => (bif (!(Jq (ZC.mk a0.Id z1_0))) then (a0, false) else ((ZC.mk a0.Id z1_0), true))))
def Y7 (a0 : ZH) (a1 : Int) (a2 : List Int) (a3 : Int) : Nat -> List ZW -> Nat -> List Int -> Sum (ZH × Bool) ((List ZW) × (List Int))
  | 0, _, _, _ => .inr (default, default)
  | n1 + 1, J, U, iQ => (bif (decide ((U : Int) < (a2.length : Int))) then (bif ((decide ((Zh a0.Frame.ZE (nth a2 U)) < 0)) || (decide ((Zh a0.Frame.ZE (nth a2 U)) >= (a0.YX.length : Int)))) then (.inl (a0, false)) else (bif ((decide ((YD a0.Frame.Zm (nth a0.Frame.ZE (Zh a0.Frame.ZE (nth a2 U)).toNat).Key) < 0)) || (decide ((nth a0.Frame.Zm (YD a0.Frame.Zm (nth a0.Frame.ZE (Zh a0.Frame.ZE (nth a2 U)).toNat).Key).toNat).Vz > a0.Frame.Now))) then (.inl (a0, false)) else (bif (jk a0.YJ (nth a2 U)) then (bif (!(Js a0.Frame.Zm a0.Frame.ZE (ZW.mk (nth a2 U) (nth a0.YX (Zh a0.Frame.ZE (nth a2 U)).toNat) (if (if (W (a0.Frame.Now + a3)) < 10000 then (W (a0.Frame.Now + a3)) else 10000) > 0 then (if (W (a0.Frame.Now + a3)) < 10000 then (W (a0.Frame.Now + a3)) else 10000) else 0) (Qx (nth a0.ZA a1.toNat) (ZP a0.Frame.Methods a0.Frame.Now)) 0)).2) then (.inl (a0, false)) else Y7 a0 a1 a2 a3 n1 (J ++ ([(Js a0.Frame.Zm a0.Frame.ZE (ZW.mk (nth a2 U) (nth a0.YX (Zh a0.Frame.ZE (nth a2 U)).toNat) (if (if (W (a0.Frame.Now + a3)) < 10000 then (W (a0.Frame.Now + a3)) else 10000) > 0 then (if (W (a0.Frame.Now + a3)) < 10000 then (W (a0.Frame.Now + a3)) else 10000) else 0) (Qx (nth a0.ZA a1.toNat) (ZP a0.Frame.Methods a0.Frame.Now)) 0)).1] : List ZW)) (U + 1) (iQ.set (Zh a0.Frame.ZE (nth a2 U)).toNat (W ((nth iQ (Zh a0.Frame.ZE (nth a2 U)).toNat) + 1)))) else (bif (!(Js a0.Frame.Zm a0.Frame.ZE (ZW.mk (nth a2 U) (nth a0.YX (Zh a0.Frame.ZE (nth a2 U)).toNat) a0.Frame.Now (Qx (nth a0.ZA a1.toNat) (ZP a0.Frame.Methods a0.Frame.Now)) 0)).2) then (.inl (a0, false)) else Y7 a0 a1 a2 a3 n1 (J ++ ([(Js a0.Frame.Zm a0.Frame.ZE (ZW.mk (nth a2 U) (nth a0.YX (Zh a0.Frame.ZE (nth a2 U)).toNat) a0.Frame.Now (Qx (nth a0.ZA a1.toNat) (ZP a0.Frame.Methods a0.Frame.Now)) 0)).1] : List ZW)) (U + 1) (iQ.set (Zh a0.Frame.ZE (nth a2 U)).toNat (W ((nth iQ (Zh a0.Frame.ZE (nth a2 U)).toNat) + 1))))))) else (.inr (J, iQ)))
def Kr (a0 : ZH) (a1 : Int) (a2 : List Int) (a3 : Int) : ZH × Bool := (bif (((((!(YR a0 a1)) || (decide ((ZP a0.Frame.Methods a0.Frame.Now) < 0))) || (!(jb a2))) || ((a2.length : Int) == 0)) || (!(Zn a3 (-10000) 10000))) then (a0, false) else (match Y7 a0 a1 a2 a3 (a2.length + 1) ([] : List ZW) 0 a0.YX with | .inl r1 => r1 | .inr (z1_0, z1_1) => (bif (!(Qh (nth a0.ZA a1.toNat) (ZP a0.Frame.Methods a0.Frame.Now) z1_0).2) then (a0, false) else ((ZH.mk a0.Frame a0.ZN a0.Zl (a0.ZA.set a1.toNat (Qh (nth a0.ZA a1.toNat) (ZP a0.Frame.Methods a0.Frame.Now) z1_0).1) z1_1 a0.YJ a0.Next a0.Z4), true))))
def xg (a0 : Int) (a1 : ZM) : Nat -> List Int -> Nat -> (List Int)
  | 0, _, _ => default
  | n1 + 1, J, U => (bif (decide ((U : Int) < (a1.ZJ.Zf.length : Int))) then xg a0 a1 n1 (J ++ ([(KY a0 (nth a1.ZJ.Zf U))] : List Int)) (U + 1) else (J))
def js (a0 : Int) (a1 : ZM) : Int := (match xg a0 a1 (a1.ZJ.Zf.length + 1) ([5, a1.Id, a1.XB, (Yc a0 a1.Doc), (KI a0 a1.ZJ.ZL)] : List Int) 0 with | z1_0 => (KU a0 z1_0))
def zR (a0 : Int) (a1 : List ZM) : Nat -> List Int -> Nat -> (List Int)
  | 0, _, _ => default
  | n1 + 1, J, U => (bif (decide ((U : Int) < (a1.length : Int))) then zR a0 a1 n1 (J ++ ([(js a0 (nth a1 U))] : List Int)) (U + 1) else (J))
def zM (a0 : Int) (a1 : List ZM) : Int := (match zR a0 a1 (a1.length + 1) ([] : List Int) 0 with | z1_0 => (jL a0 z1_0))
def QB (a0 : ZC) (a2 : List Int) : Nat -> Nat -> List ZM -> Sum (YP × Bool) (List ZM)
  | 0, _, _ => .inr default
  | n1 + 1, J, U => (bif (decide ((J : Int) < (a2.length : Int))) then (bif (decide ((ZX a0 (nth a2 J)) < 0)) then (.inl ((YP.mk 0 0 ([] : List ZM) 0), false)) else QB a0 a2 n1 (J + 1) (U ++ ([(nth a0.ZD (ZX a0 (nth a2 J)).toNat)] : List ZM))) else (.inr U))
def YK (a0 : ZC) (a1 : Int) (a2 : List Int) (a3 : Int) : YP × Bool := (match QB a0 a2 (a2.length + 1) 0 ([] : List ZM) with | .inl r1 => r1 | .inr z1_0 => (bif ((a2.length : Int) == 0) then ((YP.mk 0 0 ([] : List ZM) 0), false) else ((YP.mk a0.Id a1 z1_0 (zM a3 z1_0)), true)))
def Ju (a0 : YP) : Nat -> Nat -> Sum Bool Unit
  | 0, _ => .inr ()
  | n1 + 1, J => (bif (decide ((J : Int) < (a0.ZD.length : Int))) then (bif (!(T9 (nth a0.ZD J))) then (.inl false) else Ju a0 n1 (J + 1)) else (.inr ()))
def Q8 (a0 : YP) (a1 : Int) : Bool := (match Ju a0 (a0.ZD.length + 1) 0 with | .inl r1 => r1 | .inr _ => ((Zn (a0.ZD.length : Int) 1 8) && (a0.Xa == (zM a1 a0.ZD))))
def XA (a0 : ZC) (a1 : YP) : Nat -> Nat -> Int -> List ZM -> Sum (ZC × Bool) (Int × (List ZM))
  | 0, _, _, _ => .inr (default, default)
  | n1 + 1, J, U, iQ => (bif (decide ((J : Int) < (a1.ZD.length : Int))) then (bif (!(XZ (ZC.mk U iQ) (nth a1.ZD J)).2) then (.inl (a0, false)) else XA a0 a1 n1 (J + 1) (XZ (ZC.mk U iQ) (nth a1.ZD J)).1.Id (XZ (ZC.mk U iQ) (nth a1.ZD J)).1.ZD) else (.inr (U, iQ)))
def Yq (a0 : ZC) (a1 : YP) (a2 : Int) : ZC × Bool := (bif ((!(Q8 a1 a2)) || (a1.To != a0.Id)) then (a0, false) else (match XA a0 a1 (a1.ZD.length + 1) 0 a0.Id a0.ZD with | .inl r1 => r1 | .inr (z1_0, z1_1) => ((ZC.mk z1_0 z1_1), true)))
def QM (a0 : ZC) (a1 : Int) : ZC × Bool := (bif (decide ((ZX a0 a1) < 0)) then (a0, false) else ((ZC.mk a0.Id (a0.ZD.take (ZX a0 a1).toNat ++ (a0.ZD.drop (W ((ZX a0 a1) + 1)).toNat))), true))
def Xb (a0 : ZC) (a1 : ZC) (a2 : List Int) : Nat -> Nat -> Int -> List ZM -> Sum (ZC × ZC × Bool) (Int × (List ZM))
  | 0, _, _, _ => .inr (default, default)
  | n1 + 1, J, U, iQ => (bif (decide ((J : Int) < (a2.length : Int))) then (bif (!(QM (ZC.mk U iQ) (nth a2 J)).2) then (.inl (a0, a1, false)) else Xb a0 a1 a2 n1 (J + 1) (QM (ZC.mk U iQ) (nth a2 J)).1.Id (QM (ZC.mk U iQ) (nth a2 J)).1.ZD) else (.inr (U, iQ)))
def Yt (a0 : ZC) (a1 : ZC) (a2 : List Int) (a3 : Int) : ZC × ZC × Bool := (bif ((!(YK a0 a1.Id a2 a3).2) || (!(Yq a1 (YK a0 a1.Id a2 a3).1 a3).2)) then (a0, a1, false) else (match Xb a0 a1 a2 (a2.length + 1) 0 a0.Id a0.ZD with | .inl r1 => r1 | .inr (z1_0, z1_1) => ((ZC.mk z1_0 z1_1), (Yq a1 (YK a0 a1.Id a2 a3).1 a3).1, true)))
def yV (a0 : ZH) (a1 : Int) (a2 : Int) (a3 : Int) : ZH × Bool := (bif ((((!(YR a0 a1)) || (!(YR a0 a2))) || (a1 == a2)) || (decide ((ZP a0.Frame.Methods a0.Frame.Now) < 0))) then (a0, false) else (bif (Yt (nth a0.ZA a1.toNat) (nth a0.ZA a2.toNat) ([a3] : List Int) (ZP a0.Frame.Methods a0.Frame.Now)).2.2 then ((ZH.mk a0.Frame a0.ZN a0.Zl ((a0.ZA.set a1.toNat (Yt (nth a0.ZA a1.toNat) (nth a0.ZA a2.toNat) ([a3] : List Int) (ZP a0.Frame.Methods a0.Frame.Now)).1).set a2.toNat (Yt (nth a0.ZA a1.toNat) (nth a0.ZA a2.toNat) ([a3] : List Int) (ZP a0.Frame.Methods a0.Frame.Now)).2.1) a0.YX a0.YJ a0.Next a0.Z4), (Yt (nth a0.ZA a1.toNat) (nth a0.ZA a2.toNat) ([a3] : List Int) (ZP a0.Frame.Methods a0.Frame.Now)).2.2) else (a0, (Yt (nth a0.ZA a1.toNat) (nth a0.ZA a2.toNat) ([a3] : List Int) (ZP a0.Frame.Methods a0.Frame.Now)).2.2)))
def QC (a0 : ZC) (a1 : Int) : Nat -> Nat -> List ZM -> (List ZM)
  | 0, _, _ => default
  | n1 + 1, J, U => (bif (decide ((J : Int) < (a0.ZD.length : Int))) then (bif (decide ((nth a0.ZD J).XB >= a1)) then QC a0 a1 n1 (J + 1) (U ++ ([(nth a0.ZD J)] : List ZM)) else QC a0 a1 n1 (J + 1) U) else (U))
def Kd (a0 : ZC) (a1 : Int) : ZC × Int := (match QC a0 a1 (a0.ZD.length + 1) 0 ([] : List ZM) with | z1_0 => ((ZC.mk a0.Id z1_0), (W ((a0.ZD.length : Int) - (z1_0.length : Int)))))
def Kk (a0 : ZH) (a1 : Int) : ZH × Bool := (bif (!(YR a0 a1)) then (a0, false) else ((ZH.mk a0.Frame a0.ZN a0.Zl (a0.ZA.set a1.toNat (Kd (nth a0.ZA a1.toNat) a0.Frame.Now).1) a0.YX a0.YJ a0.Next a0.Z4), true))
def z3 (a0 : List Zj) (a1 : Int) : Nat -> Nat -> Sum Int Unit
  | 0, _ => .inr ()
  | n1 + 1, J => (bif (decide ((J : Int) < (a0.length : Int))) then (bif ((nth a0 J).Id == a1) then (.inl (J : Int)) else z3 a0 a1 n1 (J + 1)) else (.inr ()))
def zi (a0 : List Zj) (a1 : Int) : Int := (match z3 a0 a1 (a0.length + 1) 0 with | .inl r1 => r1 | .inr _ => (-1))
def TT (a0 : List Zj) (a1 : Int) : Int := (bif (decide ((zi a0 a1) >= 0)) then (nth a0 (zi a0 a1).toNat).Si else 0)
def W7 (a0 : Zq) (a1 : Int) : Int := (bif (decide ((YD a0.Zm a1) < 0)) then 0 else (TT a0.Methods (nth a0.Zm (YD a0.Zm a1).toNat).Method))
def zl (a0 : Zq) (a1 : Int) : Bool := ((decide ((YD a0.Zm a1) >= 0)) && (decide (a0.Now >= (W7 a0 a1))))
def Km (a0 : ZH) (a1 : Int) (a2 : Int) (a3 : ZT) : ZH × Bool := (bif (!(zl a0.Frame a2)) then (a0, false) else (bif (Yx a0 a1 a2 a3 0 10000).2 then ((ZH.mk (Yx a0 a1 a2 a3 0 10000).1.Frame (Yx a0 a1 a2 a3 0 10000).1.ZN (Yx a0 a1 a2 a3 0 10000).1.Zl (Yx a0 a1 a2 a3 0 10000).1.ZA (Yx a0 a1 a2 a3 0 10000).1.YX (Yx a0 a1 a2 a3 0 10000).1.YJ (Yx a0 a1 a2 a3 0 10000).1.Next ((Yx a0 a1 a2 a3 0 10000).1.Z4 ++ ([a0.Next] : List Int))), (Yx a0 a1 a2 a3 0 10000).2) else ((Yx a0 a1 a2 a3 0 10000).1, (Yx a0 a1 a2 a3 0 10000).2)))
def QR (a0 : ZH) : Nat -> List Int -> Nat -> (List Int)
  | 0, _, _ => default
  | n1 + 1, J, U => (bif (decide ((U : Int) < (a0.Frame.ZE.length : Int))) then (bif ((jk a0.YJ (nth a0.Frame.ZE U).Id) || (zl a0.Frame (nth a0.Frame.ZE U).Key)) then QR a0 n1 (J ++ ([(nth a0.Frame.ZE U).Id] : List Int)) (U + 1) else QR a0 n1 J (U + 1)) else (J))
def Zw (a0 : ZH) : List Int := (match QR a0 (a0.Frame.ZE.length + 1) ([] : List Int) 0 with | z1_0 => z1_0)
def QG (a0 : ZH) (a1 : Int) (a2 : Int) : Nat -> Nat -> List ZW -> Sum (ZH × Bool) (List ZW)
  | 0, _, _ => .inr default
  | n1 + 1, J, U => (bif (decide ((J : Int) < ((Zw a0).length : Int))) then (bif (!(Js a0.Frame.Zm a0.Frame.ZE (ZW.mk (nth (Zw a0) J) 0 a2 (Qy (nth (nth a0.ZA (ZV a0 a1).1.toNat).ZD (ZV a0 a1).2.toNat) (ZP a0.Frame.Methods a0.Frame.Now)) 0)).2) then (.inl (a0, false)) else QG a0 a1 a2 n1 (J + 1) (U ++ ([(Js a0.Frame.Zm a0.Frame.ZE (ZW.mk (nth (Zw a0) J) 0 a2 (Qy (nth (nth a0.ZA (ZV a0 a1).1.toNat).ZD (ZV a0 a1).2.toNat) (ZP a0.Frame.Methods a0.Frame.Now)) 0)).1] : List ZW))) else (.inr U))
def JA (a0 : ZH) (a1 : Int) (a2 : Int) : ZH × Bool := (bif ((((!(jk a0.Z4 a1)) || (decide ((ZV a0 a1).1 < 0))) || (decide ((ZP a0.Frame.Methods a0.Frame.Now) < 0))) || (((Zw a0).length : Int) == 0)) then (a0, false) else (match QG a0 a1 a2 ((Zw a0).length + 1) 0 ([] : List ZW) with | .inl r1 => r1 | .inr z1_0 => ((ZH.mk a0.Frame a0.ZN a0.Zl (a0.ZA.set (ZV a0 a1).1.toNat (ZC.mk (nth a0.ZA (ZV a0 a1).1.toNat).Id ((nth a0.ZA (ZV a0 a1).1.toNat).ZD.set (ZV a0 a1).2.toNat (ZM.mk (nth (nth a0.ZA (ZV a0 a1).1.toNat).ZD (ZV a0 a1).2.toNat).Id (nth (nth a0.ZA (ZV a0 a1).1.toNat).ZD (ZV a0 a1).2.toNat).XB (nth (nth a0.ZA (ZV a0 a1).1.toNat).ZD (ZV a0 a1).2.toNat).Doc (nth (nth a0.ZA (ZV a0 a1).1.toNat).ZD (ZV a0 a1).2.toNat).Sig (Xl (nth (nth a0.ZA (ZV a0 a1).1.toNat).ZD (ZV a0 a1).2.toNat).ZJ (ZK.mk ((nth (nth a0.ZA (ZV a0 a1).1.toNat).ZD (ZV a0 a1).2.toNat).ZJ.ZL.length : Int) (ZP a0.Frame.Methods a0.Frame.Now) (Qy (nth (nth a0.ZA (ZV a0 a1).1.toNat).ZD (ZV a0 a1).2.toNat) (ZP a0.Frame.Methods a0.Frame.Now)) ([] : List Zy) z1_0)).1)))) a0.YX a0.YJ a0.Next a0.Z4), (Xl (nth (nth a0.ZA (ZV a0 a1).1.toNat).ZD (ZV a0 a1).2.toNat).ZJ (ZK.mk ((nth (nth a0.ZA (ZV a0 a1).1.toNat).ZD (ZV a0 a1).2.toNat).ZJ.ZL.length : Int) (ZP a0.Frame.Methods a0.Frame.Now) (Qy (nth (nth a0.ZA (ZV a0 a1).1.toNat).ZD (ZV a0 a1).2.toNat) (ZP a0.Frame.Methods a0.Frame.Now)) ([] : List Zy) z1_0)).2)))
def ym (a0 : ZH) (a1 : Int) (a2 : Int) : ZH × Bool := (bif ((!(YE a0 a1).2.2) || (!(zl a0.Frame (nth a0.ZN (YE a0 a1).2.1.toNat).Z2))) then (a0, false) else ((JK a0 (YE a0 a1).1 a1 (Z0.mk (nth a0.ZN (YE a0 a1).2.1.toNat).Zi a2 (-1) (nth a0.ZN (YE a0 a1).2.1.toNat).Z2 0)).1, (JK a0 (YE a0 a1).1 a1 (Z0.mk (nth a0.ZN (YE a0 a1).2.1.toNat).Zi a2 (-1) (nth a0.ZN (YE a0 a1).2.1.toNat).Z2 0)).2))
def Y6 (a0 : ZH) (a1 : Zp) : ZH × Bool := (bif (a1.Kind == 1) then ((ya a0 a1.A).1, (ya a0 a1.A).2) else (bif (a1.Kind == 2) then ((yq a0 a1.A a1.B a1.Doc a1.C a1.D).1, (yq a0 a1.A a1.B a1.Doc a1.C a1.D).2) else (bif (a1.Kind == 3) then ((Kb a0 a1.A).1, (Kb a0 a1.A).2) else (bif (a1.Kind == 4) then ((Ke a0 a1.A).1, (Ke a0 a1.A).2) else (bif (a1.Kind == 5) then ((Kr a0 a1.A a1.Ids a1.B).1, (Kr a0 a1.A a1.Ids a1.B).2) else (bif (a1.Kind == 6) then ((yV a0 a1.A a1.B a1.C).1, (yV a0 a1.A a1.B a1.C).2) else (bif (a1.Kind == 7) then ((Kk a0 a1.A).1, (Kk a0 a1.A).2) else (bif (a1.Kind == 8) then ((Km a0 a1.A a1.B a1.Doc).1, (Km a0 a1.A a1.B a1.Doc).2) else (bif (a1.Kind == 9) then ((JA a0 a1.A a1.B).1, (JA a0 a1.A a1.B).2) else (bif (a1.Kind == 10) then ((ym a0 a1.A a1.B).1, (ym a0 a1.A a1.B).2) else (a0, false)))))))))))
def Kw (a1 : List Zp) : Nat -> Nat -> List YZ -> List ZR -> List Zj -> Int -> Int -> List Z1 -> List Int -> List ZC -> List Int -> List Int -> Int -> List Int -> (List YZ) × (List ZR) × (List Zj) × Int × Int × (List Z1) × (List Int) × (List ZC) × (List Int) × (List Int) × Int × (List Int)
  | 0, _, _, _, _, _, _, _, _, _, _, _, _, _ => (default, default, default, default, default, default, default, default, default, default, default, default)
  | n1 + 1, J, U, iQ, iv, gH, gI, gC, gD, gE, gF, iy, hC, iz => (bif (decide ((J : Int) < (a1.length : Int))) then Kw a1 n1 (J + 1) (Y6 (ZH.mk (Zq.mk U iQ iv gH gI) gC gD gE gF iy hC iz) (nth a1 J)).1.Frame.Zm (Y6 (ZH.mk (Zq.mk U iQ iv gH gI) gC gD gE gF iy hC iz) (nth a1 J)).1.Frame.ZE (Y6 (ZH.mk (Zq.mk U iQ iv gH gI) gC gD gE gF iy hC iz) (nth a1 J)).1.Frame.Methods (Y6 (ZH.mk (Zq.mk U iQ iv gH gI) gC gD gE gF iy hC iz) (nth a1 J)).1.Frame.KZ (Y6 (ZH.mk (Zq.mk U iQ iv gH gI) gC gD gE gF iy hC iz) (nth a1 J)).1.Frame.Now (Y6 (ZH.mk (Zq.mk U iQ iv gH gI) gC gD gE gF iy hC iz) (nth a1 J)).1.ZN (Y6 (ZH.mk (Zq.mk U iQ iv gH gI) gC gD gE gF iy hC iz) (nth a1 J)).1.Zl (Y6 (ZH.mk (Zq.mk U iQ iv gH gI) gC gD gE gF iy hC iz) (nth a1 J)).1.ZA (Y6 (ZH.mk (Zq.mk U iQ iv gH gI) gC gD gE gF iy hC iz) (nth a1 J)).1.YX (Y6 (ZH.mk (Zq.mk U iQ iv gH gI) gC gD gE gF iy hC iz) (nth a1 J)).1.YJ (Y6 (ZH.mk (Zq.mk U iQ iv gH gI) gC gD gE gF iy hC iz) (nth a1 J)).1.Next (Y6 (ZH.mk (Zq.mk U iQ iv gH gI) gC gD gE gF iy hC iz) (nth a1 J)).1.Z4 else ((U, iQ, iv, gH, gI, gC, gD, gE, gF, iy, hC, iz)))
def YF (a0 : ZH) (a1 : List Zp) : ZH := (match Kw a1 (a1.length + 1) 0 a0.Frame.Zm a0.Frame.ZE a0.Frame.Methods a0.Frame.KZ a0.Frame.Now a0.ZN a0.Zl a0.ZA a0.YX a0.YJ a0.Next a0.Z4 with | (z1_0, z1_1, z1_2, z1_3, z1_4, z1_5, z1_6, z1_7, z1_8, z1_9, z1_10, z1_11) => (ZH.mk (Zq.mk z1_0 z1_1 z1_2 z1_3 z1_4) z1_5 z1_6 z1_7 z1_8 z1_9 z1_10 z1_11))
def P1 (a0 : YZ) (a1 : YZ) : Bool := (bif (a0.Number != a1.Number) then false else (bif (a0.WY != a1.WY) then false else (bif (a0.Method != a1.Method) then false else (bif (a0.Vz != a1.Vz) then false else (bif (a0.V8 != a1.V8) then false else true)))))
def SV (a0 : List YZ) (a1 : List YZ) : Nat -> Nat -> Sum Bool Unit
  | 0, _ => .inr ()
  | n1 + 1, J => (bif (decide ((J : Int) < (a0.length : Int))) then (bif (!(P1 (nth a0 J) (nth a1 J))) then (.inl false) else SV a0 a1 n1 (J + 1)) else (.inr ()))
def Ry (a0 : List YZ) (a1 : List YZ) : Bool := (bif ((a0.length : Int) != (a1.length : Int)) then false else (match SV a0 a1 (a0.length + 1) 0 with | .inl r1 => r1 | .inr _ => true))
def xC (a0 : ZR) (a1 : ZR) : Bool := (bif (a0.Id != a1.Id) then false else (bif (a0.Key != a1.Key) then false else (bif (a0.Error != a1.Error) then false else true)))
def xv (a0 : List ZR) (a1 : List ZR) : Nat -> Nat -> Sum Bool Unit
  | 0, _ => .inr ()
  | n1 + 1, J => (bif (decide ((J : Int) < (a0.length : Int))) then (bif (!(xC (nth a0 J) (nth a1 J))) then (.inl false) else xv a0 a1 n1 (J + 1)) else (.inr ()))
def xb (a0 : List ZR) (a1 : List ZR) : Bool := (bif ((a0.length : Int) != (a1.length : Int)) then false else (match xv a0 a1 (a0.length + 1) 0 with | .inl r1 => r1 | .inr _ => true))
def ki (a0 : Zj) (a1 : Zj) : Bool := (bif (a0.Id != a1.Id) then false else (bif (a0.Nc != a1.Nc) then false else (bif (a0.Ends != a1.Ends) then false else (bif (a0.Si != a1.Si) then false else true))))
def WQ (a0 : List Zj) (a1 : List Zj) : Nat -> Nat -> Sum Bool Unit
  | 0, _ => .inr ()
  | n1 + 1, J => (bif (decide ((J : Int) < (a0.length : Int))) then (bif (!(ki (nth a0 J) (nth a1 J))) then (.inl false) else WQ a0 a1 n1 (J + 1)) else (.inr ()))
def Wg (a0 : List Zj) (a1 : List Zj) : Bool := (bif ((a0.length : Int) != (a1.length : Int)) then false else (match WQ a0 a1 (a0.length + 1) 0 with | .inl r1 => r1 | .inr _ => true))
def Tz (a0 : Zq) (a1 : Zq) : Bool := (bif (!(Ry a0.Zm a1.Zm)) then false else (bif (!(xb a0.ZE a1.ZE)) then false else (bif (!(Wg a0.Methods a1.Methods)) then false else (bif (a0.KZ != a1.KZ) then false else (bif (a0.Now != a1.Now) then false else true)))))
def T8 (a0 : Z1) (a1 : Z1) : Bool := (bif (a0.Zi != a1.Zi) then false else (bif (a0.Key != a1.Key) then false else (bif (a0.WY != a1.WY) then false else (bif (a0.UM != a1.UM) then false else (bif (a0.To != a1.To) then false else (bif (a0.Z2 != a1.Z2) then false else (bif (a0.Mark != a1.Mark) then false else true)))))))
def Ub (a0 : List Z1) (a1 : List Z1) : Nat -> Nat -> Sum Bool Unit
  | 0, _ => .inr ()
  | n1 + 1, J => (bif (decide ((J : Int) < (a0.length : Int))) then (bif (!(T8 (nth a0 J) (nth a1 J))) then (.inl false) else Ub a0 a1 n1 (J + 1)) else (.inr ()))
def Tr (a0 : List Z1) (a1 : List Z1) : Bool := (bif ((a0.length : Int) != (a1.length : Int)) then false else (match Ub a0 a1 (a0.length + 1) 0 with | .inl r1 => r1 | .inr _ => true))
def SB (a0 : List Int) (a1 : List Int) : Nat -> Nat -> Sum Bool Unit
  | 0, _ => .inr ()
  | n1 + 1, J => (bif (decide ((J : Int) < (a0.length : Int))) then (bif ((nth a0 J) != (nth a1 J)) then (.inl false) else SB a0 a1 n1 (J + 1)) else (.inr ()))
def xr (a0 : List Int) (a1 : List Int) : Bool := (bif ((a0.length : Int) != (a1.length : Int)) then false else (match SB a0 a1 (a0.length + 1) 0 with | .inl r1 => r1 | .inr _ => true))
def kx (a0 : List ByteArray) (a1 : List ByteArray) : Nat -> Nat -> Sum Bool Unit
  | 0, _ => .inr ()
  | n1 + 1, J => (bif (decide ((J : Int) < (a0.length : Int))) then (bif (!decide ((nth a0 J) = (nth a1 J))) then (.inl false) else kx a0 a1 n1 (J + 1)) else (.inr ()))
def Wc (a0 : List ByteArray) (a1 : List ByteArray) : Bool := (bif ((a0.length : Int) != (a1.length : Int)) then false else (match kx a0 a1 (a0.length + 1) 0 with | .inl r1 => r1 | .inr _ => true))
def qL (a0 : ZT) (a1 : ZT) : Bool := (bif (a0.qn != a1.qn) then false else (bif (!(Wc a0.ZU a1.ZU)) then false else (bif (!(xr a0.Zk a1.Zk)) then false else true)))
def qm (a0 : Zc) (a1 : Zc) : Bool := (bif (a0.Key != a1.Key) then false else (bif (a0.Zi != a1.Zi) then false else (bif (a0.Method != a1.Method) then false else (bif (a0.Xa != a1.Xa) then false else (bif (a0.qX != a1.qX) then false else (bif (a0.Org != a1.Org) then false else (bif (a0.qW != a1.qW) then false else (bif (a0.Wy != a1.Wy) then false else (bif (a0.Mark != a1.Mark) then false else true)))))))))
def VQ (a0 : ZO) (a1 : ZO) : Bool := (bif (a0.Key != a1.Key) then false else (bif (!(xr a0.Ys a1.Ys)) then false else (bif (a0.Mark != a1.Mark) then false else true)))
def W9 (a0 : List ZO) (a1 : List ZO) : Nat -> Nat -> Sum Bool Unit
  | 0, _ => .inr ()
  | n1 + 1, J => (bif (decide ((J : Int) < (a0.length : Int))) then (bif (!(VQ (nth a0 J) (nth a1 J))) then (.inl false) else W9 a0 a1 n1 (J + 1)) else (.inr ()))
def VX (a0 : List ZO) (a1 : List ZO) : Bool := (bif ((a0.length : Int) != (a1.length : Int)) then false else (match W9 a0 a1 (a0.length + 1) 0 with | .inl r1 => r1 | .inr _ => true))
def T7 (a0 : Zy) (a1 : Zy) : Bool := (bif (a0.Xa != a1.Xa) then false else (bif (!(a0.Left == a1.Left)) then false else true))
def UT (a0 : List Zy) (a1 : List Zy) : Nat -> Nat -> Sum Bool Unit
  | 0, _ => .inr ()
  | n1 + 1, J => (bif (decide ((J : Int) < (a0.length : Int))) then (bif (!(T7 (nth a0 J) (nth a1 J))) then (.inl false) else UT a0 a1 n1 (J + 1)) else (.inr ()))
def Th (a0 : List Zy) (a1 : List Zy) : Bool := (bif ((a0.length : Int) != (a1.length : Int)) then false else (match UT a0 a1 (a0.length + 1) 0 with | .inl r1 => r1 | .inr _ => true))
def VR (a0 : ZW) (a1 : ZW) : Bool := (bif (a0.Authority != a1.Authority) then false else (bif (a0.Seq != a1.Seq) then false else (bif (a0.Time != a1.Time) then false else (bif (a0.Xa != a1.Xa) then false else (bif (a0.Mark != a1.Mark) then false else true)))))
def VL (a0 : List ZW) (a1 : List ZW) : Nat -> Nat -> Sum Bool Unit
  | 0, _ => .inr ()
  | n1 + 1, J => (bif (decide ((J : Int) < (a0.length : Int))) then (bif (!(VR (nth a0 J) (nth a1 J))) then (.inl false) else VL a0 a1 n1 (J + 1)) else (.inr ()))
def UE (a0 : List ZW) (a1 : List ZW) : Bool := (bif ((a0.length : Int) != (a1.length : Int)) then false else (match VL a0 a1 (a0.length + 1) 0 with | .inl r1 => r1 | .inr _ => true))
def jR (a0 : ZK) (a1 : ZK) : Bool := (bif (a0.Count != a1.Count) then false else (bif (a0.Method != a1.Method) then false else (bif (a0.GK != a1.GK) then false else (bif (!(Th a0.Path a1.Path)) then false else (bif (!(UE a0.Yi a1.Yi)) then false else true)))))
def jq (a0 : List ZK) (a1 : List ZK) : Nat -> Nat -> Sum Bool Unit
  | 0, _ => .inr ()
  | n1 + 1, J => (bif (decide ((J : Int) < (a0.length : Int))) then (bif (!(jR (nth a0 J) (nth a1 J))) then (.inl false) else jq a0 a1 n1 (J + 1)) else (.inr ()))
def kO (a0 : List ZK) (a1 : List ZK) : Bool := (bif ((a0.length : Int) != (a1.length : Int)) then false else (match jq a0 a1 (a0.length + 1) 0 with | .inl r1 => r1 | .inr _ => true))
def Vq (a0 : Za) (a1 : Za) : Bool := (bif (!(VX a0.ZL a1.ZL)) then false else (bif (!(kO a0.Zf a1.Zf)) then false else true))
def T4 (a0 : ZM) (a1 : ZM) : Bool := (bif (a0.Id != a1.Id) then false else (bif (a0.XB != a1.XB) then false else (bif (!(qL a0.Doc a1.Doc)) then false else (bif (!(qm a0.Sig a1.Sig)) then false else (bif (!(Vq a0.ZJ a1.ZJ)) then false else true)))))
def Uj (a0 : List ZM) (a1 : List ZM) : Nat -> Nat -> Sum Bool Unit
  | 0, _ => .inr ()
  | n1 + 1, J => (bif (decide ((J : Int) < (a0.length : Int))) then (bif (!(T4 (nth a0 J) (nth a1 J))) then (.inl false) else Uj a0 a1 n1 (J + 1)) else (.inr ()))
def Tt (a0 : List ZM) (a1 : List ZM) : Bool := (bif ((a0.length : Int) != (a1.length : Int)) then false else (match Uj a0 a1 (a0.length + 1) 0 with | .inl r1 => r1 | .inr _ => true))
def jV (a0 : ZC) (a1 : ZC) : Bool := (bif (a0.Id != a1.Id) then false else (bif (!(Tt a0.ZD a1.ZD)) then false else true))
def jg (a0 : List ZC) (a1 : List ZC) : Nat -> Nat -> Sum Bool Unit
  | 0, _ => .inr ()
  | n1 + 1, J => (bif (decide ((J : Int) < (a0.length : Int))) then (bif (!(jV (nth a0 J) (nth a1 J))) then (.inl false) else jg a0 a1 n1 (J + 1)) else (.inr ()))
def jn (a0 : List ZC) (a1 : List ZC) : Bool := (bif ((a0.length : Int) != (a1.length : Int)) then false else (match jg a0 a1 (a0.length + 1) 0 with | .inl r1 => r1 | .inr _ => true))
def jZ (a0 : ZH) (a1 : ZH) : Bool := (bif (!(Tz a0.Frame a1.Frame)) then false else (bif (!(Tr a0.ZN a1.ZN)) then false else (bif (!(xr a0.Zl a1.Zl)) then false else (bif (!(jn a0.ZA a1.ZA)) then false else (bif (!(xr a0.YX a1.YX)) then false else (bif (!(xr a0.YJ a1.YJ)) then false else (bif (a0.Next != a1.Next) then false else (bif (!(xr a0.Z4 a1.Z4)) then false else true))))))))
def VS (a0 : Zp) (a1 : Zp) : Bool := (bif (a0.Kind != a1.Kind) then false else (bif (a0.A != a1.A) then false else (bif (a0.B != a1.B) then false else (bif (a0.C != a1.C) then false else (bif (a0.D != a1.D) then false else (bif (!(qL a0.Doc a1.Doc)) then false else (bif (!(xr a0.Ids a1.Ids)) then false else true)))))))
def VM (a0 : List Zp) (a1 : List Zp) : Nat -> Nat -> Sum Bool Unit
  | 0, _ => .inr ()
  | n1 + 1, J => (bif (decide ((J : Int) < (a0.length : Int))) then (bif (!(VS (nth a0 J) (nth a1 J))) then (.inl false) else VM a0 a1 n1 (J + 1)) else (.inr ()))
def UK (a0 : List Zp) (a1 : List Zp) : Bool := (bif ((a0.length : Int) != (a1.length : Int)) then false else (match VM a0 a1 (a0.length + 1) 0 with | .inl r1 => r1 | .inr _ => true))
def zW : Nat -> Int -> Nat -> List YZ -> Int × (List YZ)
  | 0, _, _, _ => (default, default)
  | n1 + 1, J, U, iQ => (bif (decide ((U : Int) < (iQ.length : Int))) then zW n1 (W ((W ((W ((W ((W (J + 1)) + 1)) + 1)) + 1)) + 1)) (U + 1) (iQ.set U (YZ.mk J (W (J + 1)) (W ((W (J + 1)) + 1)) (W ((W ((W (J + 1)) + 1)) + 1)) (W ((W ((W ((W (J + 1)) + 1)) + 1)) + 1)))) else ((J, iQ)))
def XM (a0 : List YZ) (a1 : Int) : (List YZ) × Int := (match zW (a0.length + 1) a1 0 a0 with | (z1_0, z1_1) => (z1_1, z1_0))
def QQ : Nat -> Int -> Nat -> List ZR -> Int × (List ZR)
  | 0, _, _, _ => (default, default)
  | n1 + 1, J, U, iQ => (bif (decide ((U : Int) < (iQ.length : Int))) then QQ n1 (W ((W ((W (J + 1)) + 1)) + 1)) (U + 1) (iQ.set U (ZR.mk J (W (J + 1)) (W ((W (J + 1)) + 1)))) else ((J, iQ)))
def Yk (a0 : List ZR) (a1 : Int) : (List ZR) × Int := (match QQ (a0.length + 1) a1 0 a0 with | (z1_0, z1_1) => (z1_1, z1_0))
def Jr : Nat -> Int -> Nat -> List Zj -> Int × (List Zj)
  | 0, _, _, _ => (default, default)
  | n1 + 1, J, U, iQ => (bif (decide ((U : Int) < (iQ.length : Int))) then Jr n1 (W ((W ((W ((W (J + 1)) + 1)) + 1)) + 1)) (U + 1) (iQ.set U (Zj.mk J (W (J + 1)) (W ((W (J + 1)) + 1)) (W ((W ((W (J + 1)) + 1)) + 1)))) else ((J, iQ)))
def Xw (a0 : List Zj) (a1 : Int) : (List Zj) × Int := (match Jr (a0.length + 1) a1 0 a0 with | (z1_0, z1_1) => (z1_1, z1_0))
def Zu (a0 : Zq) (a1 : Int) : Zq × Int := ((Zq.mk (XM a0.Zm a1).1 (Yk a0.ZE (XM a0.Zm a1).2).1 (Xw a0.Methods (Yk a0.ZE (XM a0.Zm a1).2).2).1 a0.KZ a0.Now), (Xw a0.Methods (Yk a0.ZE (XM a0.Zm a1).2).2).2)
def Ks : Nat -> Int -> Nat -> List Z1 -> Int × (List Z1)
  | 0, _, _, _ => (default, default)
  | n1 + 1, J, U, iQ => (bif (decide ((U : Int) < (iQ.length : Int))) then Ks n1 (W ((W ((W ((W ((W ((W ((W (J + 1)) + 1)) + 1)) + 1)) + 1)) + 1)) + 1)) (U + 1) (iQ.set U (Z1.mk J (W (J + 1)) (W ((W (J + 1)) + 1)) (W ((W ((W (J + 1)) + 1)) + 1)) (W ((W ((W ((W (J + 1)) + 1)) + 1)) + 1)) (W ((W ((W ((W ((W (J + 1)) + 1)) + 1)) + 1)) + 1)) (W ((W ((W ((W ((W ((W (J + 1)) + 1)) + 1)) + 1)) + 1)) + 1)))) else ((J, iQ)))
def Z8 (a0 : List Z1) (a1 : Int) : (List Z1) × Int := (match Ks (a0.length + 1) a1 0 a0 with | (z1_0, z1_1) => (z1_1, z1_0))
def zT : Nat -> Int -> Nat -> List Int -> Int × (List Int)
  | 0, _, _, _ => (default, default)
  | n1 + 1, J, U, iQ => (bif (decide ((U : Int) < (iQ.length : Int))) then zT n1 (W (J + 1)) (U + 1) (iQ.set U J) else ((J, iQ)))
def ZI (a0 : List Int) (a1 : Int) : (List Int) × Int := (match zT (a0.length + 1) a1 0 a0 with | (z1_0, z1_1) => (z1_1, z1_0))
def Sf : Nat -> Int -> ByteArray -> ByteArray
  | 0, _, _ => default
  | n1 + 1, J, U => (bif (decide (J > 0)) then Sf n1 (W (Int.tdiv J 10)) ((⟨([(UInt8.ofInt (W (48 + (Int.tmod J 10))))] : List UInt8).toArray⟩ : ByteArray) ++ U) else (U))
def xI (a0 : Int) : ByteArray := (bif (decide (a0 <= 0)) then (⟨#[109, 48]⟩ : ByteArray) else (match Sf 22 a0 (⟨#[]⟩ : ByteArray) with | z1_0 => ((⟨#[109]⟩ : ByteArray) ++ z1_0)))
def Jt : Nat -> Int -> Nat -> List ByteArray -> Int × (List ByteArray)
  | 0, _, _, _ => (default, default)
  | n1 + 1, J, U, iQ => (bif (decide ((U : Int) < (iQ.length : Int))) then Jt n1 (W (J + 1)) (U + 1) (iQ.set U (xI J)) else ((J, iQ)))
def ZG (a0 : List ByteArray) (a1 : Int) : (List ByteArray) × Int := (match Jt (a0.length + 1) a1 0 a0 with | (z1_0, z1_1) => (z1_1, z1_0))
def KH : Nat -> Int -> Nat -> List ZO -> Int × (List ZO)
  | 0, _, _, _ => (default, default)
  | n1 + 1, J, U, iQ => (bif (decide ((U : Int) < (iQ.length : Int))) then KH n1 (W ((ZI (nth iQ U).Ys (W (J + 1))).2 + 1)) (U + 1) (iQ.set U (ZO.mk J (ZI (nth iQ U).Ys (W (J + 1))).1 (ZI (nth iQ U).Ys (W (J + 1))).2)) else ((J, iQ)))
def YC (a0 : List ZO) (a1 : Int) : (List ZO) × Int := (match KH (a0.length + 1) a1 0 a0 with | (z1_0, z1_1) => (z1_1, z1_0))
def Kv : Nat -> Int -> Nat -> List Zy -> Int × (List Zy)
  | 0, _, _, _ => (default, default)
  | n1 + 1, J, U, iQ => (bif (decide ((U : Int) < (iQ.length : Int))) then Kv n1 (W ((W (J + 1)) + 1)) (U + 1) (iQ.set U (Zy.mk J ((Int.tmod (W (J + 1)) 3) == 0))) else ((J, iQ)))
def YS (a0 : List Zy) (a1 : Int) : (List Zy) × Int := (match Kv (a0.length + 1) a1 0 a0 with | (z1_0, z1_1) => (z1_1, z1_0))
def KD : Nat -> Int -> Nat -> List ZW -> Int × (List ZW)
  | 0, _, _, _ => (default, default)
  | n1 + 1, J, U, iQ => (bif (decide ((U : Int) < (iQ.length : Int))) then KD n1 (W ((W ((W ((W ((W (J + 1)) + 1)) + 1)) + 1)) + 1)) (U + 1) (iQ.set U (ZW.mk J (W (J + 1)) (W ((W (J + 1)) + 1)) (W ((W ((W (J + 1)) + 1)) + 1)) (W ((W ((W ((W (J + 1)) + 1)) + 1)) + 1)))) else ((J, iQ)))
def Y4 (a0 : List ZW) (a1 : Int) : (List ZW) × Int := (match KD (a0.length + 1) a1 0 a0 with | (z1_0, z1_1) => (z1_1, z1_0))
def JR : Nat -> Int -> Nat -> List ZK -> Int × (List ZK)
  | 0, _, _, _ => (default, default)
  | n1 + 1, J, U, iQ => (bif (decide ((U : Int) < (iQ.length : Int))) then JR n1 (Y4 (nth iQ U).Yi (YS (nth iQ U).Path (W ((W ((W (J + 1)) + 1)) + 1))).2).2 (U + 1) (iQ.set U (ZK.mk J (W (J + 1)) (W ((W (J + 1)) + 1)) (YS (nth iQ U).Path (W ((W ((W (J + 1)) + 1)) + 1))).1 (Y4 (nth iQ U).Yi (YS (nth iQ U).Path (W ((W ((W (J + 1)) + 1)) + 1))).2).1)) else ((J, iQ)))
def Yr (a0 : List ZK) (a1 : Int) : (List ZK) × Int := (match JR (a0.length + 1) a1 0 a0 with | (z1_0, z1_1) => (z1_1, z1_0))
def Ko : Nat -> Int -> Nat -> List ZM -> Int × (List ZM)
  | 0, _, _, _ => (default, default)
  | n1 + 1, J, U, iQ => (bif (decide ((U : Int) < (iQ.length : Int))) then Ko n1 (Yr (nth iQ U).ZJ.Zf (YC (nth iQ U).ZJ.ZL (W ((W ((W ((W ((W ((W ((W ((W ((W ((ZI (nth iQ U).Doc.Zk (ZG (nth iQ U).Doc.ZU (W ((W ((W (J + 1)) + 1)) + 1))).2).2 + 1)) + 1)) + 1)) + 1)) + 1)) + 1)) + 1)) + 1)) + 1))).2).2 (U + 1) (iQ.set U (ZM.mk J (W (J + 1)) (ZT.mk (W ((W (J + 1)) + 1)) (ZG (nth iQ U).Doc.ZU (W ((W ((W (J + 1)) + 1)) + 1))).1 (ZI (nth iQ U).Doc.Zk (ZG (nth iQ U).Doc.ZU (W ((W ((W (J + 1)) + 1)) + 1))).2).1) (Zc.mk (ZI (nth iQ U).Doc.Zk (ZG (nth iQ U).Doc.ZU (W ((W ((W (J + 1)) + 1)) + 1))).2).2 (W ((ZI (nth iQ U).Doc.Zk (ZG (nth iQ U).Doc.ZU (W ((W ((W (J + 1)) + 1)) + 1))).2).2 + 1)) (W ((W ((ZI (nth iQ U).Doc.Zk (ZG (nth iQ U).Doc.ZU (W ((W ((W (J + 1)) + 1)) + 1))).2).2 + 1)) + 1)) (W ((W ((W ((ZI (nth iQ U).Doc.Zk (ZG (nth iQ U).Doc.ZU (W ((W ((W (J + 1)) + 1)) + 1))).2).2 + 1)) + 1)) + 1)) (W ((W ((W ((W ((ZI (nth iQ U).Doc.Zk (ZG (nth iQ U).Doc.ZU (W ((W ((W (J + 1)) + 1)) + 1))).2).2 + 1)) + 1)) + 1)) + 1)) (W ((W ((W ((W ((W ((ZI (nth iQ U).Doc.Zk (ZG (nth iQ U).Doc.ZU (W ((W ((W (J + 1)) + 1)) + 1))).2).2 + 1)) + 1)) + 1)) + 1)) + 1)) (W ((W ((W ((W ((W ((W ((ZI (nth iQ U).Doc.Zk (ZG (nth iQ U).Doc.ZU (W ((W ((W (J + 1)) + 1)) + 1))).2).2 + 1)) + 1)) + 1)) + 1)) + 1)) + 1)) (W ((W ((W ((W ((W ((W ((W ((ZI (nth iQ U).Doc.Zk (ZG (nth iQ U).Doc.ZU (W ((W ((W (J + 1)) + 1)) + 1))).2).2 + 1)) + 1)) + 1)) + 1)) + 1)) + 1)) + 1)) (W ((W ((W ((W ((W ((W ((W ((W ((ZI (nth iQ U).Doc.Zk (ZG (nth iQ U).Doc.ZU (W ((W ((W (J + 1)) + 1)) + 1))).2).2 + 1)) + 1)) + 1)) + 1)) + 1)) + 1)) + 1)) + 1))) (Za.mk (YC (nth iQ U).ZJ.ZL (W ((W ((W ((W ((W ((W ((W ((W ((W ((ZI (nth iQ U).Doc.Zk (ZG (nth iQ U).Doc.ZU (W ((W ((W (J + 1)) + 1)) + 1))).2).2 + 1)) + 1)) + 1)) + 1)) + 1)) + 1)) + 1)) + 1)) + 1))).1 (Yr (nth iQ U).ZJ.Zf (YC (nth iQ U).ZJ.ZL (W ((W ((W ((W ((W ((W ((W ((W ((W ((ZI (nth iQ U).Doc.Zk (ZG (nth iQ U).Doc.ZU (W ((W ((W (J + 1)) + 1)) + 1))).2).2 + 1)) + 1)) + 1)) + 1)) + 1)) + 1)) + 1)) + 1)) + 1))).2).1))) else ((J, iQ)))
def XN (a0 : List ZM) (a1 : Int) : (List ZM) × Int := (match Ko (a0.length + 1) a1 0 a0 with | (z1_0, z1_1) => (z1_1, z1_0))
def JO : Nat -> Int -> Nat -> List ZC -> Int × (List ZC)
  | 0, _, _, _ => (default, default)
  | n1 + 1, J, U, iQ => (bif (decide ((U : Int) < (iQ.length : Int))) then JO n1 (XN (nth iQ U).ZD (W (J + 1))).2 (U + 1) (iQ.set U (ZC.mk J (XN (nth iQ U).ZD (W (J + 1))).1)) else ((J, iQ)))
def Z9 (a0 : List ZC) (a1 : Int) : (List ZC) × Int := (match JO (a0.length + 1) a1 0 a0 with | (z1_0, z1_1) => (z1_1, z1_0))
def Zz (a0 : ZH) (a1 : Int) : ZH × Int := ((ZH.mk (Zu a0.Frame a1).1 (Z8 a0.ZN (Zu a0.Frame a1).2).1 (ZI a0.Zl (Z8 a0.ZN (Zu a0.Frame a1).2).2).1 (Z9 a0.ZA (ZI a0.Zl (Z8 a0.ZN (Zu a0.Frame a1).2).2).2).1 (ZI a0.YX (Z9 a0.ZA (ZI a0.Zl (Z8 a0.ZN (Zu a0.Frame a1).2).2).2).2).1 (ZI a0.YJ (ZI a0.YX (Z9 a0.ZA (ZI a0.Zl (Z8 a0.ZN (Zu a0.Frame a1).2).2).2).2).2).1 a0.Next (ZI a0.Z4 (ZI a0.YJ (ZI a0.YX (Z9 a0.ZA (ZI a0.Zl (Z8 a0.ZN (Zu a0.Frame a1).2).2).2).2).2).2).1), (ZI a0.Z4 (ZI a0.YJ (ZI a0.YX (Z9 a0.ZA (ZI a0.Zl (Z8 a0.ZN (Zu a0.Frame a1).2).2).2).2).2).2).2)
def KE : Nat -> Int -> Nat -> List Zp -> Int × (List Zp)
  | 0, _, _, _ => (default, default)
  | n1 + 1, J, U, iQ => (bif (decide ((U : Int) < (iQ.length : Int))) then KE n1 (ZI (nth iQ U).Ids (ZI (nth iQ U).Doc.Zk (ZG (nth iQ U).Doc.ZU (W ((W ((W ((W ((W ((W (J + 1)) + 1)) + 1)) + 1)) + 1)) + 1))).2).2).2 (U + 1) (iQ.set U (Zp.mk J (W (J + 1)) (W ((W (J + 1)) + 1)) (W ((W ((W (J + 1)) + 1)) + 1)) (W ((W ((W ((W (J + 1)) + 1)) + 1)) + 1)) (ZT.mk (W ((W ((W ((W ((W (J + 1)) + 1)) + 1)) + 1)) + 1)) (ZG (nth iQ U).Doc.ZU (W ((W ((W ((W ((W ((W (J + 1)) + 1)) + 1)) + 1)) + 1)) + 1))).1 (ZI (nth iQ U).Doc.Zk (ZG (nth iQ U).Doc.ZU (W ((W ((W ((W ((W ((W (J + 1)) + 1)) + 1)) + 1)) + 1)) + 1))).2).1) (ZI (nth iQ U).Ids (ZI (nth iQ U).Doc.Zk (ZG (nth iQ U).Doc.ZU (W ((W ((W ((W ((W ((W (J + 1)) + 1)) + 1)) + 1)) + 1)) + 1))).2).2).1)) else ((J, iQ)))
def JD (a0 : List Zp) (a1 : Int) : (List Zp) × Int := (match KE (a0.length + 1) a1 0 a0 with | (z1_0, z1_1) => (z1_1, z1_0))
def VJ (a0 : List YZ) : Nat -> Int -> Nat -> Sum Int Int
  | 0, _, _ => .inr default
  | n1 + 1, J, U => (bif (decide ((U : Int) < (a0.length : Int))) then (bif ((nth a0 U).Number != J) then (.inl (-1)) else (bif ((nth a0 U).WY != (W (J + 1))) then (.inl (-1)) else (bif ((nth a0 U).Method != (W ((W (J + 1)) + 1))) then (.inl (-1)) else (bif ((nth a0 U).Vz != (W ((W ((W (J + 1)) + 1)) + 1))) then (.inl (-1)) else (bif ((nth a0 U).V8 != (W ((W ((W ((W (J + 1)) + 1)) + 1)) + 1))) then (.inl (-1)) else VJ a0 n1 (W ((W ((W ((W ((W (J + 1)) + 1)) + 1)) + 1)) + 1)) (U + 1)))))) else (.inr J))
def zt (a0 : List YZ) (a1 : Int) : Int := (match VJ a0 (a0.length + 1) a1 0 with | .inl r1 => r1 | .inr z1_0 => z1_0)
def yk (a0 : List ZR) : Nat -> Int -> Nat -> Sum Int Int
  | 0, _, _ => .inr default
  | n1 + 1, J, U => (bif (decide ((U : Int) < (a0.length : Int))) then (bif ((nth a0 U).Id != J) then (.inl (-1)) else (bif ((nth a0 U).Key != (W (J + 1))) then (.inl (-1)) else (bif ((nth a0 U).Error != (W ((W (J + 1)) + 1))) then (.inl (-1)) else yk a0 n1 (W ((W ((W (J + 1)) + 1)) + 1)) (U + 1)))) else (.inr J))
def JS (a0 : List ZR) (a1 : Int) : Int := (match yk a0 (a0.length + 1) a1 0 with | .inl r1 => r1 | .inr z1_0 => z1_0)
def qw (a0 : List Zj) : Nat -> Int -> Nat -> Sum Int Int
  | 0, _, _ => .inr default
  | n1 + 1, J, U => (bif (decide ((U : Int) < (a0.length : Int))) then (bif ((nth a0 U).Id != J) then (.inl (-1)) else (bif ((nth a0 U).Nc != (W (J + 1))) then (.inl (-1)) else (bif ((nth a0 U).Ends != (W ((W (J + 1)) + 1))) then (.inl (-1)) else (bif ((nth a0 U).Si != (W ((W ((W (J + 1)) + 1)) + 1))) then (.inl (-1)) else qw a0 n1 (W ((W ((W ((W (J + 1)) + 1)) + 1)) + 1)) (U + 1))))) else (.inr J))
def xA (a0 : List Zj) (a1 : Int) : Int := (match qw a0 (a0.length + 1) a1 0 with | .inl r1 => r1 | .inr z1_0 => z1_0)
def Xu (a0 : Zq) (a1 : Int) : Int := (bif (decide ((zt a0.Zm a1) < 0)) then (-1) else (bif (decide ((JS a0.ZE (zt a0.Zm a1)) < 0)) then (-1) else (bif (decide ((xA a0.Methods (JS a0.ZE (zt a0.Zm a1))) < 0)) then (-1) else (xA a0.Methods (JS a0.ZE (zt a0.Zm a1))))))
def WH (a0 : List Z1) : Nat -> Int -> Nat -> Sum Int Int
  | 0, _, _ => .inr default
  | n1 + 1, J, U => (bif (decide ((U : Int) < (a0.length : Int))) then (bif ((nth a0 U).Zi != J) then (.inl (-1)) else (bif ((nth a0 U).Key != (W (J + 1))) then (.inl (-1)) else (bif ((nth a0 U).WY != (W ((W (J + 1)) + 1))) then (.inl (-1)) else (bif ((nth a0 U).UM != (W ((W ((W (J + 1)) + 1)) + 1))) then (.inl (-1)) else (bif ((nth a0 U).To != (W ((W ((W ((W (J + 1)) + 1)) + 1)) + 1))) then (.inl (-1)) else (bif ((nth a0 U).Z2 != (W ((W ((W ((W ((W (J + 1)) + 1)) + 1)) + 1)) + 1))) then (.inl (-1)) else (bif ((nth a0 U).Mark != (W ((W ((W ((W ((W ((W (J + 1)) + 1)) + 1)) + 1)) + 1)) + 1))) then (.inl (-1)) else WH a0 n1 (W ((W ((W ((W ((W ((W ((W (J + 1)) + 1)) + 1)) + 1)) + 1)) + 1)) + 1)) (U + 1)))))))) else (.inr J))
def QJ (a0 : List Z1) (a1 : Int) : Int := (match WH a0 (a0.length + 1) a1 0 with | .inl r1 => r1 | .inr z1_0 => z1_0)
def VA (a0 : List Int) : Nat -> Int -> Nat -> Sum Int Int
  | 0, _, _ => .inr default
  | n1 + 1, J, U => (bif (decide ((U : Int) < (a0.length : Int))) then (bif ((nth a0 U) != J) then (.inl (-1)) else VA a0 n1 (W (J + 1)) (U + 1)) else (.inr J))
def Zr (a0 : List Int) (a1 : Int) : Int := (match VA a0 (a0.length + 1) a1 0 with | .inl r1 => r1 | .inr z1_0 => z1_0)
def qx (a0 : List ByteArray) : Nat -> Int -> Nat -> Sum Int Int
  | 0, _, _ => .inr default
  | n1 + 1, J, U => (bif (decide ((U : Int) < (a0.length : Int))) then (bif (!decide ((nth a0 U) = (xI J))) then (.inl (-1)) else qx a0 n1 (W (J + 1)) (U + 1)) else (.inr J))
def Z3 (a0 : List ByteArray) (a1 : Int) : Int := (match qx a0 (a0.length + 1) a1 0 with | .inl r1 => r1 | .inr z1_0 => z1_0)
def j5 (a0 : List ZO) : Nat -> Int -> Nat -> Sum Int Int
  | 0, _, _ => .inr default
  | n1 + 1, J, U => (bif (decide ((U : Int) < (a0.length : Int))) then (bif ((nth a0 U).Key != J) then (.inl (-1)) else (bif (decide ((Zr (nth a0 U).Ys (W (J + 1))) < 0)) then (.inl (-1)) else (bif ((nth a0 U).Mark != (Zr (nth a0 U).Ys (W (J + 1)))) then (.inl (-1)) else j5 a0 n1 (W ((Zr (nth a0 U).Ys (W (J + 1))) + 1)) (U + 1)))) else (.inr J))
def Jg (a0 : List ZO) (a1 : Int) : Int := (match j5 a0 (a0.length + 1) a1 0 with | .inl r1 => r1 | .inr z1_0 => z1_0)
def kz (a0 : List Zy) : Nat -> Int -> Nat -> Sum Int Int
  | 0, _, _ => .inr default
  | n1 + 1, J, U => (bif (decide ((U : Int) < (a0.length : Int))) then (bif ((nth a0 U).Xa != J) then (.inl (-1)) else (bif (!((nth a0 U).Left == ((Int.tmod (W (J + 1)) 3) == 0))) then (.inl (-1)) else kz a0 n1 (W ((W (J + 1)) + 1)) (U + 1))) else (.inr J))
def KG (a0 : List Zy) (a1 : Int) : Int := (match kz a0 (a0.length + 1) a1 0 with | .inl r1 => r1 | .inr z1_0 => z1_0)
def jf (a0 : List ZW) : Nat -> Int -> Nat -> Sum Int Int
  | 0, _, _ => .inr default
  | n1 + 1, J, U => (bif (decide ((U : Int) < (a0.length : Int))) then (bif ((nth a0 U).Authority != J) then (.inl (-1)) else (bif ((nth a0 U).Seq != (W (J + 1))) then (.inl (-1)) else (bif ((nth a0 U).Time != (W ((W (J + 1)) + 1))) then (.inl (-1)) else (bif ((nth a0 U).Xa != (W ((W ((W (J + 1)) + 1)) + 1))) then (.inl (-1)) else (bif ((nth a0 U).Mark != (W ((W ((W ((W (J + 1)) + 1)) + 1)) + 1))) then (.inl (-1)) else jf a0 n1 (W ((W ((W ((W ((W (J + 1)) + 1)) + 1)) + 1)) + 1)) (U + 1)))))) else (.inr J))
def zX (a0 : List ZW) (a1 : Int) : Int := (match jf a0 (a0.length + 1) a1 0 with | .inl r1 => r1 | .inr z1_0 => z1_0)
def qE (a0 : List ZK) : Nat -> Int -> Nat -> Sum Int Int
  | 0, _, _ => .inr default
  | n1 + 1, J, U => (bif (decide ((U : Int) < (a0.length : Int))) then (bif ((nth a0 U).Count != J) then (.inl (-1)) else (bif ((nth a0 U).Method != (W (J + 1))) then (.inl (-1)) else (bif ((nth a0 U).GK != (W ((W (J + 1)) + 1))) then (.inl (-1)) else (bif (decide ((KG (nth a0 U).Path (W ((W ((W (J + 1)) + 1)) + 1))) < 0)) then (.inl (-1)) else (bif (decide ((zX (nth a0 U).Yi (KG (nth a0 U).Path (W ((W ((W (J + 1)) + 1)) + 1)))) < 0)) then (.inl (-1)) else qE a0 n1 (zX (nth a0 U).Yi (KG (nth a0 U).Path (W ((W ((W (J + 1)) + 1)) + 1)))) (U + 1)))))) else (.inr J))
def KK (a0 : List ZK) (a1 : Int) : Int := (match qE a0 (a0.length + 1) a1 0 with | .inl r1 => r1 | .inr z1_0 => z1_0)
def WR (a0 : List ZM) : Nat -> Int -> Nat -> Sum Int Int
  | 0, _, _ => .inr default
  | n1 + 1, J, U => (bif (decide ((U : Int) < (a0.length : Int))) then (bif ((nth a0 U).Id != J) then (.inl (-1)) else (bif ((nth a0 U).XB != (W (J + 1))) then (.inl (-1)) else (bif ((nth a0 U).Doc.qn != (W ((W (J + 1)) + 1))) then (.inl (-1)) else (bif (decide ((Z3 (nth a0 U).Doc.ZU (W ((W ((W (J + 1)) + 1)) + 1))) < 0)) then (.inl (-1)) else (bif (decide ((Zr (nth a0 U).Doc.Zk (Z3 (nth a0 U).Doc.ZU (W ((W ((W (J + 1)) + 1)) + 1)))) < 0)) then (.inl (-1)) else (bif ((nth a0 U).Sig.Key != (Zr (nth a0 U).Doc.Zk (Z3 (nth a0 U).Doc.ZU (W ((W ((W (J + 1)) + 1)) + 1))))) then (.inl (-1)) else (bif ((nth a0 U).Sig.Zi != (W ((Zr (nth a0 U).Doc.Zk (Z3 (nth a0 U).Doc.ZU (W ((W ((W (J + 1)) + 1)) + 1)))) + 1))) then (.inl (-1)) else (bif ((nth a0 U).Sig.Method != (W ((W ((Zr (nth a0 U).Doc.Zk (Z3 (nth a0 U).Doc.ZU (W ((W ((W (J + 1)) + 1)) + 1)))) + 1)) + 1))) then (.inl (-1)) else (bif ((nth a0 U).Sig.Xa != (W ((W ((W ((Zr (nth a0 U).Doc.Zk (Z3 (nth a0 U).Doc.ZU (W ((W ((W (J + 1)) + 1)) + 1)))) + 1)) + 1)) + 1))) then (.inl (-1)) else (bif ((nth a0 U).Sig.qX != (W ((W ((W ((W ((Zr (nth a0 U).Doc.Zk (Z3 (nth a0 U).Doc.ZU (W ((W ((W (J + 1)) + 1)) + 1)))) + 1)) + 1)) + 1)) + 1))) then (.inl (-1)) else (bif ((nth a0 U).Sig.Org != (W ((W ((W ((W ((W ((Zr (nth a0 U).Doc.Zk (Z3 (nth a0 U).Doc.ZU (W ((W ((W (J + 1)) + 1)) + 1)))) + 1)) + 1)) + 1)) + 1)) + 1))) then (.inl (-1)) else (bif ((nth a0 U).Sig.qW != (W ((W ((W ((W ((W ((W ((Zr (nth a0 U).Doc.Zk (Z3 (nth a0 U).Doc.ZU (W ((W ((W (J + 1)) + 1)) + 1)))) + 1)) + 1)) + 1)) + 1)) + 1)) + 1))) then (.inl (-1)) else (bif ((nth a0 U).Sig.Wy != (W ((W ((W ((W ((W ((W ((W ((Zr (nth a0 U).Doc.Zk (Z3 (nth a0 U).Doc.ZU (W ((W ((W (J + 1)) + 1)) + 1)))) + 1)) + 1)) + 1)) + 1)) + 1)) + 1)) + 1))) then (.inl (-1)) else (bif ((nth a0 U).Sig.Mark != (W ((W ((W ((W ((W ((W ((W ((W ((Zr (nth a0 U).Doc.Zk (Z3 (nth a0 U).Doc.ZU (W ((W ((W (J + 1)) + 1)) + 1)))) + 1)) + 1)) + 1)) + 1)) + 1)) + 1)) + 1)) + 1))) then (.inl (-1)) else (bif (decide ((Jg (nth a0 U).ZJ.ZL (W ((W ((W ((W ((W ((W ((W ((W ((W ((Zr (nth a0 U).Doc.Zk (Z3 (nth a0 U).Doc.ZU (W ((W ((W (J + 1)) + 1)) + 1)))) + 1)) + 1)) + 1)) + 1)) + 1)) + 1)) + 1)) + 1)) + 1))) < 0)) then (.inl (-1)) else (bif (decide ((KK (nth a0 U).ZJ.Zf (Jg (nth a0 U).ZJ.ZL (W ((W ((W ((W ((W ((W ((W ((W ((W ((Zr (nth a0 U).Doc.Zk (Z3 (nth a0 U).Doc.ZU (W ((W ((W (J + 1)) + 1)) + 1)))) + 1)) + 1)) + 1)) + 1)) + 1)) + 1)) + 1)) + 1)) + 1)))) < 0)) then (.inl (-1)) else WR a0 n1 (KK (nth a0 U).ZJ.Zf (Jg (nth a0 U).ZJ.ZL (W ((W ((W ((W ((W ((W ((W ((W ((W ((Zr (nth a0 U).Doc.Zk (Z3 (nth a0 U).Doc.ZU (W ((W ((W (J + 1)) + 1)) + 1)))) + 1)) + 1)) + 1)) + 1)) + 1)) + 1)) + 1)) + 1)) + 1)))) (U + 1))))))))))))))))) else (.inr J))
def yU (a0 : List ZM) (a1 : Int) : Int := (match WR a0 (a0.length + 1) a1 0 with | .inl r1 => r1 | .inr z1_0 => z1_0)
def qF (a0 : List ZC) : Nat -> Int -> Nat -> Sum Int Int
  | 0, _, _ => .inr default
  | n1 + 1, J, U => (bif (decide ((U : Int) < (a0.length : Int))) then (bif ((nth a0 U).Id != J) then (.inl (-1)) else (bif (decide ((yU (nth a0 U).ZD (W (J + 1))) < 0)) then (.inl (-1)) else qF a0 n1 (yU (nth a0 U).ZD (W (J + 1))) (U + 1))) else (.inr J))
def X9 (a0 : List ZC) (a1 : Int) : Int := (match qF a0 (a0.length + 1) a1 0 with | .inl r1 => r1 | .inr z1_0 => z1_0)
def yS (a0 : ZH) (a1 : Int) : Int := (bif (decide ((Xu a0.Frame a1) < 0)) then (-1) else (bif (decide ((QJ a0.ZN (Xu a0.Frame a1)) < 0)) then (-1) else (bif (decide ((Zr a0.Zl (QJ a0.ZN (Xu a0.Frame a1))) < 0)) then (-1) else (bif (decide ((X9 a0.ZA (Zr a0.Zl (QJ a0.ZN (Xu a0.Frame a1)))) < 0)) then (-1) else (bif (decide ((Zr a0.YX (X9 a0.ZA (Zr a0.Zl (QJ a0.ZN (Xu a0.Frame a1))))) < 0)) then (-1) else (bif (decide ((Zr a0.YJ (Zr a0.YX (X9 a0.ZA (Zr a0.Zl (QJ a0.ZN (Xu a0.Frame a1)))))) < 0)) then (-1) else (bif (decide ((Zr a0.Z4 (Zr a0.YJ (Zr a0.YX (X9 a0.ZA (Zr a0.Zl (QJ a0.ZN (Xu a0.Frame a1))))))) < 0)) then (-1) else (Zr a0.Z4 (Zr a0.YJ (Zr a0.YX (X9 a0.ZA (Zr a0.Zl (QJ a0.ZN (Xu a0.Frame a1))))))))))))))
def yo (a0 : ZH) (a1 : List Zp) : Bool := (bif (decide ((KQ a0 1048576) < 0)) then true else (bif (decide ((kV a1 (KQ a0 1048576)) < 0)) then true else (bif (!(jZ (YF a0 a1) (Ku a0 a1))) then false else (bif (!(jZ a0 a0)) then false else (bif (!(UK a1 a1)) then false else (bif ((decide ((JD a1 (Zz a0 1).2).2 < 0)) || (!(jZ (YF a0 a1) (Ku a0 a1)))) then false else (bif (decide ((yS (Zz (YF a0 a1) 1).1 1) < 0)) then false else (bif ((yS (Zz (YF a0 a1) 1).1 1) != (Zz (YF a0 a1) 1).2) then false else (bif (!(jZ (YF a0 a1) (Ku a0 a1))) then false else (bif (decide ((yS (Zz (YF a0 a1) 1).1 1) < 0)) then false else (bif ((yS (Zz (YF a0 a1) 1).1 1) != (Zz (YF a0 a1) 1).2) then false else true)))))))))))
end Go.Mo
