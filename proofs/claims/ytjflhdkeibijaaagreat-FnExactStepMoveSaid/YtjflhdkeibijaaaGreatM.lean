/- Models of the functions: what each computes, on typed data. No condition. -/
import Derived.Test.YtjflhdkeibijaaaGreatMo
namespace Go.Mo
open Go.Vm
def XV (a0 : List YQ) (a1 : Int) : Int := (bif (decide ((W (a1 - (↑a0.length : Int))) < 0)) then (-1) else (W (a1 - (↑a0.length : Int))))
def Yf (a0 : List ZN) (a1 : Int) : Int := (bif (decide ((W (a1 - (↑a0.length : Int))) < 0)) then (-1) else (W (a1 - (↑a0.length : Int))))
def Ju (a0 : List ZV) (a1 : Int) : Int := (bif (decide ((W (a1 - (↑a0.length : Int))) < 0)) then (-1) else (W (a1 - (↑a0.length : Int))))
def Zw (a0 : YJ) (a1 : Int) : Int := (bif (decide ((XV a0.XE a1) < 0)) then (-1) else (bif (decide ((Yf a0.Zc (XV a0.XE a1)) < 0)) then (-1) else (bif (decide ((Ju a0.Methods (Yf a0.Zc (XV a0.XE a1))) < 0)) then (-1) else (Ju a0.Methods (Yf a0.Zc (XV a0.XE a1))))))
def YB (a0 : List Zz) (a1 : Int) : Int := (bif (decide ((W (a1 - (↑a0.length : Int))) < 0)) then (-1) else (W (a1 - (↑a0.length : Int))))
def Zi (a0 : List Int) (a1 : Int) : Int := (bif (decide ((W (a1 - (↑a0.length : Int))) < 0)) then (-1) else (W (a1 - (↑a0.length : Int))))
def K9 (a0 : List ByteArray) : Nat → Int → Nat → Sum Int Int
  | 0, _, _ => .inr default
  | n1 + 1, v1_0, v1_1 => (bif (decide ((↑v1_1 : Int) < (↑a0.length : Int))) then (bif (decide ((W (v1_0 - (↑(nth a0 v1_1).size : Int))) < 0)) then (.inl (-1)) else K9 a0 n1 (W (v1_0 - (↑(nth a0 v1_1).size : Int))) (v1_1 + 1)) else (.inr v1_0))
def XF (a0 : List ByteArray) (a1 : Int) : Int := (bif (decide ((W (a1 - (↑a0.length : Int))) < 0)) then (-1) else (match K9 a0 (a0.length + 1) (W (a1 - (↑a0.length : Int))) 0 with | .inl r1 => r1 | .inr z1_0 => z1_0))
def Yp (a0 : ZR) (a1 : Int) : Int := (bif (decide ((XF a0.ZE a1) < 0)) then (-1) else (bif (decide ((Zi a0.ZG (XF a0.ZE a1)) < 0)) then (-1) else (Zi a0.ZG (XF a0.ZE a1))))
def zu (a0 : ZM) (a1 : Int) : Int := (bif (decide ((Zi a0.Yh a1) < 0)) then (-1) else (Zi a0.Yh a1))
def yB (a0 : List ZM) : Nat → Int → Nat → Sum Int Int
  | 0, _, _ => .inr default
  | n1 + 1, v1_0, v1_1 => (bif (decide ((↑v1_1 : Int) < (↑a0.length : Int))) then (bif (decide ((zu (nth a0 v1_1) v1_0) < 0)) then (.inl (-1)) else yB a0 n1 (zu (nth a0 v1_1) v1_0) (v1_1 + 1)) else (.inr v1_0))
def Xl (a0 : List ZM) (a1 : Int) : Int := (bif (decide ((W (a1 - (↑a0.length : Int))) < 0)) then (-1) else (match yB a0 (a0.length + 1) (W (a1 - (↑a0.length : Int))) 0 with | .inl r1 => r1 | .inr z1_0 => z1_0))
def QG (a0 : List Z4) (a1 : Int) : Int := (bif (decide ((W (a1 - (↑a0.length : Int))) < 0)) then (-1) else (W (a1 - (↑a0.length : Int))))
def KO (a0 : List Za) (a1 : Int) : Int := (bif (decide ((W (a1 - (↑a0.length : Int))) < 0)) then (-1) else (W (a1 - (↑a0.length : Int))))
def Js (a0 : ZL) (a1 : Int) : Int := (bif (decide ((QG a0.Path a1) < 0)) then (-1) else (bif (decide ((KO a0.Zu (QG a0.Path a1)) < 0)) then (-1) else (KO a0.Zu (QG a0.Path a1))))
def Kd (a0 : List ZL) : Nat → Int → Nat → Sum Int Int
  | 0, _, _ => .inr default
  | n1 + 1, v1_0, v1_1 => (bif (decide ((↑v1_1 : Int) < (↑a0.length : Int))) then (bif (decide ((Js (nth a0 v1_1) v1_0) < 0)) then (.inl (-1)) else Kd a0 n1 (Js (nth a0 v1_1) v1_0) (v1_1 + 1)) else (.inr v1_0))
def Q0 (a0 : List ZL) (a1 : Int) : Int := (bif (decide ((W (a1 - (↑a0.length : Int))) < 0)) then (-1) else (match Kd a0 (a0.length + 1) (W (a1 - (↑a0.length : Int))) 0 with | .inl r1 => r1 | .inr z1_0 => z1_0))
def JP (a0 : Zf) (a1 : Int) : Int := (bif (decide ((Xl a0.ZS a1) < 0)) then (-1) else (bif (decide ((Q0 a0.Zj (Xl a0.ZS a1)) < 0)) then (-1) else (Q0 a0.Zj (Xl a0.ZS a1))))
def xE (a0 : ZI) (a1 : Int) : Int := (bif (decide ((Yp a0.Doc a1) < 0)) then (-1) else (bif (decide ((JP a0.ZQ (Yp a0.Doc a1)) < 0)) then (-1) else (JP a0.ZQ (Yp a0.Doc a1))))
def xJ (a0 : List ZI) : Nat → Int → Nat → Sum Int Int
  | 0, _, _ => .inr default
  | n1 + 1, v1_0, v1_1 => (bif (decide ((↑v1_1 : Int) < (↑a0.length : Int))) then (bif (decide ((xE (nth a0 v1_1) v1_0) < 0)) then (.inl (-1)) else xJ a0 n1 (xE (nth a0 v1_1) v1_0) (v1_1 + 1)) else (.inr v1_0))
def zx (a0 : List ZI) (a1 : Int) : Int := (bif (decide ((W (a1 - (↑a0.length : Int))) < 0)) then (-1) else (match xJ a0 (a0.length + 1) (W (a1 - (↑a0.length : Int))) 0 with | .inl r1 => r1 | .inr z1_0 => z1_0))
def Jj (a0 : ZC) (a1 : Int) : Int := (bif (decide ((zx a0.ZF a1) < 0)) then (-1) else (zx a0.ZF a1))
def Kf (a0 : List ZC) : Nat → Int → Nat → Sum Int Int
  | 0, _, _ => .inr default
  | n1 + 1, v1_0, v1_1 => (bif (decide ((↑v1_1 : Int) < (↑a0.length : Int))) then (bif (decide ((Jj (nth a0 v1_1) v1_0) < 0)) then (.inl (-1)) else Kf a0 n1 (Jj (nth a0 v1_1) v1_0) (v1_1 + 1)) else (.inr v1_0))
def YC (a0 : List ZC) (a1 : Int) : Int := (bif (decide ((W (a1 - (↑a0.length : Int))) < 0)) then (-1) else (match Kf a0 (a0.length + 1) (W (a1 - (↑a0.length : Int))) 0 with | .inl r1 => r1 | .inr z1_0 => z1_0))
def zf (a0 : Ze) (a1 : Int) : Int := (bif (decide ((Zw a0.Frame a1) < 0)) then (-1) else (bif (decide ((YB a0.Zy (Zw a0.Frame a1)) < 0)) then (-1) else (bif (decide ((Zi a0.Z6 (YB a0.Zy (Zw a0.Frame a1))) < 0)) then (-1) else (bif (decide ((YC a0.ZH (Zi a0.Z6 (YB a0.Zy (Zw a0.Frame a1)))) < 0)) then (-1) else (bif (decide ((Zi a0.XC (YC a0.ZH (Zi a0.Z6 (YB a0.Zy (Zw a0.Frame a1))))) < 0)) then (-1) else (bif (decide ((Zi a0.Yq (Zi a0.XC (YC a0.ZH (Zi a0.Z6 (YB a0.Zy (Zw a0.Frame a1)))))) < 0)) then (-1) else (bif (decide ((Zi a0.Ym (Zi a0.Yq (Zi a0.XC (YC a0.ZH (Zi a0.Z6 (YB a0.Zy (Zw a0.Frame a1))))))) < 0)) then (-1) else (Zi a0.Ym (Zi a0.Yq (Zi a0.XC (YC a0.ZH (Zi a0.Z6 (YB a0.Zy (Zw a0.Frame a1))))))))))))))
def Rw (a0 : YQ) : YQ := a0
def kN (a0 : List YQ) : Nat → Nat → List YQ → (List YQ)
  | 0, _, _ => default
  | n1 + 1, v1_0, v1_1 => (bif (decide ((↑v1_0 : Int) < (↑a0.length : Int))) then kN a0 n1 (v1_0 + 1) (v1_1.set v1_0 (nth a0 v1_0)) else (v1_1))
def OR (a0 : List YQ) : List YQ := (match kN a0 (a0.length + 1) 0 (List.replicate a0.length (YQ.mk 0 0 0 0 0)) with | z1_0 => z1_0)
def xC (a0 : ZN) : ZN := a0
def K3 (a0 : List ZN) : Nat → Nat → List ZN → (List ZN)
  | 0, _, _ => default
  | n1 + 1, v1_0, v1_1 => (bif (decide ((↑v1_0 : Int) < (↑a0.length : Int))) then K3 a0 n1 (v1_0 + 1) (v1_1.set v1_0 (nth a0 v1_0)) else (v1_1))
def qa (a0 : List ZN) : List ZN := (match K3 a0 (a0.length + 1) 0 (List.replicate a0.length (ZN.mk 0 0 0)) with | z1_0 => z1_0)
def kY (a0 : ZV) : ZV := a0
def y2 (a0 : List ZV) : Nat → Nat → List ZV → (List ZV)
  | 0, _, _ => default
  | n1 + 1, v1_0, v1_1 => (bif (decide ((↑v1_0 : Int) < (↑a0.length : Int))) then y2 a0 n1 (v1_0 + 1) (v1_1.set v1_0 (nth a0 v1_0)) else (v1_1))
def WZ (a0 : List ZV) : List ZV := (match y2 a0 (a0.length + 1) 0 (List.replicate a0.length (ZV.mk 0 0 0 0)) with | z1_0 => z1_0)
def VN (a0 : YJ) : YJ := a0
def TH (a0 : Zz) : Zz := a0
def jH (a0 : List Zz) : Nat → Nat → List Zz → (List Zz)
  | 0, _, _ => default
  | n1 + 1, v1_0, v1_1 => (bif (decide ((↑v1_0 : Int) < (↑a0.length : Int))) then jH a0 n1 (v1_0 + 1) (v1_1.set v1_0 (nth a0 v1_0)) else (v1_1))
def SJ (a0 : List Zz) : List Zz := (match jH a0 (a0.length + 1) 0 (List.replicate a0.length (Zz.mk 0 0 0 0 0 0 0)) with | z1_0 => z1_0)
def kF (a0 : List Int) : Nat → Nat → List Int → (List Int)
  | 0, _, _ => default
  | n1 + 1, v1_0, v1_1 => (bif (decide ((↑v1_0 : Int) < (↑a0.length : Int))) then kF a0 n1 (v1_0 + 1) (v1_1.set v1_0 (nth a0 v1_0)) else (v1_1))
def P9 (a0 : List Int) : List Int := (match kF a0 (a0.length + 1) 0 (List.replicate a0.length 0) with | z1_0 => z1_0)
def y4 (a0 : List ByteArray) : Nat → Nat → List ByteArray → (List ByteArray)
  | 0, _, _ => default
  | n1 + 1, v1_0, v1_1 => (bif (decide ((↑v1_0 : Int) < (↑a0.length : Int))) then y4 a0 n1 (v1_0 + 1) (v1_1.set v1_0 (nth a0 v1_0)) else (v1_1))
def Wb (a0 : List ByteArray) : List ByteArray := (match y4 a0 (a0.length + 1) 0 (List.replicate a0.length (⟨#[]⟩ : ByteArray)) with | z1_0 => z1_0)
def xp (a0 : ZR) : ZR := a0
def y9 (a0 : Zb) : Zb := a0
def VL (a0 : ZM) : ZM := a0
def xn (a0 : List ZM) : Nat → Nat → List ZM → (List ZM)
  | 0, _, _ => default
  | n1 + 1, v1_0, v1_1 => (bif (decide ((↑v1_0 : Int) < (↑a0.length : Int))) then xn a0 n1 (v1_0 + 1) (v1_1.set v1_0 (nth a0 v1_0)) else (v1_1))
def V5 (a0 : List ZM) : List ZM := (match xn a0 (a0.length + 1) 0 (List.replicate a0.length (ZM.mk 0 ([] : List Int) 0)) with | z1_0 => z1_0)
def UR (a0 : Z4) : Z4 := a0
def jB (a0 : List Z4) : Nat → Nat → List Z4 → (List Z4)
  | 0, _, _ => default
  | n1 + 1, v1_0, v1_1 => (bif (decide ((↑v1_0 : Int) < (↑a0.length : Int))) then jB a0 n1 (v1_0 + 1) (v1_1.set v1_0 (nth a0 v1_0)) else (v1_1))
def Th (a0 : List Z4) : List Z4 := (match jB a0 (a0.length + 1) 0 (List.replicate a0.length (Z4.mk 0 false)) with | z1_0 => z1_0)
def VK (a0 : Za) : Za := a0
def xt (a0 : List Za) : Nat → Nat → List Za → (List Za)
  | 0, _, _ => default
  | n1 + 1, v1_0, v1_1 => (bif (decide ((↑v1_0 : Int) < (↑a0.length : Int))) then xt a0 n1 (v1_0 + 1) (v1_1.set v1_0 (nth a0 v1_0)) else (v1_1))
def UB (a0 : List Za) : List Za := (match xt a0 (a0.length + 1) 0 (List.replicate a0.length (Za.mk 0 0 0 0 0)) with | z1_0 => z1_0)
def qz (a0 : ZL) : ZL := a0
def yW (a0 : List ZL) : Nat → Nat → List ZL → (List ZL)
  | 0, _, _ => default
  | n1 + 1, v1_0, v1_1 => (bif (decide ((↑v1_0 : Int) < (↑a0.length : Int))) then yW a0 n1 (v1_0 + 1) (v1_1.set v1_0 (nth a0 v1_0)) else (v1_1))
def ka (a0 : List ZL) : List ZL := (match yW a0 (a0.length + 1) 0 (List.replicate a0.length (ZL.mk 0 0 0 ([] : List Z4) ([] : List Za))) with | z1_0 => z1_0)
def kj (a0 : Zf) : Zf := a0
def Ui (a0 : ZI) : ZI := a0
def jM (a0 : List ZI) : Nat → Nat → List ZI → (List ZI)
  | 0, _, _ => default
  | n1 + 1, v1_0, v1_1 => (bif (decide ((↑v1_0 : Int) < (↑a0.length : Int))) then jM a0 n1 (v1_0 + 1) (v1_1.set v1_0 (nth a0 v1_0)) else (v1_1))
def T2 (a0 : List ZI) : List ZI := (match jM a0 (a0.length + 1) 0 (List.replicate a0.length (ZI.mk 0 0 (ZR.mk 0 ([] : List ByteArray) ([] : List Int)) (Zb.mk 0 0 0 0 0 0 0 0 0) (Zf.mk ([] : List ZM) ([] : List ZL)))) with | z1_0 => z1_0)
def jI (a0 : ZC) : ZC := a0
def zy (a0 : List ZC) : Nat → Nat → List ZC → (List ZC)
  | 0, _, _ => default
  | n1 + 1, v1_0, v1_1 => (bif (decide ((↑v1_0 : Int) < (↑a0.length : Int))) then zy a0 n1 (v1_0 + 1) (v1_1.set v1_0 (nth a0 v1_0)) else (v1_1))
def kd (a0 : List ZC) : List ZC := (match zy a0 (a0.length + 1) 0 (List.replicate a0.length (ZC.mk 0 ([] : List ZI))) with | z1_0 => z1_0)
def VC (a0 : Ze) : Ze := a0
def UI (a0 : YJ) : YJ := a0
def Ou (a0 : ZR) : ZR := a0
def Tz (a0 : ZM) : ZM := a0
def kO (a0 : List ZM) : Nat → List ZM → Nat → (List ZM)
  | 0, _, _ => default
  | n1 + 1, v1_0, v1_1 => (bif (decide ((↑v1_1 : Int) < (↑a0.length : Int))) then kO a0 n1 (v1_0 ++ ([(nth a0 v1_1)] : List ZM)) (v1_1 + 1) else (v1_0))
def TM (a0 : List ZM) : List ZM := (match kO a0 (a0.length + 1) ([] : List ZM) 0 with | z1_0 => z1_0)
def Ta (a0 : ZL) : ZL := a0
def jJ (a0 : Zf) : Nat → Nat → List ZL → (List ZL)
  | 0, _, _ => default
  | n1 + 1, v1_0, v1_1 => (bif (decide ((↑v1_0 : Int) < (↑a0.Zj.length : Int))) then jJ a0 n1 (v1_0 + 1) (v1_1 ++ ([(nth a0.Zj v1_0)] : List ZL)) else (v1_1))
def VG (a0 : Zf) : Zf := (match jJ a0 (a0.Zj.length + 1) 0 ([] : List ZL) with | z1_0 => (Zf.mk a0.ZS z1_0))
def Tx (a0 : ZI) : ZI := a0
def jF (a0 : ZC) : Nat → Nat → List ZI → (List ZI)
  | 0, _, _ => default
  | n1 + 1, v1_0, v1_1 => (bif (decide ((↑v1_0 : Int) < (↑a0.ZF.length : Int))) then jF a0 n1 (v1_0 + 1) (v1_1 ++ ([(nth a0.ZF v1_0)] : List ZI)) else (v1_1))
def VE (a0 : ZC) : ZC := (match jF a0 (a0.ZF.length + 1) 0 ([] : List ZI) with | z1_0 => (ZC.mk a0.Id z1_0))
def jN (a0 : Ze) : Nat → Nat → List ZC → (List ZC)
  | 0, _, _ => default
  | n1 + 1, v1_0, v1_1 => (bif (decide ((↑v1_0 : Int) < (↑a0.ZH.length : Int))) then jN a0 n1 (v1_0 + 1) (v1_1 ++ ([(nth a0.ZH v1_0)] : List ZC)) else (v1_1))
def VF (a0 : Ze) : Ze := (match jN a0 (a0.ZH.length + 1) 0 ([] : List ZC) with | z1_0 => (Ze.mk a0.Frame a0.Zy a0.Z6 z1_0 a0.XC a0.Yq a0.Next a0.Ym))
def JX (a0 : List ZV) (a1 : Int) : Nat → Int → Nat → Int
  | 0, _, _ => default
  | n1 + 1, v1_0, v1_1 => (bif (decide ((↑v1_1 : Int) < (↑a0.length : Int))) then (bif (((decide (a1 ≥ (nth a0 v1_1).WX)) && (decide (a1 < (nth a0 v1_1).Ends))) && ((decide (v1_0 < 0)) || (decide ((nth a0 v1_1).Ends > (nth a0 v1_0.toNat).Ends)))) then JX a0 a1 n1 (↑v1_1 : Int) (v1_1 + 1) else JX a0 a1 n1 v1_0 (v1_1 + 1)) else (v1_0))
def Yt (a0 : List ZV) (a1 : Int) : Int := (match JX a0 a1 (a0.length + 1) (-1) 0 with | z1_0 => (bif (decide (z1_0 < 0)) then (-1) else (nth a0 z1_0.toNat).Id))
def XM (a0 : Int) (a1 : Int) (a2 : Int) : Bool := ((decide (a0 ≥ a1)) && (decide (a0 ≤ a2)))
def xO (a0 : Ze) (a1 : Int) : Bool := (XM a1 0 (W ((↑a0.ZH.length : Int) - 1)))
def K1 (a0 : ZC) (a1 : Int) : Nat → Nat → Sum Int Unit
  | 0, _ => .inr ()
  | n1 + 1, v1_0 => (bif (decide ((↑v1_0 : Int) < (↑a0.ZF.length : Int))) then (bif ((nth a0.ZF v1_0).Id == a1) then (.inl (↑v1_0 : Int)) else K1 a0 a1 n1 (v1_0 + 1)) else (.inr ()))
def Xo (a0 : ZC) (a1 : Int) : Int := (match K1 a0 a1 (a0.ZF.length + 1) 0 with | .inl r1 => r1 | .inr _ => (-1))
def Jg (a0 : ZR) : Nat → Nat → Sum Bool Unit
  | 0, _ => .inr ()
  | n2 + 1, v2_0 => (bif (decide ((↑v2_0 : Int) < (↑a0.ZG.length : Int))) then (bif (!(XM (nth a0.ZG v2_0) 1 1000000000000)) then (.inl false) else Jg a0 n2 (v2_0 + 1)) else (.inr ()))
def Jd (a0 : ZR) : Nat → Nat → Sum Bool Unit
  | 0, _ => .inr ()
  | n1 + 1, v1_0 => (bif (decide ((↑v1_0 : Int) < (↑a0.ZE.length : Int))) then (bif (decide ((↑(nth a0.ZE v1_0).size : Int) > 40)) then (.inl false) else Jd a0 n1 (v1_0 + 1)) else (.inr ()))
def Q8 (a0 : ZR) : Bool := (match Jd a0 (a0.ZE.length + 1) 0 with | .inl r1 => r1 | .inr _ => (match Jg a0 (a0.ZG.length + 1) 0 with | .inl r2 => r2 | .inr _ => (((XM a0.K4 0 999) && (XM (↑a0.ZE.length : Int) 1 6)) && ((↑a0.ZG.length : Int) == (↑a0.ZE.length : Int)))))
def Iy (a0 : Int) (a1 : Int) : Int := (bif (!(XM a1 1 1000000000000)) then 0 else (Int.tmod (W ((Int.tmod a0 a1) + a1)) a1))
def Wa (a0 : List Int) : Nat → Int → Nat → Int
  | 0, _, _ => default
  | n1 + 1, v1_0, v1_1 => (bif (decide ((↑v1_1 : Int) < (↑a0.length : Int))) then Wa a0 n1 (Int.tmod (W ((W ((W (v1_0 * 1000003)) + (Iy (nth a0 v1_1) 2147483647))) + 13)) 2147483647) (v1_1 + 1) else (v1_0))
def OX (a0 : List Int) : Int := (match Wa a0 (a0.length + 1) 11 0 with | z1_0 => z1_0)
def Qh (a0 : Int) (a1 : List Int) : Int := (OX (([7, a0] : List Int) ++ a1))
def KV (a1 : ByteArray) : Nat → List Int → Nat → (List Int)
  | 0, _, _ => default
  | n1 + 1, v1_0, v1_1 => (bif (decide ((↑v1_1 : Int) < (↑a1.size : Int))) then KV a1 n1 (v1_0 ++ ([(W (↑(bAt a1 v1_1) : Int))] : List Int)) (v1_1 + 1) else (v1_0))
def yD (a0 : Int) (a1 : ByteArray) (a2 : Int) : Int := (match KV a1 (a1.size + 1) ([a2] : List Int) 0 with | z1_0 => (Qh a0 z1_0))
def zE (a0 : Int) (a1 : ZR) : Nat → List Int → Nat → (List Int)
  | 0, _, _ => default
  | n1 + 1, v1_0, v1_1 => (bif (decide ((↑v1_1 : Int) < (↑a1.ZE.length : Int))) then zE a0 a1 n1 (v1_0 ++ ([(yD a0 (nth a1.ZE v1_1) (nth a1.ZG v1_1))] : List Int)) (v1_1 + 1) else (v1_0))
def zj (a0 : Int) (a1 : ZR) : Int := (bif (!(Q8 a1)) then (-1) else (match zE a0 a1 (a1.ZE.length + 1) ([a1.K4] : List Int) 0 with | z1_0 => (Qh a0 z1_0)))
def Ja (a0 : Int) (a1 : List ZM) : Nat → List Int → Nat → (List Int)
  | 0, _, _ => default
  | n1 + 1, v1_0, v1_1 => (bif (decide ((↑v1_1 : Int) < (↑a1.length : Int))) then Ja a0 a1 n1 (v1_0 ++ ([(Qh a0 (([(nth a1 v1_1).Key, (nth a1 v1_1).Mark] : List Int) ++ (nth a1 v1_1).Yh))] : List Int)) (v1_1 + 1) else (v1_0))
def JZ (a0 : Int) (a1 : List ZM) : Int := (match Ja a0 a1 (a1.length + 1) ([2] : List Int) 0 with | z1_0 => (Qh a0 z1_0))
def zk (a0 : Za) : List Int := ([103, a0.Authority, a0.Seq, a0.Time, a0.YZ] : List Int)
def JH (a1 : ZL) : Nat → List Int → Nat → (List Int)
  | 0, _, _ => default
  | n2 + 1, v2_0, v2_1 => (bif (decide ((↑v2_1 : Int) < (↑a1.Zu.length : Int))) then JH a1 n2 ((v2_0 ++ (zk (nth a1.Zu v2_1))) ++ ([(nth a1.Zu v2_1).Mark] : List Int)) (v2_1 + 1) else (v2_0))
def QJ (a1 : ZL) : Nat → List Int → Nat → (List Int)
  | 0, _, _ => default
  | n1 + 1, v1_0, v1_1 => (bif (decide ((↑v1_1 : Int) < (↑a1.Path.length : Int))) then (bif (nth a1.Path v1_1).Left then QJ a1 n1 ((v1_0 ++ ([(nth a1.Path v1_1).YZ] : List Int)) ++ ([1] : List Int)) (v1_1 + 1) else QJ a1 n1 ((v1_0 ++ ([(nth a1.Path v1_1).YZ] : List Int)) ++ ([0] : List Int)) (v1_1 + 1)) else (v1_0))
def J8 (a0 : Int) (a1 : ZL) : Int := (match QJ a1 (a1.Path.length + 1) ([4, a1.Count, a1.Method, a1.Ud] : List Int) 0 with | z1_0 => (match JH a1 (a1.Zu.length + 1) (z1_0 ++ ([(↑a1.Zu.length : Int)] : List Int)) 0 with | z2_0 => (Qh a0 z2_0)))
def KZ (a0 : Int) (a1 : ZI) : Nat → List Int → Nat → (List Int)
  | 0, _, _ => default
  | n1 + 1, v1_0, v1_1 => (bif (decide ((↑v1_1 : Int) < (↑a1.ZQ.Zj.length : Int))) then KZ a0 a1 n1 (v1_0 ++ ([(J8 a0 (nth a1.ZQ.Zj v1_1))] : List Int)) (v1_1 + 1) else (v1_0))
def yV (a0 : Int) (a1 : ZI) : Int := (match KZ a0 a1 (a1.ZQ.Zj.length + 1) ([5, a1.Id, a1.Yo, (zj a0 a1.Doc), (JZ a0 a1.ZQ.ZS)] : List Int) 0 with | z1_0 => (Qh a0 z1_0))
def yE (a0 : Int) (a1 : Int) (a2 : Int) : Int := (Qh a0 ([1, a1, a2] : List Int))
def Kn (a0 : Int) (a1 : List Int) : Nat → List Int → Nat → (List Int)
  | 0, _, _ => default
  | n1 + 1, v1_0, v1_1 => (bif (decide ((↑v1_1 : Int) < (↑a1.length : Int))) then (bif (decide ((W ((↑v1_1 : Int) + 1)) < (↑a1.length : Int))) then Kn a0 a1 n1 (v1_0 ++ ([(yE a0 (nth a1 v1_1) (nth a1 (W ((↑v1_1 : Int) + 1)).toNat))] : List Int)) (v1_1 + 2) else Kn a0 a1 n1 (v1_0 ++ ([(nth a1 v1_1)] : List Int)) (v1_1 + 2)) else (v1_0))
def kP (a0 : Int) (a1 : List Int) : List Int := (match Kn a0 a1 (a1.length + 1) ([] : List Int) 0 with | z1_0 => z1_0)
def yN (a0 : Int) : Nat → List Int → (List Int)
  | 0, _ => default
  | n1 + 1, v1_0 => (bif (decide ((↑v1_0.length : Int) > 1)) then yN a0 n1 (kP a0 v1_0) else (v1_0))
def qW (a0 : Int) (a1 : List Int) : Int := (bif (!(XM (↑a1.length : Int) 1 16)) then (-1) else (match yN a0 (a1.length + 1) a1 with | z1_0 => (nth z1_0 0)))
def xN (a0 : Int) (a1 : List ZI) : Nat → List Int → Nat → (List Int)
  | 0, _, _ => default
  | n1 + 1, v1_0, v1_1 => (bif (decide ((↑v1_1 : Int) < (↑a1.length : Int))) then xN a0 a1 n1 (v1_0 ++ ([(yV a0 (nth a1 v1_1))] : List Int)) (v1_1 + 1) else (v1_0))
def qD (a0 : Int) (a1 : List ZI) : Int := (match xN a0 a1 (a1.length + 1) ([] : List Int) 0 with | z1_0 => (qW a0 z1_0))
def Xq (a0 : ZC) (a2 : List Int) : Nat → Nat → List ZI → Sum (Z1 × Bool) (List ZI)
  | 0, _, _ => .inr default
  | n1 + 1, v1_0, v1_1 => (bif (decide ((↑v1_0 : Int) < (↑a2.length : Int))) then (bif (decide ((Xo a0 (nth a2 v1_0)) < 0)) then (.inl ((Z1.mk 0 0 ([] : List ZI) 0), false)) else Xq a0 a2 n1 (v1_0 + 1) (v1_1 ++ ([(nth a0.ZF (Xo a0 (nth a2 v1_0)).toNat)] : List ZI))) else (.inr v1_1))
def Yg (a0 : ZC) (a1 : Int) (a2 : List Int) (a3 : Int) : Z1 × Bool := (match Xq a0 a2 (a2.length + 1) 0 ([] : List ZI) with | .inl r1 => r1 | .inr z1_0 => (bif ((↑a2.length : Int) == 0) then ((Z1.mk 0 0 ([] : List ZI) 0), false) else ((Z1.mk a0.Id a1 z1_0 (qD a3 z1_0)), true)))
def Ur (a0 : Int) : Bool := (XM a0 0 10000)
def yv (a0 : List Int) (a1 : List Int) : Nat → Nat → Sum Bool Unit
  | 0, _ => .inr ()
  | n1 + 1, v1_0 => (bif (decide ((↑v1_0 : Int) < (↑a0.length : Int))) then (bif ((nth a0 v1_0) != (nth a1 v1_0)) then (.inl false) else yv a0 a1 n1 (v1_0 + 1)) else (.inr ()))
def jC (a0 : List Int) (a1 : List Int) : Bool := (bif ((↑a0.length : Int) != (↑a1.length : Int)) then false else (match yv a0 a1 (a0.length + 1) 0 with | .inl r1 => r1 | .inr _ => true))
def KA (a0 : ZM) (a1 : ZM) : Bool := (((a0.Key == a1.Key) && (a0.Mark == a1.Mark)) && (jC a0.Yh a1.Yh))
def xA (a0 : Zf) (a1 : ZM) : Nat → Nat → Sum Int Unit
  | 0, _ => .inr ()
  | n1 + 1, v1_0 => (bif (decide ((↑v1_0 : Int) < (↑a0.ZS.length : Int))) then (bif (KA (nth a0.ZS v1_0) a1) then (.inl (↑v1_0 : Int)) else xA a0 a1 n1 (v1_0 + 1)) else (.inr ()))
def zp (a0 : Zf) (a1 : ZM) : Int := (match xA a0 a1 (a0.ZS.length + 1) 0 with | .inl r1 => r1 | .inr _ => (-1))
def Kw (a0 : Zf) : Nat → Nat → Sum Bool Unit
  | 0, _ => .inr ()
  | n2 + 1, v2_0 => (bif (decide ((↑v2_0 : Int) < (↑a0.Zj.length : Int))) then (bif ((!(XM (nth a0.Zj v2_0).Count 1 (↑a0.ZS.length : Int))) || ((decide ((↑v2_0 : Int) > 0)) && (decide ((nth a0.Zj (v2_0 - 1)).Count > (nth a0.Zj v2_0).Count)))) then (.inl false) else Kw a0 n2 (v2_0 + 1)) else (.inr ()))
def Kv (a0 : Zf) : Nat → Nat → Sum Bool Unit
  | 0, _ => .inr ()
  | n1 + 1, v1_0 => (bif (decide ((↑v1_0 : Int) < (↑a0.ZS.length : Int))) then (bif (decide ((zp a0 (nth a0.ZS v1_0)) < (↑v1_0 : Int))) then (.inl false) else Kv a0 n1 (v1_0 + 1)) else (.inr ()))
def zV (a0 : Zf) : Bool := (match Kv a0 (a0.ZS.length + 1) 0 with | .inl r1 => r1 | .inr _ => (match Kw a0 (a0.Zj.length + 1) 0 with | .inl r2 => r2 | .inr _ => ((XM (↑a0.ZS.length : Int) 1 12) && (decide ((↑a0.Zj.length : Int) ≤ 8)))))
def Qx (a0 : Zb) : List Int := ([104, a0.Key, a0.QM, a0.Method, a0.YZ, a0.zP, a0.Org, a0.KY, a0.yZ] : List Int)
def zb (a0 : Zb) : ZM := (ZM.mk a0.Key (Qx a0) a0.Mark)
def jk (a0 : ZI) : Bool := (((((XM a0.Id 1 999) && (Ur a0.Yo)) && (Q8 a0.Doc)) && (zV a0.ZQ)) && (KA (nth a0.ZQ.ZS 0) (zb a0.Sig)))
def Xs (a0 : Z1) : Nat → Nat → Sum Bool Unit
  | 0, _ => .inr ()
  | n1 + 1, v1_0 => (bif (decide ((↑v1_0 : Int) < (↑a0.ZF.length : Int))) then (bif (!(jk (nth a0.ZF v1_0))) then (.inl false) else Xs a0 n1 (v1_0 + 1)) else (.inr ()))
def QU (a0 : Z1) (a1 : Int) : Bool := (match Xs a0 (a0.ZF.length + 1) 0 with | .inl r1 => r1 | .inr _ => ((XM (↑a0.ZF.length : Int) 1 8) && (a0.YZ == (qD a1 a0.ZF))))
def zA (a0 : ZC) : Nat → Nat → Sum Bool Unit
  | 0, _ => .inr ()
  | n1 + 1, v1_0 => (bif (decide ((↑v1_0 : Int) < (↑a0.ZF.length : Int))) then (bif ((!(jk (nth a0.ZF v1_0))) || ((decide ((↑v1_0 : Int) > 0)) && (decide ((nth a0.ZF (v1_0 - 1)).Id ≥ (nth a0.ZF v1_0).Id)))) then (.inl false) else zA a0 n1 (v1_0 + 1)) else (.inr ()))
def QV (a0 : ZC) : Bool := (match zA a0 (a0.ZF.length + 1) 0 with | .inl r1 => r1 | .inr _ => ((XM a0.Id 0 99) && (decide ((↑a0.ZF.length : Int) ≤ 8))))
def Y8 (a0 : ZC) (a1 : ZI) : Nat → Bool → Nat → List ZI → Bool × (List ZI)
  | 0, _, _, _ => (default, default)
  | n1 + 1, v1_0, v1_1, v1_2 => (bif (decide ((↑v1_1 : Int) < (↑a0.ZF.length : Int))) then (bif ((!v1_0) && (decide (a1.Id < (nth a0.ZF v1_1).Id))) then Y8 a0 a1 n1 true (v1_1 + 1) ((v1_2 ++ ([a1] : List ZI)) ++ ([(nth a0.ZF v1_1)] : List ZI)) else Y8 a0 a1 n1 v1_0 (v1_1 + 1) (v1_2 ++ ([(nth a0.ZF v1_1)] : List ZI))) else ((v1_0, v1_2)))
def KD (a0 : ZC) (a1 : ZI) : ZC × Bool := (bif ((!(QV a0)) || (decide ((Xo a0 a1.Id) ≥ 0))) then (a0, false) else (match Y8 a0 a1 (a0.ZF.length + 1) false 0 ([] : List ZI) with | (z1_0, z1_1) => (bif (!z1_0) then (bif (!(QV (ZC.mk a0.Id (z1_1 ++ ([a1] : List ZI))))) then (a0, false) else ((ZC.mk a0.Id (z1_1 ++ ([a1] : List ZI))), true)) else (bif (!(QV (ZC.mk a0.Id z1_1))) then (a0, false) else ((ZC.mk a0.Id z1_1), true)))))
def Yw (a1 : Z1) : Nat → Bool → Nat → Int → List ZI → Bool × Int × (List ZI)
  | 0, _, _, _, _ => (default, default, default)
  | n1 + 1, v1_0, v1_1, v1_2, v1_3 => (bif ((decide ((↑v1_1 : Int) < (↑a1.ZF.length : Int))) && v1_0) then Yw a1 n1 (KD (ZC.mk v1_2 v1_3) (nth a1.ZF v1_1)).2 (v1_1 + 1) (KD (ZC.mk v1_2 v1_3) (nth a1.ZF v1_1)).1.Id (KD (ZC.mk v1_2 v1_3) (nth a1.ZF v1_1)).1.ZF else ((v1_0, v1_2, v1_3)))
def Y5 (a0 : ZC) (a1 : Z1) (a2 : Int) : ZC × Bool := (match Yw a1 (a1.ZF.length + 1) ((QU a1 a2) && (a1.To == a0.Id)) 0 a0.Id a0.ZF with | (z1_0, z1_1, z1_2) => (bif (!z1_0) then (a0, false) else ((ZC.mk z1_1 z1_2), true)))
def QR (a0 : ZC) (a1 : Int) : Nat → Nat → List ZI → (List ZI)
  | 0, _, _ => default
  | n1 + 1, v1_0, v1_1 => (bif (decide ((↑v1_0 : Int) < (↑a0.ZF.length : Int))) then (bif ((↑v1_0 : Int) != (Xo a0 a1)) then QR a0 a1 n1 (v1_0 + 1) (v1_1 ++ ([(nth a0.ZF v1_0)] : List ZI)) else QR a0 a1 n1 (v1_0 + 1) v1_1) else (v1_1))
def JM (a0 : ZC) (a1 : Int) : ZC × Bool := (bif (decide ((Xo a0 a1) < 0)) then (a0, false) else (match QR a0 a1 (a0.ZF.length + 1) 0 ([] : List ZI) with | z1_0 => ((ZC.mk a0.Id z1_0), true)))
def XL (a0 : ZC) (a1 : ZC) (a2 : List Int) (a3 : Int) : Nat → Bool → Nat → Int → List ZI → Bool × Int × (List ZI)
  | 0, _, _, _, _ => (default, default, default)
  | n1 + 1, v1_0, v1_1, v1_2, v1_3 => (bif (((decide ((↑v1_1 : Int) < (↑a2.length : Int))) && (Yg a0 a1.Id a2 a3).2) && v1_0) then XL a0 a1 a2 a3 n1 (JM (ZC.mk v1_2 v1_3) (nth a2 v1_1)).2 (v1_1 + 1) (JM (ZC.mk v1_2 v1_3) (nth a2 v1_1)).1.Id (JM (ZC.mk v1_2 v1_3) (nth a2 v1_1)).1.ZF else ((v1_0, v1_2, v1_3)))
def Y7 (a0 : ZC) (a1 : ZC) (a2 : List Int) (a3 : Int) : ZC × ZC × Bool := (match XL a0 a1 a2 a3 (a2.length + 1) (Y5 a1 (Yg a0 a1.Id a2 a3).1 a3).2 0 a0.Id a0.ZF with | (z1_0, z1_1, z1_2) => (bif ((!(Yg a0 a1.Id a2 a3).2) || (!z1_0)) then (a0, a1, false) else ((ZC.mk z1_1 z1_2), (Y5 a1 (Yg a0 a1.Id a2 a3).1 a3).1, true)))
def Xj (a0 : Ze) (a1 : Int) (a2 : Int) (a3 : Int) : Ze × Bool := (bif ((((!(xO a0 a1)) || (!(xO a0 a2))) || (a1 == a2)) || (decide ((Yt a0.Frame.Methods a0.Frame.Now) < 0))) then (a0, false) else ((Ze.mk a0.Frame a0.Zy a0.Z6 ((a0.ZH.set a1.toNat (Y7 (nth a0.ZH a1.toNat) (nth a0.ZH a2.toNat) ([a3] : List Int) (Yt a0.Frame.Methods a0.Frame.Now)).1).set a2.toNat (Y7 (nth a0.ZH a1.toNat) (nth a0.ZH a2.toNat) ([a3] : List Int) (Yt a0.Frame.Methods a0.Frame.Now)).2.1) a0.XC a0.Yq a0.Next a0.Ym), (Y7 (nth a0.ZH a1.toNat) (nth a0.ZH a2.toNat) ([a3] : List Int) (Yt a0.Frame.Methods a0.Frame.Now)).2.2))
def Wr (a0 : YJ) : YJ := a0
def Vv (a0 : List Int) : List Int := a0
def qZ (a0 : ZR) : ZR := a0
def W4 (a0 : ZM) : ZM := a0
def yX (a0 : List ZM) : Nat → List ZM → Nat → (List ZM)
  | 0, _, _ => default
  | n1 + 1, v1_0, v1_1 => (bif (decide ((↑v1_1 : Int) < (↑a0.length : Int))) then yX a0 n1 (v1_0 ++ ([(nth a0 v1_1)] : List ZM)) (v1_1 + 1) else (v1_0))
def qB (a0 : List ZM) : List ZM := (match yX a0 (a0.length + 1) ([] : List ZM) 0 with | z1_0 => z1_0)
def kl (a0 : List Za) : List Za := a0
def jZ (a0 : ZL) : ZL := a0
def yC (a0 : Zf) : Nat → Nat → List ZL → (List ZL)
  | 0, _, _ => default
  | n1 + 1, v1_0, v1_1 => (bif (decide ((↑v1_0 : Int) < (↑a0.Zj.length : Int))) then yC a0 n1 (v1_0 + 1) (v1_1 ++ ([(nth a0.Zj v1_0)] : List ZL)) else (v1_1))
def xu (a0 : Zf) : Zf := (match yC a0 (a0.Zj.length + 1) 0 ([] : List ZL) with | z1_0 => (Zf.mk a0.ZS z1_0))
def UF (a0 : ZI) : ZI := a0
def zL (a0 : ZC) : Nat → Nat → List ZI → (List ZI)
  | 0, _, _ => default
  | n1 + 1, v1_0, v1_1 => (bif (decide ((↑v1_0 : Int) < (↑a0.ZF.length : Int))) then zL a0 n1 (v1_0 + 1) (v1_1 ++ ([(nth a0.ZF v1_0)] : List ZI)) else (v1_1))
def xB (a0 : ZC) : ZC := (match zL a0 (a0.ZF.length + 1) 0 ([] : List ZI) with | z1_0 => (ZC.mk a0.Id z1_0))
def y6 (a0 : Ze) : Nat → Nat → List ZC → (List ZC)
  | 0, _, _ => default
  | n1 + 1, v1_0, v1_1 => (bif (decide ((↑v1_0 : Int) < (↑a0.ZH.length : Int))) then y6 a0 n1 (v1_0 + 1) (v1_1 ++ ([(nth a0.ZH v1_0)] : List ZC)) else (v1_1))
def qn (a0 : Ze) : Ze := (match y6 a0 (a0.ZH.length + 1) 0 ([] : List ZC) with | z1_0 => (Ze.mk a0.Frame a0.Zy a0.Z6 z1_0 a0.XC a0.Yq a0.Next a0.Ym))
def Ji (a0 : List ZV) (a1 : Int) : Nat → Int → Nat → Int
  | 0, _, _ => default
  | n1 + 1, v1_0, v1_1 => (bif (decide ((↑v1_1 : Int) < (↑a0.length : Int))) then (bif (((decide ((nth a0 v1_1).WX ≤ a1)) && (decide (a1 < (nth a0 v1_1).Ends))) && ((decide (v1_0 < 0)) || (decide ((nth a0 v1_1).Ends > (nth a0 v1_0.toNat).Ends)))) then Ji a0 a1 n1 (↑v1_1 : Int) (v1_1 + 1) else Ji a0 a1 n1 v1_0 (v1_1 + 1)) else (v1_0))
def YK (a0 : List ZV) (a1 : Int) : Int := (match Ji a0 a1 (a0.length + 1) (-1) 0 with | z1_0 => (bif (decide (z1_0 < 0)) then (-1) else (nth a0 z1_0.toNat).Id))
def YE (a0 : Int) (a1 : Int) (a2 : Int) : Bool := ((decide (a1 ≤ a0)) && (decide (a0 ≤ a2)))
def Xh (a0 : Ze) (a1 : Int) : Bool := (YE a1 0 (W ((↑a0.ZH.length : Int) - 1)))
def Jx (a0 : ZC) (a1 : Int) : Nat → Nat → Sum Int Unit
  | 0, _ => .inr ()
  | n1 + 1, v1_0 => (bif (decide ((↑v1_0 : Int) < (↑a0.ZF.length : Int))) then (bif ((nth a0.ZF v1_0).Id == a1) then (.inl (↑v1_0 : Int)) else Jx a0 a1 n1 (v1_0 + 1)) else (.inr ()))
def ZX (a0 : ZC) (a1 : Int) : Int := (match Jx a0 a1 (a0.ZF.length + 1) 0 with | .inl r1 => r1 | .inr _ => (-1))
def JW (a0 : ZR) : Nat → Nat → Sum Bool Unit
  | 0, _ => .inr ()
  | n1 + 1, v1_0 => (bif (decide ((↑v1_0 : Int) < (↑a0.ZE.length : Int))) then (bif ((decide ((↑(nth a0.ZE v1_0).size : Int) > 40)) || (!(YE (nth a0.ZG v1_0) 1 1000000000000))) then (.inl false) else JW a0 n1 (v1_0 + 1)) else (.inr ()))
def JK (a0 : ZR) : Bool := (bif (((!(YE a0.K4 0 999)) || (!(YE (↑a0.ZE.length : Int) 1 6))) || ((↑a0.ZG.length : Int) != (↑a0.ZE.length : Int))) then false else (match JW a0 (a0.ZE.length + 1) 0 with | .inl r1 => r1 | .inr _ => true))
def Kc (a0 : List UInt8) : Nat → List Int → Nat → (List Int)
  | 0, _, _ => default
  | n1 + 1, v1_0, v1_1 => (bif (decide ((↑v1_1 : Int) < (↑a0.length : Int))) then Kc a0 n1 (v1_0 ++ ([(W (↑(nth a0 v1_1).toNat : Int))] : List Int)) (v1_1 + 1) else (v1_0))
def yg (a0 : List UInt8) : List Int := (match Kc a0 (a0.length + 1) ([] : List Int) 0 with | z1_0 => z1_0)
def HN (a0 : Int) (a1 : Int) : Int := (bif (!(YE a1 1 1000000000000)) then 0 else (Int.tmod (W ((Int.tmod a0 a1) + a1)) a1))
def Wi (a0 : List Int) : Nat → Int → Nat → Int
  | 0, _, _ => default
  | n1 + 1, v1_0, v1_1 => (bif (decide ((↑v1_1 : Int) < (↑a0.length : Int))) then Wi a0 n1 (Int.tmod (W ((W ((W (v1_0 * 1000003)) + (HN (nth a0 v1_1) 2147483647))) + 13)) 2147483647) (v1_1 + 1) else (v1_0))
def Pq (a0 : List Int) : Int := (match Wi a0 (a0.length + 1) 11 0 with | z1_0 => z1_0)
def Qj (a0 : Int) (a1 : List Int) : Int := (Pq (([7, a0] : List Int) ++ a1))
def yJ (a0 : Int) (a1 : ByteArray) (a2 : Int) : Int := (Qj a0 (([a2] : List Int) ++ (yg a1.data.toList)))
def zG (a0 : Int) (a1 : ZR) : Nat → List Int → Nat → (List Int)
  | 0, _, _ => default
  | n1 + 1, v1_0, v1_1 => (bif (decide ((↑v1_1 : Int) < (↑a1.ZE.length : Int))) then zG a0 a1 n1 (v1_0 ++ ([(yJ a0 (nth a1.ZE v1_1) (nth a1.ZG v1_1))] : List Int)) (v1_1 + 1) else (v1_0))
def zc (a0 : Int) (a1 : ZR) : Int := (bif (!(JK a1)) then (-1) else (match zG a0 a1 (a1.ZE.length + 1) ([a1.K4] : List Int) 0 with | z1_0 => (Qj a0 z1_0)))
def JU (a0 : Int) (a1 : List ZM) : Nat → List Int → Nat → (List Int)
  | 0, _, _ => default
  | n1 + 1, v1_0, v1_1 => (bif (decide ((↑v1_1 : Int) < (↑a1.length : Int))) then JU a0 a1 n1 (v1_0 ++ ([(Qj a0 (([(nth a1 v1_1).Key, (nth a1 v1_1).Mark] : List Int) ++ (nth a1 v1_1).Yh))] : List Int)) (v1_1 + 1) else (v1_0))
def Jb (a0 : Int) (a1 : List ZM) : Int := (match JU a0 a1 (a1.length + 1) ([2] : List Int) 0 with | z1_0 => (Qj a0 z1_0))
def zd (a0 : Za) : List Int := ([103, a0.Authority, a0.Seq, a0.Time, a0.YZ] : List Int)
def JC (a1 : ZL) : Nat → List Int → Nat → (List Int)
  | 0, _, _ => default
  | n2 + 1, v2_0, v2_1 => (bif (decide ((↑v2_1 : Int) < (↑a1.Zu.length : Int))) then JC a1 n2 ((v2_0 ++ (zd (nth a1.Zu v2_1))) ++ ([(nth a1.Zu v2_1).Mark] : List Int)) (v2_1 + 1) else (v2_0))
def QI (a1 : ZL) : Nat → List Int → Nat → (List Int)
  | 0, _, _ => default
  | n1 + 1, v1_0, v1_1 => (bif (decide ((↑v1_1 : Int) < (↑a1.Path.length : Int))) then (bif (nth a1.Path v1_1).Left then QI a1 n1 (v1_0 ++ ([(nth a1.Path v1_1).YZ, 1] : List Int)) (v1_1 + 1) else QI a1 n1 (v1_0 ++ ([(nth a1.Path v1_1).YZ, 0] : List Int)) (v1_1 + 1)) else (v1_0))
def J7 (a0 : Int) (a1 : ZL) : Int := (match QI a1 (a1.Path.length + 1) ([4, a1.Count, a1.Method, a1.Ud] : List Int) 0 with | z1_0 => (match JC a1 (a1.Zu.length + 1) (z1_0 ++ ([(↑a1.Zu.length : Int)] : List Int)) 0 with | z2_0 => (Qj a0 z2_0)))
def Ke (a0 : Int) (a1 : ZI) : Nat → List Int → Nat → (List Int)
  | 0, _, _ => default
  | n1 + 1, v1_0, v1_1 => (bif (decide ((↑v1_1 : Int) < (↑a1.ZQ.Zj.length : Int))) then Ke a0 a1 n1 (v1_0 ++ ([(J7 a0 (nth a1.ZQ.Zj v1_1))] : List Int)) (v1_1 + 1) else (v1_0))
def yQ (a0 : Int) (a1 : ZI) : Int := (match Ke a0 a1 (a1.ZQ.Zj.length + 1) ([5, a1.Id, a1.Yo, (zc a0 a1.Doc), (Jb a0 a1.ZQ.ZS)] : List Int) 0 with | z1_0 => (Qj a0 z1_0))
def yR (a0 : Int) (a1 : Int) (a2 : Int) : Int := (Qj a0 ([1, a1, a2] : List Int))
def Xr (a0 : Int) (a1 : List Int) : Nat → List Int → Nat → (List Int)
  | 0, _, _ => default
  | n1 + 1, v1_0, v1_1 => (bif (decide ((↑v1_1 : Int) < (↑a1.length : Int))) then (bif (decide ((W ((↑v1_1 : Int) + 1)) < (↑a1.length : Int))) then Xr a0 a1 n1 (v1_0 ++ ([(yR a0 (nth a1 v1_1) (nth a1 (W ((↑v1_1 : Int) + 1)).toNat))] : List Int)) (v1_1 + 2) else Xr a0 a1 n1 (v1_0 ++ ([(nth a1 v1_1)] : List Int)) (v1_1 + 2)) else (v1_0))
def J1 (a0 : Int) (a1 : List Int) : List Int := (match Xr a0 a1 (a1.length + 1) ([] : List Int) 0 with | z1_0 => z1_0)
def yO (a0 : Int) : Nat → List Int → (List Int)
  | 0, _ => default
  | n1 + 1, v1_0 => (bif (decide ((↑v1_0.length : Int) > 1)) then yO a0 n1 (J1 a0 v1_0) else (v1_0))
def qN (a0 : Int) (a1 : List Int) : Int := (bif (!(YE (↑a1.length : Int) 1 16)) then (-1) else (match yO a0 (a1.length + 1) a1 with | z1_0 => (nth z1_0 0)))
def Q7 (a0 : Int) (a1 : List ZI) : Nat → List Int → Nat → (List Int)
  | 0, _, _ => default
  | n1 + 1, v1_0, v1_1 => (bif (decide ((↑v1_1 : Int) < (↑a1.length : Int))) then Q7 a0 a1 n1 (v1_0 ++ ([(yQ a0 (nth a1 v1_1))] : List Int)) (v1_1 + 1) else (v1_0))
def Qt (a0 : Int) (a1 : List ZI) : Int := (match Q7 a0 a1 (a1.length + 1) ([] : List Int) 0 with | z1_0 => (qN a0 z1_0))
def Yr (a0 : ZC) (a2 : List Int) : Nat → Nat → List ZI → Sum (Z1 × Bool) (List ZI)
  | 0, _, _ => .inr default
  | n1 + 1, v1_0, v1_1 => (bif (decide ((↑v1_0 : Int) < (↑a2.length : Int))) then (bif (decide ((ZX a0 (nth a2 v1_0)) < 0)) then (.inl ((Z1.mk 0 0 ([] : List ZI) 0), false)) else Yr a0 a2 n1 (v1_0 + 1) (v1_1 ++ ([(nth a0.ZF (ZX a0 (nth a2 v1_0)).toNat)] : List ZI))) else (.inr v1_1))
def YH (a0 : ZC) (a1 : Int) (a2 : List Int) (a3 : Int) : Z1 × Bool := (match Yr a0 a2 (a2.length + 1) 0 ([] : List ZI) with | .inl r1 => r1 | .inr z1_0 => (bif ((↑a2.length : Int) == 0) then ((Z1.mk 0 0 ([] : List ZI) 0), false) else ((Z1.mk a0.Id a1 z1_0 (Qt a3 z1_0)), true)))
def TD (a0 : Int) : Bool := (YE a0 0 10000)
def y8 (a0 : List Int) (a1 : List Int) : Nat → Nat → Sum Bool Unit
  | 0, _ => .inr ()
  | n1 + 1, v1_0 => (bif (decide ((↑v1_0 : Int) < (↑a0.length : Int))) then (bif ((nth a0 v1_0) != (nth a1 v1_0)) then (.inl false) else y8 a0 a1 n1 (v1_0 + 1)) else (.inr ()))
def jL (a0 : List Int) (a1 : List Int) : Bool := (bif ((↑a0.length : Int) != (↑a1.length : Int)) then false else (match y8 a0 a1 (a0.length + 1) 0 with | .inl r1 => r1 | .inr _ => true))
def KJ (a0 : ZM) (a1 : ZM) : Bool := (((a0.Key == a1.Key) && (a0.Mark == a1.Mark)) && (jL a0.Yh a1.Yh))
def xw (a0 : List ZM) (a1 : ZM) : Nat → Nat → Sum Bool Unit
  | 0, _ => .inr ()
  | n1 + 1, v1_0 => (bif (decide ((↑v1_0 : Int) < (↑a0.length : Int))) then (bif (KJ (nth a0 v1_0) a1) then (.inl true) else xw a0 a1 n1 (v1_0 + 1)) else (.inr ()))
def qL (a0 : List ZM) (a1 : ZM) : Bool := (match xw a0 a1 (a0.length + 1) 0 with | .inl r1 => r1 | .inr _ => false)
def K0 (a0 : Zf) : Nat → Nat → Sum Bool Unit
  | 0, _ => .inr ()
  | n2 + 1, v2_0 => (bif (decide ((↑v2_0 : Int) < (↑a0.Zj.length : Int))) then (bif ((!(YE (nth a0.Zj v2_0).Count 1 (↑a0.ZS.length : Int))) || ((decide ((↑v2_0 : Int) > 0)) && (decide ((nth a0.Zj v2_0).Count < (nth a0.Zj (v2_0 - 1)).Count)))) then (.inl false) else K0 a0 n2 (v2_0 + 1)) else (.inr ()))
def Kx (a0 : Zf) : Nat → Nat → Sum Bool Unit
  | 0, _ => .inr ()
  | n1 + 1, v1_0 => (bif (decide ((↑v1_0 : Int) < (↑a0.ZS.length : Int))) then (bif (qL (a0.ZS.take v1_0) (nth a0.ZS v1_0)) then (.inl false) else Kx a0 n1 (v1_0 + 1)) else (.inr ()))
def zU (a0 : Zf) : Bool := (bif ((!(YE (↑a0.ZS.length : Int) 1 12)) || (decide ((↑a0.Zj.length : Int) > 8))) then false else (match Kx a0 (a0.ZS.length + 1) 0 with | .inl r1 => r1 | .inr _ => (match K0 a0 (a0.Zj.length + 1) 0 with | .inl r2 => r2 | .inr _ => true)))
def Qy (a0 : Zb) : List Int := ([104, a0.Key, a0.QM, a0.Method, a0.YZ, a0.zP, a0.Org, a0.KY, a0.yZ] : List Int)
def za (a0 : Zb) : ZM := (ZM.mk a0.Key (Qy a0) a0.Mark)
def kA (a0 : ZI) : Bool := (((((YE a0.Id 1 999) && (TD a0.Yo)) && (JK a0.Doc)) && (zU a0.ZQ)) && (KJ (nth a0.ZQ.ZS 0) (za a0.Sig)))
def Xu (a0 : Z1) : Nat → Nat → Sum Bool Unit
  | 0, _ => .inr ()
  | n1 + 1, v1_0 => (bif (decide ((↑v1_0 : Int) < (↑a0.ZF.length : Int))) then (bif (!(kA (nth a0.ZF v1_0))) then (.inl false) else Xu a0 n1 (v1_0 + 1)) else (.inr ()))
def XK (a0 : Z1) (a1 : Int) : Bool := (match Xu a0 (a0.ZF.length + 1) 0 with | .inl r1 => r1 | .inr _ => ((YE (↑a0.ZF.length : Int) 1 8) && (a0.YZ == (Qt a1 a0.ZF))))
def K7 (a0 : ZC) : Nat → Nat → Sum Bool Unit
  | 0, _ => .inr ()
  | n1 + 1, v1_0 => (bif (decide ((↑v1_0 : Int) < (↑a0.ZF.length : Int))) then (bif ((!(kA (nth a0.ZF v1_0))) || ((decide ((↑v1_0 : Int) > 0)) && (decide ((nth a0.ZF (v1_0 - 1)).Id ≥ (nth a0.ZF v1_0).Id)))) then (.inl false) else K7 a0 n1 (v1_0 + 1)) else (.inr ()))
def JG (a0 : ZC) : Bool := (match K7 a0 (a0.ZF.length + 1) 0 with | .inl r1 => r1 | .inr _ => ((YE a0.Id 0 99) && (decide ((↑a0.ZF.length : Int) ≤ 8))))
def YU (a0 : ZC) (a1 : ZI) : Nat → Nat → Nat
  | 0, _ => default
  | n1 + 1, v1_0 => (bif ((decide ((↑v1_0 : Int) < (↑a0.ZF.length : Int))) && (decide ((nth a0.ZF v1_0).Id < a1.Id))) then YU a0 a1 n1 (v1_0 + 1) else (v1_0))
def X4 (a0 : ZC) (a1 : ZI) : ZC × Bool := (bif ((decide ((ZX a0 a1.Id) ≥ 0)) || (!(JG a0))) then (a0, false) else (match YU a0 a1 (a0.ZF.length + 1) 0 with | z1_0 => (bif (!(JG (ZC.mk a0.Id (((a0.ZF.take z1_0) ++ ([a1] : List ZI)) ++ (a0.ZF.drop z1_0))))) then (a0, false) else ((ZC.mk a0.Id (((a0.ZF.take z1_0) ++ ([a1] : List ZI)) ++ (a0.ZF.drop z1_0))), true))))
def Yx (a0 : ZC) (a1 : Z1) : Nat → Nat → Int → List ZI → Sum (ZC × Bool) (Int × (List ZI))
  | 0, _, _, _ => .inr (default, default)
  | n1 + 1, v1_0, v1_1, v1_2 => (bif (decide ((↑v1_0 : Int) < (↑a1.ZF.length : Int))) then (bif (!(X4 (ZC.mk v1_1 v1_2) (nth a1.ZF v1_0)).2) then (.inl (a0, false)) else Yx a0 a1 n1 (v1_0 + 1) (X4 (ZC.mk v1_1 v1_2) (nth a1.ZF v1_0)).1.Id (X4 (ZC.mk v1_1 v1_2) (nth a1.ZF v1_0)).1.ZF) else (.inr (v1_1, v1_2)))
def YV (a0 : ZC) (a1 : Z1) (a2 : Int) : ZC × Bool := (bif ((!(XK a1 a2)) || (a1.To != a0.Id)) then (a0, false) else (match Yx a0 a1 (a1.ZF.length + 1) 0 a0.Id a0.ZF with | .inl r1 => r1 | .inr (z1_0, z1_1) => ((ZC.mk z1_0 z1_1), true)))
def XS (a0 : ZC) (a1 : Int) : ZC × Bool := (bif (decide ((ZX a0 a1) < 0)) then (a0, false) else ((ZC.mk a0.Id (a0.ZF.take (ZX a0 a1).toNat ++ (a0.ZF.drop (W ((ZX a0 a1) + 1)).toNat))), true))
def Yy (a0 : ZC) (a1 : ZC) (a2 : List Int) : Nat → Nat → Int → List ZI → Sum (ZC × ZC × Bool) (Int × (List ZI))
  | 0, _, _, _ => .inr (default, default)
  | n1 + 1, v1_0, v1_1, v1_2 => (bif (decide ((↑v1_0 : Int) < (↑a2.length : Int))) then (bif (!(XS (ZC.mk v1_1 v1_2) (nth a2 v1_0)).2) then (.inl (a0, a1, false)) else Yy a0 a1 a2 n1 (v1_0 + 1) (XS (ZC.mk v1_1 v1_2) (nth a2 v1_0)).1.Id (XS (ZC.mk v1_1 v1_2) (nth a2 v1_0)).1.ZF) else (.inr (v1_1, v1_2)))
def YG (a0 : ZC) (a1 : ZC) (a2 : List Int) (a3 : Int) : ZC × ZC × Bool := (bif ((!(YH a0 a1.Id a2 a3).2) || (!(YV a1 (YH a0 a1.Id a2 a3).1 a3).2)) then (a0, a1, false) else (match Yy a0 a1 a2 (a2.length + 1) 0 a0.Id a0.ZF with | .inl r1 => r1 | .inr (z1_0, z1_1) => ((ZC.mk z1_0 z1_1), (YV a1 (YH a0 a1.Id a2 a3).1 a3).1, true)))
def Zx (a0 : Ze) (a1 : Int) (a2 : Int) (a3 : Int) : Ze × Bool := (bif ((((!(Xh a0 a1)) || (!(Xh a0 a2))) || (a1 == a2)) || (decide ((YK a0.Frame.Methods a0.Frame.Now) < 0))) then (a0, false) else (bif (YG (nth a0.ZH a1.toNat) (nth a0.ZH a2.toNat) ([a3] : List Int) (YK a0.Frame.Methods a0.Frame.Now)).2.2 then ((Ze.mk a0.Frame a0.Zy a0.Z6 ((a0.ZH.set a1.toNat (YG (nth a0.ZH a1.toNat) (nth a0.ZH a2.toNat) ([a3] : List Int) (YK a0.Frame.Methods a0.Frame.Now)).1).set a2.toNat (YG (nth a0.ZH a1.toNat) (nth a0.ZH a2.toNat) ([a3] : List Int) (YK a0.Frame.Methods a0.Frame.Now)).2.1) a0.XC a0.Yq a0.Next a0.Ym), (YG (nth a0.ZH a1.toNat) (nth a0.ZH a2.toNat) ([a3] : List Int) (YK a0.Frame.Methods a0.Frame.Now)).2.2) else (a0, (YG (nth a0.ZH a1.toNat) (nth a0.ZH a2.toNat) ([a3] : List Int) (YK a0.Frame.Methods a0.Frame.Now)).2.2)))
def VO (a0 : YQ) (a1 : YQ) : Bool := (bif (a0.Number != a1.Number) then false else (bif (a0.ze != a1.ze) then false else (bif (a0.Method != a1.Method) then false else (bif (a0.Oz != a1.Oz) then false else (bif (a0.xf != a1.xf) then false else true)))))
def ko (a0 : List YQ) (a1 : List YQ) : Nat → Nat → Sum Bool Unit
  | 0, _ => .inr ()
  | n1 + 1, v1_0 => (bif (decide ((↑v1_0 : Int) < (↑a0.length : Int))) then (bif (!(VO (nth a0 v1_0) (nth a1 v1_0))) then (.inl false) else ko a0 a1 n1 (v1_0 + 1)) else (.inr ()))
def We (a0 : List YQ) (a1 : List YQ) : Bool := (bif ((↑a0.length : Int) != (↑a1.length : Int)) then false else (match ko a0 a1 (a0.length + 1) 0 with | .inl r1 => r1 | .inr _ => true))
def KG (a0 : ZN) (a1 : ZN) : Bool := (bif (a0.Id != a1.Id) then false else (bif (a0.Key != a1.Key) then false else (bif (a0.Error != a1.Error) then false else true)))
def Ko (a0 : List ZN) (a1 : List ZN) : Nat → Nat → Sum Bool Unit
  | 0, _ => .inr ()
  | n1 + 1, v1_0 => (bif (decide ((↑v1_0 : Int) < (↑a0.length : Int))) then (bif (!(KG (nth a0 v1_0) (nth a1 v1_0))) then (.inl false) else Ko a0 a1 n1 (v1_0 + 1)) else (.inr ()))
def KX (a0 : List ZN) (a1 : List ZN) : Bool := (bif ((↑a0.length : Int) != (↑a1.length : Int)) then false else (match Ko a0 a1 (a0.length + 1) 0 with | .inl r1 => r1 | .inr _ => true))
def yi (a0 : ZV) (a1 : ZV) : Bool := (bif (a0.Id != a1.Id) then false else (bif (a0.WX != a1.WX) then false else (bif (a0.Ends != a1.Ends) then false else (bif (a0.qd != a1.qd) then false else true))))
def yy (a0 : List ZV) (a1 : List ZV) : Nat → Nat → Sum Bool Unit
  | 0, _ => .inr ()
  | n1 + 1, v1_0 => (bif (decide ((↑v1_0 : Int) < (↑a0.length : Int))) then (bif (!(yi (nth a0 v1_0) (nth a1 v1_0))) then (.inl false) else yy a0 a1 n1 (v1_0 + 1)) else (.inr ()))
def xR (a0 : List ZV) (a1 : List ZV) : Bool := (bif ((↑a0.length : Int) != (↑a1.length : Int)) then false else (match yy a0 a1 (a0.length + 1) 0 with | .inl r1 => r1 | .inr _ => true))
def ju (a0 : YJ) (a1 : YJ) : Bool := (bif (!(We a0.XE a1.XE)) then false else (bif (!(KX a0.Zc a1.Zc)) then false else (bif (!(xR a0.Methods a1.Methods)) then false else (bif (a0.xh != a1.xh) then false else (bif (a0.Now != a1.Now) then false else true)))))
def kB (a0 : Zz) (a1 : Zz) : Bool := (bif (a0.QM != a1.QM) then false else (bif (a0.Key != a1.Key) then false else (bif (a0.ze != a1.ze) then false else (bif (a0.xo != a1.xo) then false else (bif (a0.To != a1.To) then false else (bif (a0.KW != a1.KW) then false else (bif (a0.Mark != a1.Mark) then false else true)))))))
def qo (a0 : List Zz) (a1 : List Zz) : Nat → Nat → Sum Bool Unit
  | 0, _ => .inr ()
  | n1 + 1, v1_0 => (bif (decide ((↑v1_0 : Int) < (↑a0.length : Int))) then (bif (!(kB (nth a0 v1_0) (nth a1 v1_0))) then (.inl false) else qo a0 a1 n1 (v1_0 + 1)) else (.inr ()))
def ji (a0 : List Zz) (a1 : List Zz) : Bool := (bif ((↑a0.length : Int) != (↑a1.length : Int)) then false else (match qo a0 a1 (a0.length + 1) 0 with | .inl r1 => r1 | .inr _ => true))
def kH (a0 : List Int) (a1 : List Int) : Nat → Nat → Sum Bool Unit
  | 0, _ => .inr ()
  | n1 + 1, v1_0 => (bif (decide ((↑v1_0 : Int) < (↑a0.length : Int))) then (bif ((nth a0 v1_0) != (nth a1 v1_0)) then (.inl false) else kH a0 a1 n1 (v1_0 + 1)) else (.inr ()))
def zF (a0 : List Int) (a1 : List Int) : Bool := (bif ((↑a0.length : Int) != (↑a1.length : Int)) then false else (match kH a0 a1 (a0.length + 1) 0 with | .inl r1 => r1 | .inr _ => true))
def yw (a0 : List ByteArray) (a1 : List ByteArray) : Nat → Nat → Sum Bool Unit
  | 0, _ => .inr ()
  | n1 + 1, v1_0 => (bif (decide ((↑v1_0 : Int) < (↑a0.length : Int))) then (bif (!decide ((nth a0 v1_0) = (nth a1 v1_0))) then (.inl false) else yw a0 a1 n1 (v1_0 + 1)) else (.inr ()))
def xF (a0 : List ByteArray) (a1 : List ByteArray) : Bool := (bif ((↑a0.length : Int) != (↑a1.length : Int)) then false else (match yw a0 a1 (a0.length + 1) 0 with | .inl r1 => r1 | .inr _ => true))
def z9 (a0 : ZR) (a1 : ZR) : Bool := (bif (a0.K4 != a1.K4) then false else (bif (!(xF a0.ZE a1.ZE)) then false else (bif (!(zF a0.ZG a1.ZG)) then false else true)))
def K8 (a0 : Zb) (a1 : Zb) : Bool := (bif (a0.Key != a1.Key) then false else (bif (a0.QM != a1.QM) then false else (bif (a0.Method != a1.Method) then false else (bif (a0.YZ != a1.YZ) then false else (bif (a0.zP != a1.zP) then false else (bif (a0.Org != a1.Org) then false else (bif (a0.KY != a1.KY) then false else (bif (a0.yZ != a1.yZ) then false else (bif (a0.Mark != a1.Mark) then false else true)))))))))
def qG (a0 : ZM) (a1 : ZM) : Bool := (bif (a0.Key != a1.Key) then false else (bif (!(zF a0.Yh a1.Yh)) then false else (bif (a0.Mark != a1.Mark) then false else true)))
def xv (a0 : List ZM) (a1 : List ZM) : Nat → Nat → Sum Bool Unit
  | 0, _ => .inr ()
  | n1 + 1, v1_0 => (bif (decide ((↑v1_0 : Int) < (↑a0.length : Int))) then (bif (!(qG (nth a0 v1_0) (nth a1 v1_0))) then (.inl false) else xv a0 a1 n1 (v1_0 + 1)) else (.inr ()))
def qO (a0 : List ZM) (a1 : List ZM) : Bool := (bif ((↑a0.length : Int) != (↑a1.length : Int)) then false else (match xv a0 a1 (a0.length + 1) 0 with | .inl r1 => r1 | .inr _ => true))
def jn (a0 : Z4) (a1 : Z4) : Bool := (bif (a0.YZ != a1.YZ) then false else (bif (!(a0.Left == a1.Left)) then false else true))
def jE (a0 : List Z4) (a1 : List Z4) : Nat → Nat → Sum Bool Unit
  | 0, _ => .inr ()
  | n1 + 1, v1_0 => (bif (decide ((↑v1_0 : Int) < (↑a0.length : Int))) then (bif (!(jn (nth a0 v1_0) (nth a1 v1_0))) then (.inl false) else jE a0 a1 n1 (v1_0 + 1)) else (.inr ()))
def jv (a0 : List Z4) (a1 : List Z4) : Bool := (bif ((↑a0.length : Int) != (↑a1.length : Int)) then false else (match jE a0 a1 (a0.length + 1) 0 with | .inl r1 => r1 | .inr _ => true))
def qH (a0 : Za) (a1 : Za) : Bool := (bif (a0.Authority != a1.Authority) then false else (bif (a0.Seq != a1.Seq) then false else (bif (a0.Time != a1.Time) then false else (bif (a0.YZ != a1.YZ) then false else (bif (a0.Mark != a1.Mark) then false else true)))))
def xx (a0 : List Za) (a1 : List Za) : Nat → Nat → Sum Bool Unit
  | 0, _ => .inr ()
  | n1 + 1, v1_0 => (bif (decide ((↑v1_0 : Int) < (↑a0.length : Int))) then (bif (!(qH (nth a0 v1_0) (nth a1 v1_0))) then (.inl false) else xx a0 a1 n1 (v1_0 + 1)) else (.inr ()))
def qU (a0 : List Za) (a1 : List Za) : Bool := (bif ((↑a0.length : Int) != (↑a1.length : Int)) then false else (match xx a0 a1 (a0.length + 1) 0 with | .inl r1 => r1 | .inr _ => true))
def zZ (a0 : ZL) (a1 : ZL) : Bool := (bif (a0.Count != a1.Count) then false else (bif (a0.Method != a1.Method) then false else (bif (a0.Ud != a1.Ud) then false else (bif (!(jv a0.Path a1.Path)) then false else (bif (!(qU a0.Zu a1.Zu)) then false else true)))))
def yH (a0 : List ZL) (a1 : List ZL) : Nat → Nat → Sum Bool Unit
  | 0, _ => .inr ()
  | n1 + 1, v1_0 => (bif (decide ((↑v1_0 : Int) < (↑a0.length : Int))) then (bif (!(zZ (nth a0 v1_0) (nth a1 v1_0))) then (.inl false) else yH a0 a1 n1 (v1_0 + 1)) else (.inr ()))
def zz (a0 : List ZL) (a1 : List ZL) : Bool := (bif ((↑a0.length : Int) != (↑a1.length : Int)) then false else (match yH a0 a1 (a0.length + 1) 0 with | .inl r1 => r1 | .inr _ => true))
def qT (a0 : Zf) (a1 : Zf) : Bool := (bif (!(qO a0.ZS a1.ZS)) then false else (bif (!(zz a0.Zj a1.Zj)) then false else true))
def jm (a0 : ZI) (a1 : ZI) : Bool := (bif (a0.Id != a1.Id) then false else (bif (a0.Yo != a1.Yo) then false else (bif (!(z9 a0.Doc a1.Doc)) then false else (bif (!(K8 a0.Sig a1.Sig)) then false else (bif (!(qT a0.ZQ a1.ZQ)) then false else true)))))
def jD (a0 : List ZI) (a1 : List ZI) : Nat → Nat → Sum Bool Unit
  | 0, _ => .inr ()
  | n1 + 1, v1_0 => (bif (decide ((↑v1_0 : Int) < (↑a0.length : Int))) then (bif (!(jm (nth a0 v1_0) (nth a1 v1_0))) then (.inl false) else jD a0 a1 n1 (v1_0 + 1)) else (.inr ()))
def j5 (a0 : List ZI) (a1 : List ZI) : Bool := (bif ((↑a0.length : Int) != (↑a1.length : Int)) then false else (match jD a0 a1 (a0.length + 1) 0 with | .inl r1 => r1 | .inr _ => true))
def zY (a0 : ZC) (a1 : ZC) : Bool := (bif (a0.Id != a1.Id) then false else (bif (!(j5 a0.ZF a1.ZF)) then false else true))
def yL (a0 : List ZC) (a1 : List ZC) : Nat → Nat → Sum Bool Unit
  | 0, _ => .inr ()
  | n1 + 1, v1_0 => (bif (decide ((↑v1_0 : Int) < (↑a0.length : Int))) then (bif (!(zY (nth a0 v1_0) (nth a1 v1_0))) then (.inl false) else yL a0 a1 n1 (v1_0 + 1)) else (.inr ()))
def yY (a0 : List ZC) (a1 : List ZC) : Bool := (bif ((↑a0.length : Int) != (↑a1.length : Int)) then false else (match yL a0 a1 (a0.length + 1) 0 with | .inl r1 => r1 | .inr _ => true))
def zw (a0 : Ze) (a1 : Ze) : Bool := (bif (!(ju a0.Frame a1.Frame)) then false else (bif (!(ji a0.Zy a1.Zy)) then false else (bif (!(zF a0.Z6 a1.Z6)) then false else (bif (!(yY a0.ZH a1.ZH)) then false else (bif (!(zF a0.XC a1.XC)) then false else (bif (!(zF a0.Yq a1.Yq)) then false else (bif (a0.Next != a1.Next) then false else (bif (!(zF a0.Ym a1.Ym)) then false else true))))))))
def JI : Nat → Int → Nat → List YQ → Int × (List YQ)
  | 0, _, _, _ => (default, default)
  | n1 + 1, v1_0, v1_1, v1_2 => (bif (decide ((↑v1_1 : Int) < (↑v1_2.length : Int))) then JI n1 (W ((W ((W ((W ((W (v1_0 + 1)) + 1)) + 1)) + 1)) + 1)) (v1_1 + 1) (v1_2.set v1_1 (YQ.mk v1_0 (W (v1_0 + 1)) (W ((W (v1_0 + 1)) + 1)) (W ((W ((W (v1_0 + 1)) + 1)) + 1)) (W ((W ((W ((W (v1_0 + 1)) + 1)) + 1)) + 1)))) else ((v1_0, v1_2)))
def YX (a0 : List YQ) (a1 : Int) : (List YQ) × Int := (match JI (a0.length + 1) a1 0 a0 with | (z1_0, z1_1) => (z1_1, z1_0))
def Y9 : Nat → Int → Nat → List ZN → Int × (List ZN)
  | 0, _, _, _ => (default, default)
  | n1 + 1, v1_0, v1_1, v1_2 => (bif (decide ((↑v1_1 : Int) < (↑v1_2.length : Int))) then Y9 n1 (W ((W ((W (v1_0 + 1)) + 1)) + 1)) (v1_1 + 1) (v1_2.set v1_1 (ZN.mk v1_0 (W (v1_0 + 1)) (W ((W (v1_0 + 1)) + 1)))) else ((v1_0, v1_2)))
def YA (a0 : List ZN) (a1 : Int) : (List ZN) × Int := (match Y9 (a0.length + 1) a1 0 a0 with | (z1_0, z1_1) => (z1_1, z1_0))
def Xw : Nat → Int → Nat → List ZV → Int × (List ZV)
  | 0, _, _, _ => (default, default)
  | n1 + 1, v1_0, v1_1, v1_2 => (bif (decide ((↑v1_1 : Int) < (↑v1_2.length : Int))) then Xw n1 (W ((W ((W ((W (v1_0 + 1)) + 1)) + 1)) + 1)) (v1_1 + 1) (v1_2.set v1_1 (ZV.mk v1_0 (W (v1_0 + 1)) (W ((W (v1_0 + 1)) + 1)) (W ((W ((W (v1_0 + 1)) + 1)) + 1)))) else ((v1_0, v1_2)))
def Ys (a0 : List ZV) (a1 : Int) : (List ZV) × Int := (match Xw (a0.length + 1) a1 0 a0 with | (z1_0, z1_1) => (z1_1, z1_0))
def Zd (a0 : YJ) (a1 : Int) : YJ × Int := ((YJ.mk (YX a0.XE a1).1 (YA a0.Zc (YX a0.XE a1).2).1 (Ys a0.Methods (YA a0.Zc (YX a0.XE a1).2).2).1 a0.xh a0.Now), (Ys a0.Methods (YA a0.Zc (YX a0.XE a1).2).2).2)
def QS : Nat → Int → Nat → List Zz → Int × (List Zz)
  | 0, _, _, _ => (default, default)
  | n1 + 1, v1_0, v1_1, v1_2 => (bif (decide ((↑v1_1 : Int) < (↑v1_2.length : Int))) then QS n1 (W ((W ((W ((W ((W ((W ((W (v1_0 + 1)) + 1)) + 1)) + 1)) + 1)) + 1)) + 1)) (v1_1 + 1) (v1_2.set v1_1 (Zz.mk v1_0 (W (v1_0 + 1)) (W ((W (v1_0 + 1)) + 1)) (W ((W ((W (v1_0 + 1)) + 1)) + 1)) (W ((W ((W ((W (v1_0 + 1)) + 1)) + 1)) + 1)) (W ((W ((W ((W ((W (v1_0 + 1)) + 1)) + 1)) + 1)) + 1)) (W ((W ((W ((W ((W ((W (v1_0 + 1)) + 1)) + 1)) + 1)) + 1)) + 1)))) else ((v1_0, v1_2)))
def Zr (a0 : List Zz) (a1 : Int) : (List Zz) × Int := (match QS (a0.length + 1) a1 0 a0 with | (z1_0, z1_1) => (z1_1, z1_0))
def JD : Nat → Int → Nat → List Int → Int × (List Int)
  | 0, _, _, _ => (default, default)
  | n1 + 1, v1_0, v1_1, v1_2 => (bif (decide ((↑v1_1 : Int) < (↑v1_2.length : Int))) then JD n1 (W (v1_0 + 1)) (v1_1 + 1) (v1_2.set v1_1 v1_0) else ((v1_0, v1_2)))
def ZB (a0 : List Int) (a1 : Int) : (List Int) × Int := (match JD (a0.length + 1) a1 0 a0 with | (z1_0, z1_1) => (z1_1, z1_0))
def kZ : Nat → Int → ByteArray → ByteArray
  | 0, _, _ => default
  | n1 + 1, v1_0, v1_1 => (bif (decide (v1_0 > 0)) then kZ n1 (W (Int.tdiv v1_0 10)) ((⟨([(UInt8.ofInt (W (48 + (Int.tmod v1_0 10))))] : List UInt8).toArray⟩ : ByteArray) ++ v1_1) else (v1_1))
def XD (a0 : Int) : ByteArray := (bif (decide (a0 ≤ 0)) then (⟨#[109, 48]⟩ : ByteArray) else (match kZ 22 a0 (⟨#[]⟩ : ByteArray) with | z1_0 => ((⟨#[109]⟩ : ByteArray) ++ z1_0)))
def Xt : Nat → Int → Nat → List ByteArray → Int × (List ByteArray)
  | 0, _, _, _ => (default, default)
  | n1 + 1, v1_0, v1_1, v1_2 => (bif (decide ((↑v1_1 : Int) < (↑v1_2.length : Int))) then Xt n1 (W (v1_0 + 1)) (v1_1 + 1) (v1_2.set v1_1 (XD v1_0)) else ((v1_0, v1_2)))
def ZA (a0 : List ByteArray) (a1 : Int) : (List ByteArray) × Int := (match Xt (a0.length + 1) a1 0 a0 with | (z1_0, z1_1) => (z1_1, z1_0))
def X9 : Nat → Int → Nat → List ZM → Int × (List ZM)
  | 0, _, _, _ => (default, default)
  | n1 + 1, v1_0, v1_1, v1_2 => (bif (decide ((↑v1_1 : Int) < (↑v1_2.length : Int))) then X9 n1 (W ((ZB (nth v1_2 v1_1).Yh (W (v1_0 + 1))).2 + 1)) (v1_1 + 1) (v1_2.set v1_1 (ZM.mk v1_0 (ZB (nth v1_2 v1_1).Yh (W (v1_0 + 1))).1 (ZB (nth v1_2 v1_1).Yh (W (v1_0 + 1))).2)) else ((v1_0, v1_2)))
def ZW (a0 : List ZM) (a1 : Int) : (List ZM) × Int := (match X9 (a0.length + 1) a1 0 a0 with | (z1_0, z1_1) => (z1_1, z1_0))
def QT : Nat → Int → Nat → List Z4 → Int × (List Z4)
  | 0, _, _, _ => (default, default)
  | n1 + 1, v1_0, v1_1, v1_2 => (bif (decide ((↑v1_1 : Int) < (↑v1_2.length : Int))) then QT n1 (W ((W (v1_0 + 1)) + 1)) (v1_1 + 1) (v1_2.set v1_1 (Z4.mk v1_0 ((Int.tmod (W (v1_0 + 1)) 3) == 0))) else ((v1_0, v1_2)))
def ZZ (a0 : List Z4) (a1 : Int) : (List Z4) × Int := (match QT (a0.length + 1) a1 0 a0 with | (z1_0, z1_1) => (z1_1, z1_0))
def QF : Nat → Int → Nat → List Za → Int × (List Za)
  | 0, _, _, _ => (default, default)
  | n1 + 1, v1_0, v1_1, v1_2 => (bif (decide ((↑v1_1 : Int) < (↑v1_2.length : Int))) then QF n1 (W ((W ((W ((W ((W (v1_0 + 1)) + 1)) + 1)) + 1)) + 1)) (v1_1 + 1) (v1_2.set v1_1 (Za.mk v1_0 (W (v1_0 + 1)) (W ((W (v1_0 + 1)) + 1)) (W ((W ((W (v1_0 + 1)) + 1)) + 1)) (W ((W ((W ((W (v1_0 + 1)) + 1)) + 1)) + 1)))) else ((v1_0, v1_2)))
def Zo (a0 : List Za) (a1 : Int) : (List Za) × Int := (match QF (a0.length + 1) a1 0 a0 with | (z1_0, z1_1) => (z1_1, z1_0))
def Xc : Nat → Int → Nat → List ZL → Int × (List ZL)
  | 0, _, _, _ => (default, default)
  | n1 + 1, v1_0, v1_1, v1_2 => (bif (decide ((↑v1_1 : Int) < (↑v1_2.length : Int))) then Xc n1 (Zo (nth v1_2 v1_1).Zu (ZZ (nth v1_2 v1_1).Path (W ((W ((W (v1_0 + 1)) + 1)) + 1))).2).2 (v1_1 + 1) (v1_2.set v1_1 (ZL.mk v1_0 (W (v1_0 + 1)) (W ((W (v1_0 + 1)) + 1)) (ZZ (nth v1_2 v1_1).Path (W ((W ((W (v1_0 + 1)) + 1)) + 1))).1 (Zo (nth v1_2 v1_1).Zu (ZZ (nth v1_2 v1_1).Path (W ((W ((W (v1_0 + 1)) + 1)) + 1))).2).1)) else ((v1_0, v1_2)))
def Zg (a0 : List ZL) (a1 : Int) : (List ZL) × Int := (match Xc (a0.length + 1) a1 0 a0 with | (z1_0, z1_1) => (z1_1, z1_0))
def QX : Nat → Int → Nat → List ZI → Int × (List ZI)
  | 0, _, _, _ => (default, default)
  | n1 + 1, v1_0, v1_1, v1_2 => (bif (decide ((↑v1_1 : Int) < (↑v1_2.length : Int))) then QX n1 (Zg (nth v1_2 v1_1).ZQ.Zj (ZW (nth v1_2 v1_1).ZQ.ZS (W ((W ((W ((W ((W ((W ((W ((W ((W ((ZB (nth v1_2 v1_1).Doc.ZG (ZA (nth v1_2 v1_1).Doc.ZE (W ((W ((W (v1_0 + 1)) + 1)) + 1))).2).2 + 1)) + 1)) + 1)) + 1)) + 1)) + 1)) + 1)) + 1)) + 1))).2).2 (v1_1 + 1) (v1_2.set v1_1 (ZI.mk v1_0 (W (v1_0 + 1)) (ZR.mk (W ((W (v1_0 + 1)) + 1)) (ZA (nth v1_2 v1_1).Doc.ZE (W ((W ((W (v1_0 + 1)) + 1)) + 1))).1 (ZB (nth v1_2 v1_1).Doc.ZG (ZA (nth v1_2 v1_1).Doc.ZE (W ((W ((W (v1_0 + 1)) + 1)) + 1))).2).1) (Zb.mk (ZB (nth v1_2 v1_1).Doc.ZG (ZA (nth v1_2 v1_1).Doc.ZE (W ((W ((W (v1_0 + 1)) + 1)) + 1))).2).2 (W ((ZB (nth v1_2 v1_1).Doc.ZG (ZA (nth v1_2 v1_1).Doc.ZE (W ((W ((W (v1_0 + 1)) + 1)) + 1))).2).2 + 1)) (W ((W ((ZB (nth v1_2 v1_1).Doc.ZG (ZA (nth v1_2 v1_1).Doc.ZE (W ((W ((W (v1_0 + 1)) + 1)) + 1))).2).2 + 1)) + 1)) (W ((W ((W ((ZB (nth v1_2 v1_1).Doc.ZG (ZA (nth v1_2 v1_1).Doc.ZE (W ((W ((W (v1_0 + 1)) + 1)) + 1))).2).2 + 1)) + 1)) + 1)) (W ((W ((W ((W ((ZB (nth v1_2 v1_1).Doc.ZG (ZA (nth v1_2 v1_1).Doc.ZE (W ((W ((W (v1_0 + 1)) + 1)) + 1))).2).2 + 1)) + 1)) + 1)) + 1)) (W ((W ((W ((W ((W ((ZB (nth v1_2 v1_1).Doc.ZG (ZA (nth v1_2 v1_1).Doc.ZE (W ((W ((W (v1_0 + 1)) + 1)) + 1))).2).2 + 1)) + 1)) + 1)) + 1)) + 1)) (W ((W ((W ((W ((W ((W ((ZB (nth v1_2 v1_1).Doc.ZG (ZA (nth v1_2 v1_1).Doc.ZE (W ((W ((W (v1_0 + 1)) + 1)) + 1))).2).2 + 1)) + 1)) + 1)) + 1)) + 1)) + 1)) (W ((W ((W ((W ((W ((W ((W ((ZB (nth v1_2 v1_1).Doc.ZG (ZA (nth v1_2 v1_1).Doc.ZE (W ((W ((W (v1_0 + 1)) + 1)) + 1))).2).2 + 1)) + 1)) + 1)) + 1)) + 1)) + 1)) + 1)) (W ((W ((W ((W ((W ((W ((W ((W ((ZB (nth v1_2 v1_1).Doc.ZG (ZA (nth v1_2 v1_1).Doc.ZE (W ((W ((W (v1_0 + 1)) + 1)) + 1))).2).2 + 1)) + 1)) + 1)) + 1)) + 1)) + 1)) + 1)) + 1))) (Zf.mk (ZW (nth v1_2 v1_1).ZQ.ZS (W ((W ((W ((W ((W ((W ((W ((W ((W ((ZB (nth v1_2 v1_1).Doc.ZG (ZA (nth v1_2 v1_1).Doc.ZE (W ((W ((W (v1_0 + 1)) + 1)) + 1))).2).2 + 1)) + 1)) + 1)) + 1)) + 1)) + 1)) + 1)) + 1)) + 1))).1 (Zg (nth v1_2 v1_1).ZQ.Zj (ZW (nth v1_2 v1_1).ZQ.ZS (W ((W ((W ((W ((W ((W ((W ((W ((W ((ZB (nth v1_2 v1_1).Doc.ZG (ZA (nth v1_2 v1_1).Doc.ZE (W ((W ((W (v1_0 + 1)) + 1)) + 1))).2).2 + 1)) + 1)) + 1)) + 1)) + 1)) + 1)) + 1)) + 1)) + 1))).2).1))) else ((v1_0, v1_2)))
def Zv (a0 : List ZI) (a1 : Int) : (List ZI) × Int := (match QX (a0.length + 1) a1 0 a0 with | (z1_0, z1_1) => (z1_1, z1_0))
def Xa : Nat → Int → Nat → List ZC → Int × (List ZC)
  | 0, _, _, _ => (default, default)
  | n1 + 1, v1_0, v1_1, v1_2 => (bif (decide ((↑v1_1 : Int) < (↑v1_2.length : Int))) then Xa n1 (Zv (nth v1_2 v1_1).ZF (W (v1_0 + 1))).2 (v1_1 + 1) (v1_2.set v1_1 (ZC.mk v1_0 (Zv (nth v1_2 v1_1).ZF (W (v1_0 + 1))).1)) else ((v1_0, v1_2)))
def Zs (a0 : List ZC) (a1 : Int) : (List ZC) × Int := (match Xa (a0.length + 1) a1 0 a0 with | (z1_0, z1_1) => (z1_1, z1_0))
def Zm (a0 : Ze) (a1 : Int) : Ze × Int := ((Ze.mk (Zd a0.Frame a1).1 (Zr a0.Zy (Zd a0.Frame a1).2).1 (ZB a0.Z6 (Zr a0.Zy (Zd a0.Frame a1).2).2).1 (Zs a0.ZH (ZB a0.Z6 (Zr a0.Zy (Zd a0.Frame a1).2).2).2).1 (ZB a0.XC (Zs a0.ZH (ZB a0.Z6 (Zr a0.Zy (Zd a0.Frame a1).2).2).2).2).1 (ZB a0.Yq (ZB a0.XC (Zs a0.ZH (ZB a0.Z6 (Zr a0.Zy (Zd a0.Frame a1).2).2).2).2).2).1 a0.Next (ZB a0.Ym (ZB a0.Yq (ZB a0.XC (Zs a0.ZH (ZB a0.Z6 (Zr a0.Zy (Zd a0.Frame a1).2).2).2).2).2).2).1), (ZB a0.Ym (ZB a0.Yq (ZB a0.XC (Zs a0.ZH (ZB a0.Z6 (Zr a0.Zy (Zd a0.Frame a1).2).2).2).2).2).2).2)
def xy (a0 : List YQ) : Nat → Int → Nat → Sum Int Int
  | 0, _, _ => .inr default
  | n1 + 1, v1_0, v1_1 => (bif (decide ((↑v1_1 : Int) < (↑a0.length : Int))) then (bif ((nth a0 v1_1).Number != v1_0) then (.inl (-1)) else (bif ((nth a0 v1_1).ze != (W (v1_0 + 1))) then (.inl (-1)) else (bif ((nth a0 v1_1).Method != (W ((W (v1_0 + 1)) + 1))) then (.inl (-1)) else (bif ((nth a0 v1_1).Oz != (W ((W ((W (v1_0 + 1)) + 1)) + 1))) then (.inl (-1)) else (bif ((nth a0 v1_1).xf != (W ((W ((W ((W (v1_0 + 1)) + 1)) + 1)) + 1))) then (.inl (-1)) else xy a0 n1 (W ((W ((W ((W ((W (v1_0 + 1)) + 1)) + 1)) + 1)) + 1)) (v1_1 + 1)))))) else (.inr v1_0))
def JN (a0 : List YQ) (a1 : Int) : Int := (match xy a0 (a0.length + 1) a1 0 with | .inl r1 => r1 | .inr z1_0 => z1_0)
def J3 (a0 : List ZN) : Nat → Int → Nat → Sum Int Int
  | 0, _, _ => .inr default
  | n1 + 1, v1_0, v1_1 => (bif (decide ((↑v1_1 : Int) < (↑a0.length : Int))) then (bif ((nth a0 v1_1).Id != v1_0) then (.inl (-1)) else (bif ((nth a0 v1_1).Key != (W (v1_0 + 1))) then (.inl (-1)) else (bif ((nth a0 v1_1).Error != (W ((W (v1_0 + 1)) + 1))) then (.inl (-1)) else J3 a0 n1 (W ((W ((W (v1_0 + 1)) + 1)) + 1)) (v1_1 + 1)))) else (.inr v1_0))
def Xb (a0 : List ZN) (a1 : Int) : Int := (match J3 a0 (a0.length + 1) a1 0 with | .inl r1 => r1 | .inr z1_0 => z1_0)
def zH (a0 : List ZV) : Nat → Int → Nat → Sum Int Int
  | 0, _, _ => .inr default
  | n1 + 1, v1_0, v1_1 => (bif (decide ((↑v1_1 : Int) < (↑a0.length : Int))) then (bif ((nth a0 v1_1).Id != v1_0) then (.inl (-1)) else (bif ((nth a0 v1_1).WX != (W (v1_0 + 1))) then (.inl (-1)) else (bif ((nth a0 v1_1).Ends != (W ((W (v1_0 + 1)) + 1))) then (.inl (-1)) else (bif ((nth a0 v1_1).qd != (W ((W ((W (v1_0 + 1)) + 1)) + 1))) then (.inl (-1)) else zH a0 n1 (W ((W ((W ((W (v1_0 + 1)) + 1)) + 1)) + 1)) (v1_1 + 1))))) else (.inr v1_0))
def KK (a0 : List ZV) (a1 : Int) : Int := (match zH a0 (a0.length + 1) a1 0 with | .inl r1 => r1 | .inr z1_0 => z1_0)
def Yn (a0 : YJ) (a1 : Int) : Int := (bif (decide ((JN a0.XE a1) < 0)) then (-1) else (bif (decide ((Xb a0.Zc (JN a0.XE a1)) < 0)) then (-1) else (bif (decide ((KK a0.Methods (Xb a0.Zc (JN a0.XE a1))) < 0)) then (-1) else (KK a0.Methods (Xb a0.Zc (JN a0.XE a1))))))
def y5 (a0 : List Zz) : Nat → Int → Nat → Sum Int Int
  | 0, _, _ => .inr default
  | n1 + 1, v1_0, v1_1 => (bif (decide ((↑v1_1 : Int) < (↑a0.length : Int))) then (bif ((nth a0 v1_1).QM != v1_0) then (.inl (-1)) else (bif ((nth a0 v1_1).Key != (W (v1_0 + 1))) then (.inl (-1)) else (bif ((nth a0 v1_1).ze != (W ((W (v1_0 + 1)) + 1))) then (.inl (-1)) else (bif ((nth a0 v1_1).xo != (W ((W ((W (v1_0 + 1)) + 1)) + 1))) then (.inl (-1)) else (bif ((nth a0 v1_1).To != (W ((W ((W ((W (v1_0 + 1)) + 1)) + 1)) + 1))) then (.inl (-1)) else (bif ((nth a0 v1_1).KW != (W ((W ((W ((W ((W (v1_0 + 1)) + 1)) + 1)) + 1)) + 1))) then (.inl (-1)) else (bif ((nth a0 v1_1).Mark != (W ((W ((W ((W ((W ((W (v1_0 + 1)) + 1)) + 1)) + 1)) + 1)) + 1))) then (.inl (-1)) else y5 a0 n1 (W ((W ((W ((W ((W ((W ((W (v1_0 + 1)) + 1)) + 1)) + 1)) + 1)) + 1)) + 1)) (v1_1 + 1)))))))) else (.inr v1_0))
def Yz (a0 : List Zz) (a1 : Int) : Int := (match y5 a0 (a0.length + 1) a1 0 with | .inl r1 => r1 | .inr z1_0 => z1_0)
def qA (a0 : List Int) : Nat → Int → Nat → Sum Int Int
  | 0, _, _ => .inr default
  | n1 + 1, v1_0, v1_1 => (bif (decide ((↑v1_1 : Int) < (↑a0.length : Int))) then (bif ((nth a0 v1_1) != v1_0) then (.inl (-1)) else qA a0 n1 (W (v1_0 + 1)) (v1_1 + 1)) else (.inr v1_0))
def ZU (a0 : List Int) (a1 : Int) : Int := (match qA a0 (a0.length + 1) a1 0 with | .inl r1 => r1 | .inr z1_0 => z1_0)
def zJ (a0 : List ByteArray) : Nat → Int → Nat → Sum Int Int
  | 0, _, _ => .inr default
  | n1 + 1, v1_0, v1_1 => (bif (decide ((↑v1_1 : Int) < (↑a0.length : Int))) then (bif (!decide ((nth a0 v1_1) = (XD v1_0))) then (.inl (-1)) else zJ a0 n1 (W (v1_0 + 1)) (v1_1 + 1)) else (.inr v1_0))
def ZY (a0 : List ByteArray) (a1 : Int) : Int := (match zJ a0 (a0.length + 1) a1 0 with | .inl r1 => r1 | .inr z1_0 => z1_0)
def yU (a0 : List ZM) : Nat → Int → Nat → Sum Int Int
  | 0, _, _ => .inr default
  | n1 + 1, v1_0, v1_1 => (bif (decide ((↑v1_1 : Int) < (↑a0.length : Int))) then (bif ((nth a0 v1_1).Key != v1_0) then (.inl (-1)) else (bif (decide ((ZU (nth a0 v1_1).Yh (W (v1_0 + 1))) < 0)) then (.inl (-1)) else (bif ((nth a0 v1_1).Mark != (ZU (nth a0 v1_1).Yh (W (v1_0 + 1)))) then (.inl (-1)) else yU a0 n1 (W ((ZU (nth a0 v1_1).Yh (W (v1_0 + 1))) + 1)) (v1_1 + 1)))) else (.inr v1_0))
def Y0 (a0 : List ZM) (a1 : Int) : Int := (match yU a0 (a0.length + 1) a1 0 with | .inl r1 => r1 | .inr z1_0 => z1_0)
def y1 (a0 : List Z4) : Nat → Int → Nat → Sum Int Int
  | 0, _, _ => .inr default
  | n1 + 1, v1_0, v1_1 => (bif (decide ((↑v1_1 : Int) < (↑a0.length : Int))) then (bif ((nth a0 v1_1).YZ != v1_0) then (.inl (-1)) else (bif (!((nth a0 v1_1).Left == ((Int.tmod (W (v1_0 + 1)) 3) == 0))) then (.inl (-1)) else y1 a0 n1 (W ((W (v1_0 + 1)) + 1)) (v1_1 + 1))) else (.inr v1_0))
def XH (a0 : List Z4) (a1 : Int) : Int := (match y1 a0 (a0.length + 1) a1 0 with | .inl r1 => r1 | .inr z1_0 => z1_0)
def yT (a0 : List Za) : Nat → Int → Nat → Sum Int Int
  | 0, _, _ => .inr default
  | n1 + 1, v1_0, v1_1 => (bif (decide ((↑v1_1 : Int) < (↑a0.length : Int))) then (bif ((nth a0 v1_1).Authority != v1_0) then (.inl (-1)) else (bif ((nth a0 v1_1).Seq != (W (v1_0 + 1))) then (.inl (-1)) else (bif ((nth a0 v1_1).Time != (W ((W (v1_0 + 1)) + 1))) then (.inl (-1)) else (bif ((nth a0 v1_1).YZ != (W ((W ((W (v1_0 + 1)) + 1)) + 1))) then (.inl (-1)) else (bif ((nth a0 v1_1).Mark != (W ((W ((W ((W (v1_0 + 1)) + 1)) + 1)) + 1))) then (.inl (-1)) else yT a0 n1 (W ((W ((W ((W ((W (v1_0 + 1)) + 1)) + 1)) + 1)) + 1)) (v1_1 + 1)))))) else (.inr v1_0))
def X7 (a0 : List Za) (a1 : Int) : Int := (match yT a0 (a0.length + 1) a1 0 with | .inl r1 => r1 | .inr z1_0 => z1_0)
def Kt (a0 : List ZL) : Nat → Int → Nat → Sum Int Int
  | 0, _, _ => .inr default
  | n1 + 1, v1_0, v1_1 => (bif (decide ((↑v1_1 : Int) < (↑a0.length : Int))) then (bif ((nth a0 v1_1).Count != v1_0) then (.inl (-1)) else (bif ((nth a0 v1_1).Method != (W (v1_0 + 1))) then (.inl (-1)) else (bif ((nth a0 v1_1).Ud != (W ((W (v1_0 + 1)) + 1))) then (.inl (-1)) else (bif (decide ((XH (nth a0 v1_1).Path (W ((W ((W (v1_0 + 1)) + 1)) + 1))) < 0)) then (.inl (-1)) else (bif (decide ((X7 (nth a0 v1_1).Zu (XH (nth a0 v1_1).Path (W ((W ((W (v1_0 + 1)) + 1)) + 1)))) < 0)) then (.inl (-1)) else Kt a0 n1 (X7 (nth a0 v1_1).Zu (XH (nth a0 v1_1).Path (W ((W ((W (v1_0 + 1)) + 1)) + 1)))) (v1_1 + 1)))))) else (.inr v1_0))
def XN (a0 : List ZL) (a1 : Int) : Int := (match Kt a0 (a0.length + 1) a1 0 with | .inl r1 => r1 | .inr z1_0 => z1_0)
def xD (a0 : List ZI) : Nat → Int → Nat → Sum Int Int
  | 0, _, _ => .inr default
  | n1 + 1, v1_0, v1_1 => (bif (decide ((↑v1_1 : Int) < (↑a0.length : Int))) then (bif ((nth a0 v1_1).Id != v1_0) then (.inl (-1)) else (bif ((nth a0 v1_1).Yo != (W (v1_0 + 1))) then (.inl (-1)) else (bif ((nth a0 v1_1).Doc.K4 != (W ((W (v1_0 + 1)) + 1))) then (.inl (-1)) else (bif (decide ((ZY (nth a0 v1_1).Doc.ZE (W ((W ((W (v1_0 + 1)) + 1)) + 1))) < 0)) then (.inl (-1)) else (bif (decide ((ZU (nth a0 v1_1).Doc.ZG (ZY (nth a0 v1_1).Doc.ZE (W ((W ((W (v1_0 + 1)) + 1)) + 1)))) < 0)) then (.inl (-1)) else (bif ((nth a0 v1_1).Sig.Key != (ZU (nth a0 v1_1).Doc.ZG (ZY (nth a0 v1_1).Doc.ZE (W ((W ((W (v1_0 + 1)) + 1)) + 1))))) then (.inl (-1)) else (bif ((nth a0 v1_1).Sig.QM != (W ((ZU (nth a0 v1_1).Doc.ZG (ZY (nth a0 v1_1).Doc.ZE (W ((W ((W (v1_0 + 1)) + 1)) + 1)))) + 1))) then (.inl (-1)) else (bif ((nth a0 v1_1).Sig.Method != (W ((W ((ZU (nth a0 v1_1).Doc.ZG (ZY (nth a0 v1_1).Doc.ZE (W ((W ((W (v1_0 + 1)) + 1)) + 1)))) + 1)) + 1))) then (.inl (-1)) else (bif ((nth a0 v1_1).Sig.YZ != (W ((W ((W ((ZU (nth a0 v1_1).Doc.ZG (ZY (nth a0 v1_1).Doc.ZE (W ((W ((W (v1_0 + 1)) + 1)) + 1)))) + 1)) + 1)) + 1))) then (.inl (-1)) else (bif ((nth a0 v1_1).Sig.zP != (W ((W ((W ((W ((ZU (nth a0 v1_1).Doc.ZG (ZY (nth a0 v1_1).Doc.ZE (W ((W ((W (v1_0 + 1)) + 1)) + 1)))) + 1)) + 1)) + 1)) + 1))) then (.inl (-1)) else (bif ((nth a0 v1_1).Sig.Org != (W ((W ((W ((W ((W ((ZU (nth a0 v1_1).Doc.ZG (ZY (nth a0 v1_1).Doc.ZE (W ((W ((W (v1_0 + 1)) + 1)) + 1)))) + 1)) + 1)) + 1)) + 1)) + 1))) then (.inl (-1)) else (bif ((nth a0 v1_1).Sig.KY != (W ((W ((W ((W ((W ((W ((ZU (nth a0 v1_1).Doc.ZG (ZY (nth a0 v1_1).Doc.ZE (W ((W ((W (v1_0 + 1)) + 1)) + 1)))) + 1)) + 1)) + 1)) + 1)) + 1)) + 1))) then (.inl (-1)) else (bif ((nth a0 v1_1).Sig.yZ != (W ((W ((W ((W ((W ((W ((W ((ZU (nth a0 v1_1).Doc.ZG (ZY (nth a0 v1_1).Doc.ZE (W ((W ((W (v1_0 + 1)) + 1)) + 1)))) + 1)) + 1)) + 1)) + 1)) + 1)) + 1)) + 1))) then (.inl (-1)) else (bif ((nth a0 v1_1).Sig.Mark != (W ((W ((W ((W ((W ((W ((W ((W ((ZU (nth a0 v1_1).Doc.ZG (ZY (nth a0 v1_1).Doc.ZE (W ((W ((W (v1_0 + 1)) + 1)) + 1)))) + 1)) + 1)) + 1)) + 1)) + 1)) + 1)) + 1)) + 1))) then (.inl (-1)) else (bif (decide ((Y0 (nth a0 v1_1).ZQ.ZS (W ((W ((W ((W ((W ((W ((W ((W ((W ((ZU (nth a0 v1_1).Doc.ZG (ZY (nth a0 v1_1).Doc.ZE (W ((W ((W (v1_0 + 1)) + 1)) + 1)))) + 1)) + 1)) + 1)) + 1)) + 1)) + 1)) + 1)) + 1)) + 1))) < 0)) then (.inl (-1)) else (bif (decide ((XN (nth a0 v1_1).ZQ.Zj (Y0 (nth a0 v1_1).ZQ.ZS (W ((W ((W ((W ((W ((W ((W ((W ((W ((ZU (nth a0 v1_1).Doc.ZG (ZY (nth a0 v1_1).Doc.ZE (W ((W ((W (v1_0 + 1)) + 1)) + 1)))) + 1)) + 1)) + 1)) + 1)) + 1)) + 1)) + 1)) + 1)) + 1)))) < 0)) then (.inl (-1)) else xD a0 n1 (XN (nth a0 v1_1).ZQ.Zj (Y0 (nth a0 v1_1).ZQ.ZS (W ((W ((W ((W ((W ((W ((W ((W ((W ((ZU (nth a0 v1_1).Doc.ZG (ZY (nth a0 v1_1).Doc.ZE (W ((W ((W (v1_0 + 1)) + 1)) + 1)))) + 1)) + 1)) + 1)) + 1)) + 1)) + 1)) + 1)) + 1)) + 1)))) (v1_1 + 1))))))))))))))))) else (.inr v1_0))
def QY (a0 : List ZI) (a1 : Int) : Int := (match xD a0 (a0.length + 1) a1 0 with | .inl r1 => r1 | .inr z1_0 => z1_0)
def Ks (a0 : List ZC) : Nat → Int → Nat → Sum Int Int
  | 0, _, _ => .inr default
  | n1 + 1, v1_0, v1_1 => (bif (decide ((↑v1_1 : Int) < (↑a0.length : Int))) then (bif ((nth a0 v1_1).Id != v1_0) then (.inl (-1)) else (bif (decide ((QY (nth a0 v1_1).ZF (W (v1_0 + 1))) < 0)) then (.inl (-1)) else Ks a0 n1 (QY (nth a0 v1_1).ZF (W (v1_0 + 1))) (v1_1 + 1))) else (.inr v1_0))
def Yu (a0 : List ZC) (a1 : Int) : Int := (match Ks a0 (a0.length + 1) a1 0 with | .inl r1 => r1 | .inr z1_0 => z1_0)
def Jp (a0 : Ze) (a1 : Int) : Int := (bif (decide ((Yn a0.Frame a1) < 0)) then (-1) else (bif (decide ((Yz a0.Zy (Yn a0.Frame a1)) < 0)) then (-1) else (bif (decide ((ZU a0.Z6 (Yz a0.Zy (Yn a0.Frame a1))) < 0)) then (-1) else (bif (decide ((Yu a0.ZH (ZU a0.Z6 (Yz a0.Zy (Yn a0.Frame a1)))) < 0)) then (-1) else (bif (decide ((ZU a0.XC (Yu a0.ZH (ZU a0.Z6 (Yz a0.Zy (Yn a0.Frame a1))))) < 0)) then (-1) else (bif (decide ((ZU a0.Yq (ZU a0.XC (Yu a0.ZH (ZU a0.Z6 (Yz a0.Zy (Yn a0.Frame a1)))))) < 0)) then (-1) else (bif (decide ((ZU a0.Ym (ZU a0.Yq (ZU a0.XC (Yu a0.ZH (ZU a0.Z6 (Yz a0.Zy (Yn a0.Frame a1))))))) < 0)) then (-1) else (ZU a0.Ym (ZU a0.Yq (ZU a0.XC (Yu a0.ZH (ZU a0.Z6 (Yz a0.Zy (Yn a0.Frame a1))))))))))))))
def KM (a0 : Ze) (a1 : Int) (a2 : Int) (a3 : Int) : Bool := (bif (decide ((zf a0 1048576) < 0)) then true else (bif ((!(zw (Zx a0 a1 a2 a3).1 (Xj a0 a1 a2 a3).1)) || (!((Zx a0 a1 a2 a3).2 == (Xj a0 a1 a2 a3).2))) then false else (bif (!(zw a0 a0)) then false else (bif (((decide ((Zm a0 1).2 < 0)) || (!(zw (Zx a0 a1 a2 a3).1 (Xj a0 a1 a2 a3).1))) || (!((Zx a0 a1 a2 a3).2 == (Xj a0 a1 a2 a3).2))) then false else (bif (decide ((Jp (Zm (Zx a0 a1 a2 a3).1 1).1 1) < 0)) then false else (bif ((Jp (Zm (Zx a0 a1 a2 a3).1 1).1 1) != (Zm (Zx a0 a1 a2 a3).1 1).2) then false else (bif ((!(zw (Zx a0 a1 a2 a3).1 (Xj a0 a1 a2 a3).1)) || (!((Zx a0 a1 a2 a3).2 == (Xj a0 a1 a2 a3).2))) then false else (bif (decide ((Jp (Zm (Zx a0 a1 a2 a3).1 1).1 1) < 0)) then false else (bif ((Jp (Zm (Zx a0 a1 a2 a3).1 1).1 1) != (Zm (Zx a0 a1 a2 a3).1 1).2) then false else true)))))))))
end Go.Mo
