/- Models of the functions: what each computes, on typed data. No condition. -/
import Derived.Test.YtjflhdkeibijaaaGreatMo
namespace Go.Mo
open Go.Vm
def Xx (a0 : List YG) (a1 : Int) : Int := (bif (decide ((W (a1 - (↑a0.length : Int))) < 0)) then (-1) else (W (a1 - (↑a0.length : Int))))
def Y9 (a0 : List ZJ) (a1 : Int) : Int := (bif (decide ((W (a1 - (↑a0.length : Int))) < 0)) then (-1) else (W (a1 - (↑a0.length : Int))))
def J0 (a0 : List Zc) (a1 : Int) : Int := (bif (decide ((W (a1 - (↑a0.length : Int))) < 0)) then (-1) else (W (a1 - (↑a0.length : Int))))
def Z2 (a0 : YF) (a1 : Int) : Int := (bif (decide ((Xx a0.YV a1) < 0)) then (-1) else (bif (decide ((Y9 a0.ZC (Xx a0.YV a1)) < 0)) then (-1) else (bif (decide ((J0 a0.Methods (Y9 a0.ZC (Xx a0.YV a1))) < 0)) then (-1) else (J0 a0.Methods (Y9 a0.ZC (Xx a0.YV a1))))))
def YL (a0 : List Z0) (a1 : Int) : Int := (bif (decide ((W (a1 - (↑a0.length : Int))) < 0)) then (-1) else (W (a1 - (↑a0.length : Int))))
def Zm (a0 : List Int) (a1 : Int) : Int := (bif (decide ((W (a1 - (↑a0.length : Int))) < 0)) then (-1) else (W (a1 - (↑a0.length : Int))))
def zJ (a0 : List ByteArray) : Nat → Int → Nat → Sum Int Int
  | 0, _, _ => .inr default
  | n1 + 1, v1_0, v1_1 => (bif (decide ((↑v1_1 : Int) < (↑a0.length : Int))) then (bif (decide ((W (v1_0 - (↑(nth a0 v1_1).size : Int))) < 0)) then (.inl (-1)) else zJ a0 n1 (W (v1_0 - (↑(nth a0 v1_1).size : Int))) (v1_1 + 1)) else (.inr v1_0))
def Xi (a0 : List ByteArray) (a1 : Int) : Int := (bif (decide ((W (a1 - (↑a0.length : Int))) < 0)) then (-1) else (match zJ a0 (a0.length + 1) (W (a1 - (↑a0.length : Int))) 0 with | .inl r1 => r1 | .inr z1_0 => z1_0))
def XF (a0 : ZV) (a1 : Int) : Int := (bif (decide ((Xi a0.ZE a1) < 0)) then (-1) else (bif (decide ((Zm a0.ZH (Xi a0.ZE a1)) < 0)) then (-1) else (Zm a0.ZH (Xi a0.ZE a1))))
def z5 (a0 : ZN) (a1 : Int) : Int := (bif (decide ((Zm a0.Y7 a1) < 0)) then (-1) else (Zm a0.Y7 a1))
def yQ (a0 : List ZN) : Nat → Int → Nat → Sum Int Int
  | 0, _, _ => .inr default
  | n1 + 1, v1_0, v1_1 => (bif (decide ((↑v1_1 : Int) < (↑a0.length : Int))) then (bif (decide ((z5 (nth a0 v1_1) v1_0) < 0)) then (.inl (-1)) else yQ a0 n1 (z5 (nth a0 v1_1) v1_0) (v1_1 + 1)) else (.inr v1_0))
def X1 (a0 : List ZN) (a1 : Int) : Int := (bif (decide ((W (a1 - (↑a0.length : Int))) < 0)) then (-1) else (match yQ a0 (a0.length + 1) (W (a1 - (↑a0.length : Int))) 0 with | .inl r1 => r1 | .inr z1_0 => z1_0))
def QR (a0 : List Zk) (a1 : Int) : Int := (bif (decide ((W (a1 - (↑a0.length : Int))) < 0)) then (-1) else (W (a1 - (↑a0.length : Int))))
def Kn (a0 : List ZQ) (a1 : Int) : Int := (bif (decide ((W (a1 - (↑a0.length : Int))) < 0)) then (-1) else (W (a1 - (↑a0.length : Int))))
def J3 (a0 : ZG) (a1 : Int) : Int := (bif (decide ((QR a0.Path a1) < 0)) then (-1) else (bif (decide ((Kn a0.Zx (QR a0.Path a1)) < 0)) then (-1) else (Kn a0.Zx (QR a0.Path a1))))
def KY (a0 : List ZG) : Nat → Int → Nat → Sum Int Int
  | 0, _, _ => .inr default
  | n1 + 1, v1_0, v1_1 => (bif (decide ((↑v1_1 : Int) < (↑a0.length : Int))) then (bif (decide ((J3 (nth a0 v1_1) v1_0) < 0)) then (.inl (-1)) else KY a0 n1 (J3 (nth a0 v1_1) v1_0) (v1_1 + 1)) else (.inr v1_0))
def JK (a0 : List ZG) (a1 : Int) : Int := (bif (decide ((W (a1 - (↑a0.length : Int))) < 0)) then (-1) else (match KY a0 (a0.length + 1) (W (a1 - (↑a0.length : Int))) 0 with | .inl r1 => r1 | .inr z1_0 => z1_0))
def Jg (a0 : Za) (a1 : Int) : Int := (bif (decide ((X1 a0.ZO a1) < 0)) then (-1) else (bif (decide ((JK a0.ZX (X1 a0.ZO a1)) < 0)) then (-1) else (JK a0.ZX (X1 a0.ZO a1))))
def xh (a0 : ZY) (a1 : Int) : Int := (bif (decide ((XF a0.Doc a1) < 0)) then (-1) else (bif (decide ((Jg a0.ZL (XF a0.Doc a1)) < 0)) then (-1) else (Jg a0.ZL (XF a0.Doc a1))))
def xi (a0 : List ZY) : Nat → Int → Nat → Sum Int Int
  | 0, _, _ => .inr default
  | n1 + 1, v1_0, v1_1 => (bif (decide ((↑v1_1 : Int) < (↑a0.length : Int))) then (bif (decide ((xh (nth a0 v1_1) v1_0) < 0)) then (.inl (-1)) else xi a0 n1 (xh (nth a0 v1_1) v1_0) (v1_1 + 1)) else (.inr v1_0))
def zu (a0 : List ZY) (a1 : Int) : Int := (bif (decide ((W (a1 - (↑a0.length : Int))) < 0)) then (-1) else (match xi a0 (a0.length + 1) (W (a1 - (↑a0.length : Int))) 0 with | .inl r1 => r1 | .inr z1_0 => z1_0))
def Jy (a0 : ZF) (a1 : Int) : Int := (bif (decide ((zu a0.ZM a1) < 0)) then (-1) else (zu a0.ZM a1))
def Ke (a0 : List ZF) : Nat → Int → Nat → Sum Int Int
  | 0, _, _ => .inr default
  | n1 + 1, v1_0, v1_1 => (bif (decide ((↑v1_1 : Int) < (↑a0.length : Int))) then (bif (decide ((Jy (nth a0 v1_1) v1_0) < 0)) then (.inl (-1)) else Ke a0 n1 (Jy (nth a0 v1_1) v1_0) (v1_1 + 1)) else (.inr v1_0))
def YN (a0 : List ZF) (a1 : Int) : Int := (bif (decide ((W (a1 - (↑a0.length : Int))) < 0)) then (-1) else (match Ke a0 (a0.length + 1) (W (a1 - (↑a0.length : Int))) 0 with | .inl r1 => r1 | .inr z1_0 => z1_0))
def KM (a0 : ZZ) (a1 : Int) : Int := (bif (decide ((Z2 a0.Frame a1) < 0)) then (-1) else (bif (decide ((YL a0.Zy (Z2 a0.Frame a1)) < 0)) then (-1) else (bif (decide ((Zm a0.Z3 (YL a0.Zy (Z2 a0.Frame a1))) < 0)) then (-1) else (bif (decide ((YN a0.ZI (Zm a0.Z3 (YL a0.Zy (Z2 a0.Frame a1)))) < 0)) then (-1) else (bif (decide ((Zm a0.YZ (YN a0.ZI (Zm a0.Z3 (YL a0.Zy (Z2 a0.Frame a1))))) < 0)) then (-1) else (bif (decide ((Zm a0.Yl (Zm a0.YZ (YN a0.ZI (Zm a0.Z3 (YL a0.Zy (Z2 a0.Frame a1)))))) < 0)) then (-1) else (bif (decide ((Zm a0.Ym (Zm a0.Yl (Zm a0.YZ (YN a0.ZI (Zm a0.Z3 (YL a0.Zy (Z2 a0.Frame a1))))))) < 0)) then (-1) else (Zm a0.Ym (Zm a0.Yl (Zm a0.YZ (YN a0.ZI (Zm a0.Z3 (YL a0.Zy (Z2 a0.Frame a1))))))))))))))
def PW (a0 : YG) : YG := a0
def WZ (a0 : List YG) : Nat → Nat → List YG → (List YG)
  | 0, _, _ => default
  | n1 + 1, v1_0, v1_1 => (bif (decide ((↑v1_0 : Int) < (↑a0.length : Int))) then WZ a0 n1 (v1_0 + 1) (v1_1.set v1_0 (nth a0 v1_0)) else (v1_1))
def NQ (a0 : List YG) : List YG := (match WZ a0 (a0.length + 1) 0 (List.replicate a0.length (YG.mk 0 0 0 0 0)) with | z1_0 => z1_0)
def xe (a0 : ZJ) : ZJ := a0
def K5 (a0 : List ZJ) : Nat → Nat → List ZJ → (List ZJ)
  | 0, _, _ => default
  | n1 + 1, v1_0, v1_1 => (bif (decide ((↑v1_0 : Int) < (↑a0.length : Int))) then K5 a0 n1 (v1_0 + 1) (v1_1.set v1_0 (nth a0 v1_0)) else (v1_1))
def jF (a0 : List ZJ) : List ZJ := (match K5 a0 (a0.length + 1) 0 (List.replicate a0.length (ZJ.mk 0 0 0)) with | z1_0 => z1_0)
def WY (a0 : Zc) : Zc := a0
def xb (a0 : List Zc) : Nat → Nat → List Zc → (List Zc)
  | 0, _, _ => default
  | n1 + 1, v1_0, v1_1 => (bif (decide ((↑v1_0 : Int) < (↑a0.length : Int))) then xb a0 n1 (v1_0 + 1) (v1_1.set v1_0 (nth a0 v1_0)) else (v1_1))
def VB (a0 : List Zc) : List Zc := (match xb a0 (a0.length + 1) 0 (List.replicate a0.length (Zc.mk 0 0 0 0)) with | z1_0 => z1_0)
def V5 (a0 : YF) : YF := a0
def Tn (a0 : Z0) : Z0 := a0
def je (a0 : List Z0) : Nat → Nat → List Z0 → (List Z0)
  | 0, _, _ => default
  | n1 + 1, v1_0, v1_1 => (bif (decide ((↑v1_0 : Int) < (↑a0.length : Int))) then je a0 n1 (v1_0 + 1) (v1_1.set v1_0 (nth a0 v1_0)) else (v1_1))
def SE (a0 : List Z0) : List Z0 := (match je a0 (a0.length + 1) 0 (List.replicate a0.length (Z0.mk 0 0 0 0 0 0 0)) with | z1_0 => z1_0)
def We (a0 : List Int) : Nat → Nat → List Int → (List Int)
  | 0, _, _ => default
  | n1 + 1, v1_0, v1_1 => (bif (decide ((↑v1_0 : Int) < (↑a0.length : Int))) then We a0 n1 (v1_0 + 1) (v1_1.set v1_0 (nth a0 v1_0)) else (v1_1))
def O9 (a0 : List Int) : List Int := (match We a0 (a0.length + 1) 0 (List.replicate a0.length 0) with | z1_0 => z1_0)
def xa (a0 : List ByteArray) : Nat → Nat → List ByteArray → (List ByteArray)
  | 0, _, _ => default
  | n1 + 1, v1_0, v1_1 => (bif (decide ((↑v1_0 : Int) < (↑a0.length : Int))) then xa a0 n1 (v1_0 + 1) (v1_1.set v1_0 (nth a0 v1_0)) else (v1_1))
def VV (a0 : List ByteArray) : List ByteArray := (match xa a0 (a0.length + 1) 0 (List.replicate a0.length (⟨#[]⟩ : ByteArray)) with | z1_0 => z1_0)
def qP (a0 : ZV) : ZV := a0
def xP (a0 : Zh) : Zh := a0
def Vs (a0 : ZN) : ZN := a0
def qV (a0 : List ZN) : Nat → Nat → List ZN → (List ZN)
  | 0, _, _ => default
  | n1 + 1, v1_0, v1_1 => (bif (decide ((↑v1_0 : Int) < (↑a0.length : Int))) then qV a0 n1 (v1_0 + 1) (v1_1.set v1_0 (nth a0 v1_0)) else (v1_1))
def UU (a0 : List ZN) : List ZN := (match qV a0 (a0.length + 1) 0 (List.replicate a0.length (ZN.mk 0 ([] : List Int) 0)) with | z1_0 => z1_0)
def Ty (a0 : Zk) : Zk := a0
def jl (a0 : List Zk) : Nat → Nat → List Zk → (List Zk)
  | 0, _, _ => default
  | n1 + 1, v1_0, v1_1 => (bif (decide ((↑v1_0 : Int) < (↑a0.length : Int))) then jl a0 n1 (v1_0 + 1) (v1_1.set v1_0 (nth a0 v1_0)) else (v1_1))
def T4 (a0 : List Zk) : List Zk := (match jl a0 (a0.length + 1) 0 (List.replicate a0.length (Zk.mk 0 false)) with | z1_0 => z1_0)
def V4 (a0 : ZQ) : ZQ := a0
def qR (a0 : List ZQ) : Nat → Nat → List ZQ → (List ZQ)
  | 0, _, _ => default
  | n1 + 1, v1_0, v1_1 => (bif (decide ((↑v1_0 : Int) < (↑a0.length : Int))) then qR a0 n1 (v1_0 + 1) (v1_1.set v1_0 (nth a0 v1_0)) else (v1_1))
def UY (a0 : List ZQ) : List ZQ := (match qR a0 (a0.length + 1) 0 (List.replicate a0.length (ZQ.mk 0 0 0 0 0)) with | z1_0 => z1_0)
def jf (a0 : ZG) : ZG := a0
def yd (a0 : List ZG) : Nat → Nat → List ZG → (List ZG)
  | 0, _, _ => default
  | n1 + 1, v1_0, v1_1 => (bif (decide ((↑v1_0 : Int) < (↑a0.length : Int))) then yd a0 n1 (v1_0 + 1) (v1_1.set v1_0 (nth a0 v1_0)) else (v1_1))
def kn (a0 : List ZG) : List ZG := (match yd a0 (a0.length + 1) 0 (List.replicate a0.length (ZG.mk 0 0 0 ([] : List Zk) ([] : List ZQ))) with | z1_0 => z1_0)
def kx (a0 : Za) : Za := a0
def U6 (a0 : ZY) : ZY := a0
def jZ (a0 : List ZY) : Nat → Nat → List ZY → (List ZY)
  | 0, _, _ => default
  | n1 + 1, v1_0, v1_1 => (bif (decide ((↑v1_0 : Int) < (↑a0.length : Int))) then jZ a0 n1 (v1_0 + 1) (v1_1.set v1_0 (nth a0 v1_0)) else (v1_1))
def Sw (a0 : List ZY) : List ZY := (match jZ a0 (a0.length + 1) 0 (List.replicate a0.length (ZY.mk 0 0 (ZV.mk 0 ([] : List ByteArray) ([] : List Int)) (Zh.mk 0 0 0 0 0 0 0 0 0) (Za.mk ([] : List ZN) ([] : List ZG)))) with | z1_0 => z1_0)
def jd (a0 : ZF) : ZF := a0
def yJ (a0 : List ZF) : Nat → Nat → List ZF → (List ZF)
  | 0, _, _ => default
  | n1 + 1, v1_0, v1_1 => (bif (decide ((↑v1_0 : Int) < (↑a0.length : Int))) then yJ a0 n1 (v1_0 + 1) (v1_1.set v1_0 (nth a0 v1_0)) else (v1_1))
def ky (a0 : List ZF) : List ZF := (match yJ a0 (a0.length + 1) 0 (List.replicate a0.length (ZF.mk 0 ([] : List ZY))) with | z1_0 => z1_0)
def Vt (a0 : ZZ) : ZZ := a0
def Uq (a0 : YF) : YF := a0
def Pf (a0 : ZV) : ZV := a0
def SZ (a0 : ZN) : ZN := a0
def WX (a0 : List ZN) : Nat → List ZN → Nat → (List ZN)
  | 0, _, _ => default
  | n1 + 1, v1_0, v1_1 => (bif (decide ((↑v1_1 : Int) < (↑a0.length : Int))) then WX a0 n1 (v1_0 ++ ([(nth a0 v1_1)] : List ZN)) (v1_1 + 1) else (v1_0))
def TD (a0 : List ZN) : List ZN := (match WX a0 (a0.length + 1) ([] : List ZN) 0 with | z1_0 => z1_0)
def Sh (a0 : ZG) : ZG := a0
def ji (a0 : Za) : Nat → Nat → List ZG → (List ZG)
  | 0, _, _ => default
  | n1 + 1, v1_0, v1_1 => (bif (decide ((↑v1_0 : Int) < (↑a0.ZX.length : Int))) then ji a0 n1 (v1_0 + 1) (v1_1 ++ ([(nth a0.ZX v1_0)] : List ZG)) else (v1_1))
def Vw (a0 : Za) : Za := (match ji a0 (a0.ZX.length + 1) 0 ([] : List ZG) with | z1_0 => (Za.mk a0.ZO z1_0))
def Se (a0 : ZY) : ZY := a0
def jm (a0 : ZF) : Nat → Nat → List ZY → (List ZY)
  | 0, _, _ => default
  | n1 + 1, v1_0, v1_1 => (bif (decide ((↑v1_0 : Int) < (↑a0.ZM.length : Int))) then jm a0 n1 (v1_0 + 1) (v1_1 ++ ([(nth a0.ZM v1_0)] : List ZY)) else (v1_1))
def V2 (a0 : ZF) : ZF := (match jm a0 (a0.ZM.length + 1) 0 ([] : List ZY) with | z1_0 => (ZF.mk a0.Id z1_0))
def jj (a0 : ZZ) : Nat → Nat → List ZF → (List ZF)
  | 0, _, _ => default
  | n1 + 1, v1_0, v1_1 => (bif (decide ((↑v1_0 : Int) < (↑a0.ZI.length : Int))) then jj a0 n1 (v1_0 + 1) (v1_1 ++ ([(nth a0.ZI v1_0)] : List ZF)) else (v1_1))
def Vz (a0 : ZZ) : ZZ := (match jj a0 (a0.ZI.length + 1) 0 ([] : List ZF) with | z1_0 => (ZZ.mk a0.Frame a0.Zy a0.Z3 z1_0 a0.YZ a0.Yl a0.Next a0.Ym))
def Y3 (a0 : Int) (a1 : Int) (a2 : Int) : Bool := ((decide (a0 ≥ a1)) && (decide (a0 ≤ a2)))
def zR (a0 : ZZ) (a1 : Int) : Bool := (Y3 a1 0 (W ((↑a0.ZI.length : Int) - 1)))
def Qw (a0 : ZF) (a1 : Int) : Nat → Int → Nat → List ZY → Int × (List ZY)
  | 0, _, _, _ => (default, default)
  | n1 + 1, v1_0, v1_1, v1_2 => (bif (decide ((↑v1_1 : Int) < (↑a0.ZM.length : Int))) then (bif (decide ((nth a0.ZM v1_1).Y8 < a1)) then Qw a0 a1 n1 (W (v1_0 + 1)) (v1_1 + 1) v1_2 else Qw a0 a1 n1 v1_0 (v1_1 + 1) (v1_2 ++ ([(nth a0.ZM v1_1)] : List ZY))) else ((v1_0, v1_2)))
def KB (a0 : ZF) (a1 : Int) : ZF × Int := (match Qw a0 a1 (a0.ZM.length + 1) 0 0 ([] : List ZY) with | (z1_0, z1_1) => ((ZF.mk a0.Id z1_1), z1_0))
def XR (a0 : ZZ) (a1 : Int) : ZZ × Bool := (bif (!(zR a0 a1)) then (a0, false) else ((ZZ.mk a0.Frame a0.Zy a0.Z3 (a0.ZI.set a1.toNat (KB (nth a0.ZI a1.toNat) a0.Frame.Now).1) a0.YZ a0.Yl a0.Next a0.Ym), true))
def Vj (a0 : YF) : YF := a0
def UW (a0 : List Int) : List Int := a0
def jP (a0 : ZV) : ZV := a0
def VS (a0 : ZN) : ZN := a0
def yp (a0 : List ZN) : Nat → List ZN → Nat → (List ZN)
  | 0, _, _ => default
  | n1 + 1, v1_0, v1_1 => (bif (decide ((↑v1_1 : Int) < (↑a0.length : Int))) then yp a0 n1 (v1_0 ++ ([(nth a0 v1_1)] : List ZN)) (v1_1 + 1) else (v1_0))
def qa (a0 : List ZN) : List ZN := (match yp a0 (a0.length + 1) ([] : List ZN) 0 with | z1_0 => z1_0)
def WJ (a0 : List ZQ) : List ZQ := a0
def kA (a0 : ZG) : ZG := a0
def yD (a0 : Za) : Nat → Nat → List ZG → (List ZG)
  | 0, _, _ => default
  | n1 + 1, v1_0, v1_1 => (bif (decide ((↑v1_0 : Int) < (↑a0.ZX.length : Int))) then yD a0 n1 (v1_0 + 1) (v1_1 ++ ([(nth a0.ZX v1_0)] : List ZG)) else (v1_1))
def qT (a0 : Za) : Za := (match yD a0 (a0.ZX.length + 1) 0 ([] : List ZG) with | z1_0 => (Za.mk a0.ZO z1_0))
def Ul (a0 : ZY) : ZY := a0
def zX (a0 : ZF) : Nat → Nat → List ZY → (List ZY)
  | 0, _, _ => default
  | n1 + 1, v1_0, v1_1 => (bif (decide ((↑v1_0 : Int) < (↑a0.ZM.length : Int))) then zX a0 n1 (v1_0 + 1) (v1_1 ++ ([(nth a0.ZM v1_0)] : List ZY)) else (v1_1))
def xf (a0 : ZF) : ZF := (match zX a0 (a0.ZM.length + 1) 0 ([] : List ZY) with | z1_0 => (ZF.mk a0.Id z1_0))
def xU (a0 : ZZ) : Nat → Nat → List ZF → (List ZF)
  | 0, _, _ => default
  | n1 + 1, v1_0, v1_1 => (bif (decide ((↑v1_0 : Int) < (↑a0.ZI.length : Int))) then xU a0 n1 (v1_0 + 1) (v1_1 ++ ([(nth a0.ZI v1_0)] : List ZF)) else (v1_1))
def js (a0 : ZZ) : ZZ := (match xU a0 (a0.ZI.length + 1) 0 ([] : List ZF) with | z1_0 => (ZZ.mk a0.Frame a0.Zy a0.Z3 z1_0 a0.YZ a0.Yl a0.Next a0.Ym))
def Z7 (a0 : Int) (a1 : Int) (a2 : Int) : Bool := ((decide (a1 ≤ a0)) && (decide (a0 ≤ a2)))
def Xn (a0 : ZZ) (a1 : Int) : Bool := (Z7 a1 0 (W ((↑a0.ZI.length : Int) - 1)))
def X6 (a0 : ZF) (a1 : Int) : Nat → Nat → List ZY → (List ZY)
  | 0, _, _ => default
  | n1 + 1, v1_0, v1_1 => (bif (decide ((↑v1_0 : Int) < (↑a0.ZM.length : Int))) then (bif (decide ((nth a0.ZM v1_0).Y8 ≥ a1)) then X6 a0 a1 n1 (v1_0 + 1) (v1_1 ++ ([(nth a0.ZM v1_0)] : List ZY)) else X6 a0 a1 n1 (v1_0 + 1) v1_1) else (v1_1))
def QJ (a0 : ZF) (a1 : Int) : ZF × Int := (match X6 a0 a1 (a0.ZM.length + 1) 0 ([] : List ZY) with | z1_0 => ((ZF.mk a0.Id z1_0), (W ((↑a0.ZM.length : Int) - (↑z1_0.length : Int)))))
def Zo (a0 : ZZ) (a1 : Int) : ZZ × Bool := (bif (!(Xn a0 a1)) then (a0, false) else ((ZZ.mk a0.Frame a0.Zy a0.Z3 (a0.ZI.set a1.toNat (QJ (nth a0.ZI a1.toNat) a0.Frame.Now).1) a0.YZ a0.Yl a0.Next a0.Ym), true))
def Vy (a0 : YG) (a1 : YG) : Bool := (bif (a0.Number != a1.Number) then false else (bif (a0.zx != a1.zx) then false else (bif (a0.Method != a1.Method) then false else (bif (a0.VF != a1.VF) then false else (bif (a0.zE != a1.zE) then false else true)))))
def Wc (a0 : List YG) (a1 : List YG) : Nat → Nat → Sum Bool Unit
  | 0, _ => .inr ()
  | n1 + 1, v1_0 => (bif (decide ((↑v1_0 : Int) < (↑a0.length : Int))) then (bif (!(Vy (nth a0 v1_0) (nth a1 v1_0))) then (.inl false) else Wc a0 a1 n1 (v1_0 + 1)) else (.inr ()))
def VP (a0 : List YG) (a1 : List YG) : Bool := (bif ((↑a0.length : Int) != (↑a1.length : Int)) then false else (match Wc a0 a1 (a0.length + 1) 0 with | .inl r1 => r1 | .inr _ => true))
def KK (a0 : ZJ) (a1 : ZJ) : Bool := (bif (a0.Id != a1.Id) then false else (bif (a0.Key != a1.Key) then false else (bif (a0.Error != a1.Error) then false else true)))
def K7 (a0 : List ZJ) (a1 : List ZJ) : Nat → Nat → Sum Bool Unit
  | 0, _ => .inr ()
  | n1 + 1, v1_0 => (bif (decide ((↑v1_0 : Int) < (↑a0.length : Int))) then (bif (!(KK (nth a0 v1_0) (nth a1 v1_0))) then (.inl false) else K7 a0 a1 n1 (v1_0 + 1)) else (.inr ()))
def Kg (a0 : List ZJ) (a1 : List ZJ) : Bool := (bif ((↑a0.length : Int) != (↑a1.length : Int)) then false else (match K7 a0 a1 (a0.length + 1) 0 with | .inl r1 => r1 | .inr _ => true))
def xH (a0 : Zc) (a1 : Zc) : Bool := (bif (a0.Id != a1.Id) then false else (bif (a0.Vp != a1.Vp) then false else (bif (a0.Ends != a1.Ends) then false else (bif (a0.jE != a1.jE) then false else true))))
def xY (a0 : List Zc) (a1 : List Zc) : Nat → Nat → Sum Bool Unit
  | 0, _ => .inr ()
  | n1 + 1, v1_0 => (bif (decide ((↑v1_0 : Int) < (↑a0.length : Int))) then (bif (!(xH (nth a0 v1_0) (nth a1 v1_0))) then (.inl false) else xY a0 a1 n1 (v1_0 + 1)) else (.inr ()))
def xm (a0 : List Zc) (a1 : List Zc) : Bool := (bif ((↑a0.length : Int) != (↑a1.length : Int)) then false else (match xY a0 a1 (a0.length + 1) 0 with | .inl r1 => r1 | .inr _ => true))
def ki (a0 : YF) (a1 : YF) : Bool := (bif (!(VP a0.YV a1.YV)) then false else (bif (!(Kg a0.ZC a1.ZC)) then false else (bif (!(xm a0.Methods a1.Methods)) then false else (bif (a0.zN != a1.zN) then false else (bif (a0.Now != a1.Now) then false else true)))))
def kU (a0 : Z0) (a1 : Z0) : Bool := (bif (a0.QY != a1.QY) then false else (bif (a0.Key != a1.Key) then false else (bif (a0.zx != a1.zx) then false else (bif (a0.qQ != a1.qQ) then false else (bif (a0.To != a1.To) then false else (bif (a0.Kc != a1.Kc) then false else (bif (a0.Mark != a1.Mark) then false else true)))))))
def jW (a0 : List Z0) (a1 : List Z0) : Nat → Nat → Sum Bool Unit
  | 0, _ => .inr ()
  | n1 + 1, v1_0 => (bif (decide ((↑v1_0 : Int) < (↑a0.length : Int))) then (bif (!(kU (nth a0 v1_0) (nth a1 v1_0))) then (.inl false) else jW a0 a1 n1 (v1_0 + 1)) else (.inr ()))
def kO (a0 : List Z0) (a1 : List Z0) : Bool := (bif ((↑a0.length : Int) != (↑a1.length : Int)) then false else (match jW a0 a1 (a0.length + 1) 0 with | .inl r1 => r1 | .inr _ => true))
def kq (a0 : List Int) (a1 : List Int) : Nat → Nat → Sum Bool Unit
  | 0, _ => .inr ()
  | n1 + 1, v1_0 => (bif (decide ((↑v1_0 : Int) < (↑a0.length : Int))) then (bif ((nth a0 v1_0) != (nth a1 v1_0)) then (.inl false) else kq a0 a1 n1 (v1_0 + 1)) else (.inr ()))
def Kb (a0 : List Int) (a1 : List Int) : Bool := (bif ((↑a0.length : Int) != (↑a1.length : Int)) then false else (match kq a0 a1 (a0.length + 1) 0 with | .inl r1 => r1 | .inr _ => true))
def xO (a0 : List ByteArray) (a1 : List ByteArray) : Nat → Nat → Sum Bool Unit
  | 0, _ => .inr ()
  | n1 + 1, v1_0 => (bif (decide ((↑v1_0 : Int) < (↑a0.length : Int))) then (bif (!decide ((nth a0 v1_0) = (nth a1 v1_0))) then (.inl false) else xO a0 a1 n1 (v1_0 + 1)) else (.inr ()))
def xv (a0 : List ByteArray) (a1 : List ByteArray) : Bool := (bif ((↑a0.length : Int) != (↑a1.length : Int)) then false else (match xO a0 a1 (a0.length + 1) 0 with | .inl r1 => r1 | .inr _ => true))
def yH (a0 : ZV) (a1 : ZV) : Bool := (bif (a0.K9 != a1.K9) then false else (bif (!(xv a0.ZE a1.ZE)) then false else (bif (!(Kb a0.ZH a1.ZH)) then false else true)))
def zP (a0 : Zh) (a1 : Zh) : Bool := (bif (a0.Key != a1.Key) then false else (bif (a0.QY != a1.QY) then false else (bif (a0.Method != a1.Method) then false else (bif (a0.Yz != a1.Yz) then false else (bif (a0.zj != a1.zj) then false else (bif (a0.Org != a1.Org) then false else (bif (a0.KU != a1.KU) then false else (bif (a0.yw != a1.yw) then false else (bif (a0.Mark != a1.Mark) then false else true)))))))))
def qi (a0 : ZN) (a1 : ZN) : Bool := (bif (a0.Key != a1.Key) then false else (bif (!(Kb a0.Y7 a1.Y7)) then false else (bif (a0.Mark != a1.Mark) then false else true)))
def qd (a0 : List ZN) (a1 : List ZN) : Nat → Nat → Sum Bool Unit
  | 0, _ => .inr ()
  | n1 + 1, v1_0 => (bif (decide ((↑v1_0 : Int) < (↑a0.length : Int))) then (bif (!(qi (nth a0 v1_0) (nth a1 v1_0))) then (.inl false) else qd a0 a1 n1 (v1_0 + 1)) else (.inr ()))
def jM (a0 : List ZN) (a1 : List ZN) : Bool := (bif ((↑a0.length : Int) != (↑a1.length : Int)) then false else (match qd a0 a1 (a0.length + 1) 0 with | .inl r1 => r1 | .inr _ => true))
def kg (a0 : Zk) (a1 : Zk) : Bool := (bif (a0.Yz != a1.Yz) then false else (bif (!(a0.Left == a1.Left)) then false else true))
def jn (a0 : List Zk) (a1 : List Zk) : Nat → Nat → Sum Bool Unit
  | 0, _ => .inr ()
  | n1 + 1, v1_0 => (bif (decide ((↑v1_0 : Int) < (↑a0.length : Int))) then (bif (!(kg (nth a0 v1_0) (nth a1 v1_0))) then (.inl false) else jn a0 a1 n1 (v1_0 + 1)) else (.inr ()))
def kR (a0 : List Zk) (a1 : List Zk) : Bool := (bif ((↑a0.length : Int) != (↑a1.length : Int)) then false else (match jn a0 a1 (a0.length + 1) 0 with | .inl r1 => r1 | .inr _ => true))
def qg (a0 : ZQ) (a1 : ZQ) : Bool := (bif (a0.Authority != a1.Authority) then false else (bif (a0.Seq != a1.Seq) then false else (bif (a0.Time != a1.Time) then false else (bif (a0.Yz != a1.Yz) then false else (bif (a0.Mark != a1.Mark) then false else true)))))
def qY (a0 : List ZQ) (a1 : List ZQ) : Nat → Nat → Sum Bool Unit
  | 0, _ => .inr ()
  | n1 + 1, v1_0 => (bif (decide ((↑v1_0 : Int) < (↑a0.length : Int))) then (bif (!(qg (nth a0 v1_0) (nth a1 v1_0))) then (.inl false) else qY a0 a1 n1 (v1_0 + 1)) else (.inr ()))
def jK (a0 : List ZQ) (a1 : List ZQ) : Bool := (bif ((↑a0.length : Int) != (↑a1.length : Int)) then false else (match qY a0 a1 (a0.length + 1) 0 with | .inl r1 => r1 | .inr _ => true))
def zt (a0 : ZG) (a1 : ZG) : Bool := (bif (a0.Count != a1.Count) then false else (bif (a0.Method != a1.Method) then false else (bif (a0.TA != a1.TA) then false else (bif (!(kR a0.Path a1.Path)) then false else (bif (!(jK a0.Zx a1.Zx)) then false else true)))))
def yR (a0 : List ZG) (a1 : List ZG) : Nat → Nat → Sum Bool Unit
  | 0, _ => .inr ()
  | n1 + 1, v1_0 => (bif (decide ((↑v1_0 : Int) < (↑a0.length : Int))) then (bif (!(zt (nth a0 v1_0) (nth a1 v1_0))) then (.inl false) else yR a0 a1 n1 (v1_0 + 1)) else (.inr ()))
def yg (a0 : List ZG) (a1 : List ZG) : Bool := (bif ((↑a0.length : Int) != (↑a1.length : Int)) then false else (match yR a0 a1 (a0.length + 1) 0 with | .inl r1 => r1 | .inr _ => true))
def qk (a0 : Za) (a1 : Za) : Bool := (bif (!(jM a0.ZO a1.ZO)) then false else (bif (!(yg a0.ZX a1.ZX)) then false else true))
def kJ (a0 : ZY) (a1 : ZY) : Bool := (bif (a0.Id != a1.Id) then false else (bif (a0.Y8 != a1.Y8) then false else (bif (!(yH a0.Doc a1.Doc)) then false else (bif (!(zP a0.Sig a1.Sig)) then false else (bif (!(qk a0.ZL a1.ZL)) then false else true)))))
def jV (a0 : List ZY) (a1 : List ZY) : Nat → Nat → Sum Bool Unit
  | 0, _ => .inr ()
  | n1 + 1, v1_0 => (bif (decide ((↑v1_0 : Int) < (↑a0.length : Int))) then (bif (!(kJ (nth a0 v1_0) (nth a1 v1_0))) then (.inl false) else jV a0 a1 n1 (v1_0 + 1)) else (.inr ()))
def kc (a0 : List ZY) (a1 : List ZY) : Bool := (bif ((↑a0.length : Int) != (↑a1.length : Int)) then false else (match jV a0 a1 (a0.length + 1) 0 with | .inl r1 => r1 | .inr _ => true))
def zz (a0 : ZF) (a1 : ZF) : Bool := (bif (a0.Id != a1.Id) then false else (bif (!(kc a0.ZM a1.ZM)) then false else true))
def yO (a0 : List ZF) (a1 : List ZF) : Nat → Nat → Sum Bool Unit
  | 0, _ => .inr ()
  | n1 + 1, v1_0 => (bif (decide ((↑v1_0 : Int) < (↑a0.length : Int))) then (bif (!(zz (nth a0 v1_0) (nth a1 v1_0))) then (.inl false) else yO a0 a1 n1 (v1_0 + 1)) else (.inr ()))
def yo (a0 : List ZF) (a1 : List ZF) : Bool := (bif ((↑a0.length : Int) != (↑a1.length : Int)) then false else (match yO a0 a1 (a0.length + 1) 0 with | .inl r1 => r1 | .inr _ => true))
def JD (a0 : ZZ) (a1 : ZZ) : Bool := (bif (!(ki a0.Frame a1.Frame)) then false else (bif (!(kO a0.Zy a1.Zy)) then false else (bif (!(Kb a0.Z3 a1.Z3)) then false else (bif (!(yo a0.ZI a1.ZI)) then false else (bif (!(Kb a0.YZ a1.YZ)) then false else (bif (!(Kb a0.Yl a1.Yl)) then false else (bif (a0.Next != a1.Next) then false else (bif (!(Kb a0.Ym a1.Ym)) then false else true))))))))
def JS : Nat → Int → Nat → List YG → Int × (List YG)
  | 0, _, _, _ => (default, default)
  | n1 + 1, v1_0, v1_1, v1_2 => (bif (decide ((↑v1_1 : Int) < (↑v1_2.length : Int))) then JS n1 (W ((W ((W ((W ((W (v1_0 + 1)) + 1)) + 1)) + 1)) + 1)) (v1_1 + 1) (v1_2.set v1_1 (YG.mk v1_0 (W (v1_0 + 1)) (W ((W (v1_0 + 1)) + 1)) (W ((W ((W (v1_0 + 1)) + 1)) + 1)) (W ((W ((W ((W (v1_0 + 1)) + 1)) + 1)) + 1)))) else ((v1_0, v1_2)))
def Yv (a0 : List YG) (a1 : Int) : (List YG) × Int := (match JS (a0.length + 1) a1 0 a0 with | (z1_0, z1_1) => (z1_1, z1_0))
def XX : Nat → Int → Nat → List ZJ → Int × (List ZJ)
  | 0, _, _, _ => (default, default)
  | n1 + 1, v1_0, v1_1, v1_2 => (bif (decide ((↑v1_1 : Int) < (↑v1_2.length : Int))) then XX n1 (W ((W ((W (v1_0 + 1)) + 1)) + 1)) (v1_1 + 1) (v1_2.set v1_1 (ZJ.mk v1_0 (W (v1_0 + 1)) (W ((W (v1_0 + 1)) + 1)))) else ((v1_0, v1_2)))
def YD (a0 : List ZJ) (a1 : Int) : (List ZJ) × Int := (match XX (a0.length + 1) a1 0 a0 with | (z1_0, z1_1) => (z1_1, z1_0))
def QA : Nat → Int → Nat → List Zc → Int × (List Zc)
  | 0, _, _, _ => (default, default)
  | n1 + 1, v1_0, v1_1, v1_2 => (bif (decide ((↑v1_1 : Int) < (↑v1_2.length : Int))) then QA n1 (W ((W ((W ((W (v1_0 + 1)) + 1)) + 1)) + 1)) (v1_1 + 1) (v1_2.set v1_1 (Zc.mk v1_0 (W (v1_0 + 1)) (W ((W (v1_0 + 1)) + 1)) (W ((W ((W (v1_0 + 1)) + 1)) + 1)))) else ((v1_0, v1_2)))
def XJ (a0 : List Zc) (a1 : Int) : (List Zc) × Int := (match QA (a0.length + 1) a1 0 a0 with | (z1_0, z1_1) => (z1_1, z1_0))
def Zi (a0 : YF) (a1 : Int) : YF × Int := ((YF.mk (Yv a0.YV a1).1 (YD a0.ZC (Yv a0.YV a1).2).1 (XJ a0.Methods (YD a0.ZC (Yv a0.YV a1).2).2).1 a0.zN a0.Now), (XJ a0.Methods (YD a0.ZC (Yv a0.YV a1).2).2).2)
def Qj : Nat → Int → Nat → List Z0 → Int × (List Z0)
  | 0, _, _, _ => (default, default)
  | n1 + 1, v1_0, v1_1, v1_2 => (bif (decide ((↑v1_1 : Int) < (↑v1_2.length : Int))) then Qj n1 (W ((W ((W ((W ((W ((W ((W (v1_0 + 1)) + 1)) + 1)) + 1)) + 1)) + 1)) + 1)) (v1_1 + 1) (v1_2.set v1_1 (Z0.mk v1_0 (W (v1_0 + 1)) (W ((W (v1_0 + 1)) + 1)) (W ((W ((W (v1_0 + 1)) + 1)) + 1)) (W ((W ((W ((W (v1_0 + 1)) + 1)) + 1)) + 1)) (W ((W ((W ((W ((W (v1_0 + 1)) + 1)) + 1)) + 1)) + 1)) (W ((W ((W ((W ((W ((W (v1_0 + 1)) + 1)) + 1)) + 1)) + 1)) + 1)))) else ((v1_0, v1_2)))
def Zw (a0 : List Z0) (a1 : Int) : (List Z0) × Int := (match Qj (a0.length + 1) a1 0 a0 with | (z1_0, z1_1) => (z1_1, z1_0))
def JQ : Nat → Int → Nat → List Int → Int × (List Int)
  | 0, _, _, _ => (default, default)
  | n1 + 1, v1_0, v1_1, v1_2 => (bif (decide ((↑v1_1 : Int) < (↑v1_2.length : Int))) then JQ n1 (W (v1_0 + 1)) (v1_1 + 1) (v1_2.set v1_1 v1_0) else ((v1_0, v1_2)))
def ZB (a0 : List Int) (a1 : Int) : (List Int) × Int := (match JQ (a0.length + 1) a1 0 a0 with | (z1_0, z1_1) => (z1_1, z1_0))
def WK : Nat → Int → ByteArray → ByteArray
  | 0, _, _ => default
  | n1 + 1, v1_0, v1_1 => (bif (decide (v1_0 > 0)) then WK n1 (W (Int.tdiv v1_0 10)) ((⟨([(UInt8.ofInt (W (48 + (Int.tmod v1_0 10))))] : List UInt8).toArray⟩ : ByteArray) ++ v1_1) else (v1_1))
def Xe (a0 : Int) : ByteArray := (bif (decide (a0 ≤ 0)) then (⟨#[109, 48]⟩ : ByteArray) else (match WK 22 a0 (⟨#[]⟩ : ByteArray) with | z1_0 => ((⟨#[109]⟩ : ByteArray) ++ z1_0)))
def QC : Nat → Int → Nat → List ByteArray → Int × (List ByteArray)
  | 0, _, _, _ => (default, default)
  | n1 + 1, v1_0, v1_1, v1_2 => (bif (decide ((↑v1_1 : Int) < (↑v1_2.length : Int))) then QC n1 (W (v1_0 + 1)) (v1_1 + 1) (v1_2.set v1_1 (Xe v1_0)) else ((v1_0, v1_2)))
def ZA (a0 : List ByteArray) (a1 : Int) : (List ByteArray) × Int := (match QC (a0.length + 1) a1 0 a0 with | (z1_0, z1_1) => (z1_1, z1_0))
def QN : Nat → Int → Nat → List ZN → Int × (List ZN)
  | 0, _, _, _ => (default, default)
  | n1 + 1, v1_0, v1_1, v1_2 => (bif (decide ((↑v1_1 : Int) < (↑v1_2.length : Int))) then QN n1 (W ((ZB (nth v1_2 v1_1).Y7 (W (v1_0 + 1))).2 + 1)) (v1_1 + 1) (v1_2.set v1_1 (ZN.mk v1_0 (ZB (nth v1_2 v1_1).Y7 (W (v1_0 + 1))).1 (ZB (nth v1_2 v1_1).Y7 (W (v1_0 + 1))).2)) else ((v1_0, v1_2)))
def Zd (a0 : List ZN) (a1 : Int) : (List ZN) × Int := (match QN (a0.length + 1) a1 0 a0 with | (z1_0, z1_1) => (z1_1, z1_0))
def Ql : Nat → Int → Nat → List Zk → Int × (List Zk)
  | 0, _, _, _ => (default, default)
  | n1 + 1, v1_0, v1_1, v1_2 => (bif (decide ((↑v1_1 : Int) < (↑v1_2.length : Int))) then Ql n1 (W ((W (v1_0 + 1)) + 1)) (v1_1 + 1) (v1_2.set v1_1 (Zk.mk v1_0 ((Int.tmod (W (v1_0 + 1)) 3) == 0))) else ((v1_0, v1_2)))
def Zg (a0 : List Zk) (a1 : Int) : (List Zk) × Int := (match Ql (a0.length + 1) a1 0 a0 with | (z1_0, z1_1) => (z1_1, z1_0))
def QQ : Nat → Int → Nat → List ZQ → Int × (List ZQ)
  | 0, _, _, _ => (default, default)
  | n1 + 1, v1_0, v1_1, v1_2 => (bif (decide ((↑v1_1 : Int) < (↑v1_2.length : Int))) then QQ n1 (W ((W ((W ((W ((W (v1_0 + 1)) + 1)) + 1)) + 1)) + 1)) (v1_1 + 1) (v1_2.set v1_1 (ZQ.mk v1_0 (W (v1_0 + 1)) (W ((W (v1_0 + 1)) + 1)) (W ((W ((W (v1_0 + 1)) + 1)) + 1)) (W ((W ((W ((W (v1_0 + 1)) + 1)) + 1)) + 1)))) else ((v1_0, v1_2)))
def Zs (a0 : List ZQ) (a1 : Int) : (List ZQ) × Int := (match QQ (a0.length + 1) a1 0 a0 with | (z1_0, z1_1) => (z1_1, z1_0))
def Xz : Nat → Int → Nat → List ZG → Int × (List ZG)
  | 0, _, _, _ => (default, default)
  | n1 + 1, v1_0, v1_1, v1_2 => (bif (decide ((↑v1_1 : Int) < (↑v1_2.length : Int))) then Xz n1 (Zs (nth v1_2 v1_1).Zx (Zg (nth v1_2 v1_1).Path (W ((W ((W (v1_0 + 1)) + 1)) + 1))).2).2 (v1_1 + 1) (v1_2.set v1_1 (ZG.mk v1_0 (W (v1_0 + 1)) (W ((W (v1_0 + 1)) + 1)) (Zg (nth v1_2 v1_1).Path (W ((W ((W (v1_0 + 1)) + 1)) + 1))).1 (Zs (nth v1_2 v1_1).Zx (Zg (nth v1_2 v1_1).Path (W ((W ((W (v1_0 + 1)) + 1)) + 1))).2).1)) else ((v1_0, v1_2)))
def Zj (a0 : List ZG) (a1 : Int) : (List ZG) × Int := (match Xz (a0.length + 1) a1 0 a0 with | (z1_0, z1_1) => (z1_1, z1_0))
def Qm : Nat → Int → Nat → List ZY → Int × (List ZY)
  | 0, _, _, _ => (default, default)
  | n1 + 1, v1_0, v1_1, v1_2 => (bif (decide ((↑v1_1 : Int) < (↑v1_2.length : Int))) then Qm n1 (Zj (nth v1_2 v1_1).ZL.ZX (Zd (nth v1_2 v1_1).ZL.ZO (W ((W ((W ((W ((W ((W ((W ((W ((W ((ZB (nth v1_2 v1_1).Doc.ZH (ZA (nth v1_2 v1_1).Doc.ZE (W ((W ((W (v1_0 + 1)) + 1)) + 1))).2).2 + 1)) + 1)) + 1)) + 1)) + 1)) + 1)) + 1)) + 1)) + 1))).2).2 (v1_1 + 1) (v1_2.set v1_1 (ZY.mk v1_0 (W (v1_0 + 1)) (ZV.mk (W ((W (v1_0 + 1)) + 1)) (ZA (nth v1_2 v1_1).Doc.ZE (W ((W ((W (v1_0 + 1)) + 1)) + 1))).1 (ZB (nth v1_2 v1_1).Doc.ZH (ZA (nth v1_2 v1_1).Doc.ZE (W ((W ((W (v1_0 + 1)) + 1)) + 1))).2).1) (Zh.mk (ZB (nth v1_2 v1_1).Doc.ZH (ZA (nth v1_2 v1_1).Doc.ZE (W ((W ((W (v1_0 + 1)) + 1)) + 1))).2).2 (W ((ZB (nth v1_2 v1_1).Doc.ZH (ZA (nth v1_2 v1_1).Doc.ZE (W ((W ((W (v1_0 + 1)) + 1)) + 1))).2).2 + 1)) (W ((W ((ZB (nth v1_2 v1_1).Doc.ZH (ZA (nth v1_2 v1_1).Doc.ZE (W ((W ((W (v1_0 + 1)) + 1)) + 1))).2).2 + 1)) + 1)) (W ((W ((W ((ZB (nth v1_2 v1_1).Doc.ZH (ZA (nth v1_2 v1_1).Doc.ZE (W ((W ((W (v1_0 + 1)) + 1)) + 1))).2).2 + 1)) + 1)) + 1)) (W ((W ((W ((W ((ZB (nth v1_2 v1_1).Doc.ZH (ZA (nth v1_2 v1_1).Doc.ZE (W ((W ((W (v1_0 + 1)) + 1)) + 1))).2).2 + 1)) + 1)) + 1)) + 1)) (W ((W ((W ((W ((W ((ZB (nth v1_2 v1_1).Doc.ZH (ZA (nth v1_2 v1_1).Doc.ZE (W ((W ((W (v1_0 + 1)) + 1)) + 1))).2).2 + 1)) + 1)) + 1)) + 1)) + 1)) (W ((W ((W ((W ((W ((W ((ZB (nth v1_2 v1_1).Doc.ZH (ZA (nth v1_2 v1_1).Doc.ZE (W ((W ((W (v1_0 + 1)) + 1)) + 1))).2).2 + 1)) + 1)) + 1)) + 1)) + 1)) + 1)) (W ((W ((W ((W ((W ((W ((W ((ZB (nth v1_2 v1_1).Doc.ZH (ZA (nth v1_2 v1_1).Doc.ZE (W ((W ((W (v1_0 + 1)) + 1)) + 1))).2).2 + 1)) + 1)) + 1)) + 1)) + 1)) + 1)) + 1)) (W ((W ((W ((W ((W ((W ((W ((W ((ZB (nth v1_2 v1_1).Doc.ZH (ZA (nth v1_2 v1_1).Doc.ZE (W ((W ((W (v1_0 + 1)) + 1)) + 1))).2).2 + 1)) + 1)) + 1)) + 1)) + 1)) + 1)) + 1)) + 1))) (Za.mk (Zd (nth v1_2 v1_1).ZL.ZO (W ((W ((W ((W ((W ((W ((W ((W ((W ((ZB (nth v1_2 v1_1).Doc.ZH (ZA (nth v1_2 v1_1).Doc.ZE (W ((W ((W (v1_0 + 1)) + 1)) + 1))).2).2 + 1)) + 1)) + 1)) + 1)) + 1)) + 1)) + 1)) + 1)) + 1))).1 (Zj (nth v1_2 v1_1).ZL.ZX (Zd (nth v1_2 v1_1).ZL.ZO (W ((W ((W ((W ((W ((W ((W ((W ((W ((ZB (nth v1_2 v1_1).Doc.ZH (ZA (nth v1_2 v1_1).Doc.ZE (W ((W ((W (v1_0 + 1)) + 1)) + 1))).2).2 + 1)) + 1)) + 1)) + 1)) + 1)) + 1)) + 1)) + 1)) + 1))).2).1))) else ((v1_0, v1_2)))
def Z1 (a0 : List ZY) (a1 : Int) : (List ZY) × Int := (match Qm (a0.length + 1) a1 0 a0 with | (z1_0, z1_1) => (z1_1, z1_0))
def Xy : Nat → Int → Nat → List ZF → Int × (List ZF)
  | 0, _, _, _ => (default, default)
  | n1 + 1, v1_0, v1_1, v1_2 => (bif (decide ((↑v1_1 : Int) < (↑v1_2.length : Int))) then Xy n1 (Z1 (nth v1_2 v1_1).ZM (W (v1_0 + 1))).2 (v1_1 + 1) (v1_2.set v1_1 (ZF.mk v1_0 (Z1 (nth v1_2 v1_1).ZM (W (v1_0 + 1))).1)) else ((v1_0, v1_2)))
def Zv (a0 : List ZF) (a1 : Int) : (List ZF) × Int := (match Xy (a0.length + 1) a1 0 a0 with | (z1_0, z1_1) => (z1_1, z1_0))
def Ze (a0 : ZZ) (a1 : Int) : ZZ × Int := ((ZZ.mk (Zi a0.Frame a1).1 (Zw a0.Zy (Zi a0.Frame a1).2).1 (ZB a0.Z3 (Zw a0.Zy (Zi a0.Frame a1).2).2).1 (Zv a0.ZI (ZB a0.Z3 (Zw a0.Zy (Zi a0.Frame a1).2).2).2).1 (ZB a0.YZ (Zv a0.ZI (ZB a0.Z3 (Zw a0.Zy (Zi a0.Frame a1).2).2).2).2).1 (ZB a0.Yl (ZB a0.YZ (Zv a0.ZI (ZB a0.Z3 (Zw a0.Zy (Zi a0.Frame a1).2).2).2).2).2).1 a0.Next (ZB a0.Ym (ZB a0.Yl (ZB a0.YZ (Zv a0.ZI (ZB a0.Z3 (Zw a0.Zy (Zi a0.Frame a1).2).2).2).2).2).2).1), (ZB a0.Ym (ZB a0.Yl (ZB a0.YZ (Zv a0.ZI (ZB a0.Z3 (Zw a0.Zy (Zi a0.Frame a1).2).2).2).2).2).2).2)
def qb (a0 : List YG) : Nat → Int → Nat → Sum Int Int
  | 0, _, _ => .inr default
  | n1 + 1, v1_0, v1_1 => (bif (decide ((↑v1_1 : Int) < (↑a0.length : Int))) then (bif ((nth a0 v1_1).Number != v1_0) then (.inl (-1)) else (bif ((nth a0 v1_1).zx != (W (v1_0 + 1))) then (.inl (-1)) else (bif ((nth a0 v1_1).Method != (W ((W (v1_0 + 1)) + 1))) then (.inl (-1)) else (bif ((nth a0 v1_1).VF != (W ((W ((W (v1_0 + 1)) + 1)) + 1))) then (.inl (-1)) else (bif ((nth a0 v1_1).zE != (W ((W ((W ((W (v1_0 + 1)) + 1)) + 1)) + 1))) then (.inl (-1)) else qb a0 n1 (W ((W ((W ((W ((W (v1_0 + 1)) + 1)) + 1)) + 1)) + 1)) (v1_1 + 1)))))) else (.inr v1_0))
def Jd (a0 : List YG) (a1 : Int) : Int := (match qb a0 (a0.length + 1) a1 0 with | .inl r1 => r1 | .inr z1_0 => z1_0)
def J6 (a0 : List ZJ) : Nat → Int → Nat → Sum Int Int
  | 0, _, _ => .inr default
  | n1 + 1, v1_0, v1_1 => (bif (decide ((↑v1_1 : Int) < (↑a0.length : Int))) then (bif ((nth a0 v1_1).Id != v1_0) then (.inl (-1)) else (bif ((nth a0 v1_1).Key != (W (v1_0 + 1))) then (.inl (-1)) else (bif ((nth a0 v1_1).Error != (W ((W (v1_0 + 1)) + 1))) then (.inl (-1)) else J6 a0 n1 (W ((W ((W (v1_0 + 1)) + 1)) + 1)) (v1_1 + 1)))) else (.inr v1_0))
def Xw (a0 : List ZJ) (a1 : Int) : Int := (match J6 a0 (a0.length + 1) a1 0 with | .inl r1 => r1 | .inr z1_0 => z1_0)
def zY (a0 : List Zc) : Nat → Int → Nat → Sum Int Int
  | 0, _, _ => .inr default
  | n1 + 1, v1_0, v1_1 => (bif (decide ((↑v1_1 : Int) < (↑a0.length : Int))) then (bif ((nth a0 v1_1).Id != v1_0) then (.inl (-1)) else (bif ((nth a0 v1_1).Vp != (W (v1_0 + 1))) then (.inl (-1)) else (bif ((nth a0 v1_1).Ends != (W ((W (v1_0 + 1)) + 1))) then (.inl (-1)) else (bif ((nth a0 v1_1).jE != (W ((W ((W (v1_0 + 1)) + 1)) + 1))) then (.inl (-1)) else zY a0 n1 (W ((W ((W ((W (v1_0 + 1)) + 1)) + 1)) + 1)) (v1_1 + 1))))) else (.inr v1_0))
def KG (a0 : List Zc) (a1 : Int) : Int := (match zY a0 (a0.length + 1) a1 0 with | .inl r1 => r1 | .inr z1_0 => z1_0)
def XE (a0 : YF) (a1 : Int) : Int := (bif (decide ((Jd a0.YV a1) < 0)) then (-1) else (bif (decide ((Xw a0.ZC (Jd a0.YV a1)) < 0)) then (-1) else (bif (decide ((KG a0.Methods (Xw a0.ZC (Jd a0.YV a1))) < 0)) then (-1) else (KG a0.Methods (Xw a0.ZC (Jd a0.YV a1))))))
def xS (a0 : List Z0) : Nat → Int → Nat → Sum Int Int
  | 0, _, _ => .inr default
  | n1 + 1, v1_0, v1_1 => (bif (decide ((↑v1_1 : Int) < (↑a0.length : Int))) then (bif ((nth a0 v1_1).QY != v1_0) then (.inl (-1)) else (bif ((nth a0 v1_1).Key != (W (v1_0 + 1))) then (.inl (-1)) else (bif ((nth a0 v1_1).zx != (W ((W (v1_0 + 1)) + 1))) then (.inl (-1)) else (bif ((nth a0 v1_1).qQ != (W ((W ((W (v1_0 + 1)) + 1)) + 1))) then (.inl (-1)) else (bif ((nth a0 v1_1).To != (W ((W ((W ((W (v1_0 + 1)) + 1)) + 1)) + 1))) then (.inl (-1)) else (bif ((nth a0 v1_1).Kc != (W ((W ((W ((W ((W (v1_0 + 1)) + 1)) + 1)) + 1)) + 1))) then (.inl (-1)) else (bif ((nth a0 v1_1).Mark != (W ((W ((W ((W ((W ((W (v1_0 + 1)) + 1)) + 1)) + 1)) + 1)) + 1))) then (.inl (-1)) else xS a0 n1 (W ((W ((W ((W ((W ((W ((W (v1_0 + 1)) + 1)) + 1)) + 1)) + 1)) + 1)) + 1)) (v1_1 + 1)))))))) else (.inr v1_0))
def XP (a0 : List Z0) (a1 : Int) : Int := (match xS a0 (a0.length + 1) a1 0 with | .inl r1 => r1 | .inr z1_0 => z1_0)
def qN (a0 : List Int) : Nat → Int → Nat → Sum Int Int
  | 0, _, _ => .inr default
  | n1 + 1, v1_0, v1_1 => (bif (decide ((↑v1_1 : Int) < (↑a0.length : Int))) then (bif ((nth a0 v1_1) != v1_0) then (.inl (-1)) else qN a0 n1 (W (v1_0 + 1)) (v1_1 + 1)) else (.inr v1_0))
def Zb (a0 : List Int) (a1 : Int) : Int := (match qN a0 (a0.length + 1) a1 0 with | .inl r1 => r1 | .inr z1_0 => z1_0)
def zV (a0 : List ByteArray) : Nat → Int → Nat → Sum Int Int
  | 0, _, _ => .inr default
  | n1 + 1, v1_0, v1_1 => (bif (decide ((↑v1_1 : Int) < (↑a0.length : Int))) then (bif (!decide ((nth a0 v1_1) = (Xe v1_0))) then (.inl (-1)) else zV a0 n1 (W (v1_0 + 1)) (v1_1 + 1)) else (.inr v1_0))
def Zf (a0 : List ByteArray) (a1 : Int) : Int := (match zV a0 (a0.length + 1) a1 0 with | .inl r1 => r1 | .inr z1_0 => z1_0)
def yG (a0 : List ZN) : Nat → Int → Nat → Sum Int Int
  | 0, _, _ => .inr default
  | n1 + 1, v1_0, v1_1 => (bif (decide ((↑v1_1 : Int) < (↑a0.length : Int))) then (bif ((nth a0 v1_1).Key != v1_0) then (.inl (-1)) else (bif (decide ((Zb (nth a0 v1_1).Y7 (W (v1_0 + 1))) < 0)) then (.inl (-1)) else (bif ((nth a0 v1_1).Mark != (Zb (nth a0 v1_1).Y7 (W (v1_0 + 1)))) then (.inl (-1)) else yG a0 n1 (W ((Zb (nth a0 v1_1).Y7 (W (v1_0 + 1))) + 1)) (v1_1 + 1)))) else (.inr v1_0))
def XQ (a0 : List ZN) (a1 : Int) : Int := (match yG a0 (a0.length + 1) a1 0 with | .inl r1 => r1 | .inr z1_0 => z1_0)
def xX (a0 : List Zk) : Nat → Int → Nat → Sum Int Int
  | 0, _, _ => .inr default
  | n1 + 1, v1_0, v1_1 => (bif (decide ((↑v1_1 : Int) < (↑a0.length : Int))) then (bif ((nth a0 v1_1).Yz != v1_0) then (.inl (-1)) else (bif (!((nth a0 v1_1).Left == ((Int.tmod (W (v1_0 + 1)) 3) == 0))) then (.inl (-1)) else xX a0 n1 (W ((W (v1_0 + 1)) + 1)) (v1_1 + 1))) else (.inr v1_0))
def Xh (a0 : List Zk) (a1 : Int) : Int := (match xX a0 (a0.length + 1) a1 0 with | .inl r1 => r1 | .inr z1_0 => z1_0)
def yY (a0 : List ZQ) : Nat → Int → Nat → Sum Int Int
  | 0, _, _ => .inr default
  | n1 + 1, v1_0, v1_1 => (bif (decide ((↑v1_1 : Int) < (↑a0.length : Int))) then (bif ((nth a0 v1_1).Authority != v1_0) then (.inl (-1)) else (bif ((nth a0 v1_1).Seq != (W (v1_0 + 1))) then (.inl (-1)) else (bif ((nth a0 v1_1).Time != (W ((W (v1_0 + 1)) + 1))) then (.inl (-1)) else (bif ((nth a0 v1_1).Yz != (W ((W ((W (v1_0 + 1)) + 1)) + 1))) then (.inl (-1)) else (bif ((nth a0 v1_1).Mark != (W ((W ((W ((W (v1_0 + 1)) + 1)) + 1)) + 1))) then (.inl (-1)) else yY a0 n1 (W ((W ((W ((W ((W (v1_0 + 1)) + 1)) + 1)) + 1)) + 1)) (v1_1 + 1)))))) else (.inr v1_0))
def QK (a0 : List ZQ) (a1 : Int) : Int := (match yY a0 (a0.length + 1) a1 0 with | .inl r1 => r1 | .inr z1_0 => z1_0)
def Ks (a0 : List ZG) : Nat → Int → Nat → Sum Int Int
  | 0, _, _ => .inr default
  | n1 + 1, v1_0, v1_1 => (bif (decide ((↑v1_1 : Int) < (↑a0.length : Int))) then (bif ((nth a0 v1_1).Count != v1_0) then (.inl (-1)) else (bif ((nth a0 v1_1).Method != (W (v1_0 + 1))) then (.inl (-1)) else (bif ((nth a0 v1_1).TA != (W ((W (v1_0 + 1)) + 1))) then (.inl (-1)) else (bif (decide ((Xh (nth a0 v1_1).Path (W ((W ((W (v1_0 + 1)) + 1)) + 1))) < 0)) then (.inl (-1)) else (bif (decide ((QK (nth a0 v1_1).Zx (Xh (nth a0 v1_1).Path (W ((W ((W (v1_0 + 1)) + 1)) + 1)))) < 0)) then (.inl (-1)) else Ks a0 n1 (QK (nth a0 v1_1).Zx (Xh (nth a0 v1_1).Path (W ((W ((W (v1_0 + 1)) + 1)) + 1)))) (v1_1 + 1)))))) else (.inr v1_0))
def Xl (a0 : List ZG) (a1 : Int) : Int := (match Ks a0 (a0.length + 1) a1 0 with | .inl r1 => r1 | .inr z1_0 => z1_0)
def xL (a0 : List ZY) : Nat → Int → Nat → Sum Int Int
  | 0, _, _ => .inr default
  | n1 + 1, v1_0, v1_1 => (bif (decide ((↑v1_1 : Int) < (↑a0.length : Int))) then (bif ((nth a0 v1_1).Id != v1_0) then (.inl (-1)) else (bif ((nth a0 v1_1).Y8 != (W (v1_0 + 1))) then (.inl (-1)) else (bif ((nth a0 v1_1).Doc.K9 != (W ((W (v1_0 + 1)) + 1))) then (.inl (-1)) else (bif (decide ((Zf (nth a0 v1_1).Doc.ZE (W ((W ((W (v1_0 + 1)) + 1)) + 1))) < 0)) then (.inl (-1)) else (bif (decide ((Zb (nth a0 v1_1).Doc.ZH (Zf (nth a0 v1_1).Doc.ZE (W ((W ((W (v1_0 + 1)) + 1)) + 1)))) < 0)) then (.inl (-1)) else (bif ((nth a0 v1_1).Sig.Key != (Zb (nth a0 v1_1).Doc.ZH (Zf (nth a0 v1_1).Doc.ZE (W ((W ((W (v1_0 + 1)) + 1)) + 1))))) then (.inl (-1)) else (bif ((nth a0 v1_1).Sig.QY != (W ((Zb (nth a0 v1_1).Doc.ZH (Zf (nth a0 v1_1).Doc.ZE (W ((W ((W (v1_0 + 1)) + 1)) + 1)))) + 1))) then (.inl (-1)) else (bif ((nth a0 v1_1).Sig.Method != (W ((W ((Zb (nth a0 v1_1).Doc.ZH (Zf (nth a0 v1_1).Doc.ZE (W ((W ((W (v1_0 + 1)) + 1)) + 1)))) + 1)) + 1))) then (.inl (-1)) else (bif ((nth a0 v1_1).Sig.Yz != (W ((W ((W ((Zb (nth a0 v1_1).Doc.ZH (Zf (nth a0 v1_1).Doc.ZE (W ((W ((W (v1_0 + 1)) + 1)) + 1)))) + 1)) + 1)) + 1))) then (.inl (-1)) else (bif ((nth a0 v1_1).Sig.zj != (W ((W ((W ((W ((Zb (nth a0 v1_1).Doc.ZH (Zf (nth a0 v1_1).Doc.ZE (W ((W ((W (v1_0 + 1)) + 1)) + 1)))) + 1)) + 1)) + 1)) + 1))) then (.inl (-1)) else (bif ((nth a0 v1_1).Sig.Org != (W ((W ((W ((W ((W ((Zb (nth a0 v1_1).Doc.ZH (Zf (nth a0 v1_1).Doc.ZE (W ((W ((W (v1_0 + 1)) + 1)) + 1)))) + 1)) + 1)) + 1)) + 1)) + 1))) then (.inl (-1)) else (bif ((nth a0 v1_1).Sig.KU != (W ((W ((W ((W ((W ((W ((Zb (nth a0 v1_1).Doc.ZH (Zf (nth a0 v1_1).Doc.ZE (W ((W ((W (v1_0 + 1)) + 1)) + 1)))) + 1)) + 1)) + 1)) + 1)) + 1)) + 1))) then (.inl (-1)) else (bif ((nth a0 v1_1).Sig.yw != (W ((W ((W ((W ((W ((W ((W ((Zb (nth a0 v1_1).Doc.ZH (Zf (nth a0 v1_1).Doc.ZE (W ((W ((W (v1_0 + 1)) + 1)) + 1)))) + 1)) + 1)) + 1)) + 1)) + 1)) + 1)) + 1))) then (.inl (-1)) else (bif ((nth a0 v1_1).Sig.Mark != (W ((W ((W ((W ((W ((W ((W ((W ((Zb (nth a0 v1_1).Doc.ZH (Zf (nth a0 v1_1).Doc.ZE (W ((W ((W (v1_0 + 1)) + 1)) + 1)))) + 1)) + 1)) + 1)) + 1)) + 1)) + 1)) + 1)) + 1))) then (.inl (-1)) else (bif (decide ((XQ (nth a0 v1_1).ZL.ZO (W ((W ((W ((W ((W ((W ((W ((W ((W ((Zb (nth a0 v1_1).Doc.ZH (Zf (nth a0 v1_1).Doc.ZE (W ((W ((W (v1_0 + 1)) + 1)) + 1)))) + 1)) + 1)) + 1)) + 1)) + 1)) + 1)) + 1)) + 1)) + 1))) < 0)) then (.inl (-1)) else (bif (decide ((Xl (nth a0 v1_1).ZL.ZX (XQ (nth a0 v1_1).ZL.ZO (W ((W ((W ((W ((W ((W ((W ((W ((W ((Zb (nth a0 v1_1).Doc.ZH (Zf (nth a0 v1_1).Doc.ZE (W ((W ((W (v1_0 + 1)) + 1)) + 1)))) + 1)) + 1)) + 1)) + 1)) + 1)) + 1)) + 1)) + 1)) + 1)))) < 0)) then (.inl (-1)) else xL a0 n1 (Xl (nth a0 v1_1).ZL.ZX (XQ (nth a0 v1_1).ZL.ZO (W ((W ((W ((W ((W ((W ((W ((W ((W ((Zb (nth a0 v1_1).Doc.ZH (Zf (nth a0 v1_1).Doc.ZE (W ((W ((W (v1_0 + 1)) + 1)) + 1)))) + 1)) + 1)) + 1)) + 1)) + 1)) + 1)) + 1)) + 1)) + 1)))) (v1_1 + 1))))))))))))))))) else (.inr v1_0))
def Qp (a0 : List ZY) (a1 : Int) : Int := (match xL a0 (a0.length + 1) a1 0 with | .inl r1 => r1 | .inr z1_0 => z1_0)
def K0 (a0 : List ZF) : Nat → Int → Nat → Sum Int Int
  | 0, _, _ => .inr default
  | n1 + 1, v1_0, v1_1 => (bif (decide ((↑v1_1 : Int) < (↑a0.length : Int))) then (bif ((nth a0 v1_1).Id != v1_0) then (.inl (-1)) else (bif (decide ((Qp (nth a0 v1_1).ZM (W (v1_0 + 1))) < 0)) then (.inl (-1)) else K0 a0 n1 (Qp (nth a0 v1_1).ZM (W (v1_0 + 1))) (v1_1 + 1))) else (.inr v1_0))
def XN (a0 : List ZF) (a1 : Int) : Int := (match K0 a0 (a0.length + 1) a1 0 with | .inl r1 => r1 | .inr z1_0 => z1_0)
def QE (a0 : ZZ) (a1 : Int) : Int := (bif (decide ((XE a0.Frame a1) < 0)) then (-1) else (bif (decide ((XP a0.Zy (XE a0.Frame a1)) < 0)) then (-1) else (bif (decide ((Zb a0.Z3 (XP a0.Zy (XE a0.Frame a1))) < 0)) then (-1) else (bif (decide ((XN a0.ZI (Zb a0.Z3 (XP a0.Zy (XE a0.Frame a1)))) < 0)) then (-1) else (bif (decide ((Zb a0.YZ (XN a0.ZI (Zb a0.Z3 (XP a0.Zy (XE a0.Frame a1))))) < 0)) then (-1) else (bif (decide ((Zb a0.Yl (Zb a0.YZ (XN a0.ZI (Zb a0.Z3 (XP a0.Zy (XE a0.Frame a1)))))) < 0)) then (-1) else (bif (decide ((Zb a0.Ym (Zb a0.Yl (Zb a0.YZ (XN a0.ZI (Zb a0.Z3 (XP a0.Zy (XE a0.Frame a1))))))) < 0)) then (-1) else (Zb a0.Ym (Zb a0.Yl (Zb a0.YZ (XN a0.ZI (Zb a0.Z3 (XP a0.Zy (XE a0.Frame a1))))))))))))))
def Ji (a0 : ZZ) (a1 : Int) : Bool := (bif (decide ((KM a0 1048576) < 0)) then true else (bif ((!(JD (Zo a0 a1).1 (XR a0 a1).1)) || (!((Zo a0 a1).2 == (XR a0 a1).2))) then false else (bif (!(JD a0 a0)) then false else (bif (((decide ((Ze a0 1).2 < 0)) || (!(JD (Zo a0 a1).1 (XR a0 a1).1))) || (!((Zo a0 a1).2 == (XR a0 a1).2))) then false else (bif (decide ((QE (Ze (Zo a0 a1).1 1).1 1) < 0)) then false else (bif ((QE (Ze (Zo a0 a1).1 1).1 1) != (Ze (Zo a0 a1).1 1).2) then false else (bif ((!(JD (Zo a0 a1).1 (XR a0 a1).1)) || (!((Zo a0 a1).2 == (XR a0 a1).2))) then false else (bif (decide ((QE (Ze (Zo a0 a1).1 1).1 1) < 0)) then false else (bif ((QE (Ze (Zo a0 a1).1 1).1 1) != (Ze (Zo a0 a1).1 1).2) then false else true)))))))))
def Jp (a0 : List Zc) (a1 : Int) : Nat → Int → Nat → Int
  | 0, _, _ => default
  | n1 + 1, v1_0, v1_1 => (bif (decide ((↑v1_1 : Int) < (↑a0.length : Int))) then (bif (((decide (a1 ≥ (nth a0 v1_1).Vp)) && (decide (a1 < (nth a0 v1_1).Ends))) && ((decide (v1_0 < 0)) || (decide ((nth a0 v1_1).Ends > (nth a0 v1_0.toNat).Ends)))) then Jp a0 a1 n1 (↑v1_1 : Int) (v1_1 + 1) else Jp a0 a1 n1 v1_0 (v1_1 + 1)) else (v1_0))
def Yw (a0 : List Zc) (a1 : Int) : Int := (match Jp a0 a1 (a0.length + 1) (-1) 0 with | z1_0 => (bif (decide (z1_0 < 0)) then (-1) else (nth a0 z1_0.toNat).Id))
def QU (a0 : List ZJ) (a1 : Int) : Nat → Nat → Sum Int Unit
  | 0, _ => .inr ()
  | n1 + 1, v1_0 => (bif (decide ((↑v1_0 : Int) < (↑a0.length : Int))) then (bif ((nth a0 v1_0).Id == a1) then (.inl (↑v1_0 : Int)) else QU a0 a1 n1 (v1_0 + 1)) else (.inr ()))
def ZU (a0 : List ZJ) (a1 : Int) : Int := (match QU a0 a1 (a0.length + 1) 0 with | .inl r1 => r1 | .inr _ => (-1))
def yB (a0 : List YG) (a1 : Int) : Nat → Nat → Sum Int Unit
  | 0, _ => .inr ()
  | n1 + 1, v1_0 => (bif (decide ((↑v1_0 : Int) < (↑a0.length : Int))) then (bif ((nth a0 v1_0).Number == a1) then (.inl (↑v1_0 : Int)) else yB a0 a1 n1 (v1_0 + 1)) else (.inr ()))
def Xb (a0 : List YG) (a1 : Int) : Int := (match yB a0 a1 (a0.length + 1) 0 with | .inl r1 => r1 | .inr _ => (-1))
def Ko (a0 : ZZ) (a1 : List Int) : Nat → Nat → Sum Bool Unit
  | 0, _ => .inr ()
  | n1 + 1, v1_0 => (bif (decide ((↑v1_0 : Int) < (↑a1.length : Int))) then (bif (((decide ((ZU a0.Frame.ZC (nth a1 v1_0)) < 0)) || (decide ((ZU a0.Frame.ZC (nth a1 v1_0)) ≥ (↑a0.YZ.length : Int)))) || ((decide ((↑v1_0 : Int) > 0)) && (decide ((nth a1 (v1_0 - 1)) ≥ (nth a1 v1_0))))) then (.inl false) else (bif ((decide ((Xb a0.Frame.YV (nth a0.Frame.ZC (ZU a0.Frame.ZC (nth a1 v1_0)).toNat).Key) < 0)) || (decide ((nth a0.Frame.YV (Xb a0.Frame.YV (nth a0.Frame.ZC (ZU a0.Frame.ZC (nth a1 v1_0)).toNat).Key).toNat).VF > a0.Frame.Now))) then (.inl false) else Ko a0 a1 n1 (v1_0 + 1))) else (.inr ()))
def JL (a0 : ZZ) (a1 : List Int) : Bool := (match Ko a0 a1 (a1.length + 1) 0 with | .inl r1 => r1 | .inr _ => (decide ((↑a1.length : Int) > 0)))
def Jt (a0 : ZV) : Nat → Nat → Sum Bool Unit
  | 0, _ => .inr ()
  | n2 + 1, v2_0 => (bif (decide ((↑v2_0 : Int) < (↑a0.ZH.length : Int))) then (bif (!(Y3 (nth a0.ZH v2_0) 1 1000000000000)) then (.inl false) else Jt a0 n2 (v2_0 + 1)) else (.inr ()))
def Jm (a0 : ZV) : Nat → Nat → Sum Bool Unit
  | 0, _ => .inr ()
  | n1 + 1, v1_0 => (bif (decide ((↑v1_0 : Int) < (↑a0.ZE.length : Int))) then (bif (decide ((↑(nth a0.ZE v1_0).size : Int) > 40)) then (.inl false) else Jm a0 n1 (v1_0 + 1)) else (.inr ()))
def JJ (a0 : ZV) : Bool := (match Jm a0 (a0.ZE.length + 1) 0 with | .inl r1 => r1 | .inr _ => (match Jt a0 (a0.ZH.length + 1) 0 with | .inl r2 => r2 | .inr _ => (((Y3 a0.K9 0 999) && (Y3 (↑a0.ZE.length : Int) 1 6)) && ((↑a0.ZH.length : Int) == (↑a0.ZE.length : Int)))))
def Hx (a0 : Int) (a1 : Int) : Int := (bif (!(Y3 a1 1 1000000000000)) then 0 else (Int.tmod (W ((Int.tmod a0 a1) + a1)) a1))
def Vo (a0 : List Int) : Nat → Int → Nat → Int
  | 0, _, _ => default
  | n1 + 1, v1_0, v1_1 => (bif (decide ((↑v1_1 : Int) < (↑a0.length : Int))) then Vo a0 n1 (Int.tmod (W ((W ((W (v1_0 * 1000003)) + (Hx (nth a0 v1_1) 2147483647))) + 13)) 2147483647) (v1_1 + 1) else (v1_0))
def Sc (a0 : List Int) : Int := (match Vo a0 (a0.length + 1) 11 0 with | z1_0 => z1_0)
def Qy (a0 : Int) (a1 : List Int) : Int := (Sc (([7, a0] : List Int) ++ a1))
def KW (a1 : ByteArray) : Nat → List Int → Nat → (List Int)
  | 0, _, _ => default
  | n1 + 1, v1_0, v1_1 => (bif (decide ((↑v1_1 : Int) < (↑a1.size : Int))) then KW a1 n1 (v1_0 ++ ([(W (↑(bAt a1 v1_1) : Int))] : List Int)) (v1_1 + 1) else (v1_0))
def yC (a0 : Int) (a1 : ByteArray) (a2 : Int) : Int := (match KW a1 (a1.size + 1) ([a2] : List Int) 0 with | z1_0 => (Qy a0 z1_0))
def zL (a0 : Int) (a1 : ZV) : Nat → List Int → Nat → (List Int)
  | 0, _, _ => default
  | n1 + 1, v1_0, v1_1 => (bif (decide ((↑v1_1 : Int) < (↑a1.ZE.length : Int))) then zL a0 a1 n1 (v1_0 ++ ([(yC a0 (nth a1.ZE v1_1) (nth a1.ZH v1_1))] : List Int)) (v1_1 + 1) else (v1_0))
def Ki (a0 : Int) (a1 : ZV) : Int := (bif (!(JJ a1)) then (-1) else (match zL a0 a1 (a1.ZE.length + 1) ([a1.K9] : List Int) 0 with | z1_0 => (Qy a0 z1_0)))
def Js (a0 : Za) (a1 : ZV) : Nat → List Int → Nat → (List Int)
  | 0, _, _ => default
  | n1 + 1, v1_0, v1_1 => (bif (decide ((↑v1_1 : Int) < (↑a0.ZX.length : Int))) then Js a0 a1 n1 (v1_0 ++ ([(Ki (nth a0.ZX v1_1).Method a1)] : List Int)) (v1_1 + 1) else (v1_0))
def Qg (a0 : Za) (a1 : ZV) : List Int := (match Js a0 a1 (a0.ZX.length + 1) ([] : List Int) 0 with | z1_0 => z1_0)
def Qi (a0 : ZQ) : List Int := ([103, a0.Authority, a0.Seq, a0.Time, a0.Yz] : List Int)
def JR (a1 : ZG) : Nat → List Int → Nat → (List Int)
  | 0, _, _ => default
  | n2 + 1, v2_0, v2_1 => (bif (decide ((↑v2_1 : Int) < (↑a1.Zx.length : Int))) then JR a1 n2 ((v2_0 ++ (Qi (nth a1.Zx v2_1))) ++ ([(nth a1.Zx v2_1).Mark] : List Int)) (v2_1 + 1) else (v2_0))
def QV (a1 : ZG) : Nat → List Int → Nat → (List Int)
  | 0, _, _ => default
  | n1 + 1, v1_0, v1_1 => (bif (decide ((↑v1_1 : Int) < (↑a1.Path.length : Int))) then (bif (nth a1.Path v1_1).Left then QV a1 n1 ((v1_0 ++ ([(nth a1.Path v1_1).Yz] : List Int)) ++ ([1] : List Int)) (v1_1 + 1) else QV a1 n1 ((v1_0 ++ ([(nth a1.Path v1_1).Yz] : List Int)) ++ ([0] : List Int)) (v1_1 + 1)) else (v1_0))
def QW (a0 : Int) (a1 : ZG) : Int := (match QV a1 (a1.Path.length + 1) ([4, a1.Count, a1.Method, a1.TA] : List Int) 0 with | z1_0 => (match JR a1 (a1.Zx.length + 1) (z1_0 ++ ([(↑a1.Zx.length : Int)] : List Int)) 0 with | z2_0 => (Qy a0 z2_0)))
def Jn (a0 : Int) (a1 : List ZN) : Nat → List Int → Nat → (List Int)
  | 0, _, _ => default
  | n1 + 1, v1_0, v1_1 => (bif (decide ((↑v1_1 : Int) < (↑a1.length : Int))) then Jn a0 a1 n1 (v1_0 ++ ([(Qy a0 (([(nth a1 v1_1).Key, (nth a1 v1_1).Mark] : List Int) ++ (nth a1 v1_1).Y7))] : List Int)) (v1_1 + 1) else (v1_0))
def Jw (a0 : Int) (a1 : List ZN) : Int := (match Jn a0 a1 (a1.length + 1) ([2] : List Int) 0 with | z1_0 => (Qy a0 z1_0))
def kL (a0 : Int) (a1 : Int) (a2 : List ZN) (a3 : Int) : Int := (Qy a0 ([3, a1, (Jw a0 a2), a3] : List Int))
def Vk (a0 : Za) (a1 : List Int) (a2 : Int) : Int := (bif (((!(Y3 a2 0 (W ((↑a0.ZX.length : Int) - 1)))) || ((↑a1.length : Int) != (↑a0.ZX.length : Int))) || (!(Y3 (nth a0.ZX a2.toNat).Count 0 (↑a0.ZO.length : Int)))) then (-1) else (bif (decide (a2 > 0)) then (kL (nth a0.ZX a2.toNat).Method (nth a1 a2.toNat) (a0.ZO.take (nth a0.ZX a2.toNat).Count.toNat) (QW (nth a0.ZX a2.toNat).Method (nth a0.ZX (W (a2 - 1)).toNat))) else (kL (nth a0.ZX a2.toNat).Method (nth a1 a2.toNat) (a0.ZO.take (nth a0.ZX a2.toNat).Count.toNat) 0)))
def KI (a0 : ZF) (a1 : Int) : Nat → List Int → Nat → (List Int)
  | 0, _, _ => default
  | n1 + 1, v1_0, v1_1 => (bif (decide ((↑v1_1 : Int) < (↑a0.ZM.length : Int))) then KI a0 a1 n1 (v1_0 ++ ([(Vk (Za.mk (nth a0.ZM v1_1).ZL.ZO ((nth a0.ZM v1_1).ZL.ZX ++ ([(ZG.mk (↑(nth a0.ZM v1_1).ZL.ZO.length : Int) a1 0 ([] : List Zk) ([] : List ZQ))] : List ZG))) (Qg (Za.mk (nth a0.ZM v1_1).ZL.ZO ((nth a0.ZM v1_1).ZL.ZX ++ ([(ZG.mk (↑(nth a0.ZM v1_1).ZL.ZO.length : Int) a1 0 ([] : List Zk) ([] : List ZQ))] : List ZG))) (nth a0.ZM v1_1).Doc) (W ((↑((nth a0.ZM v1_1).ZL.ZX ++ ([(ZG.mk (↑(nth a0.ZM v1_1).ZL.ZO.length : Int) a1 0 ([] : List Zk) ([] : List ZQ))] : List ZG)).length : Int) - 1)))] : List Int)) (v1_1 + 1) else (v1_0))
def Y2 (a0 : ZF) (a1 : Int) : List Int := (match KI a0 a1 (a0.ZM.length + 1) ([] : List Int) 0 with | z1_0 => z1_0)
def yn (a0 : Int) (a1 : Int) (a2 : Int) : Int := (Qy a0 ([1, a1, a2] : List Int))
def K1 (a0 : Int) (a1 : List Int) : Nat → List Int → Nat → (List Int)
  | 0, _, _ => default
  | n1 + 1, v1_0, v1_1 => (bif (decide ((↑v1_1 : Int) < (↑a1.length : Int))) then (bif (decide ((W ((↑v1_1 : Int) + 1)) < (↑a1.length : Int))) then K1 a0 a1 n1 (v1_0 ++ ([(yn a0 (nth a1 v1_1) (nth a1 (W ((↑v1_1 : Int) + 1)).toNat))] : List Int)) (v1_1 + 2) else K1 a0 a1 n1 (v1_0 ++ ([(nth a1 v1_1)] : List Int)) (v1_1 + 2)) else (v1_0))
def xQ (a0 : Int) (a1 : List Int) : List Int := (match K1 a0 a1 (a1.length + 1) ([] : List Int) 0 with | z1_0 => z1_0)
def yM (a0 : Int) : Nat → List Int → (List Int)
  | 0, _ => default
  | n1 + 1, v1_0 => (bif (decide ((↑v1_0.length : Int) > 1)) then yM a0 n1 (xQ a0 v1_0) else (v1_0))
def JZ (a0 : Int) (a1 : List Int) : Int := (bif (!(Y3 (↑a1.length : Int) 1 16)) then (-1) else (match yM a0 (a1.length + 1) a1 with | z1_0 => (nth z1_0 0)))
def Jv (a0 : ZF) (a1 : Int) : Int := (JZ a1 (Y2 a0 a1))
def Vx (a0 : List Int) (a1 : Int) : Nat → Nat → Sum Bool Unit
  | 0, _ => .inr ()
  | n1 + 1, v1_0 => (bif (decide ((↑v1_0 : Int) < (↑a0.length : Int))) then (bif ((nth a0 v1_0) == a1) then (.inl true) else Vx a0 a1 n1 (v1_0 + 1)) else (.inr ()))
def Pb (a0 : List Int) (a1 : Int) : Bool := (match Vx a0 a1 (a0.length + 1) 0 with | .inl r1 => r1 | .inr _ => false)
def UF (a0 : Int) (a1 : Int) : Int := (bif (decide (a1 > a0)) then a1 else a0)
def U1 (a0 : Int) (a1 : Int) : Int := (bif (decide (a1 < a0)) then a1 else a0)
def W0 (a0 : Int) : Bool := (Y3 a0 0 10000)
def xn (a0 : Int) (a1 : List Int) : Int := (Sc ((([a0] : List Int) ++ a1) ++ ([a0] : List Int)))
def qm (a0 : YG) (a1 : List Int) : Int := (xn a0.zE (([a0.Method] : List Int) ++ a1))
def JI (a0 : List YG) (a1 : List ZJ) (a2 : ZQ) : ZQ × Bool := (bif (((decide ((ZU a1 a2.Authority) < 0)) || (decide (a2.Seq < 0))) || (!(W0 a2.Time))) then ((ZQ.mk 0 0 0 0 0), false) else (bif (decide ((Xb a0 (nth a1 (ZU a1 a2.Authority).toNat).Key) < 0)) then ((ZQ.mk 0 0 0 0 0), false) else ((ZQ.mk a2.Authority a2.Seq a2.Time a2.Yz (qm (nth a0 (Xb a0 (nth a1 (ZU a1 a2.Authority).toNat).Key).toNat) (Qi a2))), true)))
def xW (a0 : List Int) (a1 : List Int) : Nat → Nat → Sum Bool Unit
  | 0, _ => .inr ()
  | n1 + 1, v1_0 => (bif (decide ((↑v1_0 : Int) < (↑a0.length : Int))) then (bif ((nth a0 v1_0) != (nth a1 v1_0)) then (.inl false) else xW a0 a1 n1 (v1_0 + 1)) else (.inr ()))
def jU (a0 : List Int) (a1 : List Int) : Bool := (bif ((↑a0.length : Int) != (↑a1.length : Int)) then false else (match xW a0 a1 (a0.length + 1) 0 with | .inl r1 => r1 | .inr _ => true))
def KL (a0 : ZN) (a1 : ZN) : Bool := (((a0.Key == a1.Key) && (a0.Mark == a1.Mark)) && (jU a0.Y7 a1.Y7))
def xR (a0 : Za) (a1 : ZN) : Nat → Nat → Sum Int Unit
  | 0, _ => .inr ()
  | n1 + 1, v1_0 => (bif (decide ((↑v1_0 : Int) < (↑a0.ZO.length : Int))) then (bif (KL (nth a0.ZO v1_0) a1) then (.inl (↑v1_0 : Int)) else xR a0 a1 n1 (v1_0 + 1)) else (.inr ()))
def zs (a0 : Za) (a1 : ZN) : Int := (match xR a0 a1 (a0.ZO.length + 1) 0 with | .inl r1 => r1 | .inr _ => (-1))
def Ky (a0 : Za) : Nat → Nat → Sum Bool Unit
  | 0, _ => .inr ()
  | n2 + 1, v2_0 => (bif (decide ((↑v2_0 : Int) < (↑a0.ZX.length : Int))) then (bif ((!(Y3 (nth a0.ZX v2_0).Count 1 (↑a0.ZO.length : Int))) || ((decide ((↑v2_0 : Int) > 0)) && (decide ((nth a0.ZX (v2_0 - 1)).Count > (nth a0.ZX v2_0).Count)))) then (.inl false) else Ky a0 n2 (v2_0 + 1)) else (.inr ()))
def Ku (a0 : Za) : Nat → Nat → Sum Bool Unit
  | 0, _ => .inr ()
  | n1 + 1, v1_0 => (bif (decide ((↑v1_0 : Int) < (↑a0.ZO.length : Int))) then (bif (decide ((zs a0 (nth a0.ZO v1_0)) < (↑v1_0 : Int))) then (.inl false) else Ku a0 n1 (v1_0 + 1)) else (.inr ()))
def Kp (a0 : Za) : Bool := (match Ku a0 (a0.ZO.length + 1) 0 with | .inl r1 => r1 | .inr _ => (match Ky a0 (a0.ZX.length + 1) 0 with | .inl r2 => r2 | .inr _ => ((Y3 (↑a0.ZO.length : Int) 1 12) && (decide ((↑a0.ZX.length : Int) ≤ 8)))))
def JA (a0 : Zh) : List Int := ([104, a0.Key, a0.QY, a0.Method, a0.Yz, a0.zj, a0.Org, a0.KU, a0.yw] : List Int)
def zy (a0 : Zh) : ZN := (ZN.mk a0.Key (JA a0) a0.Mark)
def Ww (a0 : ZY) : Bool := (((((Y3 a0.Id 1 999) && (W0 a0.Y8)) && (JJ a0.Doc)) && (Kp a0.ZL)) && (KL (nth a0.ZL.ZO 0) (zy a0.Sig)))
def zO (a0 : ZF) : Nat → Nat → Sum Bool Unit
  | 0, _ => .inr ()
  | n1 + 1, v1_0 => (bif (decide ((↑v1_0 : Int) < (↑a0.ZM.length : Int))) then (bif ((!(Ww (nth a0.ZM v1_0))) || ((decide ((↑v1_0 : Int) > 0)) && (decide ((nth a0.ZM (v1_0 - 1)).Id ≥ (nth a0.ZM v1_0).Id)))) then (.inl false) else zO a0 n1 (v1_0 + 1)) else (.inr ()))
def Km (a0 : ZF) : Bool := (match zO a0 (a0.ZM.length + 1) 0 with | .inl r1 => r1 | .inr _ => ((Y3 a0.Id 0 99) && (decide ((↑a0.ZM.length : Int) ≤ 8))))
def Qd (a0 : Int) : Nat → Int → List Zk → List Int → (List Zk)
  | 0, _, _, _ => default
  | n1 + 1, v1_0, v1_1, v1_2 => (bif (decide ((↑v1_2.length : Int) > 1)) then (bif ((Int.tmod v1_0 2) == 1) then Qd a0 n1 (W (Int.tdiv v1_0 2)) (v1_1 ++ ([(Zk.mk (nth v1_2 (W (v1_0 - 1)).toNat) true)] : List Zk)) (xQ a0 v1_2) else (bif (decide ((W (v1_0 + 1)) < (↑v1_2.length : Int))) then Qd a0 n1 (W (Int.tdiv v1_0 2)) (v1_1 ++ ([(Zk.mk (nth v1_2 (W (v1_0 + 1)).toNat) false)] : List Zk)) (xQ a0 v1_2) else Qd a0 n1 (W (Int.tdiv v1_0 2)) v1_1 (xQ a0 v1_2))) else (v1_1))
def JU (a0 : Int) (a1 : List Int) (a2 : Int) : List Zk := (bif ((decide ((↑a1.length : Int) > 16)) || (!(Y3 a2 0 (W ((↑a1.length : Int) - 1))))) then ([] : List Zk) else (match Qd a0 (a1.length + 1) a2 ([] : List Zk) a1 with | z1_0 => z1_0))
def JM (a0 : Za) (a1 : ZG) : Za × Bool := (bif (!(Kp (Za.mk a0.ZO (a0.ZX ++ ([a1] : List ZG))))) then (a0, false) else ((Za.mk a0.ZO (a0.ZX ++ ([a1] : List ZG))), true))
def Xp (a0 : ZF) (a1 : Int) (a2 : List ZQ) : Nat → Bool → Nat → List ZY → Bool × (List ZY)
  | 0, _, _, _ => (default, default)
  | n1 + 1, v1_0, v1_1, v1_2 => (bif ((decide ((↑v1_1 : Int) < (↑a0.ZM.length : Int))) && v1_0) then Xp a0 a1 a2 n1 (JM (nth a0.ZM v1_1).ZL (ZG.mk (↑(nth a0.ZM v1_1).ZL.ZO.length : Int) a1 (JZ a1 (Y2 a0 a1)) (JU a1 (Y2 a0 a1) (↑v1_1 : Int)) a2)).2 (v1_1 + 1) (v1_2.set v1_1 (ZY.mk (nth v1_2 v1_1).Id (nth v1_2 v1_1).Y8 (nth v1_2 v1_1).Doc (nth v1_2 v1_1).Sig (JM (nth a0.ZM v1_1).ZL (ZG.mk (↑(nth a0.ZM v1_1).ZL.ZO.length : Int) a1 (JZ a1 (Y2 a0 a1)) (JU a1 (Y2 a0 a1) (↑v1_1 : Int)) a2)).1)) else ((v1_0, v1_2)))
def QM (a0 : ZF) (a1 : Int) (a2 : List ZQ) : ZF × Bool := (match Xp a0 a1 a2 (a0.ZM.length + 1) ((Km a0) && (decide ((↑a0.ZM.length : Int) > 0))) 0 a0.ZM with | (z1_0, z1_1) => (bif ((!z1_0) || (!(Km (ZF.mk a0.Id z1_1)))) then (a0, false) else ((ZF.mk a0.Id z1_1), true)))
def zM (a0 : ZZ) (a2 : List Int) : Nat → Nat → List Int → (List Int)
  | 0, _, _ => default
  | n2 + 1, v2_0, v2_1 => (bif (decide ((↑v2_0 : Int) < (↑a2.length : Int))) then zM a0 a2 n2 (v2_0 + 1) (v2_1.set (ZU a0.Frame.ZC (nth a2 v2_0)).toNat (W ((nth a0.YZ (ZU a0.Frame.ZC (nth a2 v2_0)).toNat) + 1))) else (v2_1))
def Ja (a0 : ZZ) (a1 : Int) (a2 : List Int) (a3 : Int) : Nat → List ZQ → Nat → Sum (ZZ × Bool) (List ZQ)
  | 0, _, _ => .inr default
  | n1 + 1, v1_0, v1_1 => (bif (decide ((↑v1_1 : Int) < (↑a2.length : Int))) then (bif (Pb a0.Yl (nth a2 v1_1)) then (bif (!(JI a0.Frame.YV a0.Frame.ZC (ZQ.mk (nth a2 v1_1) (nth a0.YZ (ZU a0.Frame.ZC (nth a2 v1_1)).toNat) (U1 10000 (UF 0 (W (a0.Frame.Now + a3)))) (Jv (nth a0.ZI a1.toNat) (Yw a0.Frame.Methods a0.Frame.Now)) 0)).2) then (.inl (a0, false)) else Ja a0 a1 a2 a3 n1 (v1_0 ++ ([(JI a0.Frame.YV a0.Frame.ZC (ZQ.mk (nth a2 v1_1) (nth a0.YZ (ZU a0.Frame.ZC (nth a2 v1_1)).toNat) (U1 10000 (UF 0 (W (a0.Frame.Now + a3)))) (Jv (nth a0.ZI a1.toNat) (Yw a0.Frame.Methods a0.Frame.Now)) 0)).1] : List ZQ)) (v1_1 + 1)) else (bif (!(JI a0.Frame.YV a0.Frame.ZC (ZQ.mk (nth a2 v1_1) (nth a0.YZ (ZU a0.Frame.ZC (nth a2 v1_1)).toNat) a0.Frame.Now (Jv (nth a0.ZI a1.toNat) (Yw a0.Frame.Methods a0.Frame.Now)) 0)).2) then (.inl (a0, false)) else Ja a0 a1 a2 a3 n1 (v1_0 ++ ([(JI a0.Frame.YV a0.Frame.ZC (ZQ.mk (nth a2 v1_1) (nth a0.YZ (ZU a0.Frame.ZC (nth a2 v1_1)).toNat) a0.Frame.Now (Jv (nth a0.ZI a1.toNat) (Yw a0.Frame.Methods a0.Frame.Now)) 0)).1] : List ZQ)) (v1_1 + 1))) else (.inr v1_0))
def Xj (a0 : ZZ) (a1 : Int) (a2 : List Int) (a3 : Int) : ZZ × Bool := (bif ((((!(zR a0 a1)) || (decide ((Yw a0.Frame.Methods a0.Frame.Now) < 0))) || (!(JL a0 a2))) || (!(Y3 a3 (-10000) 10000))) then (a0, false) else (match Ja a0 a1 a2 a3 (a2.length + 1) ([] : List ZQ) 0 with | .inl r1 => r1 | .inr z1_0 => (bif (!(QM (nth a0.ZI a1.toNat) (Yw a0.Frame.Methods a0.Frame.Now) z1_0).2) then (a0, false) else (match zM a0 a2 (a2.length + 1) 0 a0.YZ with | z2_0 => ((ZZ.mk a0.Frame a0.Zy a0.Z3 (a0.ZI.set a1.toNat (QM (nth a0.ZI a1.toNat) (Yw a0.Frame.Methods a0.Frame.Now) z1_0).1) z2_0 a0.Yl a0.Next a0.Ym), true)))))
def Jl (a0 : List Zc) (a1 : Int) : Nat → Int → Nat → Int
  | 0, _, _ => default
  | n1 + 1, v1_0, v1_1 => (bif (decide ((↑v1_1 : Int) < (↑a0.length : Int))) then (bif (((decide ((nth a0 v1_1).Vp ≤ a1)) && (decide (a1 < (nth a0 v1_1).Ends))) && ((decide (v1_0 < 0)) || (decide ((nth a0 v1_1).Ends > (nth a0 v1_0.toNat).Ends)))) then Jl a0 a1 n1 (↑v1_1 : Int) (v1_1 + 1) else Jl a0 a1 n1 v1_0 (v1_1 + 1)) else (v1_0))
def YP (a0 : List Zc) (a1 : Int) : Int := (match Jl a0 a1 (a0.length + 1) (-1) 0 with | z1_0 => (bif (decide (z1_0 < 0)) then (-1) else (nth a0 z1_0.toNat).Id))
def xZ (a0 : List Int) : Nat → Nat → Sum Bool Unit
  | 0, _ => .inr ()
  | n1 + 1, v1_0 => (bif (decide ((↑v1_0 : Int) < (↑a0.length : Int))) then (bif (decide ((nth a0 (v1_0 - 1)) ≥ (nth a0 v1_0))) then (.inl false) else xZ a0 n1 (v1_0 + 1)) else (.inr ()))
def zp (a0 : List Int) : Bool := (match xZ a0 (a0.length + 1) 1 with | .inl r1 => r1 | .inr _ => true)
def QP (a0 : ZQ) : List Int := ([103, a0.Authority, a0.Seq, a0.Time, a0.Yz] : List Int)
def GB (a0 : Int) (a1 : Int) : Int := (bif (!(Z7 a1 1 1000000000000)) then 0 else (Int.tmod (W ((Int.tmod a0 a1) + a1)) a1))
def VK (a0 : List Int) : Nat → Int → Nat → Int
  | 0, _, _ => default
  | n1 + 1, v1_0, v1_1 => (bif (decide ((↑v1_1 : Int) < (↑a0.length : Int))) then VK a0 n1 (Int.tmod (W ((W ((W (v1_0 * 1000003)) + (GB (nth a0 v1_1) 2147483647))) + 13)) 2147483647) (v1_1 + 1) else (v1_0))
def SU (a0 : List Int) : Int := (match VK a0 (a0.length + 1) 11 0 with | z1_0 => z1_0)
def Qv (a0 : Int) (a1 : List Int) : Int := (SU (([7, a0] : List Int) ++ a1))
def JP (a1 : ZG) : Nat → List Int → Nat → (List Int)
  | 0, _, _ => default
  | n2 + 1, v2_0, v2_1 => (bif (decide ((↑v2_1 : Int) < (↑a1.Zx.length : Int))) then JP a1 n2 ((v2_0 ++ (QP (nth a1.Zx v2_1))) ++ ([(nth a1.Zx v2_1).Mark] : List Int)) (v2_1 + 1) else (v2_0))
def QT (a1 : ZG) : Nat → List Int → Nat → (List Int)
  | 0, _, _ => default
  | n1 + 1, v1_0, v1_1 => (bif (decide ((↑v1_1 : Int) < (↑a1.Path.length : Int))) then (bif (nth a1.Path v1_1).Left then QT a1 n1 (v1_0 ++ ([(nth a1.Path v1_1).Yz, 1] : List Int)) (v1_1 + 1) else QT a1 n1 (v1_0 ++ ([(nth a1.Path v1_1).Yz, 0] : List Int)) (v1_1 + 1)) else (v1_0))
def Q7 (a0 : Int) (a1 : ZG) : Int := (match QT a1 (a1.Path.length + 1) ([4, a1.Count, a1.Method, a1.TA] : List Int) 0 with | z1_0 => (match JP a1 (a1.Zx.length + 1) (z1_0 ++ ([(↑a1.Zx.length : Int)] : List Int)) 0 with | z2_0 => (Qv a0 z2_0)))
def Ju (a0 : ZV) : Nat → Nat → Sum Bool Unit
  | 0, _ => .inr ()
  | n1 + 1, v1_0 => (bif (decide ((↑v1_0 : Int) < (↑a0.ZE.length : Int))) then (bif ((decide ((↑(nth a0.ZE v1_0).size : Int) > 40)) || (!(Z7 (nth a0.ZH v1_0) 1 1000000000000))) then (.inl false) else Ju a0 n1 (v1_0 + 1)) else (.inr ()))
def JG (a0 : ZV) : Bool := (bif (((!(Z7 a0.K9 0 999)) || (!(Z7 (↑a0.ZE.length : Int) 1 6))) || ((↑a0.ZH.length : Int) != (↑a0.ZE.length : Int))) then false else (match Ju a0 (a0.ZE.length + 1) 0 with | .inl r1 => r1 | .inr _ => true))
def Ka (a0 : List UInt8) : Nat → List Int → Nat → (List Int)
  | 0, _, _ => default
  | n1 + 1, v1_0, v1_1 => (bif (decide ((↑v1_1 : Int) < (↑a0.length : Int))) then Ka a0 n1 (v1_0 ++ ([(W (↑(nth a0 v1_1).toNat : Int))] : List Int)) (v1_1 + 1) else (v1_0))
def y7 (a0 : List UInt8) : List Int := (match Ka a0 (a0.length + 1) ([] : List Int) 0 with | z1_0 => z1_0)
def yE (a0 : Int) (a1 : ByteArray) (a2 : Int) : Int := (Qv a0 (([a2] : List Int) ++ (y7 a1.data.toList)))
def zQ (a0 : Int) (a1 : ZV) : Nat → List Int → Nat → (List Int)
  | 0, _, _ => default
  | n1 + 1, v1_0, v1_1 => (bif (decide ((↑v1_1 : Int) < (↑a1.ZE.length : Int))) then zQ a0 a1 n1 (v1_0 ++ ([(yE a0 (nth a1.ZE v1_1) (nth a1.ZH v1_1))] : List Int)) (v1_1 + 1) else (v1_0))
def X8 (a0 : Int) (a1 : ZV) : Int := (bif (!(JG a1)) then (-1) else (match zQ a0 a1 (a1.ZE.length + 1) ([a1.K9] : List Int) 0 with | z1_0 => (Qv a0 z1_0)))
def Jo (a0 : Int) (a1 : List ZN) : Nat → List Int → Nat → (List Int)
  | 0, _, _ => default
  | n1 + 1, v1_0, v1_1 => (bif (decide ((↑v1_1 : Int) < (↑a1.length : Int))) then Jo a0 a1 n1 (v1_0 ++ ([(Qv a0 (([(nth a1 v1_1).Key, (nth a1 v1_1).Mark] : List Int) ++ (nth a1 v1_1).Y7))] : List Int)) (v1_1 + 1) else (v1_0))
def Jq (a0 : Int) (a1 : List ZN) : Int := (match Jo a0 a1 (a1.length + 1) ([2] : List Int) 0 with | z1_0 => (Qv a0 z1_0))
def kY (a0 : Int) (a1 : Int) (a2 : List ZN) (a3 : Int) : Int := (Qv a0 ([3, a1, (Jq a0 a2), a3] : List Int))
def kT (a0 : ZY) (a1 : Int) : Int := (bif (decide ((↑a0.ZL.ZX.length : Int) > 0)) then (kY a1 (X8 a1 a0.Doc) a0.ZL.ZO (Q7 a1 (nth a0.ZL.ZX (a0.ZL.ZX.length - 1)))) else (kY a1 (X8 a1 a0.Doc) a0.ZL.ZO 0))
def KN (a0 : ZF) (a1 : Int) : Nat → List Int → Nat → (List Int)
  | 0, _, _ => default
  | n1 + 1, v1_0, v1_1 => (bif (decide ((↑v1_1 : Int) < (↑a0.ZM.length : Int))) then KN a0 a1 n1 (v1_0 ++ ([(kT (nth a0.ZM v1_1) a1)] : List Int)) (v1_1 + 1) else (v1_0))
def Y1 (a0 : ZF) (a1 : Int) : List Int := (match KN a0 a1 (a0.ZM.length + 1) ([] : List Int) 0 with | z1_0 => z1_0)
def yT (a0 : Int) (a1 : Int) (a2 : Int) : Int := (Qv a0 ([1, a1, a2] : List Int))
def X2 (a0 : Int) (a1 : List Int) : Nat → List Int → Nat → (List Int)
  | 0, _, _ => default
  | n1 + 1, v1_0, v1_1 => (bif (decide ((↑v1_1 : Int) < (↑a1.length : Int))) then (bif (decide ((W ((↑v1_1 : Int) + 1)) < (↑a1.length : Int))) then X2 a0 a1 n1 (v1_0 ++ ([(yT a0 (nth a1 v1_1) (nth a1 (W ((↑v1_1 : Int) + 1)).toNat))] : List Int)) (v1_1 + 2) else X2 a0 a1 n1 (v1_0 ++ ([(nth a1 v1_1)] : List Int)) (v1_1 + 2)) else (v1_0))
def QH (a0 : Int) (a1 : List Int) : List Int := (match X2 a0 a1 (a1.length + 1) ([] : List Int) 0 with | z1_0 => z1_0)
def ye (a0 : Int) : Nat → List Int → (List Int)
  | 0, _ => default
  | n1 + 1, v1_0 => (bif (decide ((↑v1_0.length : Int) > 1)) then ye a0 n1 (QH a0 v1_0) else (v1_0))
def xF (a0 : Int) (a1 : List Int) : Int := (bif (!(Z7 (↑a1.length : Int) 1 16)) then (-1) else (match ye a0 (a1.length + 1) a1 with | z1_0 => (nth z1_0 0)))
def XO (a0 : ZF) (a1 : Int) : Int := (xF a1 (Y1 a0 a1))
def X7 (a0 : List ZJ) (a1 : Int) : Nat → Nat → Sum Int Unit
  | 0, _ => .inr ()
  | n1 + 1, v1_0 => (bif (decide ((↑v1_0 : Int) < (↑a0.length : Int))) then (bif ((nth a0 v1_0).Id == a1) then (.inl (↑v1_0 : Int)) else X7 a0 a1 n1 (v1_0 + 1)) else (.inr ()))
def ZR (a0 : List ZJ) (a1 : Int) : Int := (match X7 a0 a1 (a0.length + 1) 0 with | .inl r1 => r1 | .inr _ => (-1))
def z9 (a0 : List YG) (a1 : Int) : Nat → Nat → Sum Int Unit
  | 0, _ => .inr ()
  | n1 + 1, v1_0 => (bif (decide ((↑v1_0 : Int) < (↑a0.length : Int))) then (bif ((nth a0 v1_0).Number == a1) then (.inl (↑v1_0 : Int)) else z9 a0 a1 n1 (v1_0 + 1)) else (.inr ()))
def Xv (a0 : List YG) (a1 : Int) : Int := (match z9 a0 a1 (a0.length + 1) 0 with | .inl r1 => r1 | .inr _ => (-1))
def jX (a0 : List Int) (a1 : Int) : Nat → Nat → Sum Int Unit
  | 0, _ => .inr ()
  | n1 + 1, v1_0 => (bif (decide ((↑v1_0 : Int) < (↑a0.length : Int))) then (bif ((nth a0 v1_0) == a1) then (.inl (↑v1_0 : Int)) else jX a0 a1 n1 (v1_0 + 1)) else (.inr ()))
def V0 (a0 : List Int) (a1 : Int) : Int := (match jX a0 a1 (a0.length + 1) 0 with | .inl r1 => r1 | .inr _ => (-1))
def jA (a0 : List Int) (a1 : Int) : Bool := (decide ((V0 a0 a1) ≥ 0))
def Wt (a0 : Int) : Bool := (Z7 a0 0 10000)
def xq (a0 : Int) (a1 : List Int) : Int := (SU ((([a0] : List Int) ++ a1) ++ ([a0] : List Int)))
def jI (a0 : YG) (a1 : List Int) : Int := (xq a0.zE (([a0.Method] : List Int) ++ a1))
def kj (a0 : List YG) (a1 : Int) (a2 : List Int) : Int × Bool := (bif (decide ((Xv a0 a1) < 0)) then (0, false) else ((jI (nth a0 (Xv a0 a1).toNat) a2), true))
def JT (a0 : List YG) (a1 : List ZJ) (a2 : ZQ) : ZQ × Bool := (bif (((decide ((ZR a1 a2.Authority) < 0)) || (decide (a2.Seq < 0))) || (!(Wt a2.Time))) then ((ZQ.mk 0 0 0 0 0), false) else (bif (!(kj a0 (nth a1 (ZR a1 a2.Authority).toNat).Key (QP a2)).2) then ((ZQ.mk 0 0 0 0 0), false) else ((ZQ.mk a2.Authority a2.Seq a2.Time a2.Yz (kj a0 (nth a1 (ZR a1 a2.Authority).toNat).Key (QP a2)).1), true)))
def xM (a0 : List Int) (a1 : List Int) : Nat → Nat → Sum Bool Unit
  | 0, _ => .inr ()
  | n1 + 1, v1_0 => (bif (decide ((↑v1_0 : Int) < (↑a0.length : Int))) then (bif ((nth a0 v1_0) != (nth a1 v1_0)) then (.inl false) else xM a0 a1 n1 (v1_0 + 1)) else (.inr ()))
def ja (a0 : List Int) (a1 : List Int) : Bool := (bif ((↑a0.length : Int) != (↑a1.length : Int)) then false else (match xM a0 a1 (a0.length + 1) 0 with | .inl r1 => r1 | .inr _ => true))
def KE (a0 : ZN) (a1 : ZN) : Bool := (((a0.Key == a1.Key) && (a0.Mark == a1.Mark)) && (ja a0.Y7 a1.Y7))
def qZ (a0 : List ZN) (a1 : ZN) : Nat → Nat → Sum Bool Unit
  | 0, _ => .inr ()
  | n1 + 1, v1_0 => (bif (decide ((↑v1_0 : Int) < (↑a0.length : Int))) then (bif (KE (nth a0 v1_0) a1) then (.inl true) else qZ a0 a1 n1 (v1_0 + 1)) else (.inr ()))
def qo (a0 : List ZN) (a1 : ZN) : Bool := (match qZ a0 a1 (a0.length + 1) 0 with | .inl r1 => r1 | .inr _ => false)
def Kr (a0 : Za) : Nat → Nat → Sum Bool Unit
  | 0, _ => .inr ()
  | n2 + 1, v2_0 => (bif (decide ((↑v2_0 : Int) < (↑a0.ZX.length : Int))) then (bif ((!(Z7 (nth a0.ZX v2_0).Count 1 (↑a0.ZO.length : Int))) || ((decide ((↑v2_0 : Int) > 0)) && (decide ((nth a0.ZX v2_0).Count < (nth a0.ZX (v2_0 - 1)).Count)))) then (.inl false) else Kr a0 n2 (v2_0 + 1)) else (.inr ()))
def Kw (a0 : Za) : Nat → Nat → Sum Bool Unit
  | 0, _ => .inr ()
  | n1 + 1, v1_0 => (bif (decide ((↑v1_0 : Int) < (↑a0.ZO.length : Int))) then (bif (qo (a0.ZO.take v1_0) (nth a0.ZO v1_0)) then (.inl false) else Kw a0 n1 (v1_0 + 1)) else (.inr ()))
def Kj (a0 : Za) : Bool := (bif ((!(Z7 (↑a0.ZO.length : Int) 1 12)) || (decide ((↑a0.ZX.length : Int) > 8))) then false else (match Kw a0 (a0.ZO.length + 1) 0 with | .inl r1 => r1 | .inr _ => (match Kr a0 (a0.ZX.length + 1) 0 with | .inl r2 => r2 | .inr _ => true)))
def Q6 (a0 : Zh) : List Int := ([104, a0.Key, a0.QY, a0.Method, a0.Yz, a0.zj, a0.Org, a0.KU, a0.yw] : List Int)
def z7 (a0 : Zh) : ZN := (ZN.mk a0.Key (Q6 a0) a0.Mark)
def W4 (a0 : ZY) : Bool := (((((Z7 a0.Id 1 999) && (Wt a0.Y8)) && (JG a0.Doc)) && (Kj a0.ZL)) && (KE (nth a0.ZL.ZO 0) (z7 a0.Sig)))
def zS (a0 : ZF) : Nat → Nat → Sum Bool Unit
  | 0, _ => .inr ()
  | n1 + 1, v1_0 => (bif (decide ((↑v1_0 : Int) < (↑a0.ZM.length : Int))) then (bif ((!(W4 (nth a0.ZM v1_0))) || ((decide ((↑v1_0 : Int) > 0)) && (decide ((nth a0.ZM (v1_0 - 1)).Id ≥ (nth a0.ZM v1_0).Id)))) then (.inl false) else zS a0 n1 (v1_0 + 1)) else (.inr ()))
def Kh (a0 : ZF) : Bool := (match zS a0 (a0.ZM.length + 1) 0 with | .inl r1 => r1 | .inr _ => ((Z7 a0.Id 0 99) && (decide ((↑a0.ZM.length : Int) ≤ 8))))
def X5 (a0 : Int) : Nat → List Int → Int → List Zk → (List Zk)
  | 0, _, _, _ => default
  | n1 + 1, v1_0, v1_1, v1_2 => (bif (decide ((↑v1_0.length : Int) > 1)) then (bif ((Int.tmod v1_1 2) == 1) then X5 a0 n1 (QH a0 v1_0) (W (Int.tdiv v1_1 2)) (v1_2 ++ ([(Zk.mk (nth v1_0 (W (v1_1 - 1)).toNat) true)] : List Zk)) else (bif (decide ((W (v1_1 + 1)) < (↑v1_0.length : Int))) then X5 a0 n1 (QH a0 v1_0) (W (Int.tdiv v1_1 2)) (v1_2 ++ ([(Zk.mk (nth v1_0 (W (v1_1 + 1)).toNat) false)] : List Zk)) else X5 a0 n1 (QH a0 v1_0) (W (Int.tdiv v1_1 2)) v1_2)) else (v1_2))
def Xd (a0 : Int) (a1 : List Int) (a2 : Int) : List Zk := (bif ((!(Z7 a2 0 (W ((↑a1.length : Int) - 1)))) || (decide ((↑a1.length : Int) > 16))) then ([] : List Zk) else (match X5 a0 (a1.length + 1) a1 a2 ([] : List Zk) with | z1_0 => z1_0))
def Xo (a0 : Za) (a1 : ZG) : Za × Bool := (bif (!(Kj (Za.mk a0.ZO (a0.ZX ++ ([a1] : List ZG))))) then (a0, false) else ((Za.mk a0.ZO (a0.ZX ++ ([a1] : List ZG))), true))
def XM (a0 : ZF) (a1 : Int) (a2 : List ZQ) : Nat → Nat → List ZY → Sum (ZF × Bool) (List ZY)
  | 0, _, _ => .inr default
  | n1 + 1, v1_0, v1_1 => (bif (decide ((↑v1_0 : Int) < (↑a0.ZM.length : Int))) then (bif (!(Xo (nth a0.ZM v1_0).ZL (ZG.mk (↑(nth a0.ZM v1_0).ZL.ZO.length : Int) a1 (XO a0 a1) (Xd a1 (Y1 a0 a1) (↑v1_0 : Int)) a2)).2) then (.inl (a0, false)) else XM a0 a1 a2 n1 (v1_0 + 1) (v1_1.set v1_0 (ZY.mk (nth v1_1 v1_0).Id (nth v1_1 v1_0).Y8 (nth v1_1 v1_0).Doc (nth v1_1 v1_0).Sig (Xo (nth a0.ZM v1_0).ZL (ZG.mk (↑(nth a0.ZM v1_0).ZL.ZO.length : Int) a1 (XO a0 a1) (Xd a1 (Y1 a0 a1) (↑v1_0 : Int)) a2)).1))) else (.inr v1_1))
def XZ (a0 : ZF) (a1 : Int) (a2 : List ZQ) : ZF × Bool := (bif (((↑a0.ZM.length : Int) == 0) || (!(Kh a0))) then (a0, false) else (match XM a0 a1 a2 (a0.ZM.length + 1) 0 a0.ZM with | .inl r1 => r1 | .inr z1_0 => (bif (!(Kh (ZF.mk a0.Id z1_0))) then (a0, false) else ((ZF.mk a0.Id z1_0), true))))
def XI (a0 : ZZ) (a1 : Int) (a2 : List Int) (a3 : Int) : Nat → List ZQ → Nat → List Int → Sum (ZZ × Bool) ((List ZQ) × (List Int))
  | 0, _, _, _ => .inr (default, default)
  | n1 + 1, v1_0, v1_1, v1_2 => (bif (decide ((↑v1_1 : Int) < (↑a2.length : Int))) then (bif ((decide ((ZR a0.Frame.ZC (nth a2 v1_1)) < 0)) || (decide ((ZR a0.Frame.ZC (nth a2 v1_1)) ≥ (↑a0.YZ.length : Int)))) then (.inl (a0, false)) else (bif ((decide ((Xv a0.Frame.YV (nth a0.Frame.ZC (ZR a0.Frame.ZC (nth a2 v1_1)).toNat).Key) < 0)) || (decide ((nth a0.Frame.YV (Xv a0.Frame.YV (nth a0.Frame.ZC (ZR a0.Frame.ZC (nth a2 v1_1)).toNat).Key).toNat).VF > a0.Frame.Now))) then (.inl (a0, false)) else (bif (jA a0.Yl (nth a2 v1_1)) then (bif (!(JT a0.Frame.YV a0.Frame.ZC (ZQ.mk (nth a2 v1_1) (nth a0.YZ (ZR a0.Frame.ZC (nth a2 v1_1)).toNat) (if (if (W (a0.Frame.Now + a3)) < 10000 then (W (a0.Frame.Now + a3)) else 10000) > 0 then (if (W (a0.Frame.Now + a3)) < 10000 then (W (a0.Frame.Now + a3)) else 10000) else 0) (XO (nth a0.ZI a1.toNat) (YP a0.Frame.Methods a0.Frame.Now)) 0)).2) then (.inl (a0, false)) else XI a0 a1 a2 a3 n1 (v1_0 ++ ([(JT a0.Frame.YV a0.Frame.ZC (ZQ.mk (nth a2 v1_1) (nth a0.YZ (ZR a0.Frame.ZC (nth a2 v1_1)).toNat) (if (if (W (a0.Frame.Now + a3)) < 10000 then (W (a0.Frame.Now + a3)) else 10000) > 0 then (if (W (a0.Frame.Now + a3)) < 10000 then (W (a0.Frame.Now + a3)) else 10000) else 0) (XO (nth a0.ZI a1.toNat) (YP a0.Frame.Methods a0.Frame.Now)) 0)).1] : List ZQ)) (v1_1 + 1) (v1_2.set (ZR a0.Frame.ZC (nth a2 v1_1)).toNat (W ((nth v1_2 (ZR a0.Frame.ZC (nth a2 v1_1)).toNat) + 1)))) else (bif (!(JT a0.Frame.YV a0.Frame.ZC (ZQ.mk (nth a2 v1_1) (nth a0.YZ (ZR a0.Frame.ZC (nth a2 v1_1)).toNat) a0.Frame.Now (XO (nth a0.ZI a1.toNat) (YP a0.Frame.Methods a0.Frame.Now)) 0)).2) then (.inl (a0, false)) else XI a0 a1 a2 a3 n1 (v1_0 ++ ([(JT a0.Frame.YV a0.Frame.ZC (ZQ.mk (nth a2 v1_1) (nth a0.YZ (ZR a0.Frame.ZC (nth a2 v1_1)).toNat) a0.Frame.Now (XO (nth a0.ZI a1.toNat) (YP a0.Frame.Methods a0.Frame.Now)) 0)).1] : List ZQ)) (v1_1 + 1) (v1_2.set (ZR a0.Frame.ZC (nth a2 v1_1)).toNat (W ((nth v1_2 (ZR a0.Frame.ZC (nth a2 v1_1)).toNat) + 1))))))) else (.inr (v1_0, v1_2)))
def Zu (a0 : ZZ) (a1 : Int) (a2 : List Int) (a3 : Int) : ZZ × Bool := (bif (((((!(Xn a0 a1)) || (decide ((YP a0.Frame.Methods a0.Frame.Now) < 0))) || (!(zp a2))) || ((↑a2.length : Int) == 0)) || (!(Z7 a3 (-10000) 10000))) then (a0, false) else (match XI a0 a1 a2 a3 (a2.length + 1) ([] : List ZQ) 0 a0.YZ with | .inl r1 => r1 | .inr (z1_0, z1_1) => (bif (!(XZ (nth a0.ZI a1.toNat) (YP a0.Frame.Methods a0.Frame.Now) z1_0).2) then (a0, false) else ((ZZ.mk a0.Frame a0.Zy a0.Z3 (a0.ZI.set a1.toNat (XZ (nth a0.ZI a1.toNat) (YP a0.Frame.Methods a0.Frame.Now) z1_0).1) z1_1 a0.Yl a0.Next a0.Ym), true))))
def J8 (a0 : ZZ) (a1 : Int) (a2 : List Int) (a3 : Int) : Bool := (bif (decide ((↑a2.length : Int) > 1048576)) then true else (bif (decide ((KM a0 1048576) < 0)) then true else (bif ((!(JD (Zu a0 a1 a2 a3).1 (Xj a0 a1 a2 a3).1)) || (!((Zu a0 a1 a2 a3).2 == (Xj a0 a1 a2 a3).2))) then false else (bif (!(JD a0 a0)) then false else (bif (!(Kb a2 a2)) then false else (bif (((decide ((ZB a2 (Ze a0 1).2).2 < 0)) || (!(JD (Zu a0 a1 a2 a3).1 (Xj a0 a1 a2 a3).1))) || (!((Zu a0 a1 a2 a3).2 == (Xj a0 a1 a2 a3).2))) then false else (bif (decide ((QE (Ze (Zu a0 a1 a2 a3).1 1).1 1) < 0)) then false else (bif ((QE (Ze (Zu a0 a1 a2 a3).1 1).1 1) != (Ze (Zu a0 a1 a2 a3).1 1).2) then false else (bif ((!(JD (Zu a0 a1 a2 a3).1 (Xj a0 a1 a2 a3).1)) || (!((Zu a0 a1 a2 a3).2 == (Xj a0 a1 a2 a3).2))) then false else (bif (decide ((QE (Ze (Zu a0 a1 a2 a3).1 1).1 1) < 0)) then false else (bif ((QE (Ze (Zu a0 a1 a2 a3).1 1).1 1) != (Ze (Zu a0 a1 a2 a3).1 1).2) then false else true)))))))))))
end Go.Mo
