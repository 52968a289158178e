/- Models of the functions: what each computes, on typed data. No condition. -/
import Derived.Test.YtjflhdkeibijaaaGreatMo
namespace Go.Mo
open Go.Vm
def XL (a0 : List YD) (a1 : Int) : Int := (bif (decide ((W (a1 - (↑a0.length : Int))) < 0)) then (-1) else (W (a1 - (↑a0.length : Int))))
def Yd (a0 : List ZI) (a1 : Int) : Int := (bif (decide ((W (a1 - (↑a0.length : Int))) < 0)) then (-1) else (W (a1 - (↑a0.length : Int))))
def Je (a0 : List ZU) (a1 : Int) : Int := (bif (decide ((W (a1 - (↑a0.length : Int))) < 0)) then (-1) else (W (a1 - (↑a0.length : Int))))
def Z1 (a0 : Z4) (a1 : Int) : Int := (bif (decide ((XL a0.YR a1) < 0)) then (-1) else (bif (decide ((Yd a0.ZL (XL a0.YR a1)) < 0)) then (-1) else (bif (decide ((Je a0.Methods (Yd a0.ZL (XL a0.YR a1))) < 0)) then (-1) else (Je a0.Methods (Yd a0.ZL (XL a0.YR a1))))))
def YE (a0 : List Z0) (a1 : Int) : Int := (bif (decide ((W (a1 - (↑a0.length : Int))) < 0)) then (-1) else (W (a1 - (↑a0.length : Int))))
def Zk (a0 : List Int) (a1 : Int) : Int := (bif (decide ((W (a1 - (↑a0.length : Int))) < 0)) then (-1) else (W (a1 - (↑a0.length : Int))))
def Kf (a0 : List ByteArray) : Nat → Int → Nat → Sum Int Int
  | 0, _, _ => .inr default
  | n1 + 1, v1_0, v1_1 => (bif (decide ((↑v1_1 : Int) < (↑a0.length : Int))) then (bif (decide ((W (v1_0 - (↑(nth a0 v1_1).size : Int))) < 0)) then (.inl (-1)) else Kf a0 n1 (W (v1_0 - (↑(nth a0 v1_1).size : Int))) (v1_1 + 1)) else (.inr v1_0))
def Y9 (a0 : List ByteArray) (a1 : Int) : Int := (bif (decide ((W (a1 - (↑a0.length : Int))) < 0)) then (-1) else (match Kf a0 (a0.length + 1) (W (a1 - (↑a0.length : Int))) 0 with | .inl r1 => r1 | .inr z1_0 => z1_0))
def Yj (a0 : ZT) (a1 : Int) : Int := (bif (decide ((Y9 a0.ZE a1) < 0)) then (-1) else (bif (decide ((Zk a0.ZG (Y9 a0.ZE a1)) < 0)) then (-1) else (Zk a0.ZG (Y9 a0.ZE a1))))
def zG (a0 : ZO) (a1 : Int) : Int := (bif (decide ((Zk a0.Ye a1) < 0)) then (-1) else (Zk a0.Ye a1))
def zc (a0 : List ZO) : Nat → Int → Nat → Sum Int Int
  | 0, _, _ => .inr default
  | n1 + 1, v1_0, v1_1 => (bif (decide ((↑v1_1 : Int) < (↑a0.length : Int))) then (bif (decide ((zG (nth a0 v1_1) v1_0) < 0)) then (.inl (-1)) else zc a0 n1 (zG (nth a0 v1_1) v1_0) (v1_1 + 1)) else (.inr v1_0))
def XV (a0 : List ZO) (a1 : Int) : Int := (bif (decide ((W (a1 - (↑a0.length : Int))) < 0)) then (-1) else (match zc a0 (a0.length + 1) (W (a1 - (↑a0.length : Int))) 0 with | .inl r1 => r1 | .inr z1_0 => z1_0))
def Xw (a0 : List Zq) (a1 : Int) : Int := (bif (decide ((W (a1 - (↑a0.length : Int))) < 0)) then (-1) else (W (a1 - (↑a0.length : Int))))
def KL (a0 : List ZX) (a1 : Int) : Int := (bif (decide ((W (a1 - (↑a0.length : Int))) < 0)) then (-1) else (W (a1 - (↑a0.length : Int))))
def JU (a0 : ZF) (a1 : Int) : Int := (bif (decide ((Xw a0.Path a1) < 0)) then (-1) else (bif (decide ((KL a0.Zv (Xw a0.Path a1)) < 0)) then (-1) else (KL a0.Zv (Xw a0.Path a1))))
def KK (a0 : List ZF) : Nat → Int → Nat → Sum Int Int
  | 0, _, _ => .inr default
  | n1 + 1, v1_0, v1_1 => (bif (decide ((↑v1_1 : Int) < (↑a0.length : Int))) then (bif (decide ((JU (nth a0 v1_1) v1_0) < 0)) then (.inl (-1)) else KK a0 n1 (JU (nth a0 v1_1) v1_0) (v1_1 + 1)) else (.inr v1_0))
def Qs (a0 : List ZF) (a1 : Int) : Int := (bif (decide ((W (a1 - (↑a0.length : Int))) < 0)) then (-1) else (match KK a0 (a0.length + 1) (W (a1 - (↑a0.length : Int))) 0 with | .inl r1 => r1 | .inr z1_0 => z1_0))
def Q4 (a0 : ZY) (a1 : Int) : Int := (bif (decide ((XV a0.ZR a1) < 0)) then (-1) else (bif (decide ((Qs a0.ZV (XV a0.ZR a1)) < 0)) then (-1) else (Qs a0.ZV (XV a0.ZR a1))))
def yo (a0 : Zb) (a1 : Int) : Int := (bif (decide ((Yj a0.Doc a1) < 0)) then (-1) else (bif (decide ((Q4 a0.ZK (Yj a0.Doc a1)) < 0)) then (-1) else (Q4 a0.ZK (Yj a0.Doc a1))))
def ym (a0 : List Zb) : Nat → Int → Nat → Sum Int Int
  | 0, _, _ => .inr default
  | n1 + 1, v1_0, v1_1 => (bif (decide ((↑v1_1 : Int) < (↑a0.length : Int))) then (bif (decide ((yo (nth a0 v1_1) v1_0) < 0)) then (.inl (-1)) else ym a0 n1 (yo (nth a0 v1_1) v1_0) (v1_1 + 1)) else (.inr v1_0))
def zK (a0 : List Zb) (a1 : Int) : Int := (bif (decide ((W (a1 - (↑a0.length : Int))) < 0)) then (-1) else (match ym a0 (a0.length + 1) (W (a1 - (↑a0.length : Int))) 0 with | .inl r1 => r1 | .inr z1_0 => z1_0))
def JT (a0 : ZH) (a1 : Int) : Int := (bif (decide ((zK a0.ZS a1) < 0)) then (-1) else (zK a0.ZS a1))
def KH (a0 : List ZH) : Nat → Int → Nat → Sum Int Int
  | 0, _, _ => .inr default
  | n1 + 1, v1_0, v1_1 => (bif (decide ((↑v1_1 : Int) < (↑a0.length : Int))) then (bif (decide ((JT (nth a0 v1_1) v1_0) < 0)) then (.inl (-1)) else KH a0 n1 (JT (nth a0 v1_1) v1_0) (v1_1 + 1)) else (.inr v1_0))
def YF (a0 : List ZH) (a1 : Int) : Int := (bif (decide ((W (a1 - (↑a0.length : Int))) < 0)) then (-1) else (match KH a0 (a0.length + 1) (W (a1 - (↑a0.length : Int))) 0 with | .inl r1 => r1 | .inr z1_0 => z1_0))
def zO (a0 : Zc) (a1 : Int) : Int := (bif (decide ((Z1 a0.Frame a1) < 0)) then (-1) else (bif (decide ((YE a0.Zx (Z1 a0.Frame a1)) < 0)) then (-1) else (bif (decide ((Zk a0.Z5 (YE a0.Zx (Z1 a0.Frame a1))) < 0)) then (-1) else (bif (decide ((YF a0.ZC (Zk a0.Z5 (YE a0.Zx (Z1 a0.Frame a1)))) < 0)) then (-1) else (bif (decide ((Zk a0.Yz (YF a0.ZC (Zk a0.Z5 (YE a0.Zx (Z1 a0.Frame a1))))) < 0)) then (-1) else (bif (decide ((Zk a0.YX (Zk a0.Yz (YF a0.ZC (Zk a0.Z5 (YE a0.Zx (Z1 a0.Frame a1)))))) < 0)) then (-1) else (bif (decide ((Zk a0.YT (Zk a0.YX (Zk a0.Yz (YF a0.ZC (Zk a0.Z5 (YE a0.Zx (Z1 a0.Frame a1))))))) < 0)) then (-1) else (Zk a0.YT (Zk a0.YX (Zk a0.Yz (YF a0.ZC (Zk a0.Z5 (YE a0.Zx (Z1 a0.Frame a1))))))))))))))
def RF (a0 : YD) : YD := a0
def jn (a0 : List YD) : Nat → Nat → List YD → (List YD)
  | 0, _, _ => default
  | n1 + 1, v1_0, v1_1 => (bif (decide ((↑v1_0 : Int) < (↑a0.length : Int))) then jn a0 n1 (v1_0 + 1) (v1_1.set v1_0 (nth a0 v1_0)) else (v1_1))
def RT (a0 : List YD) : List YD := (match jn a0 (a0.length + 1) 0 (List.replicate a0.length (YD.mk 0 0 0 0 0)) with | z1_0 => z1_0)
def yZ (a0 : ZI) : ZI := a0
def KN (a0 : List ZI) : Nat → Nat → List ZI → (List ZI)
  | 0, _, _ => default
  | n1 + 1, v1_0, v1_1 => (bif (decide ((↑v1_0 : Int) < (↑a0.length : Int))) then KN a0 n1 (v1_0 + 1) (v1_1.set v1_0 (nth a0 v1_0)) else (v1_1))
def xj (a0 : List ZI) : List ZI := (match KN a0 (a0.length + 1) 0 (List.replicate a0.length (ZI.mk 0 0 0)) with | z1_0 => z1_0)
def ji (a0 : ZU) : ZU := a0
def yP (a0 : List ZU) : Nat → Nat → List ZU → (List ZU)
  | 0, _, _ => default
  | n1 + 1, v1_0, v1_1 => (bif (decide ((↑v1_0 : Int) < (↑a0.length : Int))) then yP a0 n1 (v1_0 + 1) (v1_1.set v1_0 (nth a0 v1_0)) else (v1_1))
def kj (a0 : List ZU) : List ZU := (match yP a0 (a0.length + 1) 0 (List.replicate a0.length (ZU.mk 0 0 0 0)) with | z1_0 => z1_0)
def Wp (a0 : Z4) : Z4 := a0
def Ub (a0 : Z0) : Z0 := a0
def qc (a0 : List Z0) : Nat → Nat → List Z0 → (List Z0)
  | 0, _, _ => default
  | n1 + 1, v1_0, v1_1 => (bif (decide ((↑v1_0 : Int) < (↑a0.length : Int))) then qc a0 n1 (v1_0 + 1) (v1_1.set v1_0 (nth a0 v1_0)) else (v1_1))
def TN (a0 : List Z0) : List Z0 := (match qc a0 (a0.length + 1) 0 (List.replicate a0.length (Z0.mk 0 0 0 0 0 0 0)) with | z1_0 => z1_0)
def kL (a0 : List Int) : Nat → Nat → List Int → (List Int)
  | 0, _, _ => default
  | n1 + 1, v1_0, v1_1 => (bif (decide ((↑v1_0 : Int) < (↑a0.length : Int))) then kL a0 n1 (v1_0 + 1) (v1_1.set v1_0 (nth a0 v1_0)) else (v1_1))
def PZ (a0 : List Int) : List Int := (match kL a0 (a0.length + 1) 0 (List.replicate a0.length 0) with | z1_0 => z1_0)
def yO (a0 : List ByteArray) : Nat → Nat → List ByteArray → (List ByteArray)
  | 0, _, _ => default
  | n1 + 1, v1_0, v1_1 => (bif (decide ((↑v1_0 : Int) < (↑a0.length : Int))) then yO a0 n1 (v1_0 + 1) (v1_1.set v1_0 (nth a0 v1_0)) else (v1_1))
def WC (a0 : List ByteArray) : List ByteArray := (match yO a0 (a0.length + 1) 0 (List.replicate a0.length (⟨#[]⟩ : ByteArray)) with | z1_0 => z1_0)
def xZ (a0 : ZT) : ZT := a0
def yd (a0 : Zm) : Zm := a0
def Wo (a0 : ZO) : ZO := a0
def xM (a0 : List ZO) : Nat → Nat → List ZO → (List ZO)
  | 0, _, _ => default
  | n1 + 1, v1_0, v1_1 => (bif (decide ((↑v1_0 : Int) < (↑a0.length : Int))) then xM a0 n1 (v1_0 + 1) (v1_1.set v1_0 (nth a0 v1_0)) else (v1_1))
def Vi (a0 : List ZO) : List ZO := (match xM a0 (a0.length + 1) 0 (List.replicate a0.length (ZO.mk 0 ([] : List Int) 0)) with | z1_0 => z1_0)
def UM (a0 : Zq) : Zq := a0
def qk (a0 : List Zq) : Nat → Nat → List Zq → (List Zq)
  | 0, _, _ => default
  | n1 + 1, v1_0, v1_1 => (bif (decide ((↑v1_0 : Int) < (↑a0.length : Int))) then qk a0 n1 (v1_0 + 1) (v1_1.set v1_0 (nth a0 v1_0)) else (v1_1))
def TK (a0 : List Zq) : List Zq := (match qk a0 (a0.length + 1) 0 (List.replicate a0.length (Zq.mk 0 false)) with | z1_0 => z1_0)
def Wl (a0 : ZX) : ZX := a0
def xI (a0 : List ZX) : Nat → Nat → List ZX → (List ZX)
  | 0, _, _ => default
  | n1 + 1, v1_0, v1_1 => (bif (decide ((↑v1_0 : Int) < (↑a0.length : Int))) then xI a0 n1 (v1_0 + 1) (v1_1.set v1_0 (nth a0 v1_0)) else (v1_1))
def VB (a0 : List ZX) : List ZX := (match xI a0 (a0.length + 1) 0 (List.replicate a0.length (ZX.mk 0 0 0 0 0)) with | z1_0 => z1_0)
def qK (a0 : ZF) : ZF := a0
def zS (a0 : List ZF) : Nat → Nat → List ZF → (List ZF)
  | 0, _, _ => default
  | n1 + 1, v1_0, v1_1 => (bif (decide ((↑v1_0 : Int) < (↑a0.length : Int))) then zS a0 n1 (v1_0 + 1) (v1_1.set v1_0 (nth a0 v1_0)) else (v1_1))
def kB (a0 : List ZF) : List ZF := (match zS a0 (a0.length + 1) 0 (List.replicate a0.length (ZF.mk 0 0 0 ([] : List Zq) ([] : List ZX))) with | z1_0 => z1_0)
def kH (a0 : ZY) : ZY := a0
def V2 (a0 : Zb) : Zb := a0
def qV (a0 : List Zb) : Nat → Nat → List Zb → (List Zb)
  | 0, _, _ => default
  | n1 + 1, v1_0, v1_1 => (bif (decide ((↑v1_0 : Int) < (↑a0.length : Int))) then qV a0 n1 (v1_0 + 1) (v1_1.set v1_0 (nth a0 v1_0)) else (v1_1))
def Td (a0 : List Zb) : List Zb := (match qV a0 (a0.length + 1) 0 (List.replicate a0.length (Zb.mk 0 0 (ZT.mk 0 ([] : List ByteArray) ([] : List Int)) (Zm.mk 0 0 0 0 0 0 0 0 0) (ZY.mk ([] : List ZO) ([] : List ZF)))) with | z1_0 => z1_0)
def qh (a0 : ZH) : ZH := a0
def zR (a0 : List ZH) : Nat → Nat → List ZH → (List ZH)
  | 0, _, _ => default
  | n1 + 1, v1_0, v1_1 => (bif (decide ((↑v1_0 : Int) < (↑a0.length : Int))) then zR a0 n1 (v1_0 + 1) (v1_1.set v1_0 (nth a0 v1_0)) else (v1_1))
def jx (a0 : List ZH) : List ZH := (match zR a0 (a0.length + 1) 0 (List.replicate a0.length (ZH.mk 0 ([] : List Zb))) with | z1_0 => z1_0)
def Wn (a0 : Zc) : Zc := a0
def VF (a0 : Z4) : Z4 := a0
def R0 (a0 : ZT) : ZT := a0
def TY (a0 : ZO) : ZO := a0
def jm (a0 : List ZO) : Nat → List ZO → Nat → (List ZO)
  | 0, _, _ => default
  | n1 + 1, v1_0, v1_1 => (bif (decide ((↑v1_1 : Int) < (↑a0.length : Int))) then jm a0 n1 (v1_0 ++ ([(nth a0 v1_1)] : List ZO)) (v1_1 + 1) else (v1_0))
def V1 (a0 : List ZO) : List ZO := (match jm a0 (a0.length + 1) ([] : List ZO) 0 with | z1_0 => z1_0)
def TI (a0 : ZF) : ZF := a0
def qL (a0 : ZY) : Nat → Nat → List ZF → (List ZF)
  | 0, _, _ => default
  | n1 + 1, v1_0, v1_1 => (bif (decide ((↑v1_0 : Int) < (↑a0.ZV.length : Int))) then qL a0 n1 (v1_0 + 1) (v1_1 ++ ([(nth a0.ZV v1_0)] : List ZF)) else (v1_1))
def Wd (a0 : ZY) : ZY := (match qL a0 (a0.ZV.length + 1) 0 ([] : List ZF) with | z1_0 => (ZY.mk a0.ZR z1_0))
def U2 (a0 : Zb) : Zb := a0
def qS (a0 : ZH) : Nat → Nat → List Zb → (List Zb)
  | 0, _, _ => default
  | n1 + 1, v1_0, v1_1 => (bif (decide ((↑v1_0 : Int) < (↑a0.ZS.length : Int))) then qS a0 n1 (v1_0 + 1) (v1_1 ++ ([(nth a0.ZS v1_0)] : List Zb)) else (v1_1))
def Wh (a0 : ZH) : ZH := (match qS a0 (a0.ZS.length + 1) 0 ([] : List Zb) with | z1_0 => (ZH.mk a0.Id z1_0))
def qd (a0 : Zc) : Nat → Nat → List ZH → (List ZH)
  | 0, _, _ => default
  | n1 + 1, v1_0, v1_1 => (bif (decide ((↑v1_0 : Int) < (↑a0.ZC.length : Int))) then qd a0 n1 (v1_0 + 1) (v1_1 ++ ([(nth a0.ZC v1_0)] : List ZH)) else (v1_1))
def We (a0 : Zc) : Zc := (match qd a0 (a0.ZC.length + 1) 0 ([] : List ZH) with | z1_0 => (Zc.mk a0.Frame a0.Zx a0.Z5 z1_0 a0.Yz a0.YX a0.Next a0.YT))
def KX (a0 : ZH) (a1 : Int) : Nat → Nat → Sum Int Unit
  | 0, _ => .inr ()
  | n1 + 1, v1_0 => (bif (decide ((↑v1_0 : Int) < (↑a0.ZS.length : Int))) then (bif ((nth a0.ZS v1_0).Id == a1) then (.inl (↑v1_0 : Int)) else KX a0 a1 n1 (v1_0 + 1)) else (.inr ()))
def J4 (a0 : ZH) (a1 : Int) : Int := (match KX a0 a1 (a0.ZS.length + 1) 0 with | .inl r1 => r1 | .inr _ => (-1))
def KB (a0 : Zc) (a1 : Int) : Nat → Nat → Sum (Int × Int) Unit
  | 0, _ => .inr ()
  | n1 + 1, v1_0 => (bif (decide ((↑v1_0 : Int) < (↑a0.ZC.length : Int))) then (bif (decide ((J4 (nth a0.ZC v1_0) a1) ≥ 0)) then (.inl ((↑v1_0 : Int), (J4 (nth a0.ZC v1_0) a1))) else KB a0 a1 n1 (v1_0 + 1)) else (.inr ()))
def ZW (a0 : Zc) (a1 : Int) : Int × Int := (match KB a0 a1 (a0.ZC.length + 1) 0 with | .inl r1 => r1 | .inr _ => ((-1), (-1)))
def JN (a0 : List ZU) (a1 : Int) : Nat → Int → Nat → Int
  | 0, _, _ => default
  | n1 + 1, v1_0, v1_1 => (bif (decide ((↑v1_1 : Int) < (↑a0.length : Int))) then (bif (((decide (a1 ≥ (nth a0 v1_1).kr)) && (decide (a1 < (nth a0 v1_1).Ends))) && ((decide (v1_0 < 0)) || (decide ((nth a0 v1_1).Ends > (nth a0 v1_0.toNat).Ends)))) then JN a0 a1 n1 (↑v1_1 : Int) (v1_1 + 1) else JN a0 a1 n1 v1_0 (v1_1 + 1)) else (v1_0))
def Z6 (a0 : List ZU) (a1 : Int) : Int := (match JN a0 a1 (a0.length + 1) (-1) 0 with | z1_0 => (bif (decide (z1_0 < 0)) then (-1) else (nth a0 z1_0.toNat).Id))
def Wi (a0 : List Int) (a1 : Int) : Nat → Nat → Sum Bool Unit
  | 0, _ => .inr ()
  | n1 + 1, v1_0 => (bif (decide ((↑v1_0 : Int) < (↑a0.length : Int))) then (bif ((nth a0 v1_0) == a1) then (.inl true) else Wi a0 a1 n1 (v1_0 + 1)) else (.inr ()))
def Vy (a0 : List Int) (a1 : Int) : Bool := (match Wi a0 a1 (a0.length + 1) 0 with | .inl r1 => r1 | .inr _ => false)
def K5 (a0 : List YD) (a1 : Int) : Nat → Nat → Sum Int Unit
  | 0, _ => .inr ()
  | n1 + 1, v1_0 => (bif (decide ((↑v1_0 : Int) < (↑a0.length : Int))) then (bif ((nth a0 v1_0).Number == a1) then (.inl (↑v1_0 : Int)) else K5 a0 a1 n1 (v1_0 + 1)) else (.inr ()))
def QL (a0 : List YD) (a1 : Int) : Int := (match K5 a0 a1 (a0.length + 1) 0 with | .inl r1 => r1 | .inr _ => (-1))
def JJ (a0 : List ZU) (a1 : Int) : Nat → Nat → Sum Int Unit
  | 0, _ => .inr ()
  | n1 + 1, v1_0 => (bif (decide ((↑v1_0 : Int) < (↑a0.length : Int))) then (bif ((nth a0 v1_0).Id == a1) then (.inl (↑v1_0 : Int)) else JJ a0 a1 n1 (v1_0 + 1)) else (.inr ()))
def Qx (a0 : List ZU) (a1 : Int) : Int := (match JJ a0 a1 (a0.length + 1) 0 with | .inl r1 => r1 | .inr _ => (-1))
def jh (a0 : List ZU) (a1 : Int) : Int := (bif (decide ((Qx a0 a1) < 0)) then 0 else (nth a0 (Qx a0 a1).toNat).yN)
def qH (a0 : Z4) (a1 : Int) : Bool := ((decide ((QL a0.YR a1) ≥ 0)) && (decide (a0.Now ≥ (jh a0.Methods (nth a0.YR (QL a0.YR a1).toNat).Method))))
def Y2 (a0 : Zc) : Nat → List Int → Nat → (List Int)
  | 0, _, _ => default
  | n1 + 1, v1_0, v1_1 => (bif (decide ((↑v1_1 : Int) < (↑a0.Frame.ZL.length : Int))) then (bif ((Vy a0.YX (nth a0.Frame.ZL v1_1).Id) || (qH a0.Frame (nth a0.Frame.ZL v1_1).Key)) then Y2 a0 n1 (v1_0 ++ ([(nth a0.Frame.ZL v1_1).Id] : List Int)) (v1_1 + 1) else Y2 a0 n1 v1_0 (v1_1 + 1)) else (v1_0))
def Z7 (a0 : Zc) : List Int := (match Y2 a0 (a0.Frame.ZL.length + 1) ([] : List Int) 0 with | z1_0 => z1_0)
def Xe (a0 : Int) (a1 : Int) (a2 : Int) : Bool := ((decide (a0 ≥ a1)) && (decide (a0 ≤ a2)))
def JD (a0 : ZT) : Nat → Nat → Sum Bool Unit
  | 0, _ => .inr ()
  | n2 + 1, v2_0 => (bif (decide ((↑v2_0 : Int) < (↑a0.ZG.length : Int))) then (bif (!(Xe (nth a0.ZG v2_0) 1 1000000000000)) then (.inl false) else JD a0 n2 (v2_0 + 1)) else (.inr ()))
def JH (a0 : ZT) : Nat → Nat → Sum Bool Unit
  | 0, _ => .inr ()
  | n1 + 1, v1_0 => (bif (decide ((↑v1_0 : Int) < (↑a0.ZE.length : Int))) then (bif (decide ((↑(nth a0.ZE v1_0).size : Int) > 40)) then (.inl false) else JH a0 n1 (v1_0 + 1)) else (.inr ()))
def Ji (a0 : ZT) : Bool := (match JH a0 (a0.ZE.length + 1) 0 with | .inl r1 => r1 | .inr _ => (match JD a0 (a0.ZG.length + 1) 0 with | .inl r2 => r2 | .inr _ => (((Xe a0.Ka 0 999) && (Xe (↑a0.ZE.length : Int) 1 6)) && ((↑a0.ZG.length : Int) == (↑a0.ZE.length : Int)))))
def Ls (a0 : Int) (a1 : Int) : Int := (bif (!(Xe a1 1 1000000000000)) then 0 else (Int.tmod (W ((Int.tmod a0 a1) + a1)) a1))
def kZ (a0 : List Int) : Nat → Int → Nat → Int
  | 0, _, _ => default
  | n1 + 1, v1_0, v1_1 => (bif (decide ((↑v1_1 : Int) < (↑a0.length : Int))) then kZ a0 n1 (Int.tmod (W ((W ((W (v1_0 * 1000003)) + (Ls (nth a0 v1_1) 2147483647))) + 13)) 2147483647) (v1_1 + 1) else (v1_0))
def U6 (a0 : List Int) : Int := (match kZ a0 (a0.length + 1) 11 0 with | z1_0 => z1_0)
def Q6 (a0 : Int) (a1 : List Int) : Int := (U6 (([7, a0] : List Int) ++ a1))
def KD (a1 : ByteArray) : Nat → List Int → Nat → (List Int)
  | 0, _, _ => default
  | n1 + 1, v1_0, v1_1 => (bif (decide ((↑v1_1 : Int) < (↑a1.size : Int))) then KD a1 n1 (v1_0 ++ ([(W (↑(bAt a1 v1_1) : Int))] : List Int)) (v1_1 + 1) else (v1_0))
def zf (a0 : Int) (a1 : ByteArray) (a2 : Int) : Int := (match KD a1 (a1.size + 1) ([a2] : List Int) 0 with | z1_0 => (Q6 a0 z1_0))
def Kg (a0 : Int) (a1 : ZT) : Nat → List Int → Nat → (List Int)
  | 0, _, _ => default
  | n1 + 1, v1_0, v1_1 => (bif (decide ((↑v1_1 : Int) < (↑a1.ZE.length : Int))) then Kg a0 a1 n1 (v1_0 ++ ([(zf a0 (nth a1.ZE v1_1) (nth a1.ZG v1_1))] : List Int)) (v1_1 + 1) else (v1_0))
def KE (a0 : Int) (a1 : ZT) : Int := (bif (!(Ji a1)) then (-1) else (match Kg a0 a1 (a1.ZE.length + 1) ([a1.Ka] : List Int) 0 with | z1_0 => (Q6 a0 z1_0)))
def JS (a0 : ZY) (a1 : ZT) : Nat → List Int → Nat → (List Int)
  | 0, _, _ => default
  | n1 + 1, v1_0, v1_1 => (bif (decide ((↑v1_1 : Int) < (↑a0.ZV.length : Int))) then JS a0 a1 n1 (v1_0 ++ ([(KE (nth a0.ZV v1_1).Method a1)] : List Int)) (v1_1 + 1) else (v1_0))
def Xi (a0 : ZY) (a1 : ZT) : List Int := (match JS a0 a1 (a0.ZV.length + 1) ([] : List Int) 0 with | z1_0 => z1_0)
def X9 (a0 : ZX) : List Int := ([103, a0.Authority, a0.Seq, a0.Time, a0.YY] : List Int)
def Qo (a1 : ZF) : Nat → List Int → Nat → (List Int)
  | 0, _, _ => default
  | n2 + 1, v2_0, v2_1 => (bif (decide ((↑v2_1 : Int) < (↑a1.Zv.length : Int))) then Qo a1 n2 ((v2_0 ++ (X9 (nth a1.Zv v2_1))) ++ ([(nth a1.Zv v2_1).Mark] : List Int)) (v2_1 + 1) else (v2_0))
def Xz (a1 : ZF) : Nat → List Int → Nat → (List Int)
  | 0, _, _ => default
  | n1 + 1, v1_0, v1_1 => (bif (decide ((↑v1_1 : Int) < (↑a1.Path.length : Int))) then (bif (nth a1.Path v1_1).Left then Xz a1 n1 ((v1_0 ++ ([(nth a1.Path v1_1).YY] : List Int)) ++ ([1] : List Int)) (v1_1 + 1) else Xz a1 n1 ((v1_0 ++ ([(nth a1.Path v1_1).YY] : List Int)) ++ ([0] : List Int)) (v1_1 + 1)) else (v1_0))
def X2 (a0 : Int) (a1 : ZF) : Int := (match Xz a1 (a1.Path.length + 1) ([4, a1.Count, a1.Method, a1.V4] : List Int) 0 with | z1_0 => (match Qo a1 (a1.Zv.length + 1) (z1_0 ++ ([(↑a1.Zv.length : Int)] : List Int)) 0 with | z2_0 => (Q6 a0 z2_0)))
def JM (a0 : Int) (a1 : List ZO) : Nat → List Int → Nat → (List Int)
  | 0, _, _ => default
  | n1 + 1, v1_0, v1_1 => (bif (decide ((↑v1_1 : Int) < (↑a1.length : Int))) then JM a0 a1 n1 (v1_0 ++ ([(Q6 a0 (([(nth a1 v1_1).Key, (nth a1 v1_1).Mark] : List Int) ++ (nth a1 v1_1).Ye))] : List Int)) (v1_1 + 1) else (v1_0))
def JG (a0 : Int) (a1 : List ZO) : Int := (match JM a0 a1 (a1.length + 1) ([2] : List Int) 0 with | z1_0 => (Q6 a0 z1_0))
def jZ (a0 : Int) (a1 : Int) (a2 : List ZO) (a3 : Int) : Int := (Q6 a0 ([3, a1, (JG a0 a2), a3] : List Int))
def jO (a0 : ZY) (a1 : List Int) (a2 : Int) : Int := (bif (((!(Xe a2 0 (W ((↑a0.ZV.length : Int) - 1)))) || ((↑a1.length : Int) != (↑a0.ZV.length : Int))) || (!(Xe (nth a0.ZV a2.toNat).Count 0 (↑a0.ZR.length : Int)))) then (-1) else (bif (decide (a2 > 0)) then (jZ (nth a0.ZV a2.toNat).Method (nth a1 a2.toNat) (a0.ZR.take (nth a0.ZV a2.toNat).Count.toNat) (X2 (nth a0.ZV a2.toNat).Method (nth a0.ZV (W (a2 - 1)).toNat))) else (jZ (nth a0.ZV a2.toNat).Method (nth a1 a2.toNat) (a0.ZR.take (nth a0.ZV a2.toNat).Count.toNat) 0)))
def Jr (a0 : ZH) (a1 : Int) : Nat → List Int → Nat → (List Int)
  | 0, _, _ => default
  | n1 + 1, v1_0, v1_1 => (bif (decide ((↑v1_1 : Int) < (↑a0.ZS.length : Int))) then Jr a0 a1 n1 (v1_0 ++ ([(jO (ZY.mk (nth a0.ZS v1_1).ZK.ZR ((nth a0.ZS v1_1).ZK.ZV ++ ([(ZF.mk (↑(nth a0.ZS v1_1).ZK.ZR.length : Int) a1 0 ([] : List Zq) ([] : List ZX))] : List ZF))) (Xi (ZY.mk (nth a0.ZS v1_1).ZK.ZR ((nth a0.ZS v1_1).ZK.ZV ++ ([(ZF.mk (↑(nth a0.ZS v1_1).ZK.ZR.length : Int) a1 0 ([] : List Zq) ([] : List ZX))] : List ZF))) (nth a0.ZS v1_1).Doc) (W ((↑((nth a0.ZS v1_1).ZK.ZV ++ ([(ZF.mk (↑(nth a0.ZS v1_1).ZK.ZR.length : Int) a1 0 ([] : List Zq) ([] : List ZX))] : List ZF)).length : Int) - 1)))] : List Int)) (v1_1 + 1) else (v1_0))
def Yc (a0 : ZH) (a1 : Int) : List Int := (match Jr a0 a1 (a0.ZS.length + 1) ([] : List Int) 0 with | z1_0 => z1_0)
def Xx (a0 : List ZI) (a1 : Int) : Nat → Nat → Sum Int Unit
  | 0, _ => .inr ()
  | n1 + 1, v1_0 => (bif (decide ((↑v1_0 : Int) < (↑a0.length : Int))) then (bif ((nth a0 v1_0).Id == a1) then (.inl (↑v1_0 : Int)) else Xx a0 a1 n1 (v1_0 + 1)) else (.inr ()))
def Ya (a0 : List ZI) (a1 : Int) : Int := (match Xx a0 a1 (a0.length + 1) 0 with | .inl r1 => r1 | .inr _ => (-1))
def Uo (a0 : Int) : Bool := (Xe a0 0 10000)
def yz (a0 : Int) (a1 : List Int) : Int := (U6 ((([a0] : List Int) ++ a1) ++ ([a0] : List Int)))
def qC (a0 : YD) (a1 : List Int) : Int := (yz a0.Kb (([a0.Method] : List Int) ++ a1))
def KM (a0 : List YD) (a1 : List ZI) (a2 : ZX) : ZX × Bool := (bif (((decide ((Ya a1 a2.Authority) < 0)) || (decide (a2.Seq < 0))) || (!(Uo a2.Time))) then ((ZX.mk 0 0 0 0 0), false) else (bif (decide ((QL a0 (nth a1 (Ya a1 a2.Authority).toNat).Key) < 0)) then ((ZX.mk 0 0 0 0 0), false) else ((ZX.mk a2.Authority a2.Seq a2.Time a2.YY (qC (nth a0 (QL a0 (nth a1 (Ya a1 a2.Authority).toNat).Key).toNat) (X9 a2))), true)))
def yR (a0 : List Int) (a1 : List Int) : Nat → Nat → Sum Bool Unit
  | 0, _ => .inr ()
  | n1 + 1, v1_0 => (bif (decide ((↑v1_0 : Int) < (↑a0.length : Int))) then (bif ((nth a0 v1_0) != (nth a1 v1_0)) then (.inl false) else yR a0 a1 n1 (v1_0 + 1)) else (.inr ()))
def qZ (a0 : List Int) (a1 : List Int) : Bool := (bif ((↑a0.length : Int) != (↑a1.length : Int)) then false else (match yR a0 a1 (a0.length + 1) 0 with | .inl r1 => r1 | .inr _ => true))
def Km (a0 : ZO) (a1 : ZO) : Bool := (((a0.Key == a1.Key) && (a0.Mark == a1.Mark)) && (qZ a0.Ye a1.Ye))
def yT (a0 : ZY) (a1 : ZO) : Nat → Nat → Sum Int Unit
  | 0, _ => .inr ()
  | n1 + 1, v1_0 => (bif (decide ((↑v1_0 : Int) < (↑a0.ZR.length : Int))) then (bif (Km (nth a0.ZR v1_0) a1) then (.inl (↑v1_0 : Int)) else yT a0 a1 n1 (v1_0 + 1)) else (.inr ()))
def y1 (a0 : ZY) (a1 : ZO) : Int := (match yT a0 a1 (a0.ZR.length + 1) 0 with | .inl r1 => r1 | .inr _ => (-1))
def xT (a0 : ZY) : Nat → Nat → Sum Bool Unit
  | 0, _ => .inr ()
  | n2 + 1, v2_0 => (bif (decide ((↑v2_0 : Int) < (↑a0.ZV.length : Int))) then (bif ((!(Xe (nth a0.ZV v2_0).Count 1 (↑a0.ZR.length : Int))) || ((decide ((↑v2_0 : Int) > 0)) && (decide ((nth a0.ZV (v2_0 - 1)).Count > (nth a0.ZV v2_0).Count)))) then (.inl false) else xT a0 n2 (v2_0 + 1)) else (.inr ()))
def xO (a0 : ZY) : Nat → Nat → Sum Bool Unit
  | 0, _ => .inr ()
  | n1 + 1, v1_0 => (bif (decide ((↑v1_0 : Int) < (↑a0.ZR.length : Int))) then (bif (decide ((y1 a0 (nth a0.ZR v1_0)) < (↑v1_0 : Int))) then (.inl false) else xO a0 n1 (v1_0 + 1)) else (.inr ()))
def qA (a0 : ZY) : Bool := (match xO a0 (a0.ZR.length + 1) 0 with | .inl r1 => r1 | .inr _ => (match xT a0 (a0.ZV.length + 1) 0 with | .inl r2 => r2 | .inr _ => ((Xe (↑a0.ZR.length : Int) 1 12) && (decide ((↑a0.ZV.length : Int) ≤ 8)))))
def Xl (a0 : ZY) (a1 : ZF) : ZY × Bool := (bif (!(qA (ZY.mk a0.ZR (a0.ZV ++ ([a1] : List ZF))))) then (a0, false) else ((ZY.mk a0.ZR (a0.ZV ++ ([a1] : List ZF))), true))
def JP (a0 : Zc) (a1 : Int) (a2 : Int) : Nat → Nat → List ZX → Sum (Zc × Bool) (List ZX)
  | 0, _, _ => .inr default
  | n1 + 1, v1_0, v1_1 => (bif (decide ((↑v1_0 : Int) < (↑(Z7 a0).length : Int))) then (bif (!(KM a0.Frame.YR a0.Frame.ZL (ZX.mk (nth (Z7 a0) v1_0) 0 a2 (nth (Yc (nth a0.ZC (ZW a0 a1).1.toNat) (Z6 a0.Frame.Methods a0.Frame.Now)) (ZW a0 a1).2.toNat) 0)).2) then (.inl (a0, false)) else JP a0 a1 a2 n1 (v1_0 + 1) (v1_1 ++ ([(KM a0.Frame.YR a0.Frame.ZL (ZX.mk (nth (Z7 a0) v1_0) 0 a2 (nth (Yc (nth a0.ZC (ZW a0 a1).1.toNat) (Z6 a0.Frame.Methods a0.Frame.Now)) (ZW a0 a1).2.toNat) 0)).1] : List ZX))) else (.inr v1_1))
def Yb (a0 : Zc) (a1 : Int) (a2 : Int) : Zc × Bool := (bif ((((decide ((ZW a0 a1).1 < 0)) || (decide ((Z6 a0.Frame.Methods a0.Frame.Now) < 0))) || (!(Vy a0.YT a1))) || ((↑(Z7 a0).length : Int) == 0)) then (a0, false) else (match JP a0 a1 a2 ((Z7 a0).length + 1) 0 ([] : List ZX) with | .inl r1 => r1 | .inr z1_0 => ((Zc.mk a0.Frame a0.Zx a0.Z5 (a0.ZC.set (ZW a0 a1).1.toNat (ZH.mk (nth a0.ZC (ZW a0 a1).1.toNat).Id ((nth a0.ZC (ZW a0 a1).1.toNat).ZS.set (ZW a0 a1).2.toNat (Zb.mk (nth (nth a0.ZC (ZW a0 a1).1.toNat).ZS (ZW a0 a1).2.toNat).Id (nth (nth a0.ZC (ZW a0 a1).1.toNat).ZS (ZW a0 a1).2.toNat).Yk (nth (nth a0.ZC (ZW a0 a1).1.toNat).ZS (ZW a0 a1).2.toNat).Doc (nth (nth a0.ZC (ZW a0 a1).1.toNat).ZS (ZW a0 a1).2.toNat).Sig (Xl (nth (nth a0.ZC (ZW a0 a1).1.toNat).ZS (ZW a0 a1).2.toNat).ZK (ZF.mk (↑(nth (nth a0.ZC (ZW a0 a1).1.toNat).ZS (ZW a0 a1).2.toNat).ZK.ZR.length : Int) (Z6 a0.Frame.Methods a0.Frame.Now) (nth (Yc (nth a0.ZC (ZW a0 a1).1.toNat) (Z6 a0.Frame.Methods a0.Frame.Now)) (ZW a0 a1).2.toNat) ([] : List Zq) z1_0)).1)))) a0.Yz a0.YX a0.Next a0.YT), (Xl (nth (nth a0.ZC (ZW a0 a1).1.toNat).ZS (ZW a0 a1).2.toNat).ZK (ZF.mk (↑(nth (nth a0.ZC (ZW a0 a1).1.toNat).ZS (ZW a0 a1).2.toNat).ZK.ZR.length : Int) (Z6 a0.Frame.Methods a0.Frame.Now) (nth (Yc (nth a0.ZC (ZW a0 a1).1.toNat) (Z6 a0.Frame.Methods a0.Frame.Now)) (ZW a0 a1).2.toNat) ([] : List Zq) z1_0)).2)))
def WX (a0 : Z4) : Z4 := a0
def VW (a0 : List Int) : List Int := a0
def qF (a0 : ZT) : ZT := a0
def WR (a0 : ZO) : ZO := a0
def zb (a0 : List ZO) : Nat → List ZO → Nat → (List ZO)
  | 0, _, _ => default
  | n1 + 1, v1_0, v1_1 => (bif (decide ((↑v1_1 : Int) < (↑a0.length : Int))) then zb a0 n1 (v1_0 ++ ([(nth a0 v1_1)] : List ZO)) (v1_1 + 1) else (v1_0))
def xR (a0 : List ZO) : List ZO := (match zb a0 (a0.length + 1) ([] : List ZO) 0 with | z1_0 => z1_0)
def kK (a0 : List ZX) : List ZX := a0
def qw (a0 : ZF) : ZF := a0
def zY (a0 : ZY) : Nat → Nat → List ZF → (List ZF)
  | 0, _, _ => default
  | n1 + 1, v1_0, v1_1 => (bif (decide ((↑v1_0 : Int) < (↑a0.ZV.length : Int))) then zY a0 n1 (v1_0 + 1) (v1_1 ++ ([(nth a0.ZV v1_0)] : List ZF)) else (v1_1))
def xK (a0 : ZY) : ZY := (match zY a0 (a0.ZV.length + 1) 0 ([] : List ZF) with | z1_0 => (ZY.mk a0.ZR z1_0))
def Vh (a0 : Zb) : Zb := a0
def Ks (a0 : ZH) : Nat → Nat → List Zb → (List Zb)
  | 0, _, _ => default
  | n1 + 1, v1_0, v1_1 => (bif (decide ((↑v1_0 : Int) < (↑a0.ZS.length : Int))) then Ks a0 n1 (v1_0 + 1) (v1_1 ++ ([(nth a0.ZS v1_0)] : List Zb)) else (v1_1))
def yS (a0 : ZH) : ZH := (match Ks a0 (a0.ZS.length + 1) 0 ([] : List Zb) with | z1_0 => (ZH.mk a0.Id z1_0))
def ya (a0 : Zc) : Nat → Nat → List ZH → (List ZH)
  | 0, _, _ => default
  | n1 + 1, v1_0, v1_1 => (bif (decide ((↑v1_0 : Int) < (↑a0.ZC.length : Int))) then ya a0 n1 (v1_0 + 1) (v1_1 ++ ([(nth a0.ZC v1_0)] : List ZH)) else (v1_1))
def qW (a0 : Zc) : Zc := (match ya a0 (a0.ZC.length + 1) 0 ([] : List ZH) with | z1_0 => (Zc.mk a0.Frame a0.Zx a0.Z5 z1_0 a0.Yz a0.YX a0.Next a0.YT))
def KY (a0 : ZH) (a1 : Int) : Nat → Nat → Sum Int Unit
  | 0, _ => .inr ()
  | n1 + 1, v1_0 => (bif (decide ((↑v1_0 : Int) < (↑a0.ZS.length : Int))) then (bif ((nth a0.ZS v1_0).Id == a1) then (.inl (↑v1_0 : Int)) else KY a0 a1 n1 (v1_0 + 1)) else (.inr ()))
def KG (a0 : ZH) (a1 : Int) : Int := (match KY a0 a1 (a0.ZS.length + 1) 0 with | .inl r1 => r1 | .inr _ => (-1))
def KJ (a0 : Zc) (a1 : Int) : Nat → Nat → Sum (Int × Int) Unit
  | 0, _ => .inr ()
  | n1 + 1, v1_0 => (bif (decide ((↑v1_0 : Int) < (↑a0.ZC.length : Int))) then (bif (decide ((KG (nth a0.ZC v1_0) a1) ≥ 0)) then (.inl ((↑v1_0 : Int), (KG (nth a0.ZC v1_0) a1))) else KJ a0 a1 n1 (v1_0 + 1)) else (.inr ()))
def ZN (a0 : Zc) (a1 : Int) : Int × Int := (match KJ a0 a1 (a0.ZC.length + 1) 0 with | .inl r1 => r1 | .inr _ => ((-1), (-1)))
def JC (a0 : List ZU) (a1 : Int) : Nat → Int → Nat → Int
  | 0, _, _ => default
  | n1 + 1, v1_0, v1_1 => (bif (decide ((↑v1_1 : Int) < (↑a0.length : Int))) then (bif (((decide ((nth a0 v1_1).kr ≤ a1)) && (decide (a1 < (nth a0 v1_1).Ends))) && ((decide (v1_0 < 0)) || (decide ((nth a0 v1_1).Ends > (nth a0 v1_0.toNat).Ends)))) then JC a0 a1 n1 (↑v1_1 : Int) (v1_1 + 1) else JC a0 a1 n1 v1_0 (v1_1 + 1)) else (v1_0))
def Zz (a0 : List ZU) (a1 : Int) : Int := (match JC a0 a1 (a0.length + 1) (-1) 0 with | z1_0 => (bif (decide (z1_0 < 0)) then (-1) else (nth a0 z1_0.toNat).Id))
def qI (a0 : List Int) (a1 : Int) : Nat → Nat → Sum Int Unit
  | 0, _ => .inr ()
  | n1 + 1, v1_0 => (bif (decide ((↑v1_0 : Int) < (↑a0.length : Int))) then (bif ((nth a0 v1_0) == a1) then (.inl (↑v1_0 : Int)) else qI a0 a1 n1 (v1_0 + 1)) else (.inr ()))
def Wm (a0 : List Int) (a1 : Int) : Int := (match qI a0 a1 (a0.length + 1) 0 with | .inl r1 => r1 | .inr _ => (-1))
def xq (a0 : List Int) (a1 : Int) : Bool := (decide ((Wm a0 a1) ≥ 0))
def zJ (a0 : List YD) (a1 : Int) : Nat → Nat → Sum Int Unit
  | 0, _ => .inr ()
  | n1 + 1, v1_0 => (bif (decide ((↑v1_0 : Int) < (↑a0.length : Int))) then (bif ((nth a0 v1_0).Number == a1) then (.inl (↑v1_0 : Int)) else zJ a0 a1 n1 (v1_0 + 1)) else (.inr ()))
def XK (a0 : List YD) (a1 : Int) : Int := (match zJ a0 a1 (a0.length + 1) 0 with | .inl r1 => r1 | .inr _ => (-1))
def JI (a0 : List ZU) (a1 : Int) : Nat → Nat → Sum Int Unit
  | 0, _ => .inr ()
  | n1 + 1, v1_0 => (bif (decide ((↑v1_0 : Int) < (↑a0.length : Int))) then (bif ((nth a0 v1_0).Id == a1) then (.inl (↑v1_0 : Int)) else JI a0 a1 n1 (v1_0 + 1)) else (.inr ()))
def Qy (a0 : List ZU) (a1 : Int) : Int := (match JI a0 a1 (a0.length + 1) 0 with | .inl r1 => r1 | .inr _ => (-1))
def jN (a0 : List ZU) (a1 : Int) : Int := (bif (decide ((Qy a0 a1) ≥ 0)) then (nth a0 (Qy a0 a1).toNat).yN else 0)
def xV (a0 : Z4) (a1 : Int) : Int := (bif (decide ((XK a0.YR a1) < 0)) then 0 else (jN a0.Methods (nth a0.YR (XK a0.YR a1).toNat).Method))
def xv (a0 : Z4) (a1 : Int) : Bool := ((decide ((XK a0.YR a1) ≥ 0)) && (decide (a0.Now ≥ (xV a0 a1))))
def Ym (a0 : Zc) : Nat → List Int → Nat → (List Int)
  | 0, _, _ => default
  | n1 + 1, v1_0, v1_1 => (bif (decide ((↑v1_1 : Int) < (↑a0.Frame.ZL.length : Int))) then (bif ((xq a0.YX (nth a0.Frame.ZL v1_1).Id) || (xv a0.Frame (nth a0.Frame.ZL v1_1).Key)) then Ym a0 n1 (v1_0 ++ ([(nth a0.Frame.ZL v1_1).Id] : List Int)) (v1_1 + 1) else Ym a0 n1 v1_0 (v1_1 + 1)) else (v1_0))
def Zo (a0 : Zc) : List Int := (match Ym a0 (a0.Frame.ZL.length + 1) ([] : List Int) 0 with | z1_0 => z1_0)
def Xs (a0 : ZX) : List Int := ([103, a0.Authority, a0.Seq, a0.Time, a0.YY] : List Int)
def YZ (a0 : Int) (a1 : Int) (a2 : Int) : Bool := ((decide (a1 ≤ a0)) && (decide (a0 ≤ a2)))
def IK (a0 : Int) (a1 : Int) : Int := (bif (!(YZ a1 1 1000000000000)) then 0 else (Int.tmod (W ((Int.tmod a0 a1) + a1)) a1))
def WB (a0 : List Int) : Nat → Int → Nat → Int
  | 0, _, _ => default
  | n1 + 1, v1_0, v1_1 => (bif (decide ((↑v1_1 : Int) < (↑a0.length : Int))) then WB a0 n1 (Int.tmod (W ((W ((W (v1_0 * 1000003)) + (IK (nth a0 v1_1) 2147483647))) + 13)) 2147483647) (v1_1 + 1) else (v1_0))
def U8 (a0 : List Int) : Int := (match WB a0 (a0.length + 1) 11 0 with | z1_0 => z1_0)
def Q8 (a0 : Int) (a1 : List Int) : Int := (U8 (([7, a0] : List Int) ++ a1))
def Qk (a1 : ZF) : Nat → List Int → Nat → (List Int)
  | 0, _, _ => default
  | n2 + 1, v2_0, v2_1 => (bif (decide ((↑v2_1 : Int) < (↑a1.Zv.length : Int))) then Qk a1 n2 ((v2_0 ++ (Xs (nth a1.Zv v2_1))) ++ ([(nth a1.Zv v2_1).Mark] : List Int)) (v2_1 + 1) else (v2_0))
def Xu (a1 : ZF) : Nat → List Int → Nat → (List Int)
  | 0, _, _ => default
  | n1 + 1, v1_0, v1_1 => (bif (decide ((↑v1_1 : Int) < (↑a1.Path.length : Int))) then (bif (nth a1.Path v1_1).Left then Xu a1 n1 (v1_0 ++ ([(nth a1.Path v1_1).YY, 1] : List Int)) (v1_1 + 1) else Xu a1 n1 (v1_0 ++ ([(nth a1.Path v1_1).YY, 0] : List Int)) (v1_1 + 1)) else (v1_0))
def Qe (a0 : Int) (a1 : ZF) : Int := (match Xu a1 (a1.Path.length + 1) ([4, a1.Count, a1.Method, a1.V4] : List Int) 0 with | z1_0 => (match Qk a1 (a1.Zv.length + 1) (z1_0 ++ ([(↑a1.Zv.length : Int)] : List Int)) 0 with | z2_0 => (Q8 a0 z2_0)))
def JA (a0 : ZT) : Nat → Nat → Sum Bool Unit
  | 0, _ => .inr ()
  | n1 + 1, v1_0 => (bif (decide ((↑v1_0 : Int) < (↑a0.ZE.length : Int))) then (bif ((decide ((↑(nth a0.ZE v1_0).size : Int) > 40)) || (!(YZ (nth a0.ZG v1_0) 1 1000000000000))) then (.inl false) else JA a0 n1 (v1_0 + 1)) else (.inr ()))
def Jj (a0 : ZT) : Bool := (bif (((!(YZ a0.Ka 0 999)) || (!(YZ (↑a0.ZE.length : Int) 1 6))) || ((↑a0.ZG.length : Int) != (↑a0.ZE.length : Int))) then false else (match JA a0 (a0.ZE.length + 1) 0 with | .inl r1 => r1 | .inr _ => true))
def J7 (a0 : List UInt8) : Nat → List Int → Nat → (List Int)
  | 0, _, _ => default
  | n1 + 1, v1_0, v1_1 => (bif (decide ((↑v1_1 : Int) < (↑a0.length : Int))) then J7 a0 n1 (v1_0 ++ ([(W (↑(nth a0 v1_1).toNat : Int))] : List Int)) (v1_1 + 1) else (v1_0))
def z3 (a0 : List UInt8) : List Int := (match J7 a0 (a0.length + 1) ([] : List Int) 0 with | z1_0 => z1_0)
def zn (a0 : Int) (a1 : ByteArray) (a2 : Int) : Int := (Q8 a0 (([a2] : List Int) ++ (z3 a1.data.toList)))
def Ki (a0 : Int) (a1 : ZT) : Nat → List Int → Nat → (List Int)
  | 0, _, _ => default
  | n1 + 1, v1_0, v1_1 => (bif (decide ((↑v1_1 : Int) < (↑a1.ZE.length : Int))) then Ki a0 a1 n1 (v1_0 ++ ([(zn a0 (nth a1.ZE v1_1) (nth a1.ZG v1_1))] : List Int)) (v1_1 + 1) else (v1_0))
def Xd (a0 : Int) (a1 : ZT) : Int := (bif (!(Jj a1)) then (-1) else (match Ki a0 a1 (a1.ZE.length + 1) ([a1.Ka] : List Int) 0 with | z1_0 => (Q8 a0 z1_0)))
def JF (a0 : Int) (a1 : List ZO) : Nat → List Int → Nat → (List Int)
  | 0, _, _ => default
  | n1 + 1, v1_0, v1_1 => (bif (decide ((↑v1_1 : Int) < (↑a1.length : Int))) then JF a0 a1 n1 (v1_0 ++ ([(Q8 a0 (([(nth a1 v1_1).Key, (nth a1 v1_1).Mark] : List Int) ++ (nth a1 v1_1).Ye))] : List Int)) (v1_1 + 1) else (v1_0))
def JK (a0 : Int) (a1 : List ZO) : Int := (match JF a0 a1 (a1.length + 1) ([2] : List Int) 0 with | z1_0 => (Q8 a0 z1_0))
def jK (a0 : Int) (a1 : Int) (a2 : List ZO) (a3 : Int) : Int := (Q8 a0 ([3, a1, (JK a0 a2), a3] : List Int))
def Yy (a0 : Zb) (a1 : Int) : Int := (bif (decide ((↑a0.ZK.ZV.length : Int) > 0)) then (jK a1 (Xd a1 a0.Doc) a0.ZK.ZR (Qe a1 (nth a0.ZK.ZV (a0.ZK.ZV.length - 1)))) else (jK a1 (Xd a1 a0.Doc) a0.ZK.ZR 0))
def Xy (a0 : List ZI) (a1 : Int) : Nat → Nat → Sum Int Unit
  | 0, _ => .inr ()
  | n1 + 1, v1_0 => (bif (decide ((↑v1_0 : Int) < (↑a0.length : Int))) then (bif ((nth a0 v1_0).Id == a1) then (.inl (↑v1_0 : Int)) else Xy a0 a1 n1 (v1_0 + 1)) else (.inr ()))
def Yo (a0 : List ZI) (a1 : Int) : Int := (match Xy a0 a1 (a0.length + 1) 0 with | .inl r1 => r1 | .inr _ => (-1))
def US (a0 : Int) : Bool := (YZ a0 0 10000)
def yr (a0 : Int) (a1 : List Int) : Int := (U8 ((([a0] : List Int) ++ a1) ++ ([a0] : List Int)))
def qG (a0 : YD) (a1 : List Int) : Int := (yr a0.Kb (([a0.Method] : List Int) ++ a1))
def jb (a0 : List YD) (a1 : Int) (a2 : List Int) : Int × Bool := (bif (decide ((XK a0 a1) < 0)) then (0, false) else ((qG (nth a0 (XK a0 a1).toNat) a2), true))
def JX (a0 : List YD) (a1 : List ZI) (a2 : ZX) : ZX × Bool := (bif (((decide ((Yo a1 a2.Authority) < 0)) || (decide (a2.Seq < 0))) || (!(US a2.Time))) then ((ZX.mk 0 0 0 0 0), false) else (bif (!(jb a0 (nth a1 (Yo a1 a2.Authority).toNat).Key (Xs a2)).2) then ((ZX.mk 0 0 0 0 0), false) else ((ZX.mk a2.Authority a2.Seq a2.Time a2.YY (jb a0 (nth a1 (Yo a1 a2.Authority).toNat).Key (Xs a2)).1), true)))
def yi (a0 : List Int) (a1 : List Int) : Nat → Nat → Sum Bool Unit
  | 0, _ => .inr ()
  | n1 + 1, v1_0 => (bif (decide ((↑v1_0 : Int) < (↑a0.length : Int))) then (bif ((nth a0 v1_0) != (nth a1 v1_0)) then (.inl false) else yi a0 a1 n1 (v1_0 + 1)) else (.inr ()))
def qf (a0 : List Int) (a1 : List Int) : Bool := (bif ((↑a0.length : Int) != (↑a1.length : Int)) then false else (match yi a0 a1 (a0.length + 1) 0 with | .inl r1 => r1 | .inr _ => true))
def Kh (a0 : ZO) (a1 : ZO) : Bool := (((a0.Key == a1.Key) && (a0.Mark == a1.Mark)) && (qf a0.Ye a1.Ye))
def xb (a0 : List ZO) (a1 : ZO) : Nat → Nat → Sum Bool Unit
  | 0, _ => .inr ()
  | n1 + 1, v1_0 => (bif (decide ((↑v1_0 : Int) < (↑a0.length : Int))) then (bif (Kh (nth a0 v1_0) a1) then (.inl true) else xb a0 a1 n1 (v1_0 + 1)) else (.inr ()))
def xz (a0 : List ZO) (a1 : ZO) : Bool := (match xb a0 a1 (a0.length + 1) 0 with | .inl r1 => r1 | .inr _ => false)
def ze (a0 : ZY) : Nat → Nat → Sum Bool Unit
  | 0, _ => .inr ()
  | n2 + 1, v2_0 => (bif (decide ((↑v2_0 : Int) < (↑a0.ZV.length : Int))) then (bif ((!(YZ (nth a0.ZV v2_0).Count 1 (↑a0.ZR.length : Int))) || ((decide ((↑v2_0 : Int) > 0)) && (decide ((nth a0.ZV v2_0).Count < (nth a0.ZV (v2_0 - 1)).Count)))) then (.inl false) else ze a0 n2 (v2_0 + 1)) else (.inr ()))
def zQ (a0 : ZY) : Nat → Nat → Sum Bool Unit
  | 0, _ => .inr ()
  | n1 + 1, v1_0 => (bif (decide ((↑v1_0 : Int) < (↑a0.ZR.length : Int))) then (bif (xz (a0.ZR.take v1_0) (nth a0.ZR v1_0)) then (.inl false) else zQ a0 n1 (v1_0 + 1)) else (.inr ()))
def qD (a0 : ZY) : Bool := (bif ((!(YZ (↑a0.ZR.length : Int) 1 12)) || (decide ((↑a0.ZV.length : Int) > 8))) then false else (match zQ a0 (a0.ZR.length + 1) 0 with | .inl r1 => r1 | .inr _ => (match ze a0 (a0.ZV.length + 1) 0 with | .inl r2 => r2 | .inr _ => true)))
def XE (a0 : ZY) (a1 : ZF) : ZY × Bool := (bif (!(qD (ZY.mk a0.ZR (a0.ZV ++ ([a1] : List ZF))))) then (a0, false) else ((ZY.mk a0.ZR (a0.ZV ++ ([a1] : List ZF))), true))
def Y4 (a0 : Zc) (a1 : Int) (a2 : Int) : Nat → Nat → List ZX → Sum (Zc × Bool) (List ZX)
  | 0, _, _ => .inr default
  | n1 + 1, v1_0, v1_1 => (bif (decide ((↑v1_0 : Int) < (↑(Zo a0).length : Int))) then (bif (!(JX a0.Frame.YR a0.Frame.ZL (ZX.mk (nth (Zo a0) v1_0) 0 a2 (Yy (nth (nth a0.ZC (ZN a0 a1).1.toNat).ZS (ZN a0 a1).2.toNat) (Zz a0.Frame.Methods a0.Frame.Now)) 0)).2) then (.inl (a0, false)) else Y4 a0 a1 a2 n1 (v1_0 + 1) (v1_1 ++ ([(JX a0.Frame.YR a0.Frame.ZL (ZX.mk (nth (Zo a0) v1_0) 0 a2 (Yy (nth (nth a0.ZC (ZN a0 a1).1.toNat).ZS (ZN a0 a1).2.toNat) (Zz a0.Frame.Methods a0.Frame.Now)) 0)).1] : List ZX))) else (.inr v1_1))
def Zg (a0 : Zc) (a1 : Int) (a2 : Int) : Zc × Bool := (bif ((((!(xq a0.YT a1)) || (decide ((ZN a0 a1).1 < 0))) || (decide ((Zz a0.Frame.Methods a0.Frame.Now) < 0))) || ((↑(Zo a0).length : Int) == 0)) then (a0, false) else (match Y4 a0 a1 a2 ((Zo a0).length + 1) 0 ([] : List ZX) with | .inl r1 => r1 | .inr z1_0 => ((Zc.mk a0.Frame a0.Zx a0.Z5 (a0.ZC.set (ZN a0 a1).1.toNat (ZH.mk (nth a0.ZC (ZN a0 a1).1.toNat).Id ((nth a0.ZC (ZN a0 a1).1.toNat).ZS.set (ZN a0 a1).2.toNat (Zb.mk (nth (nth a0.ZC (ZN a0 a1).1.toNat).ZS (ZN a0 a1).2.toNat).Id (nth (nth a0.ZC (ZN a0 a1).1.toNat).ZS (ZN a0 a1).2.toNat).Yk (nth (nth a0.ZC (ZN a0 a1).1.toNat).ZS (ZN a0 a1).2.toNat).Doc (nth (nth a0.ZC (ZN a0 a1).1.toNat).ZS (ZN a0 a1).2.toNat).Sig (XE (nth (nth a0.ZC (ZN a0 a1).1.toNat).ZS (ZN a0 a1).2.toNat).ZK (ZF.mk (↑(nth (nth a0.ZC (ZN a0 a1).1.toNat).ZS (ZN a0 a1).2.toNat).ZK.ZR.length : Int) (Zz a0.Frame.Methods a0.Frame.Now) (Yy (nth (nth a0.ZC (ZN a0 a1).1.toNat).ZS (ZN a0 a1).2.toNat) (Zz a0.Frame.Methods a0.Frame.Now)) ([] : List Zq) z1_0)).1)))) a0.Yz a0.YX a0.Next a0.YT), (XE (nth (nth a0.ZC (ZN a0 a1).1.toNat).ZS (ZN a0 a1).2.toNat).ZK (ZF.mk (↑(nth (nth a0.ZC (ZN a0 a1).1.toNat).ZS (ZN a0 a1).2.toNat).ZK.ZR.length : Int) (Zz a0.Frame.Methods a0.Frame.Now) (Yy (nth (nth a0.ZC (ZN a0 a1).1.toNat).ZS (ZN a0 a1).2.toNat) (Zz a0.Frame.Methods a0.Frame.Now)) ([] : List Zq) z1_0)).2)))
def Wa (a0 : YD) (a1 : YD) : Bool := (bif (a0.Number != a1.Number) then false else (bif (a0.K8 != a1.K8) then false else (bif (a0.Method != a1.Method) then false else (bif (a0.RY != a1.RY) then false else (bif (a0.Kb != a1.Kb) then false else true)))))
def kG (a0 : List YD) (a1 : List YD) : Nat → Nat → Sum Bool Unit
  | 0, _ => .inr ()
  | n1 + 1, v1_0 => (bif (decide ((↑v1_0 : Int) < (↑a0.length : Int))) then (bif (!(Wa (nth a0 v1_0) (nth a1 v1_0))) then (.inl false) else kG a0 a1 n1 (v1_0 + 1)) else (.inr ()))
def WH (a0 : List YD) (a1 : List YD) : Bool := (bif ((↑a0.length : Int) != (↑a1.length : Int)) then false else (match kG a0 a1 (a0.length + 1) 0 with | .inl r1 => r1 | .inr _ => true))
def Ju (a0 : ZI) (a1 : ZI) : Bool := (bif (a0.Id != a1.Id) then false else (bif (a0.Key != a1.Key) then false else (bif (a0.Error != a1.Error) then false else true)))
def KR (a0 : List ZI) (a1 : List ZI) : Nat → Nat → Sum Bool Unit
  | 0, _ => .inr ()
  | n1 + 1, v1_0 => (bif (decide ((↑v1_0 : Int) < (↑a0.length : Int))) then (bif (!(Ju (nth a0 v1_0) (nth a1 v1_0))) then (.inl false) else KR a0 a1 n1 (v1_0 + 1)) else (.inr ()))
def J6 (a0 : List ZI) (a1 : List ZI) : Bool := (bif ((↑a0.length : Int) != (↑a1.length : Int)) then false else (match KR a0 a1 (a0.length + 1) 0 with | .inl r1 => r1 | .inr _ => true))
def z9 (a0 : ZU) (a1 : ZU) : Bool := (bif (a0.Id != a1.Id) then false else (bif (a0.kr != a1.kr) then false else (bif (a0.Ends != a1.Ends) then false else (bif (a0.yN != a1.yN) then false else true))))
def yQ (a0 : List ZU) (a1 : List ZU) : Nat → Nat → Sum Bool Unit
  | 0, _ => .inr ()
  | n1 + 1, v1_0 => (bif (decide ((↑v1_0 : Int) < (↑a0.length : Int))) then (bif (!(z9 (nth a0 v1_0) (nth a1 v1_0))) then (.inl false) else yQ a0 a1 n1 (v1_0 + 1)) else (.inr ()))
def yw (a0 : List ZU) (a1 : List ZU) : Bool := (bif ((↑a0.length : Int) != (↑a1.length : Int)) then false else (match yQ a0 a1 (a0.length + 1) 0 with | .inl r1 => r1 | .inr _ => true))
def jM (a0 : Z4) (a1 : Z4) : Bool := (bif (!(WH a0.YR a1.YR)) then false else (bif (!(J6 a0.ZL a1.ZL)) then false else (bif (!(yw a0.Methods a1.Methods)) then false else (bif (a0.zu != a1.zu) then false else (bif (a0.Now != a1.Now) then false else true)))))
def jQ (a0 : Z0) (a1 : Z0) : Bool := (bif (a0.QO != a1.QO) then false else (bif (a0.Key != a1.Key) then false else (bif (a0.K8 != a1.K8) then false else (bif (a0.xQ != a1.xQ) then false else (bif (a0.To != a1.To) then false else (bif (a0.J9 != a1.J9) then false else (bif (a0.Mark != a1.Mark) then false else true)))))))
def qY (a0 : List Z0) (a1 : List Z0) : Nat → Nat → Sum Bool Unit
  | 0, _ => .inr ()
  | n1 + 1, v1_0 => (bif (decide ((↑v1_0 : Int) < (↑a0.length : Int))) then (bif (!(jQ (nth a0 v1_0) (nth a1 v1_0))) then (.inl false) else qY a0 a1 n1 (v1_0 + 1)) else (.inr ()))
def jR (a0 : List Z0) (a1 : List Z0) : Bool := (bif ((↑a0.length : Int) != (↑a1.length : Int)) then false else (match qY a0 a1 (a0.length + 1) 0 with | .inl r1 => r1 | .inr _ => true))
def j3 (a0 : List Int) (a1 : List Int) : Nat → Nat → Sum Bool Unit
  | 0, _ => .inr ()
  | n1 + 1, v1_0 => (bif (decide ((↑v1_0 : Int) < (↑a0.length : Int))) then (bif ((nth a0 v1_0) != (nth a1 v1_0)) then (.inl false) else j3 a0 a1 n1 (v1_0 + 1)) else (.inr ()))
def Kj (a0 : List Int) (a1 : List Int) : Bool := (bif ((↑a0.length : Int) != (↑a1.length : Int)) then false else (match j3 a0 a1 (a0.length + 1) 0 with | .inl r1 => r1 | .inr _ => true))
def yV (a0 : List ByteArray) (a1 : List ByteArray) : Nat → Nat → Sum Bool Unit
  | 0, _ => .inr ()
  | n1 + 1, v1_0 => (bif (decide ((↑v1_0 : Int) < (↑a0.length : Int))) then (bif (!decide ((nth a0 v1_0) = (nth a1 v1_0))) then (.inl false) else yV a0 a1 n1 (v1_0 + 1)) else (.inr ()))
def yx (a0 : List ByteArray) (a1 : List ByteArray) : Bool := (bif ((↑a0.length : Int) != (↑a1.length : Int)) then false else (match yV a0 a1 (a0.length + 1) 0 with | .inl r1 => r1 | .inr _ => true))
def zX (a0 : ZT) (a1 : ZT) : Bool := (bif (a0.Ka != a1.Ka) then false else (bif (!(yx a0.ZE a1.ZE)) then false else (bif (!(Kj a0.ZG a1.ZG)) then false else true)))
def Kn (a0 : Zm) (a1 : Zm) : Bool := (bif (a0.Key != a1.Key) then false else (bif (a0.QO != a1.QO) then false else (bif (a0.Method != a1.Method) then false else (bif (a0.YY != a1.YY) then false else (bif (a0.yB != a1.yB) then false else (bif (a0.Org != a1.Org) then false else (bif (a0.Ky != a1.Ky) then false else (bif (a0.xG != a1.xG) then false else (bif (a0.Mark != a1.Mark) then false else true)))))))))
def xd (a0 : ZO) (a1 : ZO) : Bool := (bif (a0.Key != a1.Key) then false else (bif (!(Kj a0.Ye a1.Ye)) then false else (bif (a0.Mark != a1.Mark) then false else true)))
def xU (a0 : List ZO) (a1 : List ZO) : Nat → Nat → Sum Bool Unit
  | 0, _ => .inr ()
  | n1 + 1, v1_0 => (bif (decide ((↑v1_0 : Int) < (↑a0.length : Int))) then (bif (!(xd (nth a0 v1_0) (nth a1 v1_0))) then (.inl false) else xU a0 a1 n1 (v1_0 + 1)) else (.inr ()))
def xu (a0 : List ZO) (a1 : List ZO) : Bool := (bif ((↑a0.length : Int) != (↑a1.length : Int)) then false else (match xU a0 a1 (a0.length + 1) 0 with | .inl r1 => r1 | .inr _ => true))
def ja (a0 : Zq) (a1 : Zq) : Bool := (bif (a0.YY != a1.YY) then false else (bif (!(a0.Left == a1.Left)) then false else true))
def qU (a0 : List Zq) (a1 : List Zq) : Nat → Nat → Sum Bool Unit
  | 0, _ => .inr ()
  | n1 + 1, v1_0 => (bif (decide ((↑v1_0 : Int) < (↑a0.length : Int))) then (bif (!(ja (nth a0 v1_0) (nth a1 v1_0))) then (.inl false) else qU a0 a1 n1 (v1_0 + 1)) else (.inr ()))
def jS (a0 : List Zq) (a1 : List Zq) : Bool := (bif ((↑a0.length : Int) != (↑a1.length : Int)) then false else (match qU a0 a1 (a0.length + 1) 0 with | .inl r1 => r1 | .inr _ => true))
def xe (a0 : ZX) (a1 : ZX) : Bool := (bif (a0.Authority != a1.Authority) then false else (bif (a0.Seq != a1.Seq) then false else (bif (a0.Time != a1.Time) then false else (bif (a0.YY != a1.YY) then false else (bif (a0.Mark != a1.Mark) then false else true)))))
def xW (a0 : List ZX) (a1 : List ZX) : Nat → Nat → Sum Bool Unit
  | 0, _ => .inr ()
  | n1 + 1, v1_0 => (bif (decide ((↑v1_0 : Int) < (↑a0.length : Int))) then (bif (!(xe (nth a0 v1_0) (nth a1 v1_0))) then (.inl false) else xW a0 a1 n1 (v1_0 + 1)) else (.inr ()))
def xl (a0 : List ZX) (a1 : List ZX) : Bool := (bif ((↑a0.length : Int) != (↑a1.length : Int)) then false else (match xW a0 a1 (a0.length + 1) 0 with | .inl r1 => r1 | .inr _ => true))
def zE (a0 : ZF) (a1 : ZF) : Bool := (bif (a0.Count != a1.Count) then false else (bif (a0.Method != a1.Method) then false else (bif (a0.V4 != a1.V4) then false else (bif (!(jS a0.Path a1.Path)) then false else (bif (!(xl a0.Zv a1.Zv)) then false else true)))))
def zU (a0 : List ZF) (a1 : List ZF) : Nat → Nat → Sum Bool Unit
  | 0, _ => .inr ()
  | n1 + 1, v1_0 => (bif (decide ((↑v1_0 : Int) < (↑a0.length : Int))) then (bif (!(zE (nth a0 v1_0) (nth a1 v1_0))) then (.inl false) else zU a0 a1 n1 (v1_0 + 1)) else (.inr ()))
def zj (a0 : List ZF) (a1 : List ZF) : Bool := (bif ((↑a0.length : Int) != (↑a1.length : Int)) then false else (match zU a0 a1 (a0.length + 1) 0 with | .inl r1 => r1 | .inr _ => true))
def xo (a0 : ZY) (a1 : ZY) : Bool := (bif (!(xu a0.ZR a1.ZR)) then false else (bif (!(zj a0.ZV a1.ZV)) then false else true))
def jW (a0 : Zb) (a1 : Zb) : Bool := (bif (a0.Id != a1.Id) then false else (bif (a0.Yk != a1.Yk) then false else (bif (!(zX a0.Doc a1.Doc)) then false else (bif (!(Kn a0.Sig a1.Sig)) then false else (bif (!(xo a0.ZK a1.ZK)) then false else true)))))
def qP (a0 : List Zb) (a1 : List Zb) : Nat → Nat → Sum Bool Unit
  | 0, _ => .inr ()
  | n1 + 1, v1_0 => (bif (decide ((↑v1_0 : Int) < (↑a0.length : Int))) then (bif (!(jW (nth a0 v1_0) (nth a1 v1_0))) then (.inl false) else qP a0 a1 n1 (v1_0 + 1)) else (.inr ()))
def jI (a0 : List Zb) (a1 : List Zb) : Bool := (bif ((↑a0.length : Int) != (↑a1.length : Int)) then false else (match qP a0 a1 (a0.length + 1) 0 with | .inl r1 => r1 | .inr _ => true))
def zF (a0 : ZH) (a1 : ZH) : Bool := (bif (a0.Id != a1.Id) then false else (bif (!(jI a0.ZS a1.ZS)) then false else true))
def zg (a0 : List ZH) (a1 : List ZH) : Nat → Nat → Sum Bool Unit
  | 0, _ => .inr ()
  | n1 + 1, v1_0 => (bif (decide ((↑v1_0 : Int) < (↑a0.length : Int))) then (bif (!(zF (nth a0 v1_0) (nth a1 v1_0))) then (.inl false) else zg a0 a1 n1 (v1_0 + 1)) else (.inr ()))
def zs (a0 : List ZH) (a1 : List ZH) : Bool := (bif ((↑a0.length : Int) != (↑a1.length : Int)) then false else (match zg a0 a1 (a0.length + 1) 0 with | .inl r1 => r1 | .inr _ => true))
def zC (a0 : Zc) (a1 : Zc) : Bool := (bif (!(jM a0.Frame a1.Frame)) then false else (bif (!(jR a0.Zx a1.Zx)) then false else (bif (!(Kj a0.Z5 a1.Z5)) then false else (bif (!(zs a0.ZC a1.ZC)) then false else (bif (!(Kj a0.Yz a1.Yz)) then false else (bif (!(Kj a0.YX a1.YX)) then false else (bif (a0.Next != a1.Next) then false else (bif (!(Kj a0.YT a1.YT)) then false else true))))))))
def Ql : Nat → Int → Nat → List YD → Int × (List YD)
  | 0, _, _, _ => (default, default)
  | n1 + 1, v1_0, v1_1, v1_2 => (bif (decide ((↑v1_1 : Int) < (↑v1_2.length : Int))) then Ql n1 (W ((W ((W ((W ((W (v1_0 + 1)) + 1)) + 1)) + 1)) + 1)) (v1_1 + 1) (v1_2.set v1_1 (YD.mk v1_0 (W (v1_0 + 1)) (W ((W (v1_0 + 1)) + 1)) (W ((W ((W (v1_0 + 1)) + 1)) + 1)) (W ((W ((W ((W (v1_0 + 1)) + 1)) + 1)) + 1)))) else ((v1_0, v1_2)))
def YS (a0 : List YD) (a1 : Int) : (List YD) × Int := (match Ql (a0.length + 1) a1 0 a0 with | (z1_0, z1_1) => (z1_1, z1_0))
def Y3 : Nat → Int → Nat → List ZI → Int × (List ZI)
  | 0, _, _, _ => (default, default)
  | n1 + 1, v1_0, v1_1, v1_2 => (bif (decide ((↑v1_1 : Int) < (↑v1_2.length : Int))) then Y3 n1 (W ((W ((W (v1_0 + 1)) + 1)) + 1)) (v1_1 + 1) (v1_2.set v1_1 (ZI.mk v1_0 (W (v1_0 + 1)) (W ((W (v1_0 + 1)) + 1)))) else ((v1_0, v1_2)))
def YB (a0 : List ZI) (a1 : Int) : (List ZI) × Int := (match Y3 (a0.length + 1) a1 0 a0 with | (z1_0, z1_1) => (z1_1, z1_0))
def Xa : Nat → Int → Nat → List ZU → Int × (List ZU)
  | 0, _, _, _ => (default, default)
  | n1 + 1, v1_0, v1_1, v1_2 => (bif (decide ((↑v1_1 : Int) < (↑v1_2.length : Int))) then Xa n1 (W ((W ((W ((W (v1_0 + 1)) + 1)) + 1)) + 1)) (v1_1 + 1) (v1_2.set v1_1 (ZU.mk v1_0 (W (v1_0 + 1)) (W ((W (v1_0 + 1)) + 1)) (W ((W ((W (v1_0 + 1)) + 1)) + 1)))) else ((v1_0, v1_2)))
def Yl (a0 : List ZU) (a1 : Int) : (List ZU) × Int := (match Xa (a0.length + 1) a1 0 a0 with | (z1_0, z1_1) => (z1_1, z1_0))
def Zh (a0 : Z4) (a1 : Int) : Z4 × Int := ((Z4.mk (YS a0.YR a1).1 (YB a0.ZL (YS a0.YR a1).2).1 (Yl a0.Methods (YB a0.ZL (YS a0.YR a1).2).2).1 a0.zu a0.Now), (Yl a0.Methods (YB a0.ZL (YS a0.YR a1).2).2).2)
def QG : Nat → Int → Nat → List Z0 → Int × (List Z0)
  | 0, _, _, _ => (default, default)
  | n1 + 1, v1_0, v1_1, v1_2 => (bif (decide ((↑v1_1 : Int) < (↑v1_2.length : Int))) then QG n1 (W ((W ((W ((W ((W ((W ((W (v1_0 + 1)) + 1)) + 1)) + 1)) + 1)) + 1)) + 1)) (v1_1 + 1) (v1_2.set v1_1 (Z0.mk v1_0 (W (v1_0 + 1)) (W ((W (v1_0 + 1)) + 1)) (W ((W ((W (v1_0 + 1)) + 1)) + 1)) (W ((W ((W ((W (v1_0 + 1)) + 1)) + 1)) + 1)) (W ((W ((W ((W ((W (v1_0 + 1)) + 1)) + 1)) + 1)) + 1)) (W ((W ((W ((W ((W ((W (v1_0 + 1)) + 1)) + 1)) + 1)) + 1)) + 1)))) else ((v1_0, v1_2)))
def Zt (a0 : List Z0) (a1 : Int) : (List Z0) × Int := (match QG (a0.length + 1) a1 0 a0 with | (z1_0, z1_1) => (z1_1, z1_0))
def Qi : Nat → Int → Nat → List Int → Int × (List Int)
  | 0, _, _, _ => (default, default)
  | n1 + 1, v1_0, v1_1, v1_2 => (bif (decide ((↑v1_1 : Int) < (↑v1_2.length : Int))) then Qi n1 (W (v1_0 + 1)) (v1_1 + 1) (v1_2.set v1_1 v1_0) else ((v1_0, v1_2)))
def ZB (a0 : List Int) (a1 : Int) : (List Int) × Int := (match Qi (a0.length + 1) a1 0 a0 with | (z1_0, z1_1) => (z1_1, z1_0))
def j4 : Nat → Int → ByteArray → ByteArray
  | 0, _, _ => default
  | n1 + 1, v1_0, v1_1 => (bif (decide (v1_0 > 0)) then j4 n1 (W (Int.tdiv v1_0 10)) ((⟨([(UInt8.ofInt (W (48 + (Int.tmod v1_0 10))))] : List UInt8).toArray⟩ : ByteArray) ++ v1_1) else (v1_1))
def Y5 (a0 : Int) : ByteArray := (bif (decide (a0 ≤ 0)) then (⟨#[109, 48]⟩ : ByteArray) else (match j4 22 a0 (⟨#[]⟩ : ByteArray) with | z1_0 => ((⟨#[109]⟩ : ByteArray) ++ z1_0)))
def Xb : Nat → Int → Nat → List ByteArray → Int × (List ByteArray)
  | 0, _, _, _ => (default, default)
  | n1 + 1, v1_0, v1_1, v1_2 => (bif (decide ((↑v1_1 : Int) < (↑v1_2.length : Int))) then Xb n1 (W (v1_0 + 1)) (v1_1 + 1) (v1_2.set v1_1 (Y5 v1_0)) else ((v1_0, v1_2)))
def ZA (a0 : List ByteArray) (a1 : Int) : (List ByteArray) × Int := (match Xb (a0.length + 1) a1 0 a0 with | (z1_0, z1_1) => (z1_1, z1_0))
def Xo : Nat → Int → Nat → List ZO → Int × (List ZO)
  | 0, _, _, _ => (default, default)
  | n1 + 1, v1_0, v1_1, v1_2 => (bif (decide ((↑v1_1 : Int) < (↑v1_2.length : Int))) then Xo n1 (W ((ZB (nth v1_2 v1_1).Ye (W (v1_0 + 1))).2 + 1)) (v1_1 + 1) (v1_2.set v1_1 (ZO.mk v1_0 (ZB (nth v1_2 v1_1).Ye (W (v1_0 + 1))).1 (ZB (nth v1_2 v1_1).Ye (W (v1_0 + 1))).2)) else ((v1_0, v1_2)))
def Zd (a0 : List ZO) (a1 : Int) : (List ZO) × Int := (match Xo (a0.length + 1) a1 0 a0 with | (z1_0, z1_1) => (z1_1, z1_0))
def QC : Nat → Int → Nat → List Zq → Int × (List Zq)
  | 0, _, _, _ => (default, default)
  | n1 + 1, v1_0, v1_1, v1_2 => (bif (decide ((↑v1_1 : Int) < (↑v1_2.length : Int))) then QC n1 (W ((W (v1_0 + 1)) + 1)) (v1_1 + 1) (v1_2.set v1_1 (Zq.mk v1_0 ((Int.tmod (W (v1_0 + 1)) 3) == 0))) else ((v1_0, v1_2)))
def Zf (a0 : List Zq) (a1 : Int) : (List Zq) × Int := (match QC (a0.length + 1) a1 0 a0 with | (z1_0, z1_1) => (z1_1, z1_0))
def Xt : Nat → Int → Nat → List ZX → Int × (List ZX)
  | 0, _, _, _ => (default, default)
  | n1 + 1, v1_0, v1_1, v1_2 => (bif (decide ((↑v1_1 : Int) < (↑v1_2.length : Int))) then Xt n1 (W ((W ((W ((W ((W (v1_0 + 1)) + 1)) + 1)) + 1)) + 1)) (v1_1 + 1) (v1_2.set v1_1 (ZX.mk v1_0 (W (v1_0 + 1)) (W ((W (v1_0 + 1)) + 1)) (W ((W ((W (v1_0 + 1)) + 1)) + 1)) (W ((W ((W ((W (v1_0 + 1)) + 1)) + 1)) + 1)))) else ((v1_0, v1_2)))
def Zr (a0 : List ZX) (a1 : Int) : (List ZX) × Int := (match Xt (a0.length + 1) a1 0 a0 with | (z1_0, z1_1) => (z1_1, z1_0))
def XN : Nat → Int → Nat → List ZF → Int × (List ZF)
  | 0, _, _, _ => (default, default)
  | n1 + 1, v1_0, v1_1, v1_2 => (bif (decide ((↑v1_1 : Int) < (↑v1_2.length : Int))) then XN n1 (Zr (nth v1_2 v1_1).Zv (Zf (nth v1_2 v1_1).Path (W ((W ((W (v1_0 + 1)) + 1)) + 1))).2).2 (v1_1 + 1) (v1_2.set v1_1 (ZF.mk v1_0 (W (v1_0 + 1)) (W ((W (v1_0 + 1)) + 1)) (Zf (nth v1_2 v1_1).Path (W ((W ((W (v1_0 + 1)) + 1)) + 1))).1 (Zr (nth v1_2 v1_1).Zv (Zf (nth v1_2 v1_1).Path (W ((W ((W (v1_0 + 1)) + 1)) + 1))).2).1)) else ((v1_0, v1_2)))
def Zi (a0 : List ZF) (a1 : Int) : (List ZF) × Int := (match XN (a0.length + 1) a1 0 a0 with | (z1_0, z1_1) => (z1_1, z1_0))
def QA : Nat → Int → Nat → List Zb → Int × (List Zb)
  | 0, _, _, _ => (default, default)
  | n1 + 1, v1_0, v1_1, v1_2 => (bif (decide ((↑v1_1 : Int) < (↑v1_2.length : Int))) then QA n1 (Zi (nth v1_2 v1_1).ZK.ZV (Zd (nth v1_2 v1_1).ZK.ZR (W ((W ((W ((W ((W ((W ((W ((W ((W ((ZB (nth v1_2 v1_1).Doc.ZG (ZA (nth v1_2 v1_1).Doc.ZE (W ((W ((W (v1_0 + 1)) + 1)) + 1))).2).2 + 1)) + 1)) + 1)) + 1)) + 1)) + 1)) + 1)) + 1)) + 1))).2).2 (v1_1 + 1) (v1_2.set v1_1 (Zb.mk v1_0 (W (v1_0 + 1)) (ZT.mk (W ((W (v1_0 + 1)) + 1)) (ZA (nth v1_2 v1_1).Doc.ZE (W ((W ((W (v1_0 + 1)) + 1)) + 1))).1 (ZB (nth v1_2 v1_1).Doc.ZG (ZA (nth v1_2 v1_1).Doc.ZE (W ((W ((W (v1_0 + 1)) + 1)) + 1))).2).1) (Zm.mk (ZB (nth v1_2 v1_1).Doc.ZG (ZA (nth v1_2 v1_1).Doc.ZE (W ((W ((W (v1_0 + 1)) + 1)) + 1))).2).2 (W ((ZB (nth v1_2 v1_1).Doc.ZG (ZA (nth v1_2 v1_1).Doc.ZE (W ((W ((W (v1_0 + 1)) + 1)) + 1))).2).2 + 1)) (W ((W ((ZB (nth v1_2 v1_1).Doc.ZG (ZA (nth v1_2 v1_1).Doc.ZE (W ((W ((W (v1_0 + 1)) + 1)) + 1))).2).2 + 1)) + 1)) (W ((W ((W ((ZB (nth v1_2 v1_1).Doc.ZG (ZA (nth v1_2 v1_1).Doc.ZE (W ((W ((W (v1_0 + 1)) + 1)) + 1))).2).2 + 1)) + 1)) + 1)) (W ((W ((W ((W ((ZB (nth v1_2 v1_1).Doc.ZG (ZA (nth v1_2 v1_1).Doc.ZE (W ((W ((W (v1_0 + 1)) + 1)) + 1))).2).2 + 1)) + 1)) + 1)) + 1)) (W ((W ((W ((W ((W ((ZB (nth v1_2 v1_1).Doc.ZG (ZA (nth v1_2 v1_1).Doc.ZE (W ((W ((W (v1_0 + 1)) + 1)) + 1))).2).2 + 1)) + 1)) + 1)) + 1)) + 1)) (W ((W ((W ((W ((W ((W ((ZB (nth v1_2 v1_1).Doc.ZG (ZA (nth v1_2 v1_1).Doc.ZE (W ((W ((W (v1_0 + 1)) + 1)) + 1))).2).2 + 1)) + 1)) + 1)) + 1)) + 1)) + 1)) (W ((W ((W ((W ((W ((W ((W ((ZB (nth v1_2 v1_1).Doc.ZG (ZA (nth v1_2 v1_1).Doc.ZE (W ((W ((W (v1_0 + 1)) + 1)) + 1))).2).2 + 1)) + 1)) + 1)) + 1)) + 1)) + 1)) + 1)) (W ((W ((W ((W ((W ((W ((W ((W ((ZB (nth v1_2 v1_1).Doc.ZG (ZA (nth v1_2 v1_1).Doc.ZE (W ((W ((W (v1_0 + 1)) + 1)) + 1))).2).2 + 1)) + 1)) + 1)) + 1)) + 1)) + 1)) + 1)) + 1))) (ZY.mk (Zd (nth v1_2 v1_1).ZK.ZR (W ((W ((W ((W ((W ((W ((W ((W ((W ((ZB (nth v1_2 v1_1).Doc.ZG (ZA (nth v1_2 v1_1).Doc.ZE (W ((W ((W (v1_0 + 1)) + 1)) + 1))).2).2 + 1)) + 1)) + 1)) + 1)) + 1)) + 1)) + 1)) + 1)) + 1))).1 (Zi (nth v1_2 v1_1).ZK.ZV (Zd (nth v1_2 v1_1).ZK.ZR (W ((W ((W ((W ((W ((W ((W ((W ((W ((ZB (nth v1_2 v1_1).Doc.ZG (ZA (nth v1_2 v1_1).Doc.ZE (W ((W ((W (v1_0 + 1)) + 1)) + 1))).2).2 + 1)) + 1)) + 1)) + 1)) + 1)) + 1)) + 1)) + 1)) + 1))).2).1))) else ((v1_0, v1_2)))
def Zy (a0 : List Zb) (a1 : Int) : (List Zb) × Int := (match QA (a0.length + 1) a1 0 a0 with | (z1_0, z1_1) => (z1_1, z1_0))
def XJ : Nat → Int → Nat → List ZH → Int × (List ZH)
  | 0, _, _, _ => (default, default)
  | n1 + 1, v1_0, v1_1, v1_2 => (bif (decide ((↑v1_1 : Int) < (↑v1_2.length : Int))) then XJ n1 (Zy (nth v1_2 v1_1).ZS (W (v1_0 + 1))).2 (v1_1 + 1) (v1_2.set v1_1 (ZH.mk v1_0 (Zy (nth v1_2 v1_1).ZS (W (v1_0 + 1))).1)) else ((v1_0, v1_2)))
def Zu (a0 : List ZH) (a1 : Int) : (List ZH) × Int := (match XJ (a0.length + 1) a1 0 a0 with | (z1_0, z1_1) => (z1_1, z1_0))
def Zn (a0 : Zc) (a1 : Int) : Zc × Int := ((Zc.mk (Zh a0.Frame a1).1 (Zt a0.Zx (Zh a0.Frame a1).2).1 (ZB a0.Z5 (Zt a0.Zx (Zh a0.Frame a1).2).2).1 (Zu a0.ZC (ZB a0.Z5 (Zt a0.Zx (Zh a0.Frame a1).2).2).2).1 (ZB a0.Yz (Zu a0.ZC (ZB a0.Z5 (Zt a0.Zx (Zh a0.Frame a1).2).2).2).2).1 (ZB a0.YX (ZB a0.Yz (Zu a0.ZC (ZB a0.Z5 (Zt a0.Zx (Zh a0.Frame a1).2).2).2).2).2).1 a0.Next (ZB a0.YT (ZB a0.YX (ZB a0.Yz (Zu a0.ZC (ZB a0.Z5 (Zt a0.Zx (Zh a0.Frame a1).2).2).2).2).2).2).1), (ZB a0.YT (ZB a0.YX (ZB a0.Yz (Zu a0.ZC (ZB a0.Z5 (Zt a0.Zx (Zh a0.Frame a1).2).2).2).2).2).2).2)
def xX (a0 : List YD) : Nat → Int → Nat → Sum Int Int
  | 0, _, _ => .inr default
  | n1 + 1, v1_0, v1_1 => (bif (decide ((↑v1_1 : Int) < (↑a0.length : Int))) then (bif ((nth a0 v1_1).Number != v1_0) then (.inl (-1)) else (bif ((nth a0 v1_1).K8 != (W (v1_0 + 1))) then (.inl (-1)) else (bif ((nth a0 v1_1).Method != (W ((W (v1_0 + 1)) + 1))) then (.inl (-1)) else (bif ((nth a0 v1_1).RY != (W ((W ((W (v1_0 + 1)) + 1)) + 1))) then (.inl (-1)) else (bif ((nth a0 v1_1).Kb != (W ((W ((W ((W (v1_0 + 1)) + 1)) + 1)) + 1))) then (.inl (-1)) else xX a0 n1 (W ((W ((W ((W ((W (v1_0 + 1)) + 1)) + 1)) + 1)) + 1)) (v1_1 + 1)))))) else (.inr v1_0))
def Qz (a0 : List YD) (a1 : Int) : Int := (match xX a0 (a0.length + 1) a1 0 with | .inl r1 => r1 | .inr z1_0 => z1_0)
def Jl (a0 : List ZI) : Nat → Int → Nat → Sum Int Int
  | 0, _, _ => .inr default
  | n1 + 1, v1_0, v1_1 => (bif (decide ((↑v1_1 : Int) < (↑a0.length : Int))) then (bif ((nth a0 v1_1).Id != v1_0) then (.inl (-1)) else (bif ((nth a0 v1_1).Key != (W (v1_0 + 1))) then (.inl (-1)) else (bif ((nth a0 v1_1).Error != (W ((W (v1_0 + 1)) + 1))) then (.inl (-1)) else Jl a0 n1 (W ((W ((W (v1_0 + 1)) + 1)) + 1)) (v1_1 + 1)))) else (.inr v1_0))
def XI (a0 : List ZI) (a1 : Int) : Int := (match Jl a0 (a0.length + 1) a1 0 with | .inl r1 => r1 | .inr z1_0 => z1_0)
def Kt (a0 : List ZU) : Nat → Int → Nat → Sum Int Int
  | 0, _, _ => .inr default
  | n1 + 1, v1_0, v1_1 => (bif (decide ((↑v1_1 : Int) < (↑a0.length : Int))) then (bif ((nth a0 v1_1).Id != v1_0) then (.inl (-1)) else (bif ((nth a0 v1_1).kr != (W (v1_0 + 1))) then (.inl (-1)) else (bif ((nth a0 v1_1).Ends != (W ((W (v1_0 + 1)) + 1))) then (.inl (-1)) else (bif ((nth a0 v1_1).yN != (W ((W ((W (v1_0 + 1)) + 1)) + 1))) then (.inl (-1)) else Kt a0 n1 (W ((W ((W ((W (v1_0 + 1)) + 1)) + 1)) + 1)) (v1_1 + 1))))) else (.inr v1_0))
def Jz (a0 : List ZU) (a1 : Int) : Int := (match Kt a0 (a0.length + 1) a1 0 with | .inl r1 => r1 | .inr z1_0 => z1_0)
def Yh (a0 : Z4) (a1 : Int) : Int := (bif (decide ((Qz a0.YR a1) < 0)) then (-1) else (bif (decide ((XI a0.ZL (Qz a0.YR a1)) < 0)) then (-1) else (bif (decide ((Jz a0.Methods (XI a0.ZL (Qz a0.YR a1))) < 0)) then (-1) else (Jz a0.Methods (XI a0.ZL (Qz a0.YR a1))))))
def yg (a0 : List Z0) : Nat → Int → Nat → Sum Int Int
  | 0, _, _ => .inr default
  | n1 + 1, v1_0, v1_1 => (bif (decide ((↑v1_1 : Int) < (↑a0.length : Int))) then (bif ((nth a0 v1_1).QO != v1_0) then (.inl (-1)) else (bif ((nth a0 v1_1).Key != (W (v1_0 + 1))) then (.inl (-1)) else (bif ((nth a0 v1_1).K8 != (W ((W (v1_0 + 1)) + 1))) then (.inl (-1)) else (bif ((nth a0 v1_1).xQ != (W ((W ((W (v1_0 + 1)) + 1)) + 1))) then (.inl (-1)) else (bif ((nth a0 v1_1).To != (W ((W ((W ((W (v1_0 + 1)) + 1)) + 1)) + 1))) then (.inl (-1)) else (bif ((nth a0 v1_1).J9 != (W ((W ((W ((W ((W (v1_0 + 1)) + 1)) + 1)) + 1)) + 1))) then (.inl (-1)) else (bif ((nth a0 v1_1).Mark != (W ((W ((W ((W ((W ((W (v1_0 + 1)) + 1)) + 1)) + 1)) + 1)) + 1))) then (.inl (-1)) else yg a0 n1 (W ((W ((W ((W ((W ((W ((W (v1_0 + 1)) + 1)) + 1)) + 1)) + 1)) + 1)) + 1)) (v1_1 + 1)))))))) else (.inr v1_0))
def Yr (a0 : List Z0) (a1 : Int) : Int := (match yg a0 (a0.length + 1) a1 0 with | .inl r1 => r1 | .inr z1_0 => z1_0)
def xS (a0 : List Int) : Nat → Int → Nat → Sum Int Int
  | 0, _, _ => .inr default
  | n1 + 1, v1_0, v1_1 => (bif (decide ((↑v1_1 : Int) < (↑a0.length : Int))) then (bif ((nth a0 v1_1) != v1_0) then (.inl (-1)) else xS a0 n1 (W (v1_0 + 1)) (v1_1 + 1)) else (.inr v1_0))
def ZZ (a0 : List Int) (a1 : Int) : Int := (match xS a0 (a0.length + 1) a1 0 with | .inl r1 => r1 | .inr z1_0 => z1_0)
def Kr (a0 : List ByteArray) : Nat → Int → Nat → Sum Int Int
  | 0, _, _ => .inr default
  | n1 + 1, v1_0, v1_1 => (bif (decide ((↑v1_1 : Int) < (↑a0.length : Int))) then (bif (!decide ((nth a0 v1_1) = (Y5 v1_0))) then (.inl (-1)) else Kr a0 n1 (W (v1_0 + 1)) (v1_1 + 1)) else (.inr v1_0))
def Ze (a0 : List ByteArray) (a1 : Int) : Int := (match Kr a0 (a0.length + 1) a1 0 with | .inl r1 => r1 | .inr z1_0 => z1_0)
def zZ (a0 : List ZO) : Nat → Int → Nat → Sum Int Int
  | 0, _, _ => .inr default
  | n1 + 1, v1_0, v1_1 => (bif (decide ((↑v1_1 : Int) < (↑a0.length : Int))) then (bif ((nth a0 v1_1).Key != v1_0) then (.inl (-1)) else (bif (decide ((ZZ (nth a0 v1_1).Ye (W (v1_0 + 1))) < 0)) then (.inl (-1)) else (bif ((nth a0 v1_1).Mark != (ZZ (nth a0 v1_1).Ye (W (v1_0 + 1)))) then (.inl (-1)) else zZ a0 n1 (W ((ZZ (nth a0 v1_1).Ye (W (v1_0 + 1))) + 1)) (v1_1 + 1)))) else (.inr v1_0))
def Yu (a0 : List ZO) (a1 : Int) : Int := (match zZ a0 (a0.length + 1) a1 0 with | .inl r1 => r1 | .inr z1_0 => z1_0)
def yY (a0 : List Zq) : Nat → Int → Nat → Sum Int Int
  | 0, _, _ => .inr default
  | n1 + 1, v1_0, v1_1 => (bif (decide ((↑v1_1 : Int) < (↑a0.length : Int))) then (bif ((nth a0 v1_1).YY != v1_0) then (.inl (-1)) else (bif (!((nth a0 v1_1).Left == ((Int.tmod (W (v1_0 + 1)) 3) == 0))) then (.inl (-1)) else yY a0 n1 (W ((W (v1_0 + 1)) + 1)) (v1_1 + 1))) else (.inr v1_0))
def Y6 (a0 : List Zq) (a1 : Int) : Int := (match yY a0 (a0.length + 1) a1 0 with | .inl r1 => r1 | .inr z1_0 => z1_0)
def zt (a0 : List ZX) : Nat → Int → Nat → Sum Int Int
  | 0, _, _ => .inr default
  | n1 + 1, v1_0, v1_1 => (bif (decide ((↑v1_1 : Int) < (↑a0.length : Int))) then (bif ((nth a0 v1_1).Authority != v1_0) then (.inl (-1)) else (bif ((nth a0 v1_1).Seq != (W (v1_0 + 1))) then (.inl (-1)) else (bif ((nth a0 v1_1).Time != (W ((W (v1_0 + 1)) + 1))) then (.inl (-1)) else (bif ((nth a0 v1_1).YY != (W ((W ((W (v1_0 + 1)) + 1)) + 1))) then (.inl (-1)) else (bif ((nth a0 v1_1).Mark != (W ((W ((W ((W (v1_0 + 1)) + 1)) + 1)) + 1))) then (.inl (-1)) else zt a0 n1 (W ((W ((W ((W ((W (v1_0 + 1)) + 1)) + 1)) + 1)) + 1)) (v1_1 + 1)))))) else (.inr v1_0))
def Xh (a0 : List ZX) (a1 : Int) : Int := (match zt a0 (a0.length + 1) a1 0 with | .inl r1 => r1 | .inr z1_0 => z1_0)
def KU (a0 : List ZF) : Nat → Int → Nat → Sum Int Int
  | 0, _, _ => .inr default
  | n1 + 1, v1_0, v1_1 => (bif (decide ((↑v1_1 : Int) < (↑a0.length : Int))) then (bif ((nth a0 v1_1).Count != v1_0) then (.inl (-1)) else (bif ((nth a0 v1_1).Method != (W (v1_0 + 1))) then (.inl (-1)) else (bif ((nth a0 v1_1).V4 != (W ((W (v1_0 + 1)) + 1))) then (.inl (-1)) else (bif (decide ((Y6 (nth a0 v1_1).Path (W ((W ((W (v1_0 + 1)) + 1)) + 1))) < 0)) then (.inl (-1)) else (bif (decide ((Xh (nth a0 v1_1).Zv (Y6 (nth a0 v1_1).Path (W ((W ((W (v1_0 + 1)) + 1)) + 1)))) < 0)) then (.inl (-1)) else KU a0 n1 (Xh (nth a0 v1_1).Zv (Y6 (nth a0 v1_1).Path (W ((W ((W (v1_0 + 1)) + 1)) + 1)))) (v1_1 + 1)))))) else (.inr v1_0))
def XB (a0 : List ZF) (a1 : Int) : Int := (match KU a0 (a0.length + 1) a1 0 with | .inl r1 => r1 | .inr z1_0 => z1_0)
def ye (a0 : List Zb) : Nat → Int → Nat → Sum Int Int
  | 0, _, _ => .inr default
  | n1 + 1, v1_0, v1_1 => (bif (decide ((↑v1_1 : Int) < (↑a0.length : Int))) then (bif ((nth a0 v1_1).Id != v1_0) then (.inl (-1)) else (bif ((nth a0 v1_1).Yk != (W (v1_0 + 1))) then (.inl (-1)) else (bif ((nth a0 v1_1).Doc.Ka != (W ((W (v1_0 + 1)) + 1))) then (.inl (-1)) else (bif (decide ((Ze (nth a0 v1_1).Doc.ZE (W ((W ((W (v1_0 + 1)) + 1)) + 1))) < 0)) then (.inl (-1)) else (bif (decide ((ZZ (nth a0 v1_1).Doc.ZG (Ze (nth a0 v1_1).Doc.ZE (W ((W ((W (v1_0 + 1)) + 1)) + 1)))) < 0)) then (.inl (-1)) else (bif ((nth a0 v1_1).Sig.Key != (ZZ (nth a0 v1_1).Doc.ZG (Ze (nth a0 v1_1).Doc.ZE (W ((W ((W (v1_0 + 1)) + 1)) + 1))))) then (.inl (-1)) else (bif ((nth a0 v1_1).Sig.QO != (W ((ZZ (nth a0 v1_1).Doc.ZG (Ze (nth a0 v1_1).Doc.ZE (W ((W ((W (v1_0 + 1)) + 1)) + 1)))) + 1))) then (.inl (-1)) else (bif ((nth a0 v1_1).Sig.Method != (W ((W ((ZZ (nth a0 v1_1).Doc.ZG (Ze (nth a0 v1_1).Doc.ZE (W ((W ((W (v1_0 + 1)) + 1)) + 1)))) + 1)) + 1))) then (.inl (-1)) else (bif ((nth a0 v1_1).Sig.YY != (W ((W ((W ((ZZ (nth a0 v1_1).Doc.ZG (Ze (nth a0 v1_1).Doc.ZE (W ((W ((W (v1_0 + 1)) + 1)) + 1)))) + 1)) + 1)) + 1))) then (.inl (-1)) else (bif ((nth a0 v1_1).Sig.yB != (W ((W ((W ((W ((ZZ (nth a0 v1_1).Doc.ZG (Ze (nth a0 v1_1).Doc.ZE (W ((W ((W (v1_0 + 1)) + 1)) + 1)))) + 1)) + 1)) + 1)) + 1))) then (.inl (-1)) else (bif ((nth a0 v1_1).Sig.Org != (W ((W ((W ((W ((W ((ZZ (nth a0 v1_1).Doc.ZG (Ze (nth a0 v1_1).Doc.ZE (W ((W ((W (v1_0 + 1)) + 1)) + 1)))) + 1)) + 1)) + 1)) + 1)) + 1))) then (.inl (-1)) else (bif ((nth a0 v1_1).Sig.Ky != (W ((W ((W ((W ((W ((W ((ZZ (nth a0 v1_1).Doc.ZG (Ze (nth a0 v1_1).Doc.ZE (W ((W ((W (v1_0 + 1)) + 1)) + 1)))) + 1)) + 1)) + 1)) + 1)) + 1)) + 1))) then (.inl (-1)) else (bif ((nth a0 v1_1).Sig.xG != (W ((W ((W ((W ((W ((W ((W ((ZZ (nth a0 v1_1).Doc.ZG (Ze (nth a0 v1_1).Doc.ZE (W ((W ((W (v1_0 + 1)) + 1)) + 1)))) + 1)) + 1)) + 1)) + 1)) + 1)) + 1)) + 1))) then (.inl (-1)) else (bif ((nth a0 v1_1).Sig.Mark != (W ((W ((W ((W ((W ((W ((W ((W ((ZZ (nth a0 v1_1).Doc.ZG (Ze (nth a0 v1_1).Doc.ZE (W ((W ((W (v1_0 + 1)) + 1)) + 1)))) + 1)) + 1)) + 1)) + 1)) + 1)) + 1)) + 1)) + 1))) then (.inl (-1)) else (bif (decide ((Yu (nth a0 v1_1).ZK.ZR (W ((W ((W ((W ((W ((W ((W ((W ((W ((ZZ (nth a0 v1_1).Doc.ZG (Ze (nth a0 v1_1).Doc.ZE (W ((W ((W (v1_0 + 1)) + 1)) + 1)))) + 1)) + 1)) + 1)) + 1)) + 1)) + 1)) + 1)) + 1)) + 1))) < 0)) then (.inl (-1)) else (bif (decide ((XB (nth a0 v1_1).ZK.ZV (Yu (nth a0 v1_1).ZK.ZR (W ((W ((W ((W ((W ((W ((W ((W ((W ((ZZ (nth a0 v1_1).Doc.ZG (Ze (nth a0 v1_1).Doc.ZE (W ((W ((W (v1_0 + 1)) + 1)) + 1)))) + 1)) + 1)) + 1)) + 1)) + 1)) + 1)) + 1)) + 1)) + 1)))) < 0)) then (.inl (-1)) else ye a0 n1 (XB (nth a0 v1_1).ZK.ZV (Yu (nth a0 v1_1).ZK.ZR (W ((W ((W ((W ((W ((W ((W ((W ((W ((ZZ (nth a0 v1_1).Doc.ZG (Ze (nth a0 v1_1).Doc.ZE (W ((W ((W (v1_0 + 1)) + 1)) + 1)))) + 1)) + 1)) + 1)) + 1)) + 1)) + 1)) + 1)) + 1)) + 1)))) (v1_1 + 1))))))))))))))))) else (.inr v1_0))
def QK (a0 : List Zb) (a1 : Int) : Int := (match ye a0 (a0.length + 1) a1 0 with | .inl r1 => r1 | .inr z1_0 => z1_0)
def KQ (a0 : List ZH) : Nat → Int → Nat → Sum Int Int
  | 0, _, _ => .inr default
  | n1 + 1, v1_0, v1_1 => (bif (decide ((↑v1_1 : Int) < (↑a0.length : Int))) then (bif ((nth a0 v1_1).Id != v1_0) then (.inl (-1)) else (bif (decide ((QK (nth a0 v1_1).ZS (W (v1_0 + 1))) < 0)) then (.inl (-1)) else KQ a0 n1 (QK (nth a0 v1_1).ZS (W (v1_0 + 1))) (v1_1 + 1))) else (.inr v1_0))
def Yp (a0 : List ZH) (a1 : Int) : Int := (match KQ a0 (a0.length + 1) a1 0 with | .inl r1 => r1 | .inr z1_0 => z1_0)
def Ja (a0 : Zc) (a1 : Int) : Int := (bif (decide ((Yh a0.Frame a1) < 0)) then (-1) else (bif (decide ((Yr a0.Zx (Yh a0.Frame a1)) < 0)) then (-1) else (bif (decide ((ZZ a0.Z5 (Yr a0.Zx (Yh a0.Frame a1))) < 0)) then (-1) else (bif (decide ((Yp a0.ZC (ZZ a0.Z5 (Yr a0.Zx (Yh a0.Frame a1)))) < 0)) then (-1) else (bif (decide ((ZZ a0.Yz (Yp a0.ZC (ZZ a0.Z5 (Yr a0.Zx (Yh a0.Frame a1))))) < 0)) then (-1) else (bif (decide ((ZZ a0.YX (ZZ a0.Yz (Yp a0.ZC (ZZ a0.Z5 (Yr a0.Zx (Yh a0.Frame a1)))))) < 0)) then (-1) else (bif (decide ((ZZ a0.YT (ZZ a0.YX (ZZ a0.Yz (Yp a0.ZC (ZZ a0.Z5 (Yr a0.Zx (Yh a0.Frame a1))))))) < 0)) then (-1) else (ZZ a0.YT (ZZ a0.YX (ZZ a0.Yz (Yp a0.ZC (ZZ a0.Z5 (Yr a0.Zx (Yh a0.Frame a1))))))))))))))
def QR (a0 : Zc) (a1 : Int) (a2 : Int) : Bool := (bif (decide ((zO a0 1048576) < 0)) then true else (bif ((!(zC (Zg a0 a1 a2).1 (Yb a0 a1 a2).1)) || (!((Zg a0 a1 a2).2 == (Yb a0 a1 a2).2))) then false else (bif (!(zC a0 a0)) then false else (bif (((decide ((Zn a0 1).2 < 0)) || (!(zC (Zg a0 a1 a2).1 (Yb a0 a1 a2).1))) || (!((Zg a0 a1 a2).2 == (Yb a0 a1 a2).2))) then false else (bif (decide ((Ja (Zn (Zg a0 a1 a2).1 1).1 1) < 0)) then false else (bif ((Ja (Zn (Zg a0 a1 a2).1 1).1 1) != (Zn (Zg a0 a1 a2).1 1).2) then false else (bif ((!(zC (Zg a0 a1 a2).1 (Yb a0 a1 a2).1)) || (!((Zg a0 a1 a2).2 == (Yb a0 a1 a2).2))) then false else (bif (decide ((Ja (Zn (Zg a0 a1 a2).1 1).1 1) < 0)) then false else (bif ((Ja (Zn (Zg a0 a1 a2).1 1).1 1) != (Zn (Zg a0 a1 a2).1 1).2) then false else true)))))))))
end Go.Mo
