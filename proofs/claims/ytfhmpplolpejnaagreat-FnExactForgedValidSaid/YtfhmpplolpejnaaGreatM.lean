/- Models of the functions: what each computes, on typed data. No condition. -/
import Derived.Test.YtfhmpplolpejnaaGreatMo
namespace Go.Mo
open Go.Vm
def Qr (a0 : List Zs) (a1 : Int) : Int := (bif (decide ((W (a1 - (↑a0.length : Int))) < 0)) then (-1) else (W (a1 - (↑a0.length : Int))))
def XW (a0 : List ZG) (a1 : Int) : Int := (bif (decide ((W (a1 - (↑a0.length : Int))) < 0)) then (-1) else (W (a1 - (↑a0.length : Int))))
def yK (a0 : List Zh) (a1 : Int) : Int := (bif (decide ((W (a1 - (↑a0.length : Int))) < 0)) then (-1) else (W (a1 - (↑a0.length : Int))))
def Z6 (a0 : ZI) (a1 : Int) : Int := (bif (decide ((Qr a0.YY a1) < 0)) then (-1) else (bif (decide ((XW a0.ZN (Qr a0.YY a1)) < 0)) then (-1) else (bif (decide ((yK a0.Methods (XW a0.ZN (Qr a0.YY a1))) < 0)) then (-1) else (yK a0.Methods (XW a0.ZN (Qr a0.YY a1))))))
def YO (a0 : List Zn) (a1 : Int) : Int := (bif (decide ((W (a1 - (↑a0.length : Int))) < 0)) then (-1) else (W (a1 - (↑a0.length : Int))))
def Zp (a0 : List Int) (a1 : Int) : Int := (bif (decide ((W (a1 - (↑a0.length : Int))) < 0)) then (-1) else (W (a1 - (↑a0.length : Int))))
def qc (a0 : List ByteArray) : Nat → Int → Nat → Sum Int Int
  | 0, _, _ => .inr default
  | n1 + 1, v1_0, v1_1 => (bif (decide ((↑v1_1 : Int) < (↑a0.length : Int))) then (bif (decide ((W (v1_0 - (↑(nth a0 v1_1).size : Int))) < 0)) then (.inl (-1)) else qc a0 n1 (W (v1_0 - (↑(nth a0 v1_1).size : Int))) (v1_1 + 1)) else (.inr v1_0))
def QU (a0 : List ByteArray) (a1 : Int) : Int := (bif (decide ((W (a1 - (↑a0.length : Int))) < 0)) then (-1) else (match qc a0 (a0.length + 1) (W (a1 - (↑a0.length : Int))) 0 with | .inl r1 => r1 | .inr z1_0 => z1_0))
def Xk (a0 : Zc) (a1 : Int) : Int := (bif (decide ((QU a0.ZQ a1) < 0)) then (-1) else (bif (decide ((Zp a0.Zb (QU a0.ZQ a1)) < 0)) then (-1) else (Zp a0.Zb (QU a0.ZQ a1))))
def jR (a0 : ZD) (a1 : Int) : Int := (bif (decide ((Zp a0.Zg a1) < 0)) then (-1) else (Zp a0.Zg a1))
def jl (a0 : List ZD) : Nat → Int → Nat → Sum Int Int
  | 0, _, _ => .inr default
  | n1 + 1, v1_0, v1_1 => (bif (decide ((↑v1_1 : Int) < (↑a0.length : Int))) then (bif (decide ((jR (nth a0 v1_1) v1_0) < 0)) then (.inl (-1)) else jl a0 n1 (jR (nth a0 v1_1) v1_0) (v1_1 + 1)) else (.inr v1_0))
def JB (a0 : List ZD) (a1 : Int) : Int := (bif (decide ((W (a1 - (↑a0.length : Int))) < 0)) then (-1) else (match jl a0 (a0.length + 1) (W (a1 - (↑a0.length : Int))) 0 with | .inl r1 => r1 | .inr z1_0 => z1_0))
def Jp (a0 : List Ya) (a1 : Int) : Int := (bif (decide ((W (a1 - (↑a0.length : Int))) < 0)) then (-1) else (W (a1 - (↑a0.length : Int))))
def xe (a0 : List ZY) (a1 : Int) : Int := (bif (decide ((W (a1 - (↑a0.length : Int))) < 0)) then (-1) else (W (a1 - (↑a0.length : Int))))
def yS (a0 : ZK) (a1 : Int) : Int := (bif (decide ((Jp a0.Path a1) < 0)) then (-1) else (bif (decide ((xe a0.Zj (Jp a0.Path a1)) < 0)) then (-1) else (xe a0.Zj (Jp a0.Path a1))))
def xH (a0 : List ZK) : Nat → Int → Nat → Sum Int Int
  | 0, _, _ => .inr default
  | n1 + 1, v1_0, v1_1 => (bif (decide ((↑v1_1 : Int) < (↑a0.length : Int))) then (bif (decide ((yS (nth a0 v1_1) v1_0) < 0)) then (.inl (-1)) else xH a0 n1 (yS (nth a0 v1_1) v1_0) (v1_1 + 1)) else (.inr v1_0))
def zL (a0 : List ZK) (a1 : Int) : Int := (bif (decide ((W (a1 - (↑a0.length : Int))) < 0)) then (-1) else (match xH a0 (a0.length + 1) (W (a1 - (↑a0.length : Int))) 0 with | .inl r1 => r1 | .inr z1_0 => z1_0))
def zP (a0 : ZP) (a1 : Int) : Int := (bif (decide ((JB a0.Zd a1) < 0)) then (-1) else (bif (decide ((zL a0.ZX (JB a0.Zd a1)) < 0)) then (-1) else (zL a0.ZX (JB a0.Zd a1))))
def ql (a0 : Zm) (a1 : Int) : Int := (bif (decide ((Xk a0.Doc a1) < 0)) then (-1) else (bif (decide ((zP a0.Z0 (Xk a0.Doc a1)) < 0)) then (-1) else (zP a0.Z0 (Xk a0.Doc a1))))
def jD (a0 : List Zm) : Nat → Int → Nat → Sum Int Int
  | 0, _, _ => .inr default
  | n1 + 1, v1_0, v1_1 => (bif (decide ((↑v1_1 : Int) < (↑a0.length : Int))) then (bif (decide ((ql (nth a0 v1_1) v1_0) < 0)) then (.inl (-1)) else jD a0 n1 (ql (nth a0 v1_1) v1_0) (v1_1 + 1)) else (.inr v1_0))
def Kx (a0 : List Zm) (a1 : Int) : Int := (bif (decide ((W (a1 - (↑a0.length : Int))) < 0)) then (-1) else (match jD a0 (a0.length + 1) (W (a1 - (↑a0.length : Int))) 0 with | .inl r1 => r1 | .inr z1_0 => z1_0))
def Jf (a0 : Zf) (a1 : Int) : Int := (bif (decide ((Kx a0.YM a1) < 0)) then (-1) else (Kx a0.YM a1))
def zh (a0 : List Zf) : Nat → Int → Nat → Sum Int Int
  | 0, _, _ => .inr default
  | n1 + 1, v1_0, v1_1 => (bif (decide ((↑v1_1 : Int) < (↑a0.length : Int))) then (bif (decide ((Jf (nth a0 v1_1) v1_0) < 0)) then (.inl (-1)) else zh a0 n1 (Jf (nth a0 v1_1) v1_0) (v1_1 + 1)) else (.inr v1_0))
def YT (a0 : List Zf) (a1 : Int) : Int := (bif (decide ((W (a1 - (↑a0.length : Int))) < 0)) then (-1) else (match zh a0 (a0.length + 1) (W (a1 - (↑a0.length : Int))) 0 with | .inl r1 => r1 | .inr z1_0 => z1_0))
def QX (a0 : Zo) (a1 : Int) : Int := (bif (decide ((Z6 a0.Frame a1) < 0)) then (-1) else (bif (decide ((YO a0.Yg (Z6 a0.Frame a1)) < 0)) then (-1) else (bif (decide ((Zp a0.YW (YO a0.Yg (Z6 a0.Frame a1))) < 0)) then (-1) else (bif (decide ((YT a0.ZJ (Zp a0.YW (YO a0.Yg (Z6 a0.Frame a1)))) < 0)) then (-1) else (bif (decide ((Zp a0.J8 (YT a0.ZJ (Zp a0.YW (YO a0.Yg (Z6 a0.Frame a1))))) < 0)) then (-1) else (bif (decide ((Zp a0.Q6 (Zp a0.J8 (YT a0.ZJ (Zp a0.YW (YO a0.Yg (Z6 a0.Frame a1)))))) < 0)) then (-1) else (bif (decide ((Zp a0.QP (Zp a0.Q6 (Zp a0.J8 (YT a0.ZJ (Zp a0.YW (YO a0.Yg (Z6 a0.Frame a1))))))) < 0)) then (-1) else (Zp a0.QP (Zp a0.Q6 (Zp a0.J8 (YT a0.ZJ (Zp a0.YW (YO a0.Yg (Z6 a0.Frame a1))))))))))))))
def HF (a0 : Zs) : Zs := a0
def S6 (a0 : List Zs) : Nat → Nat → List Zs → (List Zs)
  | 0, _, _ => default
  | n1 + 1, v1_0, v1_1 => (bif (decide ((↑v1_0 : Int) < (↑a0.length : Int))) then S6 a0 n1 (v1_0 + 1) (v1_1.set v1_0 (nth a0 v1_0)) else (v1_1))
def FY (a0 : List Zs) : List Zs := (match S6 a0 (a0.length + 1) 0 (List.replicate a0.length (Zs.mk 0 0 0 0 0)) with | z1_0 => z1_0)
def WB (a0 : ZG) : ZG := a0
def xp (a0 : List ZG) : Nat → Nat → List ZG → (List ZG)
  | 0, _, _ => default
  | n1 + 1, v1_0, v1_1 => (bif (decide ((↑v1_0 : Int) < (↑a0.length : Int))) then xp a0 n1 (v1_0 + 1) (v1_1.set v1_0 (nth a0 v1_0)) else (v1_1))
def UB (a0 : List ZG) : List ZG := (match xp a0 (a0.length + 1) 0 (List.replicate a0.length (ZG.mk 0 0 0)) with | z1_0 => z1_0)
def SS (a0 : Zh) : Zh := a0
def WE (a0 : List Zh) : Nat → Nat → List Zh → (List Zh)
  | 0, _, _ => default
  | n1 + 1, v1_0, v1_1 => (bif (decide ((↑v1_0 : Int) < (↑a0.length : Int))) then WE a0 n1 (v1_0 + 1) (v1_1.set v1_0 (nth a0 v1_0)) else (v1_1))
def R6 (a0 : List Zh) : List Zh := (match WE a0 (a0.length + 1) 0 (List.replicate a0.length (Zh.mk 0 0 0 0)) with | z1_0 => z1_0)
def Pv (a0 : ZI) : ZI := a0
def Nm (a0 : Zn) : Zn := a0
def U8 (a0 : List Zn) : Nat → Nat → List Zn → (List Zn)
  | 0, _, _ => default
  | n1 + 1, v1_0, v1_1 => (bif (decide ((↑v1_0 : Int) < (↑a0.length : Int))) then U8 a0 n1 (v1_0 + 1) (v1_1.set v1_0 (nth a0 v1_0)) else (v1_1))
def Mc (a0 : List Zn) : List Zn := (match U8 a0 (a0.length + 1) 0 (List.replicate a0.length (Zn.mk 0 0 0 0 0 0 0)) with | z1_0 => z1_0)
def Sw (a0 : List Int) : Nat → Nat → List Int → (List Int)
  | 0, _, _ => default
  | n1 + 1, v1_0, v1_1 => (bif (decide ((↑v1_0 : Int) < (↑a0.length : Int))) then Sw a0 n1 (v1_0 + 1) (v1_1.set v1_0 (nth a0 v1_0)) else (v1_1))
def GS (a0 : List Int) : List Int := (match Sw a0 (a0.length + 1) 0 (List.replicate a0.length 0) with | z1_0 => z1_0)
def ky (a0 : List ByteArray) : Nat → Nat → List ByteArray → (List ByteArray)
  | 0, _, _ => default
  | n1 + 1, v1_0, v1_1 => (bif (decide ((↑v1_0 : Int) < (↑a0.length : Int))) then ky a0 n1 (v1_0 + 1) (v1_1.set v1_0 (nth a0 v1_0)) else (v1_1))
def Rq (a0 : List ByteArray) : List ByteArray := (match ky a0 (a0.length + 1) 0 (List.replicate a0.length (⟨#[]⟩ : ByteArray)) with | z1_0 => z1_0)
def VE (a0 : Zc) : Zc := a0
def WD (a0 : ZV) : ZV := a0
def Pm (a0 : ZD) : ZD := a0
def VD (a0 : List ZD) : Nat → Nat → List ZD → (List ZD)
  | 0, _, _ => default
  | n1 + 1, v1_0, v1_1 => (bif (decide ((↑v1_0 : Int) < (↑a0.length : Int))) then VD a0 n1 (v1_0 + 1) (v1_1.set v1_0 (nth a0 v1_0)) else (v1_1))
def OU (a0 : List ZD) : List ZD := (match VD a0 (a0.length + 1) 0 (List.replicate a0.length (ZD.mk 0 ([] : List Int) 0)) with | z1_0 => z1_0)
def MA (a0 : Ya) : Ya := a0
def Uj (a0 : List Ya) : Nat → Nat → List Ya → (List Ya)
  | 0, _, _ => default
  | n1 + 1, v1_0, v1_1 => (bif (decide ((↑v1_0 : Int) < (↑a0.length : Int))) then Uj a0 n1 (v1_0 + 1) (v1_1.set v1_0 (nth a0 v1_0)) else (v1_1))
def Mn (a0 : List Ya) : List Ya := (match Uj a0 (a0.length + 1) 0 (List.replicate a0.length (Ya.mk 0 false)) with | z1_0 => z1_0)
def Pu (a0 : ZY) : ZY := a0
def VT (a0 : List ZY) : Nat → Nat → List ZY → (List ZY)
  | 0, _, _ => default
  | n1 + 1, v1_0, v1_1 => (bif (decide ((↑v1_0 : Int) < (↑a0.length : Int))) then VT a0 n1 (v1_0 + 1) (v1_1.set v1_0 (nth a0 v1_0)) else (v1_1))
def Oc (a0 : List ZY) : List ZY := (match VT a0 (a0.length + 1) 0 (List.replicate a0.length (ZY.mk 0 0 0 0 0)) with | z1_0 => z1_0)
def Un (a0 : ZK) : ZK := a0
def jc (a0 : List ZK) : Nat → Nat → List ZK → (List ZK)
  | 0, _, _ => default
  | n1 + 1, v1_0, v1_1 => (bif (decide ((↑v1_0 : Int) < (↑a0.length : Int))) then jc a0 n1 (v1_0 + 1) (v1_1.set v1_0 (nth a0 v1_0)) else (v1_1))
def Si (a0 : List ZK) : List ZK := (match jc a0 (a0.length + 1) 0 (List.replicate a0.length (ZK.mk 0 0 0 ([] : List Ya) ([] : List ZY))) with | z1_0 => z1_0)
def Sv (a0 : ZP) : ZP := a0
def Na (a0 : Zm) : Zm := a0
def U0 (a0 : List Zm) : Nat → Nat → List Zm → (List Zm)
  | 0, _, _ => default
  | n1 + 1, v1_0, v1_1 => (bif (decide ((↑v1_0 : Int) < (↑a0.length : Int))) then U0 a0 n1 (v1_0 + 1) (v1_1.set v1_0 (nth a0 v1_0)) else (v1_1))
def M5 (a0 : List Zm) : List Zm := (match U0 a0 (a0.length + 1) 0 (List.replicate a0.length (Zm.mk 0 0 (Zc.mk 0 ([] : List ByteArray) ([] : List Int)) (ZV.mk 0 0 0 0 0 0 0 0 0) (ZP.mk ([] : List ZD) ([] : List ZK)))) with | z1_0 => z1_0)
def Ux (a0 : Zf) : Zf := a0
def jz (a0 : List Zf) : Nat → Nat → List Zf → (List Zf)
  | 0, _, _ => default
  | n1 + 1, v1_0, v1_1 => (bif (decide ((↑v1_0 : Int) < (↑a0.length : Int))) then jz a0 n1 (v1_0 + 1) (v1_1.set v1_0 (nth a0 v1_0)) else (v1_1))
def RJ (a0 : List Zf) : List Zf := (match jz a0 (a0.length + 1) 0 (List.replicate a0.length (Zf.mk 0 ([] : List Zm))) with | z1_0 => z1_0)
def Pn (a0 : Zo) : Zo := a0
def xw (a0 : Zf) (a1 : Int) : Nat → Nat → Sum Int Unit
  | 0, _ => .inr ()
  | n1 + 1, v1_0 => (bif (decide ((↑v1_0 : Int) < (↑a0.YM.length : Int))) then (bif ((nth a0.YM v1_0).Id == a1) then (.inl (↑v1_0 : Int)) else xw a0 a1 n1 (v1_0 + 1)) else (.inr ()))
def xd (a0 : Zf) (a1 : Int) : Int := (match xw a0 a1 (a0.YM.length + 1) 0 with | .inl r1 => r1 | .inr _ => (-1))
def xK (a0 : Zo) (a1 : Int) : Nat → Nat → Sum (Int × Int) Unit
  | 0, _ => .inr ()
  | n1 + 1, v1_0 => (bif (decide ((↑v1_0 : Int) < (↑a0.ZJ.length : Int))) then (bif (decide ((xd (nth a0.ZJ v1_0) a1) ≥ 0)) then (.inl ((↑v1_0 : Int), (xd (nth a0.ZJ v1_0) a1))) else xK a0 a1 n1 (v1_0 + 1)) else (.inr ()))
def Q5 (a0 : Zo) (a1 : Int) : Int × Int := (match xK a0 a1 (a0.ZJ.length + 1) 0 with | .inl r1 => r1 | .inr _ => ((-1), (-1)))
def ML (a0 : ZD) : ZD := a0
def S4 (a0 : List ZD) : Nat → List ZD → Nat → (List ZD)
  | 0, _, _ => default
  | n1 + 1, v1_0, v1_1 => (bif (decide ((↑v1_1 : Int) < (↑a0.length : Int))) then S4 a0 n1 (v1_0 ++ ([(nth a0 v1_1)] : List ZD)) (v1_1 + 1) else (v1_0))
def O7 (a0 : List ZD) : List ZD := (match S4 a0 (a0.length + 1) ([] : List ZD) 0 with | z1_0 => z1_0)
def MX (a0 : ZK) : ZK := a0
def UX (a0 : ZP) : Nat → Nat → List ZK → (List ZK)
  | 0, _, _ => default
  | n1 + 1, v1_0, v1_1 => (bif (decide ((↑v1_0 : Int) < (↑a0.ZX.length : Int))) then UX a0 n1 (v1_0 + 1) (v1_1 ++ ([(nth a0.ZX v1_0)] : List ZK)) else (v1_1))
def Pk (a0 : ZP) : ZP := (match UX a0 (a0.ZX.length + 1) 0 ([] : List ZK) with | z1_0 => (ZP.mk a0.Zd z1_0))
def zy (a0 : Zm) : ZL := (ZL.mk ([a0.Z0] : List ZP) ([] : List (List ZY)))
def YG (a0 : Int) (a1 : Int) (a2 : Int) : Bool := ((decide (a0 ≥ a1)) && (decide (a0 ≤ a2)))
def zk (a0 : Zc) : Nat → Nat → Sum Bool Unit
  | 0, _ => .inr ()
  | n2 + 1, v2_0 => (bif (decide ((↑v2_0 : Int) < (↑a0.Zb.length : Int))) then (bif (!(YG (nth a0.Zb v2_0) 1 1000000000000)) then (.inl false) else zk a0 n2 (v2_0 + 1)) else (.inr ()))
def z5 (a0 : Zc) : Nat → Nat → Sum Bool Unit
  | 0, _ => .inr ()
  | n1 + 1, v1_0 => (bif (decide ((↑v1_0 : Int) < (↑a0.ZQ.length : Int))) then (bif (decide ((↑(nth a0.ZQ v1_0).size : Int) > 40)) then (.inl false) else z5 a0 n1 (v1_0 + 1)) else (.inr ()))
def yZ (a0 : Zc) : Bool := (match z5 a0 (a0.ZQ.length + 1) 0 with | .inl r1 => r1 | .inr _ => (match zk a0 (a0.Zb.length + 1) 0 with | .inl r2 => r2 | .inr _ => (((YG a0.ji 0 999) && (YG (↑a0.ZQ.length : Int) 1 6)) && ((↑a0.Zb.length : Int) == (↑a0.ZQ.length : Int)))))
def Bl (a0 : Int) (a1 : Int) : Int := (bif (!(YG a1 1 1000000000000)) then 0 else (Int.tmod (W ((Int.tmod a0 a1) + a1)) a1))
def PD (a0 : List Int) : Nat → Int → Nat → Int
  | 0, _, _ => default
  | n1 + 1, v1_0, v1_1 => (bif (decide ((↑v1_1 : Int) < (↑a0.length : Int))) then PD a0 n1 (Int.tmod (W ((W ((W (v1_0 * 1000003)) + (Bl (nth a0 v1_1) 2147483647))) + 13)) 2147483647) (v1_1 + 1) else (v1_0))
def M8 (a0 : List Int) : Int := (match PD a0 (a0.length + 1) 11 0 with | z1_0 => z1_0)
def JS (a0 : Int) (a1 : List Int) : Int := (M8 (([7, a0] : List Int) ++ a1))
def xP (a1 : ByteArray) : Nat → List Int → Nat → (List Int)
  | 0, _, _ => default
  | n1 + 1, v1_0, v1_1 => (bif (decide ((↑v1_1 : Int) < (↑a1.size : Int))) then xP a1 n1 (v1_0 ++ ([(W (↑(bAt a1 v1_1) : Int))] : List Int)) (v1_1 + 1) else (v1_0))
def kE (a0 : Int) (a1 : ByteArray) (a2 : Int) : Int := (match xP a1 (a1.size + 1) ([a2] : List Int) 0 with | z1_0 => (JS a0 z1_0))
def qZ (a0 : Int) (a1 : Zc) : Nat → List Int → Nat → (List Int)
  | 0, _, _ => default
  | n1 + 1, v1_0, v1_1 => (bif (decide ((↑v1_1 : Int) < (↑a1.ZQ.length : Int))) then qZ a0 a1 n1 (v1_0 ++ ([(kE a0 (nth a1.ZQ v1_1) (nth a1.Zb v1_1))] : List Int)) (v1_1 + 1) else (v1_0))
def xA (a0 : Int) (a1 : Zc) : Int := (bif (!(yZ a1)) then (-1) else (match qZ a0 a1 (a1.ZQ.length + 1) ([a1.ji] : List Int) 0 with | z1_0 => (JS a0 z1_0)))
def Km (a0 : ZP) (a1 : Zc) : Nat → List Int → Nat → (List Int)
  | 0, _, _ => default
  | n1 + 1, v1_0, v1_1 => (bif (decide ((↑v1_1 : Int) < (↑a0.ZX.length : Int))) then Km a0 a1 n1 (v1_0 ++ ([(xA (nth a0.ZX v1_1).Method a1)] : List Int)) (v1_1 + 1) else (v1_0))
def yh (a0 : ZP) (a1 : Zc) : List Int := (match Km a0 a1 (a0.ZX.length + 1) ([] : List Int) 0 with | z1_0 => z1_0)
def JC (a0 : ZL) (a1 : Zc) : Nat → List (List Int) → Nat → (List (List Int))
  | 0, _, _ => default
  | n1 + 1, v1_0, v1_1 => (bif (decide ((↑v1_1 : Int) < (↑a0.ZO.length : Int))) then JC a0 a1 n1 (v1_0 ++ ([(yh (nth a0.ZO v1_1) a1)] : List (List Int))) (v1_1 + 1) else (v1_0))
def J7 (a0 : ZL) (a1 : Zc) : List (List Int) := (match JC a0 a1 (a0.ZO.length + 1) ([] : List (List Int)) 0 with | z1_0 => z1_0)
def qX (a0 : Int) : Bool := (YG a0 0 10000)
def jy (a0 : Int) : Bool := (YG a0 1 2147483646)
def N4 (a0 : Zs) : Bool := (((((YG a0.Number 1 99) && (YG a0.Js 0 99)) && (YG a0.Method 0 99)) && (qX a0.OC)) && (jy a0.xg))
def WM (a0 : List Zs) : Nat → Nat → Sum Bool Unit
  | 0, _ => .inr ()
  | n1 + 1, v1_0 => (bif (decide ((↑v1_0 : Int) < (↑a0.length : Int))) then (bif ((!(N4 (nth a0 v1_0))) || ((decide ((↑v1_0 : Int) > 0)) && (decide ((nth a0 (v1_0 - 1)).Number ≥ (nth a0 v1_0).Number)))) then (.inl false) else WM a0 n1 (v1_0 + 1)) else (.inr ()))
def Td (a0 : List Zs) : Bool := (match WM a0 (a0.length + 1) 0 with | .inl r1 => r1 | .inr _ => (decide ((↑a0.length : Int) ≤ 12)))
def Kn (a0 : List ZG) : Nat → Nat → Sum Bool Unit
  | 0, _ => .inr ()
  | n1 + 1, v1_0 => (bif (decide ((↑v1_0 : Int) < (↑a0.length : Int))) then (bif ((((!(YG (nth a0 v1_0).Id 0 99)) || (!(YG (nth a0 v1_0).Key 1 99))) || (!(YG (nth a0 v1_0).Error 0 100))) || ((decide ((↑v1_0 : Int) > 0)) && (decide ((nth a0 (v1_0 - 1)).Id ≥ (nth a0 v1_0).Id)))) then (.inl false) else Kn a0 n1 (v1_0 + 1)) else (.inr ()))
def z9 (a0 : List ZG) : Bool := (match Kn a0 (a0.length + 1) 0 with | .inl r1 => r1 | .inr _ => (decide ((↑a0.length : Int) ≤ 6)))
def UP (a0 : Zh) : Bool := ((((((YG a0.Id 0 99) && (qX a0.Ui)) && (YG a0.Ends 1 10001)) && (YG a0.qO 1 10001)) && (decide (a0.Ui < a0.Ends))) && (decide (a0.Ui < a0.qO)))
def xN (a0 : List Zh) : Nat → Nat → Sum Bool Unit
  | 0, _ => .inr ()
  | n1 + 1, v1_0 => (bif (decide ((↑v1_0 : Int) < (↑a0.length : Int))) then (bif ((!(UP (nth a0 v1_0))) || ((decide ((↑v1_0 : Int) > 0)) && (decide ((nth a0 (v1_0 - 1)).Id ≥ (nth a0 v1_0).Id)))) then (.inl false) else xN a0 n1 (v1_0 + 1)) else (.inr ()))
def jw (a0 : List Zh) : Bool := (match xN a0 (a0.length + 1) 0 with | .inl r1 => r1 | .inr _ => (decide ((↑a0.length : Int) ≤ 8)))
def VX (a0 : ZI) : Bool := (((((Td a0.YY) && (z9 a0.ZN)) && (jw a0.Methods)) && (YG a0.QR 0 6)) && (qX a0.Now))
def jK (a0 : Int) : Y7 := (Y7.mk 3 a0 (ZF.mk 0 0))
def zV (a0 : ZV) : Bool := ((((((((YG a0.Key 1 99) && (YG a0.YA 1 999)) && (YG a0.Method 0 99)) && (YG a0.Org 0 99)) && (YG a0.qS 1 3)) && (YG a0.Yz 0 1000000000000)) && (YG a0.y3 0 1000000000000)) && (YG a0.Kd 0 1000000000000))
def Rl (a0 : Int) : Y7 := (Y7.mk 2 a0 (ZF.mk 0 0))
def jT (a0 : List Zs) (a1 : Int) : Nat → Nat → Sum Int Unit
  | 0, _ => .inr ()
  | n1 + 1, v1_0 => (bif (decide ((↑v1_0 : Int) < (↑a0.length : Int))) then (bif ((nth a0 v1_0).Number == a1) then (.inl (↑v1_0 : Int)) else jT a0 a1 n1 (v1_0 + 1)) else (.inr ()))
def Ys (a0 : List Zs) (a1 : Int) : Int := (match jT a0 a1 (a0.length + 1) 0 with | .inl r1 => r1 | .inr _ => (-1))
def QH (a0 : ZV) : List Int := ([104, a0.Key, a0.YA, a0.Method, a0.Yz, a0.qS, a0.Org, a0.y3, a0.Kd] : List Int)
def We (a0 : Int) (a1 : List Int) : Int := (M8 ((([a0] : List Int) ++ a1) ++ ([a0] : List Int)))
def ke (a0 : Zs) (a1 : List Int) : Int := (We a0.xg (([a0.Method] : List Int) ++ a1))
def yP (a0 : List Zs) (a1 : Int) (a2 : List Int) (a3 : Int) : Bool := ((decide ((Ys a0 a1) ≥ 0)) && ((ke (nth a0 (Ys a0 a1).toNat) a2) == a3))
def zl (a0 : List Zs) (a1 : ZV) : Bool := ((zV a1) && (yP a0 a1.Key (QH a1) a1.Mark))
def ka (a0 : ZI) (a1 : Int) (a2 : ZV) : Y7 := (bif (!(VX a0)) then (jK 1) else (bif (!(zV a2)) then (Rl 1) else (bif (decide (a1 < 0)) then (jK 2) else (bif (a1 != a2.Yz) then (Rl 2) else (bif (decide ((Ys a0.YY a2.Key) < 0)) then (jK 3) else (bif (!(zl a0.YY a2)) then (Rl 4) else (Y7.mk 0 0 (ZF.mk 0 0))))))))
def XX (a0 : ZV) : ZD := (ZD.mk a0.Key (QH a0) a0.Mark)
def kx (a0 : List Int) (a1 : List Int) : Nat → Nat → Sum Bool Unit
  | 0, _ => .inr ()
  | n1 + 1, v1_0 => (bif (decide ((↑v1_0 : Int) < (↑a0.length : Int))) then (bif ((nth a0 v1_0) != (nth a1 v1_0)) then (.inl false) else kx a0 a1 n1 (v1_0 + 1)) else (.inr ()))
def Uv (a0 : List Int) (a1 : List Int) : Bool := (bif ((↑a0.length : Int) != (↑a1.length : Int)) then false else (match kx a0 a1 (a0.length + 1) 0 with | .inl r1 => r1 | .inr _ => true))
def zQ (a0 : ZD) (a1 : ZD) : Bool := (((a0.Key == a1.Key) && (a0.Mark == a1.Mark)) && (Uv a0.Zg a1.Zg))
def qj (a0 : ZP) (a1 : ZD) : Nat → Nat → Sum Int Unit
  | 0, _ => .inr ()
  | n1 + 1, v1_0 => (bif (decide ((↑v1_0 : Int) < (↑a0.Zd.length : Int))) then (bif (zQ (nth a0.Zd v1_0) a1) then (.inl (↑v1_0 : Int)) else qj a0 a1 n1 (v1_0 + 1)) else (.inr ()))
def xG (a0 : ZP) (a1 : ZD) : Int := (match qj a0 a1 (a0.Zd.length + 1) 0 with | .inl r1 => r1 | .inr _ => (-1))
def Jw (a0 : List ZG) (a1 : Int) : Nat → Nat → Sum Int Unit
  | 0, _ => .inr ()
  | n1 + 1, v1_0 => (bif (decide ((↑v1_0 : Int) < (↑a0.length : Int))) then (bif ((nth a0 v1_0).Id == a1) then (.inl (↑v1_0 : Int)) else Jw a0 a1 n1 (v1_0 + 1)) else (.inr ()))
def Z9 (a0 : List ZG) (a1 : Int) : Int := (match Jw a0 a1 (a0.length + 1) 0 with | .inl r1 => r1 | .inr _ => (-1))
def y5 (a0 : Int) (a1 : Int) : Int := (bif (decide (a1 > a0)) then a1 else a0)
def Vq (a0 : Int) (a1 : Int) : Int := (bif (decide (a1 < a0)) then a1 else a0)
def Xz (a0 : Int) (a1 : Int) : ZF × Bool := (bif (decide ((y5 0 a0) > (Vq 10000 a1))) then ((ZF.mk 0 0), false) else ((ZF.mk (y5 0 a0) (Vq 10000 a1)), true))
def K2 (a0 : List ZG) (a1 : ZY) : ZF × Bool := (bif (((decide ((Z9 a0 a1.Authority) < 0)) || (decide ((nth a0 (Z9 a0 a1.Authority).toNat).Error < 0))) || (!(qX a1.Time))) then ((ZF.mk 0 0), false) else ((Xz (W (a1.Time - (nth a0 (Z9 a0 a1.Authority).toNat).Error)) (W (a1.Time + (nth a0 (Z9 a0 a1.Authority).toNat).Error))).1, (Xz (W (a1.Time - (nth a0 (Z9 a0 a1.Authority).toNat).Error)) (W (a1.Time + (nth a0 (Z9 a0 a1.Authority).toNat).Error))).2))
def KB (a0 : ZF) : Bool := (((qX a0.YN) && (qX a0.To)) && (decide (a0.YN ≤ a0.To)))
def jH (a0 : List ZF) (a1 : Int) : Nat → Int → Nat → Int
  | 0, _, _ => default
  | n1 + 1, v1_0, v1_1 => (bif (decide ((↑v1_1 : Int) < (↑a0.length : Int))) then (bif (((KB (nth a0 v1_1)) && (decide ((nth a0 v1_1).YN ≤ a1))) && (decide (a1 ≤ (nth a0 v1_1).To))) then jH a0 a1 n1 (W (v1_0 + 1)) (v1_1 + 1) else jH a0 a1 n1 v1_0 (v1_1 + 1)) else (v1_0))
def SL (a0 : List ZF) (a1 : Int) : Int := (match jH a0 a1 (a0.length + 1) 0 0 with | z1_0 => z1_0)
def zX (a0 : List ZF) (a1 : Int) (a2 : Int) : Bool := ((YG a2 0 (W ((↑a0.length : Int) - 1))) && (decide ((SL a0 a1) ≥ (W ((↑a0.length : Int) - a2)))))
def Xv (a0 : List ZF) (a1 : Int) : Nat → Int → Int → Nat → Int × Int
  | 0, _, _, _ => (default, default)
  | n1 + 1, v1_0, v1_1, v1_2 => (bif (decide ((↑v1_2 : Int) < (↑a0.length : Int))) then (bif (((KB (nth a0 v1_2)) && (zX a0 (nth a0 v1_2).YN a1)) && ((decide (v1_0 < 0)) || (decide ((nth a0 v1_2).YN < v1_0)))) then (bif ((KB (nth a0 v1_2)) && (zX a0 (nth a0 v1_2).To a1)) then Xv a0 a1 n1 (nth a0 v1_2).YN (y5 v1_1 (nth a0 v1_2).To) (v1_2 + 1) else Xv a0 a1 n1 (nth a0 v1_2).YN v1_1 (v1_2 + 1)) else (bif ((KB (nth a0 v1_2)) && (zX a0 (nth a0 v1_2).To a1)) then Xv a0 a1 n1 v1_0 (y5 v1_1 (nth a0 v1_2).To) (v1_2 + 1) else Xv a0 a1 n1 v1_0 v1_1 (v1_2 + 1))) else ((v1_0, v1_1)))
def KL (a0 : List ZF) (a1 : Int) : ZF × Bool := (bif (!(YG a1 0 (W ((↑a0.length : Int) - 1)))) then ((ZF.mk 0 0), false) else (match Xv a0 a1 (a0.length + 1) (-1) (-1) 0 with | (z1_0, z1_1) => (bif (decide (z1_0 < 0)) then ((ZF.mk 0 0), false) else ((ZF.mk z1_0 z1_1), true))))
def yr (a0 : List ZG) (a1 : ZK) : Nat → List ZF → Nat → Sum (ZF × Bool) (List ZF)
  | 0, _, _ => .inr default
  | n1 + 1, v1_0, v1_1 => (bif (decide ((↑v1_1 : Int) < (↑a1.Zj.length : Int))) then (bif (!(K2 a0 (nth a1.Zj v1_1)).2) then (.inl ((ZF.mk 0 0), false)) else yr a0 a1 n1 (v1_0 ++ ([(K2 a0 (nth a1.Zj v1_1)).1] : List ZF)) (v1_1 + 1)) else (.inr v1_0))
def Qe (a0 : List ZG) (a1 : ZK) (a2 : Int) : ZF × Bool := (match yr a0 a1 (a1.Zj.length + 1) ([] : List ZF) 0 with | .inl r1 => r1 | .inr z1_0 => ((KL z1_0 a2).1, (KL z1_0 a2).2))
def zs (a0 : List Zh) (a1 : Int) : Nat → Nat → Sum Int Unit
  | 0, _ => .inr ()
  | n1 + 1, v1_0 => (bif (decide ((↑v1_0 : Int) < (↑a0.length : Int))) then (bif ((nth a0 v1_0).Id == a1) then (.inl (↑v1_0 : Int)) else zs a0 a1 n1 (v1_0 + 1)) else (.inr ()))
def zI (a0 : List Zh) (a1 : Int) : Int := (match zs a0 a1 (a0.length + 1) 0 with | .inl r1 => r1 | .inr _ => (-1))
def zj (a0 : List Zh) (a1 : Int) : Int := (bif (decide ((zI a0 a1) < 0)) then 0 else (nth a0 (zI a0 a1).toNat).qO)
def QQ (a0 : List ZG) (a1 : ZY) : Int := (bif (decide ((Z9 a0 a1.Authority) < 0)) then 0 else (nth a0 (Z9 a0 a1.Authority).toNat).Key)
def zt (a0 : List Zs) (a1 : List ZG) (a2 : List Zh) (a3 : ZK) : Nat → Int → Nat → Sum Int Int
  | 0, _, _ => .inr default
  | n1 + 1, v1_0, v1_1 => (bif (decide ((↑v1_1 : Int) < (↑a3.Zj.length : Int))) then (bif (decide ((Ys a0 (QQ a1 (nth a3.Zj v1_1))) < 0)) then (.inl 0) else zt a0 a1 a2 a3 n1 (Vq v1_0 (zj a2 (nth a0 (Ys a0 (QQ a1 (nth a3.Zj v1_1))).toNat).Method)) (v1_1 + 1)) else (.inr v1_0))
def zw (a0 : List Zs) (a1 : List ZG) (a2 : List Zh) (a3 : ZK) : Int := (match zt a0 a1 a2 a3 (a3.Zj.length + 1) (zj a2 a3.Method) 0 with | .inl r1 => r1 | .inr z1_0 => z1_0)
def WK (a0 : ZI) (a1 : ZP) (a2 : Int) : Bool := (bif (!(YG a2 0 (W ((↑a1.ZX.length : Int) - 1)))) then false else (bif (a2 == (W ((↑a1.ZX.length : Int) - 1))) then (decide (a0.Now < (zw a0.YY a0.ZN a0.Methods (nth a1.ZX a2.toNat)))) else ((Qe a0.ZN (nth a1.ZX (W (a2 + 1)).toNat) a0.QR).2 && (decide ((Qe a0.ZN (nth a1.ZX (W (a2 + 1)).toNat) a0.QR).1.To < (zw a0.YY a0.ZN a0.Methods (nth a1.ZX a2.toNat)))))))
def Jo (a0 : ZY) : List Int := ([103, a0.Authority, a0.Seq, a0.Time, a0.Yz] : List Int)
def zE (a1 : ZK) : Nat → List Int → Nat → (List Int)
  | 0, _, _ => default
  | n2 + 1, v2_0, v2_1 => (bif (decide ((↑v2_1 : Int) < (↑a1.Zj.length : Int))) then zE a1 n2 ((v2_0 ++ (Jo (nth a1.Zj v2_1))) ++ ([(nth a1.Zj v2_1).Mark] : List Int)) (v2_1 + 1) else (v2_0))
def Jv (a1 : ZK) : Nat → List Int → Nat → (List Int)
  | 0, _, _ => default
  | n1 + 1, v1_0, v1_1 => (bif (decide ((↑v1_1 : Int) < (↑a1.Path.length : Int))) then (bif (nth a1.Path v1_1).Left then Jv a1 n1 ((v1_0 ++ ([(nth a1.Path v1_1).Yz] : List Int)) ++ ([1] : List Int)) (v1_1 + 1) else Jv a1 n1 ((v1_0 ++ ([(nth a1.Path v1_1).Yz] : List Int)) ++ ([0] : List Int)) (v1_1 + 1)) else (v1_0))
def J6 (a0 : Int) (a1 : ZK) : Int := (match Jv a1 (a1.Path.length + 1) ([4, a1.Count, a1.Method, a1.OY] : List Int) 0 with | z1_0 => (match zE a1 (a1.Zj.length + 1) (z1_0 ++ ([(↑a1.Zj.length : Int)] : List Int)) 0 with | z2_0 => (JS a0 z2_0)))
def yI (a0 : Int) (a1 : List ZD) : Nat → List Int → Nat → (List Int)
  | 0, _, _ => default
  | n1 + 1, v1_0, v1_1 => (bif (decide ((↑v1_1 : Int) < (↑a1.length : Int))) then yI a0 a1 n1 (v1_0 ++ ([(JS a0 (([(nth a1 v1_1).Key, (nth a1 v1_1).Mark] : List Int) ++ (nth a1 v1_1).Zg))] : List Int)) (v1_1 + 1) else (v1_0))
def yA (a0 : Int) (a1 : List ZD) : Int := (match yI a0 a1 (a1.length + 1) ([2] : List Int) 0 with | z1_0 => (JS a0 z1_0))
def Tg (a0 : Int) (a1 : Int) (a2 : List ZD) (a3 : Int) : Int := (JS a0 ([3, a1, (yA a0 a2), a3] : List Int))
def SM (a0 : ZP) (a1 : List Int) (a2 : Int) : Int := (bif (((!(YG a2 0 (W ((↑a0.ZX.length : Int) - 1)))) || ((↑a1.length : Int) != (↑a0.ZX.length : Int))) || (!(YG (nth a0.ZX a2.toNat).Count 0 (↑a0.Zd.length : Int)))) then (-1) else (bif (decide (a2 > 0)) then (Tg (nth a0.ZX a2.toNat).Method (nth a1 a2.toNat) (a0.Zd.take (nth a0.ZX a2.toNat).Count.toNat) (J6 (nth a0.ZX a2.toNat).Method (nth a0.ZX (W (a2 - 1)).toNat))) else (Tg (nth a0.ZX a2.toNat).Method (nth a1 a2.toNat) (a0.Zd.take (nth a0.ZX a2.toNat).Count.toNat) 0)))
def xr (a0 : Int) (a1 : Int) (a2 : Int) : Int := (JS a0 ([1, a1, a2] : List Int))
def zz (a0 : Int) (a2 : List Ya) : Nat → Int → Nat → Int
  | 0, _, _ => default
  | n1 + 1, v1_0, v1_1 => (bif (decide ((↑v1_1 : Int) < (↑a2.length : Int))) then (bif (nth a2 v1_1).Left then zz a0 a2 n1 (xr a0 (nth a2 v1_1).Yz v1_0) (v1_1 + 1) else zz a0 a2 n1 (xr a0 v1_0 (nth a2 v1_1).Yz) (v1_1 + 1)) else (v1_0))
def kM (a0 : Int) (a1 : Int) (a2 : List Ya) : Int := (match zz a0 a2 (a2.length + 1) a1 0 with | z1_0 => z1_0)
def Jn (a0 : List Zs) (a1 : List ZG) (a2 : ZY) : ZY × Bool := (bif (((decide ((Z9 a1 a2.Authority) < 0)) || (decide (a2.Seq < 0))) || (!(qX a2.Time))) then ((ZY.mk 0 0 0 0 0), false) else (bif (decide ((Ys a0 (nth a1 (Z9 a1 a2.Authority).toNat).Key) < 0)) then ((ZY.mk 0 0 0 0 0), false) else ((ZY.mk a2.Authority a2.Seq a2.Time a2.Yz (ke (nth a0 (Ys a0 (nth a1 (Z9 a1 a2.Authority).toNat).Key).toNat) (Jo a2))), true)))
def kC (a0 : List Zs) (a1 : List ZG) (a2 : ZY) : Bool := ((Jn a0 a1 a2).2 && (((Jn a0 a1 a2).1.Authority == a2.Authority) && (((Jn a0 a1 a2).1.Seq == a2.Seq) && (((Jn a0 a1 a2).1.Time == a2.Time) && (((Jn a0 a1 a2).1.Yz == a2.Yz) && ((Jn a0 a1 a2).1.Mark == a2.Mark))))))
def zq (a0 : List Zs) (a1 : List ZG) (a2 : ZK) : Nat → Nat → Sum Bool Unit
  | 0, _ => .inr ()
  | n1 + 1, v1_0 => (bif (decide ((↑v1_0 : Int) < (↑a2.Zj.length : Int))) then (bif ((((nth a2.Zj v1_0).Yz != a2.OY) || ((decide ((↑v1_0 : Int) > 0)) && (decide ((nth a2.Zj (v1_0 - 1)).Authority ≥ (nth a2.Zj v1_0).Authority)))) || (!(kC a0 a1 (nth a2.Zj v1_0)))) then (.inl false) else zq a0 a1 a2 n1 (v1_0 + 1)) else (.inr ()))
def xM (a0 : List Zs) (a1 : List ZG) (a2 : ZK) (a3 : Int) : Bool := (bif (((decide ((↑a2.Path.length : Int) > 4)) || ((kM a2.Method a3 a2.Path) != a2.OY)) || (!(YG (↑a2.Zj.length : Int) 1 6))) then false else (match zq a0 a1 a2 (a2.Zj.length + 1) 0 with | .inl r1 => r1 | .inr _ => true))
def Pz (a0 : ZI) (a1 : ZP) (a2 : List Int) (a3 : Int) : Bool := (((Qe a0.ZN (nth a1.ZX a3.toNat) a0.QR).2 && (WK a0 a1 a3)) && (xM a0.YY a0.ZN (nth a1.ZX a3.toNat) (SM a1 a2 a3)))
def za (a0 : ZI) (a1 : ZP) (a2 : List Int) : Nat → Nat → Nat
  | 0, _ => default
  | n1 + 1, v1_0 => (bif ((decide ((↑v1_0 : Int) > 0)) && (Pz a0 a1 a2 (W ((↑v1_0 : Int) - 1)))) then za a0 a1 a2 n1 (v1_0 - 1) else (v1_0))
def zG (a0 : ZI) (a1 : ZP) (a2 : List Int) : Int := (match za a0 a1 a2 (a1.ZX.length + 1) a1.ZX.length with | z1_0 => (↑z1_0 : Int))
def jP (a0 : ZI) (a1 : ZP) (a3 : Int) : Nat → Int → Int → Int
  | 0, _, _ => default
  | n1 + 1, v1_0, v1_1 => (bif (decide (v1_1 < (↑a1.ZX.length : Int))) then (bif (decide ((nth a1.ZX v1_1.toNat).Count > a3)) then jP a0 a1 a3 n1 (Vq v1_0 (Qe a0.ZN (nth a1.ZX v1_1.toNat) a0.QR).1.To) (W (v1_1 + 1)) else jP a0 a1 a3 n1 v1_0 (W (v1_1 + 1))) else (v1_0))
def SR (a0 : ZI) (a1 : ZP) (a2 : List Int) (a3 : Int) : Int := (match jP a0 a1 a3 (a1.ZX.length + 2) a0.Now (zG a0 a1 a2) with | z1_0 => z1_0)
def xu (a0 : ZI) (a1 : ZP) (a2 : List Int) (a3 : ZD) : Int := (bif (decide ((xG a1 a3) < 0)) then a0.Now else (SR a0 a1 a2 (xG a1 a3)))
def zN (a0 : ZI) (a1 : ZL) (a2 : List (List Int)) (a3 : ZD) : Nat → Int → Nat → Int
  | 0, _, _ => default
  | n1 + 1, v1_0, v1_1 => (bif ((decide ((↑v1_1 : Int) < (↑a1.ZO.length : Int))) && (decide ((↑v1_1 : Int) < (↑a2.length : Int)))) then zN a0 a1 a2 a3 n1 (Vq v1_0 (xu a0 (nth a1.ZO v1_1) (nth a2 v1_1) a3)) (v1_1 + 1) else (v1_0))
def Yw (a0 : ZI) (a1 : ZL) (a2 : List (List Int)) (a3 : ZD) : Int := (match zN a0 a1 a2 a3 (a1.ZO.length + 1) a0.Now 0 with | z1_0 => z1_0)
def XS (a0 : ZD) : Int := (bif (((↑a0.Zg.length : Int) == 0) || (!(YG (nth a0.Zg 0) 101 105))) then 0 else (bif ((↑a0.Zg.length : Int) != (nth ([7, 5, 5, 9, 6] : List Int) (W ((nth a0.Zg 0) - 101)).toNat)) then 0 else (nth a0.Zg 0)))
def Xi (a0 : ZD) : Zn × Bool := (bif (((XS a0) != 101) || ((nth a0.Zg 6) != a0.Key)) then ((Zn.mk 0 0 0 0 0 0 0), false) else ((Zn.mk (nth a0.Zg 1) (nth a0.Zg 2) (nth a0.Zg 3) (nth a0.Zg 4) (nth a0.Zg 5) (nth a0.Zg 6) a0.Mark), true))
def Qu (a0 : ZD) : Zu × Bool := (bif (((XS a0) != 102) || ((nth a0.Zg 4) != a0.Key)) then ((Zu.mk 0 0 0 0 0), false) else ((Zu.mk (nth a0.Zg 1) (nth a0.Zg 2) (nth a0.Zg 3) (nth a0.Zg 4) a0.Mark), true))
def xy (a0 : ZD) : ZY × Bool := (bif ((XS a0) != 103) then ((ZY.mk 0 0 0 0 0), false) else ((ZY.mk (nth a0.Zg 1) (nth a0.Zg 2) (nth a0.Zg 3) (nth a0.Zg 4) a0.Mark), true))
def jV (a0 : ZD) : ZV × Bool := (bif (((XS a0) != 104) || ((nth a0.Zg 1) != a0.Key)) then ((ZV.mk 0 0 0 0 0 0 0 0 0), false) else ((ZV.mk (nth a0.Zg 1) (nth a0.Zg 2) (nth a0.Zg 3) (nth a0.Zg 4) (nth a0.Zg 5) (nth a0.Zg 6) (nth a0.Zg 7) (nth a0.Zg 8) a0.Mark), true))
def Jk (a0 : ZD) : Zy × Bool := (bif (((XS a0) != 105) || ((nth a0.Zg 5) != a0.Key)) then ((Zy.mk 0 0 0 0 0 0), false) else ((Zy.mk (nth a0.Zg 1) (nth a0.Zg 2) (nth a0.Zg 3) (nth a0.Zg 4) (nth a0.Zg 5) a0.Mark), true))
def Sf (a0 : ZD) : Bool := (((((Xi a0).2 || (Qu a0).2) || (xy a0).2) || (jV a0).2) || (Jk a0).2)
def qJ (a0 : List Zs) (a1 : ZD) : Bool := ((Sf a1) && (yP a0 a1.Key a1.Zg a1.Mark))
def WW (a0 : ZI) (a1 : ZL) (a2 : List (List Int)) (a3 : ZD) : Bool := (((decide ((Ys a0.YY a3.Key) ≥ 0)) && (qJ a0.YY a3)) && (decide ((Yw a0 a1 a2 a3) < (zj a0.Methods (nth a0.YY (Ys a0.YY a3.Key).toNat).Method))))
def yq (a0 : ZD) (a1 : ZD) : Nat → Nat → Sum Bool Unit
  | 0, _ => .inr ()
  | n1 + 1, v1_0 => (bif ((decide ((↑v1_0 : Int) < (↑a0.Zg.length : Int))) && (decide ((↑v1_0 : Int) < (↑a1.Zg.length : Int)))) then (bif ((nth a0.Zg v1_0) != (nth a1.Zg v1_0)) then (.inl (decide ((nth a0.Zg v1_0) < (nth a1.Zg v1_0)))) else yq a0 a1 n1 (v1_0 + 1)) else (.inr ()))
def qk (a0 : ZD) (a1 : ZD) : Bool := (match yq a0 a1 (a0.Zg.length + 1) 0 with | .inl r1 => r1 | .inr _ => (bif ((↑a0.Zg.length : Int) != (↑a1.Zg.length : Int)) then (decide ((↑a0.Zg.length : Int) < (↑a1.Zg.length : Int))) else (bif (a0.Key != a1.Key) then (decide (a0.Key < a1.Key)) else (decide (a0.Mark < a1.Mark)))))
def Qw (a0 : List ZD) (a1 : ZD) : Nat → Nat → Nat
  | 0, _ => default
  | n1 + 1, v1_0 => (bif ((decide ((↑v1_0 : Int) < (↑a0.length : Int))) && (qk (nth a0 v1_0) a1)) then Qw a0 a1 n1 (v1_0 + 1) else (v1_0))
def yv (a0 : List ZD) (a1 : ZD) : List ZD := (match Qw a0 a1 (a0.length + 1) 0 with | z1_0 => (bif ((decide ((↑z1_0 : Int) < (↑a0.length : Int))) && (zQ (nth a0 z1_0) a1)) then a0 else (((a0.take z1_0) ++ ([a1] : List ZD)) ++ (a0.drop z1_0))))
def Xy (a0 : ZI) (a1 : ZL) (a2 : List (List Int)) (v1_1 : Nat) : Nat → List ZD → Nat → (List ZD)
  | 0, _, _ => default
  | n2 + 1, v2_0, v2_1 => (bif (decide ((↑v2_1 : Int) < (↑(nth a1.ZO v1_1).Zd.length : Int))) then (bif (WW a0 a1 a2 (nth (nth a1.ZO v1_1).Zd v2_1)) then Xy a0 a1 a2 v1_1 n2 (yv v2_0 (nth (nth a1.ZO v1_1).Zd v2_1)) (v2_1 + 1) else Xy a0 a1 a2 v1_1 n2 v2_0 (v2_1 + 1)) else (v2_0))
def JU (a0 : ZI) (a1 : ZL) (a2 : List (List Int)) : Nat → List ZD → Nat → (List ZD)
  | 0, _, _ => default
  | n1 + 1, v1_0, v1_1 => (bif (decide ((↑v1_1 : Int) < (↑a1.ZO.length : Int))) then (match Xy a0 a1 a2 v1_1 ((nth a1.ZO v1_1).Zd.length + 1) v1_0 0 with | z2_0 => JU a0 a1 a2 n1 z2_0 (v1_1 + 1)) else (v1_0))
def Zq (a0 : ZI) (a1 : ZL) (a2 : List (List Int)) : List ZD := (match JU a0 a1 a2 (a1.ZO.length + 1) ([] : List ZD) 0 with | z1_0 => z1_0)
def xZ (a0 : Zn) : ZF := (ZF.mk a0.YN a0.To)
def Ri (a0 : Zn) : Bool := ((((((YG a0.YA 1 999) && (YG a0.Key 1 99)) && (YG a0.Qd 1 99)) && (a0.Key != a0.Qd)) && (YG a0.Js 0 99)) && (KB (xZ a0)))
def yo (a0 : Zn) : List Int := ([101, a0.YA, a0.Key, a0.Js, a0.YN, a0.To, a0.Qd] : List Int)
def VU (a0 : List Zs) (a1 : Int) : Int := (bif (decide ((Ys a0 a1) < 0)) then (-1) else (nth a0 (Ys a0 a1).toNat).Js)
def WS (a0 : List Zs) (a1 : Zn) : Bool := (((Ri a1) && (yP a0 a1.Qd (yo a1) a1.Mark)) && ((VU a0 a1.Key) == a1.Js))
def jJ (a0 : ZI) (a1 : List ZD) (a2 : ZV) : Nat → Int → Nat → Int → Int → Int → Int → Int → Int → Int → Int × Int × Int × Int × Int × Int × Int × Int
  | 0, _, _, _, _, _, _, _, _, _ => (default, default, default, default, default, default, default, default)
  | n1 + 1, v1_0, v1_1, v1_2, v1_3, v1_4, v1_5, v1_6, v1_7, v1_8 => (bif (decide ((↑v1_1 : Int) < (↑a1.length : Int))) then (bif ((((Xi (nth a1 v1_1)).2 && (WS a0.YY (Xi (nth a1 v1_1)).1)) && ((Xi (nth a1 v1_1)).1.YA == a2.YA)) && ((Xi (nth a1 v1_1)).1.Key == a2.Key)) then jJ a0 a1 a2 n1 (W (v1_0 + 1)) (v1_1 + 1) (Xi (nth a1 v1_1)).1.YA (Xi (nth a1 v1_1)).1.Key (Xi (nth a1 v1_1)).1.Js (Xi (nth a1 v1_1)).1.YN (Xi (nth a1 v1_1)).1.To (Xi (nth a1 v1_1)).1.Qd (Xi (nth a1 v1_1)).1.Mark else jJ a0 a1 a2 n1 v1_0 (v1_1 + 1) v1_2 v1_3 v1_4 v1_5 v1_6 v1_7 v1_8) else ((v1_0, v1_2, v1_3, v1_4, v1_5, v1_6, v1_7, v1_8)))
def Qp (a0 : ZI) (a1 : List ZD) (a2 : ZV) : Zn × Bool := (match jJ a0 a1 a2 (a1.length + 1) 0 0 0 0 0 0 0 0 0 with | (z1_0, z1_1, z1_2, z1_3, z1_4, z1_5, z1_6, z1_7) => (bif (z1_0 != 1) then ((Zn.mk 0 0 0 0 0 0 0), false) else ((Zn.mk z1_1 z1_2 z1_3 z1_4 z1_5 z1_6 z1_7), true)))
def zo (a1 : List ZY) : Nat → List Int → Nat → (List Int)
  | 0, _, _ => default
  | n1 + 1, v1_0, v1_1 => (bif (decide ((↑v1_1 : Int) < (↑a1.length : Int))) then zo a1 n1 (v1_0 ++ ([(nth a1 v1_1).Mark] : List Int)) (v1_1 + 1) else (v1_0))
def yG (a0 : Int) (a1 : List ZY) : Int := (bif ((↑a1.length : Int) == 0) then 0 else (match zo a1 (a1.length + 1) ([] : List Int) 0 with | z1_0 => (y5 1 (JS a0 z1_0))))
def yj (a0 : Int) (a1 : ZY) : ZD := (ZD.mk a0 (Jo a1) a1.Mark)
def V2 (a0 : List ZD) (a1 : ZD) : Nat → Nat → Sum Bool Unit
  | 0, _ => .inr ()
  | n1 + 1, v1_0 => (bif (decide ((↑v1_0 : Int) < (↑a0.length : Int))) then (bif (zQ (nth a0 v1_0) a1) then (.inl true) else V2 a0 a1 n1 (v1_0 + 1)) else (.inr ()))
def Rt (a0 : List ZD) (a1 : ZD) : Bool := (match V2 a0 a1 (a0.length + 1) 0 with | .inl r1 => r1 | .inr _ => false)
def j8 (a0 : ZI) (a1 : List ZD) (a2 : List ZY) : Nat → List ZF → Nat → Sum (Int × Bool) (List ZF)
  | 0, _, _ => .inr default
  | n1 + 1, v1_0, v1_1 => (bif (decide ((↑v1_1 : Int) < (↑a2.length : Int))) then (bif (((!(K2 a0.ZN (nth a2 v1_1)).2) || ((decide ((↑v1_1 : Int) > 0)) && (decide ((nth a2 (v1_1 - 1)).Authority ≥ (nth a2 v1_1).Authority)))) || (!(Rt a1 (yj (QQ a0.ZN (nth a2 v1_1)) (nth a2 v1_1))))) then (.inl (0, false)) else j8 a0 a1 a2 n1 (v1_0 ++ ([(K2 a0.ZN (nth a2 v1_1)).1] : List ZF)) (v1_1 + 1)) else (.inr v1_0))
def Ki (a0 : ZI) (a1 : List ZD) (a2 : List ZY) : Int × Bool := (match j8 a0 a1 a2 (a2.length + 1) ([] : List ZF) 0 with | .inl r1 => r1 | .inr z1_0 => ((KL z1_0 a0.QR).1.YN, (KL z1_0 a0.QR).2))
def Qv (a0 : ZI) (a1 : ZL) (a2 : List ZD) (a3 : ZV) : Nat → Int → Nat → Int
  | 0, _, _ => default
  | n1 + 1, v1_0, v1_1 => (bif ((decide ((↑v1_1 : Int) < (↑a1.Zv.length : Int))) && (a3.Kd != 0)) then (bif ((yG a3.Method (nth a1.Zv v1_1)) != a3.Kd) then Qv a0 a1 a2 a3 n1 v1_0 (v1_1 + 1) else (bif (Ki a0 a2 (nth a1.Zv v1_1)).2 then Qv a0 a1 a2 a3 n1 (y5 v1_0 (Ki a0 a2 (nth a1.Zv v1_1)).1) (v1_1 + 1) else Qv a0 a1 a2 a3 n1 v1_0 (v1_1 + 1))) else (v1_0))
def zb (a0 : ZI) (a1 : ZL) (a2 : List ZD) (a3 : ZV) : Nat → Int → Nat → Int
  | 0, _, _ => default
  | n2 + 1, v2_0, v2_1 => (bif ((decide ((↑v2_1 : Int) < (↑a1.Zv.length : Int))) && (a3.Kd != 0)) then (bif ((yG a3.Method (nth a1.Zv v2_1)) != a3.Kd) then zb a0 a1 a2 a3 n2 v2_0 (v2_1 + 1) else (bif (Ki a0 a2 (nth a1.Zv v2_1)).2 then zb a0 a1 a2 a3 n2 (y5 v2_0 (Ki a0 a2 (nth a1.Zv v2_1)).1) (v2_1 + 1) else zb a0 a1 a2 a3 n2 v2_0 (v2_1 + 1))) else (v2_0))
def QF (a0 : ZI) (a1 : ZL) (a2 : List ZD) (a3 : ZV) : Int := (bif (decide ((Ys a0.YY a3.Key) ≥ 0)) then (match Qv a0 a1 a2 a3 (a1.Zv.length + 1) (nth a0.YY (Ys a0.YY a3.Key).toNat).OC 0 with | z1_0 => z1_0) else (match zb a0 a1 a2 a3 (a1.Zv.length + 1) 0 0 with | z2_0 => z2_0))
def Jx (a0 : List ZD) (a1 : Zn) : Nat → List Zu → Nat → (List Zu)
  | 0, _, _ => default
  | n1 + 1, v1_0, v1_1 => (bif (decide ((↑v1_1 : Int) < (↑a0.length : Int))) then (bif (((Qu (nth a0 v1_1)).2 && ((Qu (nth a0 v1_1)).1.YA == a1.YA)) && ((Qu (nth a0 v1_1)).1.Qd == a1.Qd)) then Jx a0 a1 n1 (v1_0 ++ ([(Qu (nth a0 v1_1)).1] : List Zu)) (v1_1 + 1) else Jx a0 a1 n1 v1_0 (v1_1 + 1)) else (v1_0))
def JZ (a0 : List ZD) (a1 : Zn) : List Zu := (match Jx a0 a1 (a0.length + 1) ([] : List Zu) 0 with | z1_0 => z1_0)
def XG (a0 : List ZF) (a1 : Int) (a2 : Int) : List ZF := (bif (!(Xz a1 a2).2) then a0 else (a0 ++ ([(Xz a1 a2).1] : List ZF)))
def xj (a0 : List Zu) (a1 : Int) : Nat → Int → Int → Nat → Int × Int
  | 0, _, _, _ => (default, default)
  | n1 + 1, v1_0, v1_1, v1_2 => (bif (decide ((↑v1_2 : Int) < (↑a0.length : Int))) then (bif ((nth a0 v1_2).YA != a1) then xj a0 a1 n1 v1_0 v1_1 (v1_2 + 1) else (bif (decide ((nth a0 v1_2).YW ≥ 0)) then xj a0 a1 n1 (y5 v1_0 (nth a0 v1_2).YW) v1_1 (v1_2 + 1) else xj a0 a1 n1 v1_0 (y5 v1_1 (nth a0 v1_2).Cg) (v1_2 + 1))) else ((v1_0, v1_1)))
def JE (a0 : List Zu) (a1 : Int) : Int := (match xj a0 a1 (a0.length + 1) (-1) (-1) 0 with | (z1_0, z1_1) => (bif (decide (z1_0 < 0)) then 10001 else (y5 z1_0 (W (z1_1 + 1)))))
def SH (z1_0 : List ZF) (z1_1 : Int) : Nat → Nat → Nat
  | 0, _ => default
  | n2 + 1, v2_0 => (bif ((decide ((↑v2_0 : Int) < (↑z1_0.length : Int))) && (decide ((nth z1_0 v2_0).YN < z1_1))) then SH z1_0 z1_1 n2 (v2_0 + 1) else (v2_0))
def jG (a0 : List ZF) : Nat → List ZF → Nat → Int → Int → (List ZF) × Int × Int
  | 0, _, _, _, _ => (default, default, default)
  | n1 + 1, v1_0, v1_1, v1_2, v1_3 => (bif (decide ((↑v1_1 : Int) < (↑a0.length : Int))) then (bif ((decide ((W ((nth a0 v1_1).To + 1)) < v1_2)) || (decide ((W (v1_3 + 1)) < (nth a0 v1_1).YN))) then jG a0 n1 (v1_0 ++ ([(nth a0 v1_1)] : List ZF)) (v1_1 + 1) v1_2 v1_3 else jG a0 n1 v1_0 (v1_1 + 1) (Vq v1_2 (nth a0 v1_1).YN) (y5 v1_3 (nth a0 v1_1).To)) else ((v1_0, v1_2, v1_3)))
def SY (a0 : List ZF) (a1 : ZF) : List ZF := (match jG a0 (a0.length + 1) ([] : List ZF) 0 a1.YN a1.To with | (z1_0, z1_1, z1_2) => (match SH z1_0 z1_1 (z1_0.length + 1) 0 with | z2_0 => (((z1_0.take z2_0) ++ ([(ZF.mk z1_1 z1_2)] : List ZF)) ++ ((z1_0.drop z2_0).take (z1_0.length - z2_0)))))
def yV (a0 : List ZF) : Nat → List ZF → Nat → (List ZF)
  | 0, _, _ => default
  | n1 + 1, v1_0, v1_1 => (bif (decide ((↑v1_1 : Int) < (↑a0.length : Int))) then (bif (KB (nth a0 v1_1)) then yV a0 n1 (SY v1_0 (nth a0 v1_1)) (v1_1 + 1) else yV a0 n1 v1_0 (v1_1 + 1)) else (v1_0))
def Xx (a0 : List ZF) : List ZF := (match yV a0 (a0.length + 1) ([] : List ZF) 0 with | z1_0 => z1_0)
def xF (a0 : Zn) (a1 : List Zu) : List ZF := (bif (decide (a0.YN > 0)) then (bif (decide (a0.To < 10000)) then (Xx (XG (XG (XG ([] : List ZF) 0 (W (a0.YN - 1))) (W (a0.To + 1)) 10000) (JE a1 a0.YA) 10000)) else (Xx (XG (XG ([] : List ZF) 0 (W (a0.YN - 1))) (JE a1 a0.YA) 10000))) else (bif (decide (a0.To < 10000)) then (Xx (XG (XG ([] : List ZF) (W (a0.To + 1)) 10000) (JE a1 a0.YA) 10000)) else (Xx (XG ([] : List ZF) (JE a1 a0.YA) 10000))))
def V3 (a0 : ZF) (a1 : ZF) : Bool := ((((KB a0) && (KB a1)) && (decide (a1.YN ≤ a0.YN))) && (decide (a0.To ≤ a1.To)))
def xO (a0 : List ZF) (a1 : ZF) : Nat → Nat → Sum Bool Unit
  | 0, _ => .inr ()
  | n1 + 1, v1_0 => (bif (decide ((↑v1_0 : Int) < (↑(Xx a0).length : Int))) then (bif (V3 a1 (nth (Xx a0) v1_0)) then (.inl true) else xO a0 a1 n1 (v1_0 + 1)) else (.inr ()))
def ya (a0 : List ZF) (a1 : ZF) : Bool := (match xO a0 a1 ((Xx a0).length + 1) 0 with | .inl r1 => r1 | .inr _ => false)
def V7 (a0 : Zn) (a1 : List Zu) (a2 : ZF) : Bool := (ya (xF a0 a1) a2)
def KU (a0 : List Zu) (a1 : Int) : Nat → Int → Int → Nat → Int × Int
  | 0, _, _, _ => (default, default)
  | n1 + 1, v1_0, v1_1, v1_2 => (bif (decide ((↑v1_2 : Int) < (↑a0.length : Int))) then (bif ((nth a0 v1_2).YA != a1) then KU a0 a1 n1 v1_0 v1_1 (v1_2 + 1) else (bif (decide ((nth a0 v1_2).YW < 0)) then KU a0 a1 n1 v1_0 (y5 v1_1 (nth a0 v1_2).Cg) (v1_2 + 1) else (bif ((decide (v1_0 < 0)) || (decide ((nth a0 v1_2).YW < v1_0))) then KU a0 a1 n1 (nth a0 v1_2).YW v1_1 (v1_2 + 1) else KU a0 a1 n1 v1_0 v1_1 (v1_2 + 1)))) else ((v1_0, v1_1)))
def zK (a0 : List Zu) (a1 : Int) : Int := (match KU a0 a1 (a0.length + 1) (-1) (-1) 0 with | (z1_0, z1_1) => (bif (decide (z1_0 ≥ 0)) then (W (z1_0 - 1)) else z1_1))
def zB (a0 : ZF) (a1 : ZF) : ZF × Bool := (bif ((!(KB a0)) || (!(KB a1))) then ((ZF.mk 0 0), false) else ((Xz (y5 a0.YN a1.YN) (Vq a0.To a1.To)).1, (Xz (y5 a0.YN a1.YN) (Vq a0.To a1.To)).2))
def jX (a0 : List ZF) (a1 : List ZF) (v1_1 : Nat) : Nat → List ZF → Nat → (List ZF)
  | 0, _, _ => default
  | n2 + 1, v2_0, v2_1 => (bif (decide ((↑v2_1 : Int) < (↑a1.length : Int))) then (bif (zB (nth a0 v1_1) (nth a1 v2_1)).2 then jX a0 a1 v1_1 n2 (v2_0 ++ ([(zB (nth a0 v1_1) (nth a1 v2_1)).1] : List ZF)) (v2_1 + 1) else jX a0 a1 v1_1 n2 v2_0 (v2_1 + 1)) else (v2_0))
def Wj (a0 : List ZF) (a1 : List ZF) : Nat → List ZF → Nat → (List ZF)
  | 0, _, _ => default
  | n1 + 1, v1_0, v1_1 => (bif (decide ((↑v1_1 : Int) < (↑a0.length : Int))) then (match jX a0 a1 v1_1 (a1.length + 1) v1_0 0 with | z2_0 => Wj a0 a1 n1 z2_0 (v1_1 + 1)) else (v1_0))
def VY (a0 : List ZF) (a1 : List ZF) : List ZF := (match Wj a0 a1 (a0.length + 1) ([] : List ZF) 0 with | z1_0 => (Xx z1_0))
def yO (a0 : Zn) (a1 : List Zu) : List ZF := (bif ((!(Xz 0 (zK a1 a0.YA)).2) || (decide ((zK a1 a0.YA) > 10000))) then ([] : List ZF) else (VY ([(xZ a0)] : List ZF) ([(Xz 0 (zK a1 a0.YA)).1] : List ZF)))
def kI (a0 : Zn) (a1 : List Zu) (a2 : ZF) : Bool := (ya (yO a0 a1) a2)
def Kk (a0 : List ZD) : Nat → List Zy → Nat → (List Zy)
  | 0, _, _ => default
  | n1 + 1, v1_0, v1_1 => (bif (decide ((↑v1_1 : Int) < (↑a0.length : Int))) then (bif (Jk (nth a0 v1_1)).2 then Kk a0 n1 (v1_0 ++ ([(Jk (nth a0 v1_1)).1] : List Zy)) (v1_1 + 1) else Kk a0 n1 v1_0 (v1_1 + 1)) else (v1_0))
def yp (a0 : List ZD) : List Zy := (match Kk a0 (a0.length + 1) ([] : List Zy) 0 with | z1_0 => z1_0)
def WV (a0 : Zy) : Bool := ((((YG a0.Org 1 99) && (YG a0.V4 0 99)) && (YG a0.Key 1 99)) && (KB (ZF.mk a0.YN a0.To)))
def JV (a0 : Zy) : List Int := ([105, a0.Org, a0.V4, a0.YN, a0.To, a0.Key] : List Int)
def xJ (a0 : List Zs) (a1 : Zy) : Bool := (((WV a1) && ((VU a0 a1.Key) == a1.Org)) && (yP a0 a1.Key (JV a1) a1.Mark))
def JP (a0 : List Zs) (a1 : List Zy) (a2 : Int) (a3 : Int) : Nat → List ZF → Nat → (List ZF)
  | 0, _, _ => default
  | n1 + 1, v1_0, v1_1 => (bif (decide ((↑v1_1 : Int) < (↑a1.length : Int))) then (bif ((((nth a1 v1_1).Org == a2) && ((nth a1 v1_1).V4 == a3)) && (xJ a0 (nth a1 v1_1))) then JP a0 a1 a2 a3 n1 (v1_0 ++ ([(ZF.mk (nth a1 v1_1).YN (nth a1 v1_1).To)] : List ZF)) (v1_1 + 1) else JP a0 a1 a2 a3 n1 v1_0 (v1_1 + 1)) else (v1_0))
def Kf (a0 : List Zs) (a1 : List Zy) (a2 : Int) (a3 : Int) : List ZF := (match JP a0 a1 a2 a3 (a1.length + 1) ([] : List ZF) 0 with | z1_0 => (Xx z1_0))
def jm (a0 : List Zs) (a1 : List Zy) (a2 : Int) (a3 : Int) (a4 : ZF) : Bool := (bif (a2 == 0) then (KB a4) else (ya (Kf a0 a1 a2 a3) a4))
def xC (a0 : ZI) (a1 : ZL) (a2 : List (List Int)) (a3 : Int) (a4 : ZV) : Y7 := (bif ((ka a0 a3 a4).Code != 0) then (ka a0 a3 a4) else (bif ((decide ((Yw a0 a1 a2 (XX a4)) ≥ (zj a0.Methods (nth a0.YY (Ys a0.YY a4.Key).toNat).Method))) || (decide ((Yw a0 a1 a2 (XX a4)) ≥ (zj a0.Methods a4.Method)))) then (jK 5) else (bif (!(Qp a0 (Zq a0 a1 a2) a4).2) then (jK 6) else (bif (decide ((QF a0 a1 (Zq a0 a1 a2) a4) > (Yw a0 a1 a2 (XX a4)))) then (jK 7) else (bif (V7 (Qp a0 (Zq a0 a1 a2) a4).1 (JZ (Zq a0 a1 a2) (Qp a0 (Zq a0 a1 a2) a4).1) (ZF.mk (QF a0 a1 (Zq a0 a1 a2) a4) (Yw a0 a1 a2 (XX a4)))) then (Y7.mk 2 8 (ZF.mk (QF a0 a1 (Zq a0 a1 a2) a4) (Yw a0 a1 a2 (XX a4)))) else (bif (!(kI (Qp a0 (Zq a0 a1 a2) a4).1 (JZ (Zq a0 a1 a2) (Qp a0 (Zq a0 a1 a2) a4).1) (ZF.mk (QF a0 a1 (Zq a0 a1 a2) a4) (Yw a0 a1 a2 (XX a4))))) then (Y7.mk 3 7 (ZF.mk (QF a0 a1 (Zq a0 a1 a2) a4) (Yw a0 a1 a2 (XX a4)))) else (bif (!(jm a0.YY (yp (Zq a0 a1 a2)) a4.Org (Qp a0 (Zq a0 a1 a2) a4).1.Js (ZF.mk (QF a0 a1 (Zq a0 a1 a2) a4) (Yw a0 a1 a2 (XX a4))))) then (Y7.mk 3 9 (ZF.mk (QF a0 a1 (Zq a0 a1 a2) a4) (Yw a0 a1 a2 (XX a4)))) else (Y7.mk 1 0 (ZF.mk (QF a0 a1 (Zq a0 a1 a2) a4) (Yw a0 a1 a2 (XX a4)))))))))))
def NI (a0 : ZI) (a1 : ZL) (a2 : Zc) (a3 : ZV) : Y7 := (xC a0 a1 (J7 a1 a2) (xA a3.Method a2) a3)
def WQ (a0 : ZI) (a1 : Zm) : Y7 := (NI a0 (zy a1) a1.Doc a1.Sig)
def JY (a0 : Zo) (a1 : Int) : Y7 := (bif (decide ((Q5 a0 a1).1 < 0)) then (Y7.mk 0 0 (ZF.mk 0 0)) else (WQ a0.Frame (nth (nth a0.ZJ (Q5 a0 a1).1.toNat).YM (Q5 a0 a1).2.toNat)))
def yH (a0 : Zo) (v1_1 : Nat) : Nat → List Int → Nat → (List Int)
  | 0, _, _ => default
  | n2 + 1, v2_0, v2_1 => (bif (decide ((↑v2_1 : Int) < (↑(nth a0.ZJ v1_1).YM.length : Int))) then (bif ((JY a0 (nth (nth a0.ZJ v1_1).YM v2_1).Id).Code == 1) then yH a0 v1_1 n2 (v2_0 ++ ([(nth (nth a0.ZJ v1_1).YM v2_1).Id] : List Int)) (v2_1 + 1) else yH a0 v1_1 n2 v2_0 (v2_1 + 1)) else (v2_0))
def xh (a0 : Zo) : Nat → List Int → Nat → (List Int)
  | 0, _, _ => default
  | n1 + 1, v1_0, v1_1 => (bif (decide ((↑v1_1 : Int) < (↑a0.ZJ.length : Int))) then (match yH a0 v1_1 ((nth a0.ZJ v1_1).YM.length + 1) v1_0 0 with | z2_0 => xh a0 n1 z2_0 (v1_1 + 1)) else (v1_0))
def Y2 (a0 : Zo) : List Int := (match xh a0 (a0.ZJ.length + 1) ([] : List Int) 0 with | z1_0 => z1_0)
def U3 (a0 : Zo) : Nat → List Zm → Nat → (List Zm)
  | 0, _, _ => default
  | n1 + 1, v1_0, v1_1 => (bif (decide ((↑v1_1 : Int) < (↑a0.ZJ.length : Int))) then U3 a0 n1 (v1_0 ++ (nth a0.ZJ v1_1).YM) (v1_1 + 1) else (v1_0))
def QN (a0 : Zo) : List Zm := (match U3 a0 (a0.ZJ.length + 1) ([] : List Zm) 0 with | z1_0 => z1_0)
def qG (a0 : Zf) (a1 : Int) : Nat → Nat → Sum Int Unit
  | 0, _ => .inr ()
  | n1 + 1, v1_0 => (bif (decide ((↑v1_0 : Int) < (↑a0.YM.length : Int))) then (bif ((nth a0.YM v1_0).Id == a1) then (.inl (↑v1_0 : Int)) else qG a0 a1 n1 (v1_0 + 1)) else (.inr ()))
def xR (a0 : Zf) (a1 : Int) : Int := (match qG a0 a1 (a0.YM.length + 1) 0 with | .inl r1 => r1 | .inr _ => (-1))
def xV (a0 : Zo) (a1 : Int) : Nat → Nat → Sum (Int × Int) Unit
  | 0, _ => .inr ()
  | n1 + 1, v1_0 => (bif (decide ((↑v1_0 : Int) < (↑a0.ZJ.length : Int))) then (bif (decide ((xR (nth a0.ZJ v1_0) a1) ≥ 0)) then (.inl ((↑v1_0 : Int), (xR (nth a0.ZJ v1_0) a1))) else xV a0 a1 n1 (v1_0 + 1)) else (.inr ()))
def Q0 (a0 : Zo) (a1 : Int) : Int × Int := (match xV a0 a1 (a0.ZJ.length + 1) 0 with | .inl r1 => r1 | .inr _ => ((-1), (-1)))
def Oi (a0 : List Int) : List Int := a0
def PW (a0 : ZD) : ZD := a0
def kK (a0 : List ZD) : Nat → List ZD → Nat → (List ZD)
  | 0, _, _ => default
  | n1 + 1, v1_0, v1_1 => (bif (decide ((↑v1_1 : Int) < (↑a0.length : Int))) then kK a0 n1 (v1_0 ++ ([(nth a0 v1_1)] : List ZD)) (v1_1 + 1) else (v1_0))
def VG (a0 : List ZD) : List ZD := (match kK a0 (a0.length + 1) ([] : List ZD) 0 with | z1_0 => z1_0)
def S0 (a0 : List ZY) : List ZY := a0
def TU (a0 : ZK) : ZK := a0
def jt (a0 : ZP) : Nat → Nat → List ZK → (List ZK)
  | 0, _, _ => default
  | n1 + 1, v1_0, v1_1 => (bif (decide ((↑v1_0 : Int) < (↑a0.ZX.length : Int))) then jt a0 n1 (v1_0 + 1) (v1_1 ++ ([(nth a0.ZX v1_0)] : List ZK)) else (v1_1))
def VH (a0 : ZP) : ZP := (match jt a0 (a0.ZX.length + 1) 0 ([] : List ZK) with | z1_0 => (ZP.mk a0.Zd z1_0))
def zp (a0 : Zm) : ZL := (ZL.mk ([a0.Z0] : List ZP) ([] : List (List ZY)))
def Ze (a0 : Int) (a1 : Int) (a2 : Int) : Bool := ((decide (a1 ≤ a0)) && (decide (a0 ≤ a2)))
def z4 (a0 : Zc) : Nat → Nat → Sum Bool Unit
  | 0, _ => .inr ()
  | n1 + 1, v1_0 => (bif (decide ((↑v1_0 : Int) < (↑a0.ZQ.length : Int))) then (bif ((decide ((↑(nth a0.ZQ v1_0).size : Int) > 40)) || (!(Ze (nth a0.Zb v1_0) 1 1000000000000))) then (.inl false) else z4 a0 n1 (v1_0 + 1)) else (.inr ()))
def yg (a0 : Zc) : Bool := (bif (((!(Ze a0.ji 0 999)) || (!(Ze (↑a0.ZQ.length : Int) 1 6))) || ((↑a0.Zb.length : Int) != (↑a0.ZQ.length : Int))) then false else (match z4 a0 (a0.ZQ.length + 1) 0 with | .inl r1 => r1 | .inr _ => true))
def xX (a0 : List UInt8) : Nat → List Int → Nat → (List Int)
  | 0, _, _ => default
  | n1 + 1, v1_0, v1_1 => (bif (decide ((↑v1_1 : Int) < (↑a0.length : Int))) then xX a0 n1 (v1_0 ++ ([(W (↑(nth a0 v1_1).toNat : Int))] : List Int)) (v1_1 + 1) else (v1_0))
def km (a0 : List UInt8) : List Int := (match xX a0 (a0.length + 1) ([] : List Int) 0 with | z1_0 => z1_0)
def Bk (a0 : Int) (a1 : Int) : Int := (bif (!(Ze a1 1 1000000000000)) then 0 else (Int.tmod (W ((Int.tmod a0 a1) + a1)) a1))
def Pg (a0 : List Int) : Nat → Int → Nat → Int
  | 0, _, _ => default
  | n1 + 1, v1_0, v1_1 => (bif (decide ((↑v1_1 : Int) < (↑a0.length : Int))) then Pg a0 n1 (Int.tmod (W ((W ((W (v1_0 * 1000003)) + (Bk (nth a0 v1_1) 2147483647))) + 13)) 2147483647) (v1_1 + 1) else (v1_0))
def MV (a0 : List Int) : Int := (match Pg a0 (a0.length + 1) 11 0 with | z1_0 => z1_0)
def JO (a0 : Int) (a1 : List Int) : Int := (MV (([7, a0] : List Int) ++ a1))
def ja (a0 : Int) (a1 : ByteArray) (a2 : Int) : Int := (JO a0 (([a2] : List Int) ++ (km a1.data.toList)))
def qU (a0 : Int) (a1 : Zc) : Nat → List Int → Nat → (List Int)
  | 0, _, _ => default
  | n1 + 1, v1_0, v1_1 => (bif (decide ((↑v1_1 : Int) < (↑a1.ZQ.length : Int))) then qU a0 a1 n1 (v1_0 ++ ([(ja a0 (nth a1.ZQ v1_1) (nth a1.Zb v1_1))] : List Int)) (v1_1 + 1) else (v1_0))
def xl (a0 : Int) (a1 : Zc) : Int := (bif (!(yg a1)) then (-1) else (match qU a0 a1 (a1.ZQ.length + 1) ([a1.ji] : List Int) 0 with | z1_0 => (JO a0 z1_0)))
def Kg (a0 : ZP) (a1 : Zc) : Nat → List Int → Nat → (List Int)
  | 0, _, _ => default
  | n1 + 1, v1_0, v1_1 => (bif (decide ((↑v1_1 : Int) < (↑a0.ZX.length : Int))) then Kg a0 a1 n1 (v1_0 ++ ([(xl (nth a0.ZX v1_1).Method a1)] : List Int)) (v1_1 + 1) else (v1_0))
def K8 (a0 : ZP) (a1 : Zc) : List Int := (match Kg a0 a1 (a0.ZX.length + 1) ([] : List Int) 0 with | z1_0 => z1_0)
def Q8 (a0 : ZL) (a1 : Zc) : Nat → List (List Int) → Nat → (List (List Int))
  | 0, _, _ => default
  | n1 + 1, v1_0, v1_1 => (bif (decide ((↑v1_1 : Int) < (↑a0.ZO.length : Int))) then Q8 a0 a1 n1 (v1_0 ++ ([(K8 (nth a0.ZO v1_1) a1)] : List (List Int))) (v1_1 + 1) else (v1_0))
def J2 (a0 : ZL) (a1 : Zc) : List (List Int) := (match Q8 a0 a1 (a0.ZO.length + 1) ([] : List (List Int)) 0 with | z1_0 => z1_0)
def yF (a0 : Int) : Bool := (Ze a0 0 10000)
def j9 (a0 : Int) : Bool := (Ze a0 1 2147483646)
def NO (a0 : Zs) : Bool := (((((Ze a0.Number 1 99) && (Ze a0.Js 0 99)) && (Ze a0.Method 0 99)) && (yF a0.OC)) && (j9 a0.xg))
def Wb (a0 : List Zs) : Nat → Nat → Sum Bool Unit
  | 0, _ => .inr ()
  | n1 + 1, v1_0 => (bif (decide ((↑v1_0 : Int) < (↑a0.length : Int))) then (bif ((!(NO (nth a0 v1_0))) || ((decide ((↑v1_0 : Int) > 0)) && (decide ((nth a0 (v1_0 - 1)).Number ≥ (nth a0 v1_0).Number)))) then (.inl false) else Wb a0 n1 (v1_0 + 1)) else (.inr ()))
def Tt (a0 : List Zs) : Bool := (match Wb a0 (a0.length + 1) 0 with | .inl r1 => r1 | .inr _ => (decide ((↑a0.length : Int) ≤ 12)))
def Ka (a0 : List ZG) : Nat → Nat → Sum Bool Unit
  | 0, _ => .inr ()
  | n1 + 1, v1_0 => (bif (decide ((↑v1_0 : Int) < (↑a0.length : Int))) then (bif ((((!(Ze (nth a0 v1_0).Id 0 99)) || (!(Ze (nth a0 v1_0).Key 1 99))) || (!(Ze (nth a0 v1_0).Error 0 100))) || ((decide ((↑v1_0 : Int) > 0)) && (decide ((nth a0 (v1_0 - 1)).Id ≥ (nth a0 v1_0).Id)))) then (.inl false) else Ka a0 n1 (v1_0 + 1)) else (.inr ()))
def zu (a0 : List ZG) : Bool := (match Ka a0 (a0.length + 1) 0 with | .inl r1 => r1 | .inr _ => (decide ((↑a0.length : Int) ≤ 6)))
def Vx (a0 : Zh) : Bool := ((((((Ze a0.Id 0 99) && (yF a0.Ui)) && (Ze a0.Ends 1 10001)) && (Ze a0.qO 1 10001)) && (decide (a0.Ui < a0.Ends))) && (decide (a0.Ui < a0.qO)))
def xD (a0 : List Zh) : Nat → Nat → Sum Bool Unit
  | 0, _ => .inr ()
  | n1 + 1, v1_0 => (bif (decide ((↑v1_0 : Int) < (↑a0.length : Int))) then (bif ((!(Vx (nth a0 v1_0))) || ((decide ((↑v1_0 : Int) > 0)) && (decide ((nth a0 (v1_0 - 1)).Id ≥ (nth a0 v1_0).Id)))) then (.inl false) else xD a0 n1 (v1_0 + 1)) else (.inr ()))
def jZ (a0 : List Zh) : Bool := (match xD a0 (a0.length + 1) 0 with | .inl r1 => r1 | .inr _ => (decide ((↑a0.length : Int) ≤ 8)))
def Vj (a0 : ZI) : Bool := (((((Tt a0.YY) && (zu a0.ZN)) && (jZ a0.Methods)) && (Ze a0.QR 0 6)) && (yF a0.Now))
def Rv (a0 : Int) : Y7 := (Y7.mk 3 a0 (ZF.mk 0 0))
def zZ (a0 : ZV) : Bool := ((((((((Ze a0.Key 1 99) && (Ze a0.YA 1 999)) && (Ze a0.Method 0 99)) && (Ze a0.Org 0 99)) && (Ze a0.qS 1 3)) && (Ze a0.Yz 0 1000000000000)) && (Ze a0.y3 0 1000000000000)) && (Ze a0.Kd 0 1000000000000))
def Tf (a0 : Int) : Y7 := (Y7.mk 2 a0 (ZF.mk 0 0))
def jF (a0 : List Zs) (a1 : Int) : Nat → Nat → Sum Int Unit
  | 0, _ => .inr ()
  | n1 + 1, v1_0 => (bif (decide ((↑v1_0 : Int) < (↑a0.length : Int))) then (bif ((nth a0 v1_0).Number == a1) then (.inl (↑v1_0 : Int)) else jF a0 a1 n1 (v1_0 + 1)) else (.inr ()))
def Yx (a0 : List Zs) (a1 : Int) : Int := (match jF a0 a1 (a0.length + 1) 0 with | .inl r1 => r1 | .inr _ => (-1))
def QJ (a0 : ZV) : List Int := ([104, a0.Key, a0.YA, a0.Method, a0.Yz, a0.qS, a0.Org, a0.y3, a0.Kd] : List Int)
def WY (a0 : Int) (a1 : List Int) : Int := (MV ((([a0] : List Int) ++ a1) ++ ([a0] : List Int)))
def V8 (a0 : Zs) (a1 : List Int) : Int := (WY a0.xg (([a0.Method] : List Int) ++ a1))
def qf (a0 : List Zs) (a1 : Int) (a2 : List Int) : Int × Bool := (bif (decide ((Yx a0 a1) < 0)) then (0, false) else ((V8 (nth a0 (Yx a0 a1).toNat) a2), true))
def QS (a0 : List Zs) (a1 : Int) (a2 : List Int) (a3 : Int) : Bool := ((qf a0 a1 a2).2 && ((qf a0 a1 a2).1 == a3))
def KX (a0 : List Zs) (a1 : ZV) : Bool := ((zZ a1) && (QS a0 a1.Key (QJ a1) a1.Mark))
def XY (a0 : ZV) : ZD := (ZD.mk a0.Key (QJ a0) a0.Mark)
def kz (a0 : List Int) (a1 : List Int) : Nat → Nat → Sum Bool Unit
  | 0, _ => .inr ()
  | n1 + 1, v1_0 => (bif (decide ((↑v1_0 : Int) < (↑a0.length : Int))) then (bif ((nth a0 v1_0) != (nth a1 v1_0)) then (.inl false) else kz a0 a1 n1 (v1_0 + 1)) else (.inr ()))
def Uz (a0 : List Int) (a1 : List Int) : Bool := (bif ((↑a0.length : Int) != (↑a1.length : Int)) then false else (match kz a0 a1 (a0.length + 1) 0 with | .inl r1 => r1 | .inr _ => true))
def zW (a0 : ZD) (a1 : ZD) : Bool := (((a0.Key == a1.Key) && (a0.Mark == a1.Mark)) && (Uz a0.Zg a1.Zg))
def qV (a0 : ZP) (a1 : ZD) : Nat → Nat → Sum Int Unit
  | 0, _ => .inr ()
  | n1 + 1, v1_0 => (bif (decide ((↑v1_0 : Int) < (↑a0.Zd.length : Int))) then (bif (zW (nth a0.Zd v1_0) a1) then (.inl (↑v1_0 : Int)) else qV a0 a1 n1 (v1_0 + 1)) else (.inr ()))
def y9 (a0 : ZP) (a1 : ZD) : Int := (match qV a0 a1 (a0.Zd.length + 1) 0 with | .inl r1 => r1 | .inr _ => (-1))
def Jt (a0 : List ZG) (a1 : Int) : Nat → Nat → Sum Int Unit
  | 0, _ => .inr ()
  | n1 + 1, v1_0 => (bif (decide ((↑v1_0 : Int) < (↑a0.length : Int))) then (bif ((nth a0 v1_0).Id == a1) then (.inl (↑v1_0 : Int)) else Jt a0 a1 n1 (v1_0 + 1)) else (.inr ()))
def YC (a0 : List ZG) (a1 : Int) : Int := (match Jt a0 a1 (a0.length + 1) 0 with | .inl r1 => r1 | .inr _ => (-1))
def YR (a0 : ZF) : Bool := (((yF a0.YN) && (yF a0.To)) && (decide (a0.YN ≤ a0.To)))
def J1 (a0 : Int) (a1 : Int) : ZF × Bool := (bif ((decide (a0 > a1)) || (!(YR (ZF.mk (if 0 > a0 then 0 else a0) (if 10000 < a1 then 10000 else a1))))) then ((ZF.mk 0 0), false) else ((ZF.mk (if 0 > a0 then 0 else a0) (if 10000 < a1 then 10000 else a1)), true))
def KR (a0 : List ZG) (a1 : ZY) : ZF × Bool := (bif (((decide ((YC a0 a1.Authority) < 0)) || (decide ((nth a0 (YC a0 a1.Authority).toNat).Error < 0))) || (!(yF a1.Time))) then ((ZF.mk 0 0), false) else ((J1 (W (a1.Time - (nth a0 (YC a0 a1.Authority).toNat).Error)) (W (a1.Time + (nth a0 (YC a0 a1.Authority).toNat).Error))).1, (J1 (W (a1.Time - (nth a0 (YC a0 a1.Authority).toNat).Error)) (W (a1.Time + (nth a0 (YC a0 a1.Authority).toNat).Error))).2))
def yQ (a0 : List ZF) (a1 : Int) : Nat → Int → Nat → Int
  | 0, _, _ => default
  | n1 + 1, v1_0, v1_1 => (bif (decide ((↑v1_1 : Int) < (↑a0.length : Int))) then (bif ((YR (nth a0 v1_1)) && (Ze a1 (nth a0 v1_1).YN (nth a0 v1_1).To)) then yQ a0 a1 n1 (W (v1_0 + 1)) (v1_1 + 1) else yQ a0 a1 n1 v1_0 (v1_1 + 1)) else (v1_0))
def kZ (a0 : List ZF) (a1 : Int) : Int := (match yQ a0 a1 (a0.length + 1) 0 0 with | z1_0 => z1_0)
def Zt (a0 : List ZF) (a1 : Int) (a2 : Int) : Bool := ((Ze a2 0 (W ((↑a0.length : Int) - 1))) && (decide ((kZ a0 a1) ≥ (W ((↑a0.length : Int) - a2)))))
def JA (a0 : List ZF) (a1 : Int) : Nat → Bool → Nat → Int → Int → Bool × Int × Int
  | 0, _, _, _, _ => (default, default, default)
  | n1 + 1, v1_0, v1_1, v1_2, v1_3 => (bif (decide ((↑v1_1 : Int) ≤ 10000)) then (bif (Zt a0 (↑v1_1 : Int) a1) then (bif (!v1_0) then JA a0 a1 n1 true (v1_1 + 1) (↑v1_1 : Int) (↑v1_1 : Int) else JA a0 a1 n1 true (v1_1 + 1) v1_2 (↑v1_1 : Int)) else JA a0 a1 n1 v1_0 (v1_1 + 1) v1_2 v1_3) else ((v1_0, v1_2, v1_3)))
def yl (a0 : List ZF) (a1 : Int) : ZF × Bool := (match JA a0 a1 10002 false 0 0 0 with | (z1_0, z1_1, z1_2) => ((ZF.mk z1_1 z1_2), z1_0))
def QO (a0 : List ZG) (a1 : List ZY) : Nat → List ZF → Nat → Sum (ZF × Bool) (List ZF)
  | 0, _, _ => .inr default
  | n1 + 1, v1_0, v1_1 => (bif (decide ((↑v1_1 : Int) < (↑a1.length : Int))) then (bif (!(KR a0 (nth a1 v1_1)).2) then (.inl ((ZF.mk 0 0), false)) else QO a0 a1 n1 (v1_0 ++ ([(KR a0 (nth a1 v1_1)).1] : List ZF)) (v1_1 + 1)) else (.inr v1_0))
def Qm (a0 : List ZG) (a1 : List ZY) (a2 : Int) : ZF × Bool := (match QO a0 a1 (a1.length + 1) ([] : List ZF) 0 with | .inl r1 => r1 | .inr z1_0 => ((yl z1_0 a2).1, (yl z1_0 a2).2))
def KV (a0 : List ZG) (a1 : ZK) (a2 : Int) : ZF × Bool := ((Qm a0 a1.Zj a2).1, (Qm a0 a1.Zj a2).2)
def X9 (a0 : ZI) (a1 : ZK) : ZF × Bool := ((KV a0.ZN a1 a0.QR).1, (KV a0.ZN a1 a0.QR).2)
def JI (a0 : ZY) : List Int := ([103, a0.Authority, a0.Seq, a0.Time, a0.Yz] : List Int)
def K4 (a1 : ZK) : Nat → List Int → Nat → (List Int)
  | 0, _, _ => default
  | n2 + 1, v2_0, v2_1 => (bif (decide ((↑v2_1 : Int) < (↑a1.Zj.length : Int))) then K4 a1 n2 ((v2_0 ++ (JI (nth a1.Zj v2_1))) ++ ([(nth a1.Zj v2_1).Mark] : List Int)) (v2_1 + 1) else (v2_0))
def Ju (a1 : ZK) : Nat → List Int → Nat → (List Int)
  | 0, _, _ => default
  | n1 + 1, v1_0, v1_1 => (bif (decide ((↑v1_1 : Int) < (↑a1.Path.length : Int))) then (bif (nth a1.Path v1_1).Left then Ju a1 n1 (v1_0 ++ ([(nth a1.Path v1_1).Yz, 1] : List Int)) (v1_1 + 1) else Ju a1 n1 (v1_0 ++ ([(nth a1.Path v1_1).Yz, 0] : List Int)) (v1_1 + 1)) else (v1_0))
def J4 (a0 : Int) (a1 : ZK) : Int := (match Ju a1 (a1.Path.length + 1) ([4, a1.Count, a1.Method, a1.OY] : List Int) 0 with | z1_0 => (match K4 a1 (a1.Zj.length + 1) (z1_0 ++ ([(↑a1.Zj.length : Int)] : List Int)) 0 with | z2_0 => (JO a0 z2_0)))
def yE (a0 : Int) (a1 : List ZD) : Nat → List Int → Nat → (List Int)
  | 0, _, _ => default
  | n1 + 1, v1_0, v1_1 => (bif (decide ((↑v1_1 : Int) < (↑a1.length : Int))) then yE a0 a1 n1 (v1_0 ++ ([(JO a0 (([(nth a1 v1_1).Key, (nth a1 v1_1).Mark] : List Int) ++ (nth a1 v1_1).Zg))] : List Int)) (v1_1 + 1) else (v1_0))
def z1 (a0 : Int) (a1 : List ZD) : Int := (match yE a0 a1 (a1.length + 1) ([2] : List Int) 0 with | z1_0 => (JO a0 z1_0))
def Ti (a0 : Int) (a1 : Int) (a2 : List ZD) (a3 : Int) : Int := (JO a0 ([3, a1, (z1 a0 a2), a3] : List Int))
def UJ (a0 : ZP) (a1 : List Int) (a2 : Int) : Int := (bif (((!(Ze a2 0 (W ((↑a0.ZX.length : Int) - 1)))) || ((↑a1.length : Int) != (↑a0.ZX.length : Int))) || (!(Ze (nth a0.ZX a2.toNat).Count 0 (↑a0.Zd.length : Int)))) then (-1) else (bif (decide (a2 > 0)) then (Ti (nth a0.ZX a2.toNat).Method (nth a1 a2.toNat) (a0.Zd.take (nth a0.ZX a2.toNat).Count.toNat) (J4 (nth a0.ZX a2.toNat).Method (nth a0.ZX (W (a2 - 1)).toNat))) else (Ti (nth a0.ZX a2.toNat).Method (nth a1 a2.toNat) (a0.Zd.take (nth a0.ZX a2.toNat).Count.toNat) 0)))
def qE (a0 : Int) (a1 : Int) (a2 : Int) : Int := (JO a0 ([1, a1, a2] : List Int))
def zg (a0 : Int) (a2 : List Ya) : Nat → Int → Nat → Int
  | 0, _, _ => default
  | n1 + 1, v1_0, v1_1 => (bif (decide ((↑v1_1 : Int) < (↑a2.length : Int))) then (bif (nth a2 v1_1).Left then zg a0 a2 n1 (qE a0 (nth a2 v1_1).Yz v1_0) (v1_1 + 1) else zg a0 a2 n1 (qE a0 v1_0 (nth a2 v1_1).Yz) (v1_1 + 1)) else (v1_0))
def jY (a0 : Int) (a1 : Int) (a2 : List Ya) : Int := (match zg a0 a2 (a2.length + 1) a1 0 with | z1_0 => z1_0)
def JL (a0 : List ZY) : Nat → Nat → Sum Bool Unit
  | 0, _ => .inr ()
  | n1 + 1, v1_0 => (bif (decide ((↑v1_0 : Int) < (↑a0.length : Int))) then (bif (decide ((nth a0 (v1_0 - 1)).Authority ≥ (nth a0 v1_0).Authority)) then (.inl false) else JL a0 n1 (v1_0 + 1)) else (.inr ()))
def Y8 (a0 : List ZY) : Bool := (match JL a0 (a0.length + 1) 1 with | .inl r1 => r1 | .inr _ => true)
def Jg (a0 : List Zs) (a1 : List ZG) (a2 : ZY) : ZY × Bool := (bif (((decide ((YC a1 a2.Authority) < 0)) || (decide (a2.Seq < 0))) || (!(yF a2.Time))) then ((ZY.mk 0 0 0 0 0), false) else (bif (!(qf a0 (nth a1 (YC a1 a2.Authority).toNat).Key (JI a2)).2) then ((ZY.mk 0 0 0 0 0), false) else ((ZY.mk a2.Authority a2.Seq a2.Time a2.Yz (qf a0 (nth a1 (YC a1 a2.Authority).toNat).Key (JI a2)).1), true)))
def jb (a0 : List Zs) (a1 : List ZG) (a2 : ZY) : Bool := ((Jg a0 a1 a2).2 && (((Jg a0 a1 a2).1.Authority == a2.Authority) && (((Jg a0 a1 a2).1.Seq == a2.Seq) && (((Jg a0 a1 a2).1.Time == a2.Time) && (((Jg a0 a1 a2).1.Yz == a2.Yz) && ((Jg a0 a1 a2).1.Mark == a2.Mark))))))
def zm (a0 : List Zs) (a1 : List ZG) (a2 : ZK) : Nat → Nat → Sum Bool Unit
  | 0, _ => .inr ()
  | n1 + 1, v1_0 => (bif (decide ((↑v1_0 : Int) < (↑a2.Zj.length : Int))) then (bif (((nth a2.Zj v1_0).Yz != a2.OY) || (!(jb a0 a1 (nth a2.Zj v1_0)))) then (.inl false) else zm a0 a1 a2 n1 (v1_0 + 1)) else (.inr ()))
def zi (a0 : List Zs) (a1 : List ZG) (a2 : ZK) (a3 : Int) : Bool := (bif ((((decide ((↑a2.Path.length : Int) > 4)) || ((jY a2.Method a3 a2.Path) != a2.OY)) || (!(Ze (↑a2.Zj.length : Int) 1 6))) || (!(Y8 a2.Zj))) then false else (match zm a0 a1 a2 (a2.Zj.length + 1) 0 with | .inl r1 => r1 | .inr _ => true))
def yD (a0 : List Zh) (a1 : Int) : Nat → Nat → Sum Int Unit
  | 0, _ => .inr ()
  | n1 + 1, v1_0 => (bif (decide ((↑v1_0 : Int) < (↑a0.length : Int))) then (bif ((nth a0 v1_0).Id == a1) then (.inl (↑v1_0 : Int)) else yD a0 a1 n1 (v1_0 + 1)) else (.inr ()))
def K6 (a0 : List Zh) (a1 : Int) : Int := (match yD a0 a1 (a0.length + 1) 0 with | .inl r1 => r1 | .inr _ => (-1))
def zx (a0 : List Zh) (a1 : Int) : Int := (bif (decide ((K6 a0 a1) ≥ 0)) then (nth a0 (K6 a0 a1).toNat).qO else 0)
def Xs (a0 : List ZG) (a1 : ZY) : Int := (bif (decide ((YC a0 a1.Authority) ≥ 0)) then (nth a0 (YC a0 a1.Authority).toNat).Key else 0)
def yB (a0 : List Zs) (a1 : List ZG) (a2 : List Zh) (a3 : ZK) : Nat → Int → Nat → Sum Int Int
  | 0, _, _ => .inr default
  | n1 + 1, v1_0, v1_1 => (bif (decide ((↑v1_1 : Int) < (↑a3.Zj.length : Int))) then (bif (decide ((Yx a0 (Xs a1 (nth a3.Zj v1_1))) < 0)) then (.inl 0) else yB a0 a1 a2 a3 n1 (if (zx a2 (nth a0 (Yx a0 (Xs a1 (nth a3.Zj v1_1))).toNat).Method) < v1_0 then (zx a2 (nth a0 (Yx a0 (Xs a1 (nth a3.Zj v1_1))).toNat).Method) else v1_0) (v1_1 + 1)) else (.inr v1_0))
def z6 (a0 : List Zs) (a1 : List ZG) (a2 : List Zh) (a3 : ZK) : Int := (match yB a0 a1 a2 a3 (a3.Zj.length + 1) (zx a2 a3.Method) 0 with | .inl r1 => r1 | .inr z1_0 => z1_0)
def jE (a0 : ZI) (a1 : ZP) (a2 : Int) : Bool := (bif (!(Ze a2 0 (W ((↑a1.ZX.length : Int) - 1)))) then false else (bif (a2 == (W ((↑a1.ZX.length : Int) - 1))) then (decide (a0.Now < (z6 a0.YY a0.ZN a0.Methods (nth a1.ZX a2.toNat)))) else ((X9 a0 (nth a1.ZX (W (a2 + 1)).toNat)).2 && (decide ((X9 a0 (nth a1.ZX (W (a2 + 1)).toNat)).1.To < (z6 a0.YY a0.ZN a0.Methods (nth a1.ZX a2.toNat)))))))
def zT (a0 : ZI) (a1 : ZP) (a2 : List Int) : Nat → Nat → Nat
  | 0, _ => default
  | n1 + 1, v1_0 => (bif (decide ((↑v1_0 : Int) > 0)) then (bif (((!(X9 a0 (nth a1.ZX (v1_0 - 1))).2) || (!(zi a0.YY a0.ZN (nth a1.ZX (v1_0 - 1)) (UJ a1 a2 (W ((↑v1_0 : Int) - 1)))))) || (!(jE a0 a1 (W ((↑v1_0 : Int) - 1))))) then (v1_0) else zT a0 a1 a2 n1 (v1_0 - 1)) else (v1_0))
def K9 (a0 : ZI) (a1 : ZP) (a2 : List Int) : Int := (match zT a0 a1 a2 (a1.ZX.length + 1) a1.ZX.length with | z1_0 => (↑z1_0 : Int))
def jA (a0 : ZI) (a1 : ZP) (a3 : Int) : Nat → Int → Int → Int
  | 0, _, _ => default
  | n1 + 1, v1_0, v1_1 => (bif (decide (v1_1 < (↑a1.ZX.length : Int))) then (bif (decide ((nth a1.ZX v1_1.toNat).Count > a3)) then jA a0 a1 a3 n1 (if (X9 a0 (nth a1.ZX v1_1.toNat)).1.To < v1_0 then (X9 a0 (nth a1.ZX v1_1.toNat)).1.To else v1_0) (W (v1_1 + 1)) else jA a0 a1 a3 n1 v1_0 (W (v1_1 + 1))) else (v1_0))
def SA (a0 : ZI) (a1 : ZP) (a2 : List Int) (a3 : Int) : Int := (match jA a0 a1 a3 (a1.ZX.length + 2) a0.Now (K9 a0 a1 a2) with | z1_0 => z1_0)
def xz (a0 : ZI) (a1 : ZP) (a2 : List Int) (a3 : ZD) : Int := (bif (decide ((y9 a1 a3) < 0)) then a0.Now else (SA a0 a1 a2 (y9 a1 a3)))
def QT (a0 : ZI) (a1 : ZL) (a2 : List (List Int)) (a3 : ZD) : Nat → Int → Nat → Int
  | 0, _, _ => default
  | n1 + 1, v1_0, v1_1 => (bif (decide ((↑v1_1 : Int) < (↑a1.ZO.length : Int))) then (bif (decide ((↑v1_1 : Int) < (↑a2.length : Int))) then QT a0 a1 a2 a3 n1 (if (xz a0 (nth a1.ZO v1_1) (nth a2 v1_1) a3) < v1_0 then (xz a0 (nth a1.ZO v1_1) (nth a2 v1_1) a3) else v1_0) (v1_1 + 1) else QT a0 a1 a2 a3 n1 v1_0 (v1_1 + 1)) else (v1_0))
def Yk (a0 : ZI) (a1 : ZL) (a2 : List (List Int)) (a3 : ZD) : Int := (match QT a0 a1 a2 a3 (a1.ZO.length + 1) a0.Now 0 with | z1_0 => z1_0)
def KJ (a0 : ZI) (a1 : Int) : Int := (bif (decide ((Yx a0.YY a1) < 0)) then 0 else (zx a0.Methods (nth a0.YY (Yx a0.YY a1).toNat).Method))
def qI (a0 : List ZD) (a1 : ZD) : Nat → Nat → Sum Bool Unit
  | 0, _ => .inr ()
  | n1 + 1, v1_0 => (bif (decide ((↑v1_0 : Int) < (↑a0.length : Int))) then (bif (zW (nth a0 v1_0) a1) then (.inl true) else qI a0 a1 n1 (v1_0 + 1)) else (.inr ()))
def Ql (a0 : List ZD) (a1 : ZD) : Bool := (match qI a0 a1 (a0.length + 1) 0 with | .inl r1 => r1 | .inr _ => false)
def Z2 (a0 : ZD) : Int := (bif ((((↑a0.Zg.length : Int) == 0) || (!(Ze (nth a0.Zg 0) 101 105))) || ((↑a0.Zg.length : Int) != (nth ([7, 5, 5, 9, 6] : List Int) (W ((nth a0.Zg 0) - 101)).toNat))) then 0 else (nth a0.Zg 0))
def XR (a0 : ZD) : Zn × Bool := (bif (((Z2 a0) != 101) || ((nth a0.Zg 6) != a0.Key)) then ((Zn.mk 0 0 0 0 0 0 0), false) else ((Zn.mk (nth a0.Zg 1) (nth a0.Zg 2) (nth a0.Zg 3) (nth a0.Zg 4) (nth a0.Zg 5) (nth a0.Zg 6) a0.Mark), true))
def QG (a0 : ZD) : Zu × Bool := (bif (((Z2 a0) != 102) || ((nth a0.Zg 4) != a0.Key)) then ((Zu.mk 0 0 0 0 0), false) else ((Zu.mk (nth a0.Zg 1) (nth a0.Zg 2) (nth a0.Zg 3) (nth a0.Zg 4) a0.Mark), true))
def K3 (a0 : ZD) : ZY × Bool := (bif ((Z2 a0) != 103) then ((ZY.mk 0 0 0 0 0), false) else ((ZY.mk (nth a0.Zg 1) (nth a0.Zg 2) (nth a0.Zg 3) (nth a0.Zg 4) a0.Mark), true))
def yM (a0 : ZD) : ZV × Bool := (bif (((Z2 a0) != 104) || ((nth a0.Zg 1) != a0.Key)) then ((ZV.mk 0 0 0 0 0 0 0 0 0), false) else ((ZV.mk (nth a0.Zg 1) (nth a0.Zg 2) (nth a0.Zg 3) (nth a0.Zg 4) (nth a0.Zg 5) (nth a0.Zg 6) (nth a0.Zg 7) (nth a0.Zg 8) a0.Mark), true))
def Qb (a0 : ZD) : Zy × Bool := (bif (((Z2 a0) != 105) || ((nth a0.Zg 5) != a0.Key)) then ((Zy.mk 0 0 0 0 0 0), false) else ((Zy.mk (nth a0.Zg 1) (nth a0.Zg 2) (nth a0.Zg 3) (nth a0.Zg 4) (nth a0.Zg 5) a0.Mark), true))
def KD (a0 : List Zs) (a1 : ZD) : Bool := (bif ((Z2 a1) == 101) then ((XR a1).2 && (QS a0 a1.Key a1.Zg a1.Mark)) else (bif ((Z2 a1) == 102) then ((QG a1).2 && (QS a0 a1.Key a1.Zg a1.Mark)) else (bif ((Z2 a1) == 103) then ((K3 a1).2 && (QS a0 a1.Key a1.Zg a1.Mark)) else (bif ((Z2 a1) == 104) then ((yM a1).2 && (QS a0 a1.Key a1.Zg a1.Mark)) else (bif ((Z2 a1) == 105) then ((Qb a1).2 && (QS a0 a1.Key a1.Zg a1.Mark)) else (false && (QS a0 a1.Key a1.Zg a1.Mark)))))))
def J3 (a0 : ZD) (a1 : ZD) : Nat → Nat → Sum Bool Unit
  | 0, _ => .inr ()
  | n1 + 1, v1_0 => (bif ((decide ((↑v1_0 : Int) < (↑a0.Zg.length : Int))) && (decide ((↑v1_0 : Int) < (↑a1.Zg.length : Int)))) then (bif ((nth a0.Zg v1_0) != (nth a1.Zg v1_0)) then (.inl (decide ((nth a0.Zg v1_0) < (nth a1.Zg v1_0)))) else J3 a0 a1 n1 (v1_0 + 1)) else (.inr ()))
def Y0 (a0 : ZD) (a1 : ZD) : Bool := (match J3 a0 a1 (a0.Zg.length + 1) 0 with | .inl r1 => r1 | .inr _ => (bif ((↑a0.Zg.length : Int) != (↑a1.Zg.length : Int)) then (decide ((↑a0.Zg.length : Int) < (↑a1.Zg.length : Int))) else (bif (a0.Key != a1.Key) then (decide (a0.Key < a1.Key)) else (decide (a0.Mark < a1.Mark)))))
def KZ (a1 : ZL) (v1_1 : Nat) (v2_0 : List ZD) (v2_1 : Nat) : Nat → Nat → Nat
  | 0, _ => default
  | n3 + 1, v3_0 => (bif ((decide ((↑v3_0 : Int) < (↑v2_0.length : Int))) && (Y0 (nth v2_0 v3_0) (nth (nth a1.ZO v1_1).Zd v2_1))) then KZ a1 v1_1 v2_0 v2_1 n3 (v3_0 + 1) else (v3_0))
def QM (a0 : ZI) (a1 : ZL) (a2 : List (List Int)) (v1_1 : Nat) : Nat → List ZD → Nat → (List ZD)
  | 0, _, _ => default
  | n2 + 1, v2_0, v2_1 => (bif (decide ((↑v2_1 : Int) < (↑(nth a1.ZO v1_1).Zd.length : Int))) then (bif (((Ql v2_0 (nth (nth a1.ZO v1_1).Zd v2_1)) || (!(KD a0.YY (nth (nth a1.ZO v1_1).Zd v2_1)))) || (decide ((Yk a0 a1 a2 (nth (nth a1.ZO v1_1).Zd v2_1)) ≥ (KJ a0 (nth (nth a1.ZO v1_1).Zd v2_1).Key)))) then QM a0 a1 a2 v1_1 n2 v2_0 (v2_1 + 1) else (match KZ a1 v1_1 v2_0 v2_1 (v2_0.length + 1) 0 with | z3_0 => QM a0 a1 a2 v1_1 n2 (((v2_0.take z3_0) ++ ([(nth (nth a1.ZO v1_1).Zd v2_1)] : List ZD)) ++ ((v2_0.drop z3_0).take (v2_0.length - z3_0))) (v2_1 + 1))) else (v2_0))
def JQ (a0 : ZI) (a1 : ZL) (a2 : List (List Int)) : Nat → List ZD → Nat → (List ZD)
  | 0, _, _ => default
  | n1 + 1, v1_0, v1_1 => (bif (decide ((↑v1_1 : Int) < (↑a1.ZO.length : Int))) then (match QM a0 a1 a2 v1_1 ((nth a1.ZO v1_1).Zd.length + 1) v1_0 0 with | z2_0 => JQ a0 a1 a2 n1 z2_0 (v1_1 + 1)) else (v1_0))
def Zr (a0 : ZI) (a1 : ZL) (a2 : List (List Int)) : List ZD := (match JQ a0 a1 a2 (a1.ZO.length + 1) ([] : List ZD) 0 with | z1_0 => z1_0)
def xE (a0 : Zn) : ZF := (ZF.mk a0.YN a0.To)
def Rp (a0 : Zn) : Bool := ((((((Ze a0.YA 1 999) && (Ze a0.Key 1 99)) && (Ze a0.Qd 1 99)) && (a0.Key != a0.Qd)) && (Ze a0.Js 0 99)) && (YR (xE a0)))
def yd (a0 : Zn) : List Int := ([101, a0.YA, a0.Key, a0.Js, a0.YN, a0.To, a0.Qd] : List Int)
def Vi (a0 : List Zs) (a1 : Int) : Int := (bif (decide ((Yx a0 a1) ≥ 0)) then (nth a0 (Yx a0 a1).toNat).Js else (-1))
def WO (a0 : List Zs) (a1 : Zn) : Bool := (((Rp a1) && (QS a0 a1.Qd (yd a1) a1.Mark)) && (a1.Js == (Vi a0 a1.Key)))
def jM (a0 : ZI) (a1 : List ZD) (a2 : ZV) : Nat → Int → Nat → Int → Int → Int → Int → Int → Int → Int → Int × Int × Int × Int × Int × Int × Int × Int
  | 0, _, _, _, _, _, _, _, _, _ => (default, default, default, default, default, default, default, default)
  | n1 + 1, v1_0, v1_1, v1_2, v1_3, v1_4, v1_5, v1_6, v1_7, v1_8 => (bif (decide ((↑v1_1 : Int) < (↑a1.length : Int))) then (bif ((((XR (nth a1 v1_1)).2 && (WO a0.YY (XR (nth a1 v1_1)).1)) && ((XR (nth a1 v1_1)).1.YA == a2.YA)) && ((XR (nth a1 v1_1)).1.Key == a2.Key)) then jM a0 a1 a2 n1 (W (v1_0 + 1)) (v1_1 + 1) (XR (nth a1 v1_1)).1.YA (XR (nth a1 v1_1)).1.Key (XR (nth a1 v1_1)).1.Js (XR (nth a1 v1_1)).1.YN (XR (nth a1 v1_1)).1.To (XR (nth a1 v1_1)).1.Qd (XR (nth a1 v1_1)).1.Mark else jM a0 a1 a2 n1 v1_0 (v1_1 + 1) v1_2 v1_3 v1_4 v1_5 v1_6 v1_7 v1_8) else ((v1_0, v1_2, v1_3, v1_4, v1_5, v1_6, v1_7, v1_8)))
def Qq (a0 : ZI) (a1 : List ZD) (a2 : ZV) : Zn × Bool := (match jM a0 a1 a2 (a1.length + 1) 0 0 0 0 0 0 0 0 0 with | (z1_0, z1_1, z1_2, z1_3, z1_4, z1_5, z1_6, z1_7) => (bif (z1_0 != 1) then ((Zn.mk 0 0 0 0 0 0 0), false) else ((Zn.mk z1_1 z1_2 z1_3 z1_4 z1_5 z1_6 z1_7), true)))
def ve (a0 : Int) (a1 : Int) : Int := (if a1 > a0 then a1 else a0)
def z7 (a1 : List ZY) : Nat → List Int → Nat → (List Int)
  | 0, _, _ => default
  | n1 + 1, v1_0, v1_1 => (bif (decide ((↑v1_1 : Int) < (↑a1.length : Int))) then z7 a1 n1 (v1_0 ++ ([(nth a1 v1_1).Mark] : List Int)) (v1_1 + 1) else (v1_0))
def Kj (a0 : Int) (a1 : List ZY) : Int := (bif ((↑a1.length : Int) == 0) then 0 else (match z7 a1 (a1.length + 1) ([] : List Int) 0 with | z1_0 => (ve 1 (JO a0 z1_0))))
def Jd (a0 : Int) (a1 : ZY) : ZD := (ZD.mk a0 (JI a1) a1.Mark)
def Qf (a0 : ZI) (a1 : ZL) (a2 : List ZD) (v1_1 : Nat) : Nat → Bool → Nat → Bool
  | 0, _, _ => default
  | n2 + 1, v2_0, v2_1 => (bif (decide ((↑v2_1 : Int) < (↑(nth a1.Zv v1_1).length : Int))) then Qf a0 a1 a2 v1_1 n2 (v2_0 && (Ql a2 (Jd (Xs a0.ZN (nth (nth a1.Zv v1_1) v2_1)) (nth (nth a1.Zv v1_1) v2_1)))) (v2_1 + 1) else (v2_0))
def QZ (a0 : ZI) (a1 : ZL) (a2 : List ZD) (a3 : ZV) : Nat → Int → Nat → Int
  | 0, _, _ => default
  | n1 + 1, v1_0, v1_1 => (bif (decide ((↑v1_1 : Int) < (↑a1.Zv.length : Int))) then (bif (((a3.Kd == 0) || (!(Y8 (nth a1.Zv v1_1)))) || ((Kj a3.Method (nth a1.Zv v1_1)) != a3.Kd)) then QZ a0 a1 a2 a3 n1 v1_0 (v1_1 + 1) else (match Qf a0 a1 a2 v1_1 ((nth a1.Zv v1_1).length + 1) true 0 with | z2_0 => (bif (z2_0 && (Qm a0.ZN (nth a1.Zv v1_1) a0.QR).2) then QZ a0 a1 a2 a3 n1 (if (Qm a0.ZN (nth a1.Zv v1_1) a0.QR).1.YN > v1_0 then (Qm a0.ZN (nth a1.Zv v1_1) a0.QR).1.YN else v1_0) (v1_1 + 1) else QZ a0 a1 a2 a3 n1 v1_0 (v1_1 + 1)))) else (v1_0))
def qb (a0 : ZI) (a1 : ZL) (a2 : List ZD) (v3_1 : Nat) : Nat → Bool → Nat → Bool
  | 0, _, _ => default
  | n4 + 1, v4_0, v4_1 => (bif (decide ((↑v4_1 : Int) < (↑(nth a1.Zv v3_1).length : Int))) then qb a0 a1 a2 v3_1 n4 (v4_0 && (Ql a2 (Jd (Xs a0.ZN (nth (nth a1.Zv v3_1) v4_1)) (nth (nth a1.Zv v3_1) v4_1)))) (v4_1 + 1) else (v4_0))
def zS (a0 : ZI) (a1 : ZL) (a2 : List ZD) (a3 : ZV) : Nat → Int → Nat → Int
  | 0, _, _ => default
  | n3 + 1, v3_0, v3_1 => (bif (decide ((↑v3_1 : Int) < (↑a1.Zv.length : Int))) then (bif (((a3.Kd == 0) || (!(Y8 (nth a1.Zv v3_1)))) || ((Kj a3.Method (nth a1.Zv v3_1)) != a3.Kd)) then zS a0 a1 a2 a3 n3 v3_0 (v3_1 + 1) else (match qb a0 a1 a2 v3_1 ((nth a1.Zv v3_1).length + 1) true 0 with | z4_0 => (bif (z4_0 && (Qm a0.ZN (nth a1.Zv v3_1) a0.QR).2) then zS a0 a1 a2 a3 n3 (if (Qm a0.ZN (nth a1.Zv v3_1) a0.QR).1.YN > v3_0 then (Qm a0.ZN (nth a1.Zv v3_1) a0.QR).1.YN else v3_0) (v3_1 + 1) else zS a0 a1 a2 a3 n3 v3_0 (v3_1 + 1)))) else (v3_0))
def QD (a0 : ZI) (a1 : ZL) (a2 : List ZD) (a3 : ZV) : Int := (bif (decide ((Yx a0.YY a3.Key) ≥ 0)) then (match QZ a0 a1 a2 a3 (a1.Zv.length + 1) (nth a0.YY (Yx a0.YY a3.Key).toNat).OC 0 with | z1_0 => z1_0) else (match zS a0 a1 a2 a3 (a1.Zv.length + 1) 0 0 with | z3_0 => z3_0))
def J5 (a0 : List ZD) (a1 : Zn) : Nat → List Zu → Nat → (List Zu)
  | 0, _, _ => default
  | n1 + 1, v1_0, v1_1 => (bif (decide ((↑v1_1 : Int) < (↑a0.length : Int))) then (bif (((QG (nth a0 v1_1)).2 && ((QG (nth a0 v1_1)).1.YA == a1.YA)) && ((QG (nth a0 v1_1)).1.Qd == a1.Qd)) then J5 a0 a1 n1 (v1_0 ++ ([(QG (nth a0 v1_1)).1] : List Zu)) (v1_1 + 1) else J5 a0 a1 n1 v1_0 (v1_1 + 1)) else (v1_0))
def Jc (a0 : List ZD) (a1 : Zn) : List Zu := (match J5 a0 a1 (a0.length + 1) ([] : List Zu) 0 with | z1_0 => z1_0)
def Zl (a0 : Int) (a1 : Int) (a2 : List ZF) : List ZF := (bif (J1 a0 a1).2 then (a2 ++ ([(J1 a0 a1).1] : List ZF)) else a2)
def xf (a0 : List Zu) (a1 : Int) : Nat → Int → Int → Int → Nat → Int × Int × Int
  | 0, _, _, _, _ => (default, default, default)
  | n1 + 1, v1_0, v1_1, v1_2, v1_3 => (bif (decide ((↑v1_3 : Int) < (↑a0.length : Int))) then (bif ((nth a0 v1_3).YA != a1) then xf a0 a1 n1 v1_0 v1_1 v1_2 (v1_3 + 1) else (bif (decide ((nth a0 v1_3).YW < 0)) then xf a0 a1 n1 v1_0 v1_1 (if (nth a0 v1_3).Cg > v1_2 then (nth a0 v1_3).Cg else v1_2) (v1_3 + 1) else (bif ((decide (v1_0 < 0)) || (decide ((nth a0 v1_3).YW < v1_0))) then xf a0 a1 n1 (nth a0 v1_3).YW (if (nth a0 v1_3).YW > v1_1 then (nth a0 v1_3).YW else v1_1) v1_2 (v1_3 + 1) else xf a0 a1 n1 v1_0 (if (nth a0 v1_3).YW > v1_1 then (nth a0 v1_3).YW else v1_1) v1_2 (v1_3 + 1)))) else ((v1_0, v1_1, v1_2)))
def kL (a0 : List Zu) (a1 : Int) : Int × Int × Int := (match xf a0 a1 (a0.length + 1) (-1) (-1) (-1) 0 with | (z1_0, z1_1, z1_2) => (z1_0, z1_1, z1_2))
def X5 (a0 : List Zu) (a1 : Int) : Int := (bif (decide ((kL a0 a1).2.1 < 0)) then 10001 else (if (W ((kL a0 a1).2.2 + 1)) > (kL a0 a1).2.1 then (W ((kL a0 a1).2.2 + 1)) else (kL a0 a1).2.1))
def WZ (z2_0 : List ZF) (z2_1 : Int) : Nat → Nat → Nat
  | 0, _ => default
  | n3 + 1, v3_0 => (bif ((decide ((↑v3_0 : Int) < (↑z2_0.length : Int))) && (decide ((nth z2_0 v3_0).YN < z2_1))) then WZ z2_0 z2_1 n3 (v3_0 + 1) else (v3_0))
def yR (v1_0 : List ZF) : Nat → List ZF → Nat → Int → Int → (List ZF) × Int × Int
  | 0, _, _, _, _ => (default, default, default)
  | n2 + 1, v2_0, v2_1, v2_2, v2_3 => (bif (decide ((↑v2_1 : Int) < (↑v1_0.length : Int))) then (bif ((decide ((W ((nth v1_0 v2_1).To + 1)) < v2_2)) || (decide ((W (v2_3 + 1)) < (nth v1_0 v2_1).YN))) then yR v1_0 n2 (v2_0 ++ ([(nth v1_0 v2_1)] : List ZF)) (v2_1 + 1) v2_2 v2_3 else yR v1_0 n2 v2_0 (v2_1 + 1) (if (nth v1_0 v2_1).YN < v2_2 then (nth v1_0 v2_1).YN else v2_2) (if (nth v1_0 v2_1).To > v2_3 then (nth v1_0 v2_1).To else v2_3)) else ((v2_0, v2_2, v2_3)))
def yU (a0 : List ZF) : Nat → List ZF → Nat → (List ZF)
  | 0, _, _ => default
  | n1 + 1, v1_0, v1_1 => (bif (decide ((↑v1_1 : Int) < (↑a0.length : Int))) then (bif (!(YR (nth a0 v1_1))) then yU a0 n1 v1_0 (v1_1 + 1) else (match yR v1_0 (v1_0.length + 1) ([] : List ZF) 0 (nth a0 v1_1).YN (nth a0 v1_1).To with | (z2_0, z2_1, z2_2) => (match WZ z2_0 z2_1 (z2_0.length + 1) 0 with | z3_0 => yU a0 n1 (((z2_0.take z3_0) ++ ([(ZF.mk z2_1 z2_2)] : List ZF)) ++ ((z2_0.drop z3_0).take (z2_0.length - z3_0))) (v1_1 + 1)))) else (v1_0))
def XQ (a0 : List ZF) : List ZF := (match yU a0 (a0.length + 1) ([] : List ZF) 0 with | z1_0 => z1_0)
def xU (a0 : Zn) (a1 : List Zu) : List ZF := (bif (decide (a0.YN > 0)) then (bif (decide (a0.To < 10000)) then (XQ (Zl (X5 a1 a0.YA) 10000 (Zl (W (a0.To + 1)) 10000 (Zl 0 (W (a0.YN - 1)) ([] : List ZF))))) else (XQ (Zl (X5 a1 a0.YA) 10000 (Zl 0 (W (a0.YN - 1)) ([] : List ZF))))) else (bif (decide (a0.To < 10000)) then (XQ (Zl (X5 a1 a0.YA) 10000 (Zl (W (a0.To + 1)) 10000 ([] : List ZF)))) else (XQ (Zl (X5 a1 a0.YA) 10000 ([] : List ZF)))))
def qx (a0 : ZF) (a1 : ZF) : Bool := ((((YR a0) && (YR a1)) && (decide (a1.YN ≤ a0.YN))) && (decide (a0.To ≤ a1.To)))
def z8 (a0 : List ZF) (a1 : ZF) : Nat → Nat → Sum Bool Unit
  | 0, _ => .inr ()
  | n1 + 1, v1_0 => (bif (decide ((↑v1_0 : Int) < (↑(XQ a0).length : Int))) then (bif (qx a1 (nth (XQ a0) v1_0)) then (.inl true) else z8 a0 a1 n1 (v1_0 + 1)) else (.inr ()))
def Je (a0 : List ZF) (a1 : ZF) : Bool := (match z8 a0 a1 ((XQ a0).length + 1) 0 with | .inl r1 => r1 | .inr _ => false)
def UK (a0 : Zn) (a1 : List Zu) (a2 : ZF) : Bool := (Je (xU a0 a1) a2)
def xI (a0 : List Zu) (a1 : Int) : Int := (bif (decide ((kL a0 a1).1 ≥ 0)) then (W ((kL a0 a1).1 - 1)) else (kL a0 a1).2.2)
def JG (a0 : ZF) (a1 : ZF) : ZF × Bool := (bif (((!(YR a0)) || (!(YR a1))) || (!(YR (ZF.mk (if a1.YN > a0.YN then a1.YN else a0.YN) (if a1.To < a0.To then a1.To else a0.To))))) then ((ZF.mk 0 0), false) else ((ZF.mk (if a1.YN > a0.YN then a1.YN else a0.YN) (if a1.To < a0.To then a1.To else a0.To)), true))
def K1 (a0 : List ZF) (a1 : List ZF) (v1_1 : Nat) : Nat → List ZF → Nat → (List ZF)
  | 0, _, _ => default
  | n2 + 1, v2_0, v2_1 => (bif (decide ((↑v2_1 : Int) < (↑a1.length : Int))) then (bif (JG (nth a0 v1_1) (nth a1 v2_1)).2 then K1 a0 a1 v1_1 n2 (v2_0 ++ ([(JG (nth a0 v1_1) (nth a1 v2_1)).1] : List ZF)) (v2_1 + 1) else K1 a0 a1 v1_1 n2 v2_0 (v2_1 + 1)) else (v2_0))
def jC (a0 : List ZF) (a1 : List ZF) : Nat → List ZF → Nat → (List ZF)
  | 0, _, _ => default
  | n1 + 1, v1_0, v1_1 => (bif (decide ((↑v1_1 : Int) < (↑a0.length : Int))) then (match K1 a0 a1 v1_1 (a1.length + 1) v1_0 0 with | z2_0 => jC a0 a1 n1 z2_0 (v1_1 + 1)) else (v1_0))
def kc (a0 : List ZF) (a1 : List ZF) : List ZF := (match jC a0 a1 (a0.length + 1) ([] : List ZF) 0 with | z1_0 => (XQ z1_0))
def yT (a0 : Zn) (a1 : List Zu) : List ZF := (kc ([(xE a0)] : List ZF) ([(ZF.mk 0 (xI a1 a0.YA))] : List ZF))
def ju (a0 : Zn) (a1 : List Zu) (a2 : ZF) : Bool := (Je (yT a0 a1) a2)
def Kc (a0 : List ZD) : Nat → List Zy → Nat → (List Zy)
  | 0, _, _ => default
  | n1 + 1, v1_0, v1_1 => (bif (decide ((↑v1_1 : Int) < (↑a0.length : Int))) then (bif (Qb (nth a0 v1_1)).2 then Kc a0 n1 (v1_0 ++ ([(Qb (nth a0 v1_1)).1] : List Zy)) (v1_1 + 1) else Kc a0 n1 v1_0 (v1_1 + 1)) else (v1_0))
def yf (a0 : List ZD) : List Zy := (match Kc a0 (a0.length + 1) ([] : List Zy) 0 with | z1_0 => z1_0)
def WG (a0 : Zy) : Bool := ((((Ze a0.Org 1 99) && (Ze a0.V4 0 99)) && (Ze a0.Key 1 99)) && (YR (ZF.mk a0.YN a0.To)))
def JX (a0 : Zy) : List Int := ([105, a0.Org, a0.V4, a0.YN, a0.To, a0.Key] : List Int)
def xn (a0 : List Zs) (a1 : Zy) : Bool := (((WG a1) && ((Vi a0 a1.Key) == a1.Org)) && (QS a0 a1.Key (JX a1) a1.Mark))
def JR (a0 : List Zs) (a1 : List Zy) (a2 : Int) (a3 : Int) : Nat → List ZF → Nat → (List ZF)
  | 0, _, _ => default
  | n1 + 1, v1_0, v1_1 => (bif (decide ((↑v1_1 : Int) < (↑a1.length : Int))) then (bif ((((nth a1 v1_1).Org == a2) && ((nth a1 v1_1).V4 == a3)) && (xn a0 (nth a1 v1_1))) then JR a0 a1 a2 a3 n1 (v1_0 ++ ([(ZF.mk (nth a1 v1_1).YN (nth a1 v1_1).To)] : List ZF)) (v1_1 + 1) else JR a0 a1 a2 a3 n1 v1_0 (v1_1 + 1)) else (v1_0))
def Jm (a0 : List Zs) (a1 : List Zy) (a2 : Int) (a3 : Int) : List ZF := (match JR a0 a1 a2 a3 (a1.length + 1) ([] : List ZF) 0 with | z1_0 => (XQ z1_0))
def jg (a0 : List Zs) (a1 : List Zy) (a2 : Int) (a3 : Int) (a4 : ZF) : Bool := (((a2 == 0) && (YR a4)) || (Je (Jm a0 a1 a2 a3) a4))
def xi (a0 : ZI) (a1 : ZL) (a2 : List (List Int)) (a3 : Int) (a4 : ZV) : Y7 := (bif (!(Vj a0)) then (Rv 1) else (bif (!(zZ a4)) then (Tf 1) else (bif (decide (a3 < 0)) then (Rv 2) else (bif (a3 != a4.Yz) then (Tf 2) else (bif (decide ((Yx a0.YY a4.Key) < 0)) then (Rv 3) else (bif (!(KX a0.YY a4)) then (Tf 4) else (bif ((decide ((Yk a0 a1 a2 (XY a4)) ≥ (KJ a0 a4.Key))) || (decide ((Yk a0 a1 a2 (XY a4)) ≥ (zx a0.Methods a4.Method)))) then (Rv 5) else (bif (!(Qq a0 (Zr a0 a1 a2) a4).2) then (Rv 6) else (bif (decide ((QD a0 a1 (Zr a0 a1 a2) a4) > (Yk a0 a1 a2 (XY a4)))) then (Rv 7) else (bif (UK (Qq a0 (Zr a0 a1 a2) a4).1 (Jc (Zr a0 a1 a2) (Qq a0 (Zr a0 a1 a2) a4).1) (ZF.mk (QD a0 a1 (Zr a0 a1 a2) a4) (Yk a0 a1 a2 (XY a4)))) then (Y7.mk 2 8 (ZF.mk (QD a0 a1 (Zr a0 a1 a2) a4) (Yk a0 a1 a2 (XY a4)))) else (bif (!(ju (Qq a0 (Zr a0 a1 a2) a4).1 (Jc (Zr a0 a1 a2) (Qq a0 (Zr a0 a1 a2) a4).1) (ZF.mk (QD a0 a1 (Zr a0 a1 a2) a4) (Yk a0 a1 a2 (XY a4))))) then (Y7.mk 3 7 (ZF.mk (QD a0 a1 (Zr a0 a1 a2) a4) (Yk a0 a1 a2 (XY a4)))) else (bif (!(jg a0.YY (yf (Zr a0 a1 a2)) a4.Org (Qq a0 (Zr a0 a1 a2) a4).1.Js (ZF.mk (QD a0 a1 (Zr a0 a1 a2) a4) (Yk a0 a1 a2 (XY a4))))) then (Y7.mk 3 9 (ZF.mk (QD a0 a1 (Zr a0 a1 a2) a4) (Yk a0 a1 a2 (XY a4)))) else (Y7.mk 1 0 (ZF.mk (QD a0 a1 (Zr a0 a1 a2) a4) (Yk a0 a1 a2 (XY a4))))))))))))))))
def Nk (a0 : ZI) (a1 : ZL) (a2 : Zc) (a3 : ZV) : Y7 := (xi a0 a1 (J2 a1 a2) (xl a3.Method a2) a3)
def Wg (a0 : ZI) (a1 : Zm) : Y7 := (Nk a0 (zp a1) a1.Doc a1.Sig)
def zO (a0 : Zo) (a1 : Int) : Y7 := (bif (decide ((Q0 a0 a1).1 < 0)) then (Y7.mk 0 0 (ZF.mk 0 0)) else (Wg a0.Frame (nth (nth a0.ZJ (Q0 a0 a1).1.toNat).YM (Q0 a0 a1).2.toNat)))
def xT (a0 : Zo) : Nat → List Int → Nat → (List Int)
  | 0, _, _ => default
  | n1 + 1, v1_0, v1_1 => (bif (decide ((↑v1_1 : Int) < (↑(QN a0).length : Int))) then (bif ((zO a0 (nth (QN a0) v1_1).Id).Code == 1) then xT a0 n1 (v1_0 ++ ([(nth (QN a0) v1_1).Id] : List Int)) (v1_1 + 1) else xT a0 n1 v1_0 (v1_1 + 1)) else (v1_0))
def Zz (a0 : Zo) : List Int := (match xT a0 ((QN a0).length + 1) ([] : List Int) 0 with | z1_0 => z1_0)
def Sr (a0 : List Int) (a1 : List Int) : Nat → Nat → Sum Bool Unit
  | 0, _ => .inr ()
  | n1 + 1, v1_0 => (bif (decide ((↑v1_0 : Int) < (↑a0.length : Int))) then (bif ((nth a0 v1_0) != (nth a1 v1_0)) then (.inl false) else Sr a0 a1 n1 (v1_0 + 1)) else (.inr ()))
def KC (a0 : List Int) (a1 : List Int) : Bool := (bif ((↑a0.length : Int) != (↑a1.length : Int)) then false else (match Sr a0 a1 (a0.length + 1) 0 with | .inl r1 => r1 | .inr _ => true))
def Ph (a0 : Zs) (a1 : Zs) : Bool := (bif (a0.Number != a1.Number) then false else (bif (a0.Js != a1.Js) then false else (bif (a0.Method != a1.Method) then false else (bif (a0.OC != a1.OC) then false else (bif (a0.xg != a1.xg) then false else true)))))
def SU (a0 : List Zs) (a1 : List Zs) : Nat → Nat → Sum Bool Unit
  | 0, _ => .inr ()
  | n1 + 1, v1_0 => (bif (decide ((↑v1_0 : Int) < (↑a0.length : Int))) then (bif (!(Ph (nth a0 v1_0) (nth a1 v1_0))) then (.inl false) else SU a0 a1 n1 (v1_0 + 1)) else (.inr ()))
def PR (a0 : List Zs) (a1 : List Zs) : Bool := (bif ((↑a0.length : Int) != (↑a1.length : Int)) then false else (match SU a0 a1 (a0.length + 1) 0 with | .inl r1 => r1 | .inr _ => true))
def yz (a0 : ZG) (a1 : ZG) : Bool := (bif (a0.Id != a1.Id) then false else (bif (a0.Key != a1.Key) then false else (bif (a0.Error != a1.Error) then false else true)))
def qK (a0 : List ZG) (a1 : List ZG) : Nat → Nat → Sum Bool Unit
  | 0, _ => .inr ()
  | n1 + 1, v1_0 => (bif (decide ((↑v1_0 : Int) < (↑a0.length : Int))) then (bif (!(yz (nth a0 v1_0) (nth a1 v1_0))) then (.inl false) else qK a0 a1 n1 (v1_0 + 1)) else (.inr ()))
def xk (a0 : List ZG) (a1 : List ZG) : Bool := (bif ((↑a0.length : Int) != (↑a1.length : Int)) then false else (match qK a0 a1 (a0.length + 1) 0 with | .inl r1 => r1 | .inr _ => true))
def kU (a0 : Zh) (a1 : Zh) : Bool := (bif (a0.Id != a1.Id) then false else (bif (a0.Ui != a1.Ui) then false else (bif (a0.Ends != a1.Ends) then false else (bif (a0.qO != a1.qO) then false else true))))
def kv (a0 : List Zh) (a1 : List Zh) : Nat → Nat → Sum Bool Unit
  | 0, _ => .inr ()
  | n1 + 1, v1_0 => (bif (decide ((↑v1_0 : Int) < (↑a0.length : Int))) then (bif (!(kU (nth a0 v1_0) (nth a1 v1_0))) then (.inl false) else kv a0 a1 n1 (v1_0 + 1)) else (.inr ()))
def Wi (a0 : List Zh) (a1 : List Zh) : Bool := (bif ((↑a0.length : Int) != (↑a1.length : Int)) then false else (match kv a0 a1 (a0.length + 1) 0 with | .inl r1 => r1 | .inr _ => true))
def Tb (a0 : ZI) (a1 : ZI) : Bool := (bif (!(PR a0.YY a1.YY)) then false else (bif (!(xk a0.ZN a1.ZN)) then false else (bif (!(Wi a0.Methods a1.Methods)) then false else (bif (a0.QR != a1.QR) then false else (bif (a0.Now != a1.Now) then false else true)))))
def Tx (a0 : Zn) (a1 : Zn) : Bool := (bif (a0.YA != a1.YA) then false else (bif (a0.Key != a1.Key) then false else (bif (a0.Js != a1.Js) then false else (bif (a0.YN != a1.YN) then false else (bif (a0.To != a1.To) then false else (bif (a0.Qd != a1.Qd) then false else (bif (a0.Mark != a1.Mark) then false else true)))))))
def Um (a0 : List Zn) (a1 : List Zn) : Nat → Nat → Sum Bool Unit
  | 0, _ => .inr ()
  | n1 + 1, v1_0 => (bif (decide ((↑v1_0 : Int) < (↑a0.length : Int))) then (bif (!(Tx (nth a0 v1_0) (nth a1 v1_0))) then (.inl false) else Um a0 a1 n1 (v1_0 + 1)) else (.inr ()))
def T8 (a0 : List Zn) (a1 : List Zn) : Bool := (bif ((↑a0.length : Int) != (↑a1.length : Int)) then false else (match Um a0 a1 (a0.length + 1) 0 with | .inl r1 => r1 | .inr _ => true))
def kr (a0 : List ByteArray) (a1 : List ByteArray) : Nat → Nat → Sum Bool Unit
  | 0, _ => .inr ()
  | n1 + 1, v1_0 => (bif (decide ((↑v1_0 : Int) < (↑a0.length : Int))) then (bif (!decide ((nth a0 v1_0) = (nth a1 v1_0))) then (.inl false) else kr a0 a1 n1 (v1_0 + 1)) else (.inr ()))
def Wf (a0 : List ByteArray) (a1 : List ByteArray) : Bool := (bif ((↑a0.length : Int) != (↑a1.length : Int)) then false else (match kr a0 a1 (a0.length + 1) 0 with | .inl r1 => r1 | .inr _ => true))
def jd (a0 : Zc) (a1 : Zc) : Bool := (bif (a0.ji != a1.ji) then false else (bif (!(Wf a0.ZQ a1.ZQ)) then false else (bif (!(KC a0.Zb a1.Zb)) then false else true)))
def qW (a0 : ZV) (a1 : ZV) : Bool := (bif (a0.Key != a1.Key) then false else (bif (a0.YA != a1.YA) then false else (bif (a0.Method != a1.Method) then false else (bif (a0.Yz != a1.Yz) then false else (bif (a0.qS != a1.qS) then false else (bif (a0.Org != a1.Org) then false else (bif (a0.y3 != a1.y3) then false else (bif (a0.Kd != a1.Kd) then false else (bif (a0.Mark != a1.Mark) then false else true)))))))))
def VV (a0 : ZD) (a1 : ZD) : Bool := (bif (a0.Key != a1.Key) then false else (bif (!(KC a0.Zg a1.Zg)) then false else (bif (a0.Mark != a1.Mark) then false else true)))
def VK (a0 : List ZD) (a1 : List ZD) : Nat → Nat → Sum Bool Unit
  | 0, _ => .inr ()
  | n1 + 1, v1_0 => (bif (decide ((↑v1_0 : Int) < (↑a0.length : Int))) then (bif (!(VV (nth a0 v1_0) (nth a1 v1_0))) then (.inl false) else VK a0 a1 n1 (v1_0 + 1)) else (.inr ()))
def Vr (a0 : List ZD) (a1 : List ZD) : Bool := (bif ((↑a0.length : Int) != (↑a1.length : Int)) then false else (match VK a0 a1 (a0.length + 1) 0 with | .inl r1 => r1 | .inr _ => true))
def Tn (a0 : Ya) (a1 : Ya) : Bool := (bif (a0.Yz != a1.Yz) then false else (bif (!(a0.Left == a1.Left)) then false else true))
def TA (a0 : List Ya) (a1 : List Ya) : Nat → Nat → Sum Bool Unit
  | 0, _ => .inr ()
  | n1 + 1, v1_0 => (bif (decide ((↑v1_0 : Int) < (↑a0.length : Int))) then (bif (!(Tn (nth a0 v1_0) (nth a1 v1_0))) then (.inl false) else TA a0 a1 n1 (v1_0 + 1)) else (.inr ()))
def Tu (a0 : List Ya) (a1 : List Ya) : Bool := (bif ((↑a0.length : Int) != (↑a1.length : Int)) then false else (match TA a0 a1 (a0.length + 1) 0 with | .inl r1 => r1 | .inr _ => true))
def Vg (a0 : ZY) (a1 : ZY) : Bool := (bif (a0.Authority != a1.Authority) then false else (bif (a0.Seq != a1.Seq) then false else (bif (a0.Time != a1.Time) then false else (bif (a0.Yz != a1.Yz) then false else (bif (a0.Mark != a1.Mark) then false else true)))))
def VQ (a0 : List ZY) (a1 : List ZY) : Nat → Nat → Sum Bool Unit
  | 0, _ => .inr ()
  | n1 + 1, v1_0 => (bif (decide ((↑v1_0 : Int) < (↑a0.length : Int))) then (bif (!(Vg (nth a0 v1_0) (nth a1 v1_0))) then (.inl false) else VQ a0 a1 n1 (v1_0 + 1)) else (.inr ()))
def Vl (a0 : List ZY) (a1 : List ZY) : Bool := (bif ((↑a0.length : Int) != (↑a1.length : Int)) then false else (match VQ a0 a1 (a0.length + 1) 0 with | .inl r1 => r1 | .inr _ => true))
def jI (a0 : ZK) (a1 : ZK) : Bool := (bif (a0.Count != a1.Count) then false else (bif (a0.Method != a1.Method) then false else (bif (a0.OY != a1.OY) then false else (bif (!(Tu a0.Path a1.Path)) then false else (bif (!(Vl a0.Zj a1.Zj)) then false else true)))))
def kA (a0 : List ZK) (a1 : List ZK) : Nat → Nat → Sum Bool Unit
  | 0, _ => .inr ()
  | n1 + 1, v1_0 => (bif (decide ((↑v1_0 : Int) < (↑a0.length : Int))) then (bif (!(jI (nth a0 v1_0) (nth a1 v1_0))) then (.inl false) else kA a0 a1 n1 (v1_0 + 1)) else (.inr ()))
def kH (a0 : List ZK) (a1 : List ZK) : Bool := (bif ((↑a0.length : Int) != (↑a1.length : Int)) then false else (match kA a0 a1 (a0.length + 1) 0 with | .inl r1 => r1 | .inr _ => true))
def UE (a0 : ZP) (a1 : ZP) : Bool := (bif (!(Vr a0.Zd a1.Zd)) then false else (bif (!(kH a0.ZX a1.ZX)) then false else true))
def SF (a0 : Zm) (a1 : Zm) : Bool := (bif (a0.Id != a1.Id) then false else (bif (a0.Xu != a1.Xu) then false else (bif (!(jd a0.Doc a1.Doc)) then false else (bif (!(qW a0.Sig a1.Sig)) then false else (bif (!(UE a0.Z0 a1.Z0)) then false else true)))))
def UZ (a0 : List Zm) (a1 : List Zm) : Nat → Nat → Sum Bool Unit
  | 0, _ => .inr ()
  | n1 + 1, v1_0 => (bif (decide ((↑v1_0 : Int) < (↑a0.length : Int))) then (bif (!(SF (nth a0 v1_0) (nth a1 v1_0))) then (.inl false) else UZ a0 a1 n1 (v1_0 + 1)) else (.inr ()))
def SQ (a0 : List Zm) (a1 : List Zm) : Bool := (bif ((↑a0.length : Int) != (↑a1.length : Int)) then false else (match UZ a0 a1 (a0.length + 1) 0 with | .inl r1 => r1 | .inr _ => true))
def jL (a0 : Zf) (a1 : Zf) : Bool := (bif (a0.Id != a1.Id) then false else (bif (!(SQ a0.YM a1.YM)) then false else true))
def jr (a0 : List Zf) (a1 : List Zf) : Nat → Nat → Sum Bool Unit
  | 0, _ => .inr ()
  | n1 + 1, v1_0 => (bif (decide ((↑v1_0 : Int) < (↑a0.length : Int))) then (bif (!(jL (nth a0 v1_0) (nth a1 v1_0))) then (.inl false) else jr a0 a1 n1 (v1_0 + 1)) else (.inr ()))
def kN (a0 : List Zf) (a1 : List Zf) : Bool := (bif ((↑a0.length : Int) != (↑a1.length : Int)) then false else (match jr a0 a1 (a0.length + 1) 0 with | .inl r1 => r1 | .inr _ => true))
def VZ (a0 : Zo) (a1 : Zo) : Bool := (bif (!(Tb a0.Frame a1.Frame)) then false else (bif (!(T8 a0.Yg a1.Yg)) then false else (bif (!(KC a0.YW a1.YW)) then false else (bif (!(kN a0.ZJ a1.ZJ)) then false else (bif (!(KC a0.J8 a1.J8)) then false else (bif (!(KC a0.Q6 a1.Q6)) then false else (bif (a0.Next != a1.Next) then false else (bif (!(KC a0.QP a1.QP)) then false else true))))))))
def K7 : Nat → Int → Nat → List Zs → Int × (List Zs)
  | 0, _, _, _ => (default, default)
  | n1 + 1, v1_0, v1_1, v1_2 => (bif (decide ((↑v1_1 : Int) < (↑v1_2.length : Int))) then K7 n1 (W ((W ((W ((W ((W (v1_0 + 1)) + 1)) + 1)) + 1)) + 1)) (v1_1 + 1) (v1_2.set v1_1 (Zs.mk v1_0 (W (v1_0 + 1)) (W ((W (v1_0 + 1)) + 1)) (W ((W ((W (v1_0 + 1)) + 1)) + 1)) (W ((W ((W ((W (v1_0 + 1)) + 1)) + 1)) + 1)))) else ((v1_0, v1_2)))
def XT (a0 : List Zs) (a1 : Int) : (List Zs) × Int := (match K7 (a0.length + 1) a1 0 a0 with | (z1_0, z1_1) => (z1_1, z1_0))
def QB : Nat → Int → Nat → List ZG → Int × (List ZG)
  | 0, _, _, _ => (default, default)
  | n1 + 1, v1_0, v1_1, v1_2 => (bif (decide ((↑v1_1 : Int) < (↑v1_2.length : Int))) then QB n1 (W ((W ((W (v1_0 + 1)) + 1)) + 1)) (v1_1 + 1) (v1_2.set v1_1 (ZG.mk v1_0 (W (v1_0 + 1)) (W ((W (v1_0 + 1)) + 1)))) else ((v1_0, v1_2)))
def Yt (a0 : List ZG) (a1 : Int) : (List ZG) × Int := (match QB (a0.length + 1) a1 0 a0 with | (z1_0, z1_1) => (z1_1, z1_0))
def JH : Nat → Int → Nat → List Zh → Int × (List Zh)
  | 0, _, _, _ => (default, default)
  | n1 + 1, v1_0, v1_1, v1_2 => (bif (decide ((↑v1_1 : Int) < (↑v1_2.length : Int))) then JH n1 (W ((W ((W ((W (v1_0 + 1)) + 1)) + 1)) + 1)) (v1_1 + 1) (v1_2.set v1_1 (Zh.mk v1_0 (W (v1_0 + 1)) (W ((W (v1_0 + 1)) + 1)) (W ((W ((W (v1_0 + 1)) + 1)) + 1)))) else ((v1_0, v1_2)))
def QI (a0 : List Zh) (a1 : Int) : (List Zh) × Int := (match JH (a0.length + 1) a1 0 a0 with | (z1_0, z1_1) => (z1_1, z1_0))
def Zw (a0 : ZI) (a1 : Int) : ZI × Int := ((ZI.mk (XT a0.YY a1).1 (Yt a0.ZN (XT a0.YY a1).2).1 (QI a0.Methods (Yt a0.ZN (XT a0.YY a1).2).2).1 a0.QR a0.Now), (QI a0.Methods (Yt a0.ZN (XT a0.YY a1).2).2).2)
def KT : Nat → Int → Nat → List Zn → Int × (List Zn)
  | 0, _, _, _ => (default, default)
  | n1 + 1, v1_0, v1_1, v1_2 => (bif (decide ((↑v1_1 : Int) < (↑v1_2.length : Int))) then KT n1 (W ((W ((W ((W ((W ((W ((W (v1_0 + 1)) + 1)) + 1)) + 1)) + 1)) + 1)) + 1)) (v1_1 + 1) (v1_2.set v1_1 (Zn.mk v1_0 (W (v1_0 + 1)) (W ((W (v1_0 + 1)) + 1)) (W ((W ((W (v1_0 + 1)) + 1)) + 1)) (W ((W ((W ((W (v1_0 + 1)) + 1)) + 1)) + 1)) (W ((W ((W ((W ((W (v1_0 + 1)) + 1)) + 1)) + 1)) + 1)) (W ((W ((W ((W ((W ((W (v1_0 + 1)) + 1)) + 1)) + 1)) + 1)) + 1)))) else ((v1_0, v1_2)))
def YI (a0 : List Zn) (a1 : Int) : (List Zn) × Int := (match KT (a0.length + 1) a1 0 a0 with | (z1_0, z1_1) => (z1_1, z1_0))
def zF : Nat → Int → Nat → List Int → Int × (List Int)
  | 0, _, _, _ => (default, default)
  | n1 + 1, v1_0, v1_1, v1_2 => (bif (decide ((↑v1_1 : Int) < (↑v1_2.length : Int))) then zF n1 (W (v1_0 + 1)) (v1_1 + 1) (v1_2.set v1_1 v1_0) else ((v1_0, v1_2)))
def ZC (a0 : List Int) (a1 : Int) : (List Int) × Int := (match zF (a0.length + 1) a1 0 a0 with | (z1_0, z1_1) => (z1_1, z1_0))
def Sn : Nat → Int → ByteArray → ByteArray
  | 0, _, _ => default
  | n1 + 1, v1_0, v1_1 => (bif (decide (v1_0 > 0)) then Sn n1 (W (Int.tdiv v1_0 10)) ((⟨([(UInt8.ofInt (W (48 + (Int.tmod v1_0 10))))] : List UInt8).toArray⟩ : ByteArray) ++ v1_1) else (v1_1))
def xS (a0 : Int) : ByteArray := (bif (decide (a0 ≤ 0)) then (⟨#[109, 48]⟩ : ByteArray) else (match Sn 22 a0 (⟨#[]⟩ : ByteArray) with | z1_0 => ((⟨#[109]⟩ : ByteArray) ++ z1_0)))
def JJ : Nat → Int → Nat → List ByteArray → Int × (List ByteArray)
  | 0, _, _, _ => (default, default)
  | n1 + 1, v1_0, v1_1, v1_2 => (bif (decide ((↑v1_1 : Int) < (↑v1_2.length : Int))) then JJ n1 (W (v1_0 + 1)) (v1_1 + 1) (v1_2.set v1_1 (xS v1_0)) else ((v1_0, v1_2)))
def ZB (a0 : List ByteArray) (a1 : Int) : (List ByteArray) × Int := (match JJ (a0.length + 1) a1 0 a0 with | (z1_0, z1_1) => (z1_1, z1_0))
def Jl : Nat → Int → Nat → List ZD → Int × (List ZD)
  | 0, _, _, _ => (default, default)
  | n1 + 1, v1_0, v1_1, v1_2 => (bif (decide ((↑v1_1 : Int) < (↑v1_2.length : Int))) then Jl n1 (W ((ZC (nth v1_2 v1_1).Zg (W (v1_0 + 1))).2 + 1)) (v1_1 + 1) (v1_2.set v1_1 (ZD.mk v1_0 (ZC (nth v1_2 v1_1).Zg (W (v1_0 + 1))).1 (ZC (nth v1_2 v1_1).Zg (W (v1_0 + 1))).2)) else ((v1_0, v1_2)))
def YJ (a0 : List ZD) (a1 : Int) : (List ZD) × Int := (match Jl (a0.length + 1) a1 0 a0 with | (z1_0, z1_1) => (z1_1, z1_0))
def KO : Nat → Int → Nat → List Ya → Int × (List Ya)
  | 0, _, _, _ => (default, default)
  | n1 + 1, v1_0, v1_1, v1_2 => (bif (decide ((↑v1_1 : Int) < (↑v1_2.length : Int))) then KO n1 (W ((W (v1_0 + 1)) + 1)) (v1_1 + 1) (v1_2.set v1_1 (Ya.mk v1_0 ((Int.tmod (W (v1_0 + 1)) 3) == 0))) else ((v1_0, v1_2)))
def YV (a0 : List Ya) (a1 : Int) : (List Ya) × Int := (match KO (a0.length + 1) a1 0 a0 with | (z1_0, z1_1) => (z1_1, z1_0))
def Jh : Nat → Int → Nat → List ZY → Int × (List ZY)
  | 0, _, _, _ => (default, default)
  | n1 + 1, v1_0, v1_1, v1_2 => (bif (decide ((↑v1_1 : Int) < (↑v1_2.length : Int))) then Jh n1 (W ((W ((W ((W ((W (v1_0 + 1)) + 1)) + 1)) + 1)) + 1)) (v1_1 + 1) (v1_2.set v1_1 (ZY.mk v1_0 (W (v1_0 + 1)) (W ((W (v1_0 + 1)) + 1)) (W ((W ((W (v1_0 + 1)) + 1)) + 1)) (W ((W ((W ((W (v1_0 + 1)) + 1)) + 1)) + 1)))) else ((v1_0, v1_2)))
def Y9 (a0 : List ZY) (a1 : Int) : (List ZY) × Int := (match Jh (a0.length + 1) a1 0 a0 with | (z1_0, z1_1) => (z1_1, z1_0))
def Qn : Nat → Int → Nat → List ZK → Int × (List ZK)
  | 0, _, _, _ => (default, default)
  | n1 + 1, v1_0, v1_1, v1_2 => (bif (decide ((↑v1_1 : Int) < (↑v1_2.length : Int))) then Qn n1 (Y9 (nth v1_2 v1_1).Zj (YV (nth v1_2 v1_1).Path (W ((W ((W (v1_0 + 1)) + 1)) + 1))).2).2 (v1_1 + 1) (v1_2.set v1_1 (ZK.mk v1_0 (W (v1_0 + 1)) (W ((W (v1_0 + 1)) + 1)) (YV (nth v1_2 v1_1).Path (W ((W ((W (v1_0 + 1)) + 1)) + 1))).1 (Y9 (nth v1_2 v1_1).Zj (YV (nth v1_2 v1_1).Path (W ((W ((W (v1_0 + 1)) + 1)) + 1))).2).1)) else ((v1_0, v1_2)))
def Yp (a0 : List ZK) (a1 : Int) : (List ZK) × Int := (match Qn (a0.length + 1) a1 0 a0 with | (z1_0, z1_1) => (z1_1, z1_0))
def KN : Nat → Int → Nat → List Zm → Int × (List Zm)
  | 0, _, _, _ => (default, default)
  | n1 + 1, v1_0, v1_1, v1_2 => (bif (decide ((↑v1_1 : Int) < (↑v1_2.length : Int))) then KN n1 (Yp (nth v1_2 v1_1).Z0.ZX (YJ (nth v1_2 v1_1).Z0.Zd (W ((W ((W ((W ((W ((W ((W ((W ((W ((ZC (nth v1_2 v1_1).Doc.Zb (ZB (nth v1_2 v1_1).Doc.ZQ (W ((W ((W (v1_0 + 1)) + 1)) + 1))).2).2 + 1)) + 1)) + 1)) + 1)) + 1)) + 1)) + 1)) + 1)) + 1))).2).2 (v1_1 + 1) (v1_2.set v1_1 (Zm.mk v1_0 (W (v1_0 + 1)) (Zc.mk (W ((W (v1_0 + 1)) + 1)) (ZB (nth v1_2 v1_1).Doc.ZQ (W ((W ((W (v1_0 + 1)) + 1)) + 1))).1 (ZC (nth v1_2 v1_1).Doc.Zb (ZB (nth v1_2 v1_1).Doc.ZQ (W ((W ((W (v1_0 + 1)) + 1)) + 1))).2).1) (ZV.mk (ZC (nth v1_2 v1_1).Doc.Zb (ZB (nth v1_2 v1_1).Doc.ZQ (W ((W ((W (v1_0 + 1)) + 1)) + 1))).2).2 (W ((ZC (nth v1_2 v1_1).Doc.Zb (ZB (nth v1_2 v1_1).Doc.ZQ (W ((W ((W (v1_0 + 1)) + 1)) + 1))).2).2 + 1)) (W ((W ((ZC (nth v1_2 v1_1).Doc.Zb (ZB (nth v1_2 v1_1).Doc.ZQ (W ((W ((W (v1_0 + 1)) + 1)) + 1))).2).2 + 1)) + 1)) (W ((W ((W ((ZC (nth v1_2 v1_1).Doc.Zb (ZB (nth v1_2 v1_1).Doc.ZQ (W ((W ((W (v1_0 + 1)) + 1)) + 1))).2).2 + 1)) + 1)) + 1)) (W ((W ((W ((W ((ZC (nth v1_2 v1_1).Doc.Zb (ZB (nth v1_2 v1_1).Doc.ZQ (W ((W ((W (v1_0 + 1)) + 1)) + 1))).2).2 + 1)) + 1)) + 1)) + 1)) (W ((W ((W ((W ((W ((ZC (nth v1_2 v1_1).Doc.Zb (ZB (nth v1_2 v1_1).Doc.ZQ (W ((W ((W (v1_0 + 1)) + 1)) + 1))).2).2 + 1)) + 1)) + 1)) + 1)) + 1)) (W ((W ((W ((W ((W ((W ((ZC (nth v1_2 v1_1).Doc.Zb (ZB (nth v1_2 v1_1).Doc.ZQ (W ((W ((W (v1_0 + 1)) + 1)) + 1))).2).2 + 1)) + 1)) + 1)) + 1)) + 1)) + 1)) (W ((W ((W ((W ((W ((W ((W ((ZC (nth v1_2 v1_1).Doc.Zb (ZB (nth v1_2 v1_1).Doc.ZQ (W ((W ((W (v1_0 + 1)) + 1)) + 1))).2).2 + 1)) + 1)) + 1)) + 1)) + 1)) + 1)) + 1)) (W ((W ((W ((W ((W ((W ((W ((W ((ZC (nth v1_2 v1_1).Doc.Zb (ZB (nth v1_2 v1_1).Doc.ZQ (W ((W ((W (v1_0 + 1)) + 1)) + 1))).2).2 + 1)) + 1)) + 1)) + 1)) + 1)) + 1)) + 1)) + 1))) (ZP.mk (YJ (nth v1_2 v1_1).Z0.Zd (W ((W ((W ((W ((W ((W ((W ((W ((W ((ZC (nth v1_2 v1_1).Doc.Zb (ZB (nth v1_2 v1_1).Doc.ZQ (W ((W ((W (v1_0 + 1)) + 1)) + 1))).2).2 + 1)) + 1)) + 1)) + 1)) + 1)) + 1)) + 1)) + 1)) + 1))).1 (Yp (nth v1_2 v1_1).Z0.ZX (YJ (nth v1_2 v1_1).Z0.Zd (W ((W ((W ((W ((W ((W ((W ((W ((W ((ZC (nth v1_2 v1_1).Doc.Zb (ZB (nth v1_2 v1_1).Doc.ZQ (W ((W ((W (v1_0 + 1)) + 1)) + 1))).2).2 + 1)) + 1)) + 1)) + 1)) + 1)) + 1)) + 1)) + 1)) + 1))).2).1))) else ((v1_0, v1_2)))
def XJ (a0 : List Zm) (a1 : Int) : (List Zm) × Int := (match KN (a0.length + 1) a1 0 a0 with | (z1_0, z1_1) => (z1_1, z1_0))
def Qo : Nat → Int → Nat → List Zf → Int × (List Zf)
  | 0, _, _, _ => (default, default)
  | n1 + 1, v1_0, v1_1, v1_2 => (bif (decide ((↑v1_1 : Int) < (↑v1_2.length : Int))) then Qo n1 (XJ (nth v1_2 v1_1).YM (W (v1_0 + 1))).2 (v1_1 + 1) (v1_2.set v1_1 (Zf.mk v1_0 (XJ (nth v1_2 v1_1).YM (W (v1_0 + 1))).1)) else ((v1_0, v1_2)))
def YK (a0 : List Zf) (a1 : Int) : (List Zf) × Int := (match Qo (a0.length + 1) a1 0 a0 with | (z1_0, z1_1) => (z1_1, z1_0))
def YQ (a0 : Zo) (a1 : Int) : Zo × Int := ((Zo.mk (Zw a0.Frame a1).1 (YI a0.Yg (Zw a0.Frame a1).2).1 (ZC a0.YW (YI a0.Yg (Zw a0.Frame a1).2).2).1 (YK a0.ZJ (ZC a0.YW (YI a0.Yg (Zw a0.Frame a1).2).2).2).1 (ZC a0.J8 (YK a0.ZJ (ZC a0.YW (YI a0.Yg (Zw a0.Frame a1).2).2).2).2).1 (ZC a0.Q6 (ZC a0.J8 (YK a0.ZJ (ZC a0.YW (YI a0.Yg (Zw a0.Frame a1).2).2).2).2).2).1 a0.Next (ZC a0.QP (ZC a0.Q6 (ZC a0.J8 (YK a0.ZJ (ZC a0.YW (YI a0.Yg (Zw a0.Frame a1).2).2).2).2).2).2).1), (ZC a0.QP (ZC a0.Q6 (ZC a0.J8 (YK a0.ZJ (ZC a0.YW (YI a0.Yg (Zw a0.Frame a1).2).2).2).2).2).2).2)
def VI (a0 : List Int) : Nat → Int → Nat → Sum Int Int
  | 0, _, _ => .inr default
  | n1 + 1, v1_0, v1_1 => (bif (decide ((↑v1_1 : Int) < (↑a0.length : Int))) then (bif ((nth a0 v1_1) != v1_0) then (.inl (-1)) else VI a0 n1 (W (v1_0 + 1)) (v1_1 + 1)) else (.inr v1_0))
def Jz (a0 : List Int) (a1 : Int) : Int := (match VI a0 (a0.length + 1) a1 0 with | .inl r1 => r1 | .inr z1_0 => z1_0)
def ze (a0 : Zo) : Bool := (bif (decide ((QX a0 1048576) < 0)) then true else (bif (!(KC (Zz a0) (Y2 a0))) then false else (bif (!(VZ a0 a0)) then false else (bif ((decide ((YQ a0 1).2 < 0)) || (!(KC (Zz a0) (Y2 a0)))) then false else (bif (decide ((Jz (ZC (Zz a0) 1).1 1) < 0)) then false else (bif ((Jz (ZC (Zz a0) 1).1 1) != (ZC (Zz a0) 1).2) then false else (bif (!(KC (Zz a0) (Y2 a0))) then false else (bif (decide ((Jz (ZC (Zz a0) 1).1 1) < 0)) then false else (bif ((Jz (ZC (Zz a0) 1).1 1) != (ZC (Zz a0) 1).2) then false else true)))))))))
def Px (a0 : List Int) (a1 : Int) : Nat → Nat → Sum Bool Unit
  | 0, _ => .inr ()
  | n1 + 1, v1_0 => (bif (decide ((↑v1_0 : Int) < (↑a0.length : Int))) then (bif ((nth a0 v1_0) == a1) then (.inl true) else Px a0 a1 n1 (v1_0 + 1)) else (.inr ()))
def HE (a0 : List Int) (a1 : Int) : Bool := (match Px a0 a1 (a0.length + 1) 0 with | .inl r1 => r1 | .inr _ => false)
def Kw (a0 : Zo) : Nat → List Int → Nat → (List Int)
  | 0, _, _ => default
  | n1 + 1, v1_0, v1_1 => (bif (decide ((↑v1_1 : Int) < (↑(Y2 a0).length : Int))) then (bif (HE a0.QP (nth (Y2 a0) v1_1)) then Kw a0 n1 (v1_0 ++ ([(nth (Y2 a0) v1_1)] : List Int)) (v1_1 + 1) else Kw a0 n1 v1_0 (v1_1 + 1)) else (v1_0))
def Qt (a0 : Zo) : List Int := (match Kw a0 ((Y2 a0).length + 1) ([] : List Int) 0 with | z1_0 => z1_0)
def U1 (a0 : List Int) (a1 : Int) : Nat → Nat → Sum Int Unit
  | 0, _ => .inr ()
  | n1 + 1, v1_0 => (bif (decide ((↑v1_0 : Int) < (↑a0.length : Int))) then (bif ((nth a0 v1_0) == a1) then (.inl (↑v1_0 : Int)) else U1 a0 a1 n1 (v1_0 + 1)) else (.inr ()))
def Pt (a0 : List Int) (a1 : Int) : Int := (match U1 a0 a1 (a0.length + 1) 0 with | .inl r1 => r1 | .inr _ => (-1))
def WX (a0 : List Int) (a1 : Int) : Bool := (decide ((Pt a0 a1) ≥ 0))
def J0 (a0 : Zo) : Nat → List Int → Nat → (List Int)
  | 0, _, _ => default
  | n1 + 1, v1_0, v1_1 => (bif (decide ((↑v1_1 : Int) < (↑(Zz a0).length : Int))) then (bif (WX a0.QP (nth (Zz a0) v1_1)) then J0 a0 n1 (v1_0 ++ ([(nth (Zz a0) v1_1)] : List Int)) (v1_1 + 1) else J0 a0 n1 v1_0 (v1_1 + 1)) else (v1_0))
def YU (a0 : Zo) : List Int := (match J0 a0 ((Zz a0).length + 1) ([] : List Int) 0 with | z1_0 => z1_0)
def K0 (a0 : Zo) : Bool := (bif (decide ((QX a0 1048576) < 0)) then true else (bif (!(KC (YU a0) (Qt a0))) then false else (bif (!(VZ a0 a0)) then false else (bif ((decide ((YQ a0 1).2 < 0)) || (!(KC (YU a0) (Qt a0)))) then false else (bif (decide ((Jz (ZC (YU a0) 1).1 1) < 0)) then false else (bif ((Jz (ZC (YU a0) 1).1 1) != (ZC (YU a0) 1).2) then false else (bif (!(KC (YU a0) (Qt a0))) then false else (bif (decide ((Jz (ZC (YU a0) 1).1 1) < 0)) then false else (bif ((Jz (ZC (YU a0) 1).1 1) != (ZC (YU a0) 1).2) then false else true)))))))))
end Go.Mo
