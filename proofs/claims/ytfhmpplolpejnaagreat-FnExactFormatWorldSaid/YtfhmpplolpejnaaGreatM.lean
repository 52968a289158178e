/- Models of the functions: what each computes, on typed data. No condition. -/
import Derived.Test.YtfhmpplolpejnaaGreatMo
namespace Go.Mo
open Go.Vm
def QO (a0 : List YC) (a1 : Int) : Int := (bif (decide ((W (a1 - (↑a0.length : Int))) < 0)) then (-1) else (W (a1 - (↑a0.length : Int))))
def XX (a0 : List ZE) (a1 : Int) : Int := (bif (decide ((W (a1 - (↑a0.length : Int))) < 0)) then (-1) else (W (a1 - (↑a0.length : Int))))
def yU (a0 : List Zl) (a1 : Int) : Int := (bif (decide ((W (a1 - (↑a0.length : Int))) < 0)) then (-1) else (W (a1 - (↑a0.length : Int))))
def Zx (a0 : ZF) (a1 : Int) : Int := (bif (decide ((QO a0.Y3 a1) < 0)) then (-1) else (bif (decide ((XX a0.ZT (QO a0.Y3 a1)) < 0)) then (-1) else (bif (decide ((yU a0.Methods (XX a0.ZT (QO a0.Y3 a1))) < 0)) then (-1) else (yU a0.Methods (XX a0.ZT (QO a0.Y3 a1))))))
def qd (a0 : List ByteArray) : Nat → Int → Nat → Sum Int Int
  | 0, _, _ => .inr default
  | n1 + 1, v1_0, v1_1 => (bif (decide ((↑v1_1 : Int) < (↑a0.length : Int))) then (bif (decide ((W (v1_0 - (↑(nth a0 v1_1).size : Int))) < 0)) then (.inl (-1)) else qd a0 n1 (W (v1_0 - (↑(nth a0 v1_1).size : Int))) (v1_1 + 1)) else (.inr v1_0))
def QA (a0 : List ByteArray) (a1 : Int) : Int := (bif (decide ((W (a1 - (↑a0.length : Int))) < 0)) then (-1) else (match qd a0 (a0.length + 1) (W (a1 - (↑a0.length : Int))) 0 with | .inl r1 => r1 | .inr z1_0 => z1_0))
def Zv (a0 : List Int) (a1 : Int) : Int := (bif (decide ((W (a1 - (↑a0.length : Int))) < 0)) then (-1) else (W (a1 - (↑a0.length : Int))))
def Xe (a0 : Zg) (a1 : Int) : Int := (bif (decide ((QA a0.Yx a1) < 0)) then (-1) else (bif (decide ((Zv a0.Xl (QA a0.Yx a1)) < 0)) then (-1) else (Zv a0.Xl (QA a0.Yx a1))))
def jZ (a0 : ZB) (a1 : Int) : Int := (bif (decide ((Zv a0.Zb a1) < 0)) then (-1) else (Zv a0.Zb a1))
def kC (a0 : List ZB) : Nat → Int → Nat → Sum Int Int
  | 0, _, _ => .inr default
  | n1 + 1, v1_0, v1_1 => (bif (decide ((↑v1_1 : Int) < (↑a0.length : Int))) then (bif (decide ((jZ (nth a0 v1_1) v1_0) < 0)) then (.inl (-1)) else kC a0 n1 (jZ (nth a0 v1_1) v1_0) (v1_1 + 1)) else (.inr v1_0))
def Qc (a0 : List ZB) (a1 : Int) : Int := (bif (decide ((W (a1 - (↑a0.length : Int))) < 0)) then (-1) else (match kC a0 (a0.length + 1) (W (a1 - (↑a0.length : Int))) 0 with | .inl r1 => r1 | .inr z1_0 => z1_0))
def JR (a0 : List XG) (a1 : Int) : Int := (bif (decide ((W (a1 - (↑a0.length : Int))) < 0)) then (-1) else (W (a1 - (↑a0.length : Int))))
def xO (a0 : List Za) (a1 : Int) : Int := (bif (decide ((W (a1 - (↑a0.length : Int))) < 0)) then (-1) else (W (a1 - (↑a0.length : Int))))
def yQ (a0 : ZS) (a1 : Int) : Int := (bif (decide ((JR a0.Path a1) < 0)) then (-1) else (bif (decide ((xO a0.Zi (JR a0.Path a1)) < 0)) then (-1) else (xO a0.Zi (JR a0.Path a1))))
def xv (a0 : List ZS) : Nat → Int → Nat → Sum Int Int
  | 0, _, _ => .inr default
  | n1 + 1, v1_0, v1_1 => (bif (decide ((↑v1_1 : Int) < (↑a0.length : Int))) then (bif (decide ((yQ (nth a0 v1_1) v1_0) < 0)) then (.inl (-1)) else xv a0 n1 (yQ (nth a0 v1_1) v1_0) (v1_1 + 1)) else (.inr v1_0))
def Kx (a0 : List ZS) (a1 : Int) : Int := (bif (decide ((W (a1 - (↑a0.length : Int))) < 0)) then (-1) else (match xv a0 (a0.length + 1) (W (a1 - (↑a0.length : Int))) 0 with | .inl r1 => r1 | .inr z1_0 => z1_0))
def zK (a0 : ZN) (a1 : Int) : Int := (bif (decide ((Qc a0.ZZ a1) < 0)) then (-1) else (bif (decide ((Kx a0.ZR (Qc a0.ZZ a1)) < 0)) then (-1) else (Kx a0.ZR (Qc a0.ZZ a1))))
def xY (a0 : Z3) (a1 : Int) : Int := (bif (decide ((Xe a0.Doc a1) < 0)) then (-1) else (bif (decide ((zK a0.Y7 (Xe a0.Doc a1)) < 0)) then (-1) else (zK a0.Y7 (Xe a0.Doc a1))))
def ZKq (a0 : YC) : YC := a0
def ZD8 (a0 : List YC) : Nat → Nat → List YC → (List YC)
  | 0, _, _ => default
  | n1 + 1, v1_0, v1_1 => (bif (decide ((↑v1_0 : Int) < (↑a0.length : Int))) then ZD8 a0 n1 (v1_0 + 1) (v1_1.set v1_0 (nth a0 v1_0)) else (v1_1))
def ZLu (a0 : List YC) : List YC := (match ZD8 a0 (a0.length + 1) 0 (List.replicate a0.length (YC.mk 0 0 0 0 0)) with | z1_0 => z1_0)
def ZAD (a0 : ZE) : ZE := a0
def qF (a0 : List ZE) : Nat → Nat → List ZE → (List ZE)
  | 0, _, _ => default
  | n1 + 1, v1_0, v1_1 => (bif (decide ((↑v1_0 : Int) < (↑a0.length : Int))) then qF a0 n1 (v1_0 + 1) (v1_1.set v1_0 (nth a0 v1_0)) else (v1_1))
def ZBi (a0 : List ZE) : List ZE := (match qF a0 (a0.length + 1) 0 (List.replicate a0.length (ZE.mk 0 0 0)) with | z1_0 => z1_0)
def ZEW (a0 : Zl) : Zl := a0
def ZAH (a0 : List Zl) : Nat → Nat → List Zl → (List Zl)
  | 0, _, _ => default
  | n1 + 1, v1_0, v1_1 => (bif (decide ((↑v1_0 : Int) < (↑a0.length : Int))) then ZAH a0 n1 (v1_0 + 1) (v1_1.set v1_0 (nth a0 v1_0)) else (v1_1))
def ZE0 (a0 : List Zl) : List Zl := (match ZAH a0 (a0.length + 1) 0 (List.replicate a0.length (Zl.mk 0 0 0 0)) with | z1_0 => z1_0)
def ZF5 (a0 : ZF) : ZF := a0
def ZAC (a0 : List ByteArray) : Nat → Nat → List ByteArray → (List ByteArray)
  | 0, _, _ => default
  | n1 + 1, v1_0, v1_1 => (bif (decide ((↑v1_0 : Int) < (↑a0.length : Int))) then ZAC a0 n1 (v1_0 + 1) (v1_1.set v1_0 (nth a0 v1_0)) else (v1_1))
def ZFw (a0 : List ByteArray) : List ByteArray := (match ZAC a0 (a0.length + 1) 0 (List.replicate a0.length (⟨#[]⟩ : ByteArray)) with | z1_0 => z1_0)
def ZD5 (a0 : List Int) : Nat → Nat → List Int → (List Int)
  | 0, _, _ => default
  | n1 + 1, v1_0, v1_1 => (bif (decide ((↑v1_0 : Int) < (↑a0.length : Int))) then ZD5 a0 n1 (v1_0 + 1) (v1_1.set v1_0 (nth a0 v1_0)) else (v1_1))
def ZLo (a0 : List Int) : List Int := (match ZD5 a0 (a0.length + 1) 0 (List.replicate a0.length 0) with | z1_0 => z1_0)
def ZBM (a0 : Zg) : Zg := a0
def ZAJ (a0 : ZY) : ZY := a0
def ZF2 (a0 : ZB) : ZB := a0
def ZBL (a0 : List ZB) : Nat → Nat → List ZB → (List ZB)
  | 0, _, _ => default
  | n1 + 1, v1_0, v1_1 => (bif (decide ((↑v1_0 : Int) < (↑a0.length : Int))) then ZBL a0 n1 (v1_0 + 1) (v1_1.set v1_0 (nth a0 v1_0)) else (v1_1))
def ZGi (a0 : List ZB) : List ZB := (match ZBL a0 (a0.length + 1) 0 (List.replicate a0.length (ZB.mk 0 ([] : List Int) 0)) with | z1_0 => z1_0)
def ZHk (a0 : XG) : XG := a0
def ZCK (a0 : List XG) : Nat → Nat → List XG → (List XG)
  | 0, _, _ => default
  | n1 + 1, v1_0, v1_1 => (bif (decide ((↑v1_0 : Int) < (↑a0.length : Int))) then ZCK a0 n1 (v1_0 + 1) (v1_1.set v1_0 (nth a0 v1_0)) else (v1_1))
def ZIc (a0 : List XG) : List XG := (match ZCK a0 (a0.length + 1) 0 (List.replicate a0.length (XG.mk 0 false)) with | z1_0 => z1_0)
def ZF0 (a0 : Za) : Za := a0
def ZBP (a0 : List Za) : Nat → Nat → List Za → (List Za)
  | 0, _, _ => default
  | n1 + 1, v1_0, v1_1 => (bif (decide ((↑v1_0 : Int) < (↑a0.length : Int))) then ZBP a0 n1 (v1_0 + 1) (v1_1.set v1_0 (nth a0 v1_0)) else (v1_1))
def ZGm (a0 : List Za) : List Za := (match ZBP a0 (a0.length + 1) 0 (List.replicate a0.length (Za.mk 0 0 0 0 0)) with | z1_0 => z1_0)
def ZCJ (a0 : ZS) : ZS := a0
def kI (a0 : List ZS) : Nat → Nat → List ZS → (List ZS)
  | 0, _, _ => default
  | n1 + 1, v1_0, v1_1 => (bif (decide ((↑v1_0 : Int) < (↑a0.length : Int))) then kI a0 n1 (v1_0 + 1) (v1_1.set v1_0 (nth a0 v1_0)) else (v1_1))
def ZD1 (a0 : List ZS) : List ZS := (match kI a0 (a0.length + 1) 0 (List.replicate a0.length (ZS.mk 0 0 0 ([] : List XG) ([] : List Za))) with | z1_0 => z1_0)
def ZDu (a0 : ZN) : ZN := a0
def ZH8 (a0 : Z3) : Z3 := a0
def Q7 : Nat → ByteArray → Int → ByteArray
  | 0, _, _ => default
  | n1 + 1, v1_0, v1_1 => (bif (v1_1 != 0) then (bif (decide ((Int.tmod v1_1 10) < 0)) then Q7 n1 ((⟨([(UInt8.ofInt (W (48 + (W (-(Int.tmod v1_1 10))))))] : List UInt8).toArray⟩ : ByteArray) ++ v1_0) (W (Int.tdiv v1_1 10)) else Q7 n1 ((⟨([(UInt8.ofInt (W (48 + (Int.tmod v1_1 10))))] : List UInt8).toArray⟩ : ByteArray) ++ v1_0) (W (Int.tdiv v1_1 10))) else (v1_0))
def XT (a0 : Int) : ByteArray := (bif (a0 == 0) then (⟨#[48]⟩ : ByteArray) else (match Q7 22 (⟨#[]⟩ : ByteArray) a0 with | z1_0 => (bif (decide (a0 < 0)) then ((⟨#[45]⟩ : ByteArray) ++ z1_0) else z1_0)))
def ZIK (a0 : ZB) : ZB := a0
def ZEF (a0 : List ZB) : Nat → List ZB → Nat → (List ZB)
  | 0, _, _ => default
  | n1 + 1, v1_0, v1_1 => (bif (decide ((↑v1_1 : Int) < (↑a0.length : Int))) then ZEF a0 n1 (v1_0 ++ ([(nth a0 v1_1)] : List ZB)) (v1_1 + 1) else (v1_0))
def ZG3 (a0 : List ZB) : List ZB := (match ZEF a0 (a0.length + 1) ([] : List ZB) 0 with | z1_0 => z1_0)
def ZIR (a0 : ZS) : ZS := a0
def ZCU (a0 : ZN) : Nat → Nat → List ZS → (List ZS)
  | 0, _, _ => default
  | n1 + 1, v1_0, v1_1 => (bif (decide ((↑v1_0 : Int) < (↑a0.ZR.length : Int))) then ZCU a0 n1 (v1_0 + 1) (v1_1 ++ ([(nth a0.ZR v1_0)] : List ZS)) else (v1_1))
def ZF1 (a0 : ZN) : ZN := (match ZCU a0 (a0.ZR.length + 1) 0 ([] : List ZS) with | z1_0 => (ZN.mk a0.ZZ z1_0))
def zT (a0 : Z3) : ZI := (ZI.mk ([a0.Y7] : List ZN) ([] : List (List Za)))
def YN (a0 : Int) (a1 : Int) (a2 : Int) : Bool := ((decide (a0 ≥ a1)) && (decide (a0 ≤ a2)))
def zw (a0 : Zg) : Nat → Nat → Sum Bool Unit
  | 0, _ => .inr ()
  | n2 + 1, v2_0 => (bif (decide ((↑v2_0 : Int) < (↑a0.Xl.length : Int))) then (bif (!(YN (nth a0.Xl v2_0) 1 1000000000000)) then (.inl false) else zw a0 n2 (v2_0 + 1)) else (.inr ()))
def zk (a0 : Zg) : Nat → Nat → Sum Bool Unit
  | 0, _ => .inr ()
  | n1 + 1, v1_0 => (bif (decide ((↑v1_0 : Int) < (↑a0.Yx.length : Int))) then (bif (decide ((↑(nth a0.Yx v1_0).size : Int) > 40)) then (.inl false) else zk a0 n1 (v1_0 + 1)) else (.inr ()))
def yf (a0 : Zg) : Bool := (match zk a0 (a0.Yx.length + 1) 0 with | .inl r1 => r1 | .inr _ => (match zw a0 (a0.Xl.length + 1) 0 with | .inl r2 => r2 | .inr _ => (((YN a0.kW 0 999) && (YN (↑a0.Yx.length : Int) 1 6)) && ((↑a0.Xl.length : Int) == (↑a0.Yx.length : Int)))))
def ZP8 (a0 : Int) (a1 : Int) : Int := (bif (!(YN a1 1 1000000000000)) then 0 else (Int.tmod (W ((Int.tmod a0 a1) + a1)) a1))
def ZE2 (a0 : List Int) : Nat → Int → Nat → Int
  | 0, _, _ => default
  | n1 + 1, v1_0, v1_1 => (bif (decide ((↑v1_1 : Int) < (↑a0.length : Int))) then ZE2 a0 n1 (Int.tmod (W ((W ((W (v1_0 * 1000003)) + (ZP8 (nth a0 v1_1) 2147483647))) + 13)) 2147483647) (v1_1 + 1) else (v1_0))
def ZIn (a0 : List Int) : Int := (match ZE2 a0 (a0.length + 1) 11 0 with | z1_0 => z1_0)
def Qz (a0 : Int) (a1 : List Int) : Int := (ZIn (([7, a0] : List Int) ++ a1))
def xT (a1 : ByteArray) : Nat → List Int → Nat → (List Int)
  | 0, _, _ => default
  | n1 + 1, v1_0, v1_1 => (bif (decide ((↑v1_1 : Int) < (↑a1.size : Int))) then xT a1 n1 (v1_0 ++ ([(W (↑(bAt a1 v1_1) : Int))] : List Int)) (v1_1 + 1) else (v1_0))
def kN (a0 : Int) (a1 : ByteArray) (a2 : Int) : Int := (match xT a1 (a1.size + 1) ([a2] : List Int) 0 with | z1_0 => (Qz a0 z1_0))
def qj (a0 : Int) (a1 : Zg) : Nat → List Int → Nat → (List Int)
  | 0, _, _ => default
  | n1 + 1, v1_0, v1_1 => (bif (decide ((↑v1_1 : Int) < (↑a1.Yx.length : Int))) then qj a0 a1 n1 (v1_0 ++ ([(kN a0 (nth a1.Yx v1_1) (nth a1.Xl v1_1))] : List Int)) (v1_1 + 1) else (v1_0))
def xa (a0 : Int) (a1 : Zg) : Int := (bif (!(yf a1)) then (-1) else (match qj a0 a1 (a1.Yx.length + 1) ([a1.kW] : List Int) 0 with | z1_0 => (Qz a0 z1_0)))
def KP (a0 : ZN) (a1 : Zg) : Nat → List Int → Nat → (List Int)
  | 0, _, _ => default
  | n1 + 1, v1_0, v1_1 => (bif (decide ((↑v1_1 : Int) < (↑a0.ZR.length : Int))) then KP a0 a1 n1 (v1_0 ++ ([(xa (nth a0.ZR v1_1).Method a1)] : List Int)) (v1_1 + 1) else (v1_0))
def yV (a0 : ZN) (a1 : Zg) : List Int := (match KP a0 a1 (a0.ZR.length + 1) ([] : List Int) 0 with | z1_0 => z1_0)
def Qe (a0 : ZI) (a1 : Zg) : Nat → List (List Int) → Nat → (List (List Int))
  | 0, _, _ => default
  | n1 + 1, v1_0, v1_1 => (bif (decide ((↑v1_1 : Int) < (↑a0.ZK.length : Int))) then Qe a0 a1 n1 (v1_0 ++ ([(yV (nth a0.ZK v1_1) a1)] : List (List Int))) (v1_1 + 1) else (v1_0))
def Jf (a0 : ZI) (a1 : Zg) : List (List Int) := (match Qe a0 a1 (a0.ZK.length + 1) ([] : List (List Int)) 0 with | z1_0 => z1_0)
def qc (a0 : Int) : Bool := (YN a0 0 10000)
def j0 (a0 : Int) : Bool := (YN a0 1 2147483646)
def ZH3 (a0 : YC) : Bool := (((((YN a0.Number 1 99) && (YN a0.Kb 0 99)) && (YN a0.Method 0 99)) && (qc a0.ZIX)) && (j0 a0.kp))
def ZAY (a0 : List YC) : Nat → Nat → Sum Bool Unit
  | 0, _ => .inr ()
  | n1 + 1, v1_0 => (bif (decide ((↑v1_0 : Int) < (↑a0.length : Int))) then (bif ((!(ZH3 (nth a0 v1_0))) || ((decide ((↑v1_0 : Int) > 0)) && (decide ((nth a0 (v1_0 - 1)).Number ≥ (nth a0 v1_0).Number)))) then (.inl false) else ZAY a0 n1 (v1_0 + 1)) else (.inr ()))
def ZDC (a0 : List YC) : Bool := (match ZAY a0 (a0.length + 1) 0 with | .inl r1 => r1 | .inr _ => (decide ((↑a0.length : Int) ≤ 12)))
def KL (a0 : List ZE) : Nat → Nat → Sum Bool Unit
  | 0, _ => .inr ()
  | n1 + 1, v1_0 => (bif (decide ((↑v1_0 : Int) < (↑a0.length : Int))) then (bif ((((!(YN (nth a0 v1_0).Id 0 99)) || (!(YN (nth a0 v1_0).Key 1 99))) || (!(YN (nth a0 v1_0).Error 0 100))) || ((decide ((↑v1_0 : Int) > 0)) && (decide ((nth a0 (v1_0 - 1)).Id ≥ (nth a0 v1_0).Id)))) then (.inl false) else KL a0 n1 (v1_0 + 1)) else (.inr ()))
def yA (a0 : List ZE) : Bool := (match KL a0 (a0.length + 1) 0 with | .inl r1 => r1 | .inr _ => (decide ((↑a0.length : Int) ≤ 6)))
def ZB1 (a0 : Zl) : Bool := ((((((YN a0.Id 0 99) && (qc a0.ZDY)) && (YN a0.Ends 1 10001)) && (YN a0.kj 1 10001)) && (decide (a0.ZDY < a0.Ends))) && (decide (a0.ZDY < a0.kj)))
def xQ (a0 : List Zl) : Nat → Nat → Sum Bool Unit
  | 0, _ => .inr ()
  | n1 + 1, v1_0 => (bif (decide ((↑v1_0 : Int) < (↑a0.length : Int))) then (bif ((!(ZB1 (nth a0 v1_0))) || ((decide ((↑v1_0 : Int) > 0)) && (decide ((nth a0 (v1_0 - 1)).Id ≥ (nth a0 v1_0).Id)))) then (.inl false) else xQ a0 n1 (v1_0 + 1)) else (.inr ()))
def kV (a0 : List Zl) : Bool := (match xQ a0 (a0.length + 1) 0 with | .inl r1 => r1 | .inr _ => (decide ((↑a0.length : Int) ≤ 8)))
def ZBZ (a0 : ZF) : Bool := (((((ZDC a0.Y3) && (yA a0.ZT)) && (kV a0.Methods)) && (YN a0.Q6 0 6)) && (qc a0.Now))
def jX (a0 : Int) : Yf := (Yf.mk 3 a0 (ZD.mk 0 0))
def zH (a0 : ZY) : Bool := ((((((((YN a0.Key 1 99) && (YN a0.YO 1 999)) && (YN a0.Method 0 99)) && (YN a0.Org 0 99)) && (YN a0.ZAx 1 3)) && (YN a0.XC 0 1000000000000)) && (YN a0.ZA1 0 1000000000000)) && (YN a0.xD 0 1000000000000))
def ZFV (a0 : Int) : Yf := (Yf.mk 2 a0 (ZD.mk 0 0))
def jQ (a0 : List YC) (a1 : Int) : Nat → Nat → Sum Int Unit
  | 0, _ => .inr ()
  | n1 + 1, v1_0 => (bif (decide ((↑v1_0 : Int) < (↑a0.length : Int))) then (bif ((nth a0 v1_0).Number == a1) then (.inl (↑v1_0 : Int)) else jQ a0 a1 n1 (v1_0 + 1)) else (.inr ()))
def Y0 (a0 : List YC) (a1 : Int) : Int := (match jQ a0 a1 (a0.length + 1) 0 with | .inl r1 => r1 | .inr _ => (-1))
def Xv (a0 : ZY) : List Int := ([104, a0.Key, a0.YO, a0.Method, a0.XC, a0.ZAx, a0.Org, a0.ZA1, a0.xD] : List Int)
def ZAO (a0 : Int) (a1 : List Int) : Int := (ZIn ((([a0] : List Int) ++ a1) ++ ([a0] : List Int)))
def ke (a0 : YC) (a1 : List Int) : Int := (ZAO a0.kp (([a0.Method] : List Int) ++ a1))
def yT (a0 : List YC) (a1 : Int) (a2 : List Int) (a3 : Int) : Bool := ((decide ((Y0 a0 a1) ≥ 0)) && ((ke (nth a0 (Y0 a0 a1).toNat) a2) == a3))
def yB (a0 : List YC) (a1 : ZY) : Bool := ((zH a1) && (yT a0 a1.Key (Xv a1) a1.Mark))
def ki (a0 : ZF) (a1 : Int) (a2 : ZY) : Yf := (bif (!(ZBZ a0)) then (jX 1) else (bif (!(zH a2)) then (ZFV 1) else (bif (decide (a1 < 0)) then (jX 2) else (bif (a1 != a2.XC) then (ZFV 2) else (bif (decide ((Y0 a0.Y3 a2.Key) < 0)) then (jX 3) else (bif (!(yB a0.Y3 a2)) then (ZFV 4) else (Yf.mk 0 0 (ZD.mk 0 0))))))))
def XW (a0 : ZY) : ZB := (ZB.mk a0.Key (Xv a0) a0.Mark)
def ZAA (a0 : List Int) (a1 : List Int) : Nat → Nat → Sum Bool Unit
  | 0, _ => .inr ()
  | n1 + 1, v1_0 => (bif (decide ((↑v1_0 : Int) < (↑a0.length : Int))) then (bif ((nth a0 v1_0) != (nth a1 v1_0)) then (.inl false) else ZAA a0 a1 n1 (v1_0 + 1)) else (.inr ()))
def ZCo (a0 : List Int) (a1 : List Int) : Bool := (bif ((↑a0.length : Int) != (↑a1.length : Int)) then false else (match ZAA a0 a1 (a0.length + 1) 0 with | .inl r1 => r1 | .inr _ => true))
def zC (a0 : ZB) (a1 : ZB) : Bool := (((a0.Key == a1.Key) && (a0.Mark == a1.Mark)) && (ZCo a0.Zb a1.Zb))
def qe (a0 : ZN) (a1 : ZB) : Nat → Nat → Sum Int Unit
  | 0, _ => .inr ()
  | n1 + 1, v1_0 => (bif (decide ((↑v1_0 : Int) < (↑a0.ZZ.length : Int))) then (bif (zC (nth a0.ZZ v1_0) a1) then (.inl (↑v1_0 : Int)) else qe a0 a1 n1 (v1_0 + 1)) else (.inr ()))
def xx (a0 : ZN) (a1 : ZB) : Int := (match qe a0 a1 (a0.ZZ.length + 1) 0 with | .inl r1 => r1 | .inr _ => (-1))
def JX (a0 : List ZE) (a1 : Int) : Nat → Nat → Sum Int Unit
  | 0, _ => .inr ()
  | n1 + 1, v1_0 => (bif (decide ((↑v1_0 : Int) < (↑a0.length : Int))) then (bif ((nth a0 v1_0).Id == a1) then (.inl (↑v1_0 : Int)) else JX a0 a1 n1 (v1_0 + 1)) else (.inr ()))
def YM (a0 : List ZE) (a1 : Int) : Int := (match JX a0 a1 (a0.length + 1) 0 with | .inl r1 => r1 | .inr _ => (-1))
def xF (a0 : Int) (a1 : Int) : Int := (bif (decide (a1 > a0)) then a1 else a0)
def ZBz (a0 : Int) (a1 : Int) : Int := (bif (decide (a1 < a0)) then a1 else a0)
def Xo (a0 : Int) (a1 : Int) : ZD × Bool := (bif (decide ((xF 0 a0) > (ZBz 10000 a1))) then ((ZD.mk 0 0), false) else ((ZD.mk (xF 0 a0) (ZBz 10000 a1)), true))
def Kw (a0 : List ZE) (a1 : Za) : ZD × Bool := (bif (((decide ((YM a0 a1.Authority) < 0)) || (decide ((nth a0 (YM a0 a1.Authority).toNat).Error < 0))) || (!(qc a1.Time))) then ((ZD.mk 0 0), false) else ((Xo (W (a1.Time - (nth a0 (YM a0 a1.Authority).toNat).Error)) (W (a1.Time + (nth a0 (YM a0 a1.Authority).toNat).Error))).1, (Xo (W (a1.Time - (nth a0 (YM a0 a1.Authority).toNat).Error)) (W (a1.Time + (nth a0 (YM a0 a1.Authority).toNat).Error))).2))
def Js (a0 : ZD) : Bool := (((qc a0.YQ) && (qc a0.To)) && (decide (a0.YQ ≤ a0.To)))
def jf (a0 : List ZD) (a1 : Int) : Nat → Int → Nat → Int
  | 0, _, _ => default
  | n1 + 1, v1_0, v1_1 => (bif (decide ((↑v1_1 : Int) < (↑a0.length : Int))) then (bif (((Js (nth a0 v1_1)) && (decide ((nth a0 v1_1).YQ ≤ a1))) && (decide (a1 ≤ (nth a0 v1_1).To))) then jf a0 a1 n1 (W (v1_0 + 1)) (v1_1 + 1) else jf a0 a1 n1 v1_0 (v1_1 + 1)) else (v1_0))
def ZDe (a0 : List ZD) (a1 : Int) : Int := (match jf a0 a1 (a0.length + 1) 0 0 with | z1_0 => z1_0)
def zG (a0 : List ZD) (a1 : Int) (a2 : Int) : Bool := ((YN a2 0 (W ((↑a0.length : Int) - 1))) && (decide ((ZDe a0 a1) ≥ (W ((↑a0.length : Int) - a2)))))
def Xk (a0 : List ZD) (a1 : Int) : Nat → Int → Int → Nat → Int × Int
  | 0, _, _, _ => (default, default)
  | n1 + 1, v1_0, v1_1, v1_2 => (bif (decide ((↑v1_2 : Int) < (↑a0.length : Int))) then (bif (((Js (nth a0 v1_2)) && (zG a0 (nth a0 v1_2).YQ a1)) && ((decide (v1_0 < 0)) || (decide ((nth a0 v1_2).YQ < v1_0)))) then (bif ((Js (nth a0 v1_2)) && (zG a0 (nth a0 v1_2).To a1)) then Xk a0 a1 n1 (nth a0 v1_2).YQ (xF v1_1 (nth a0 v1_2).To) (v1_2 + 1) else Xk a0 a1 n1 (nth a0 v1_2).YQ v1_1 (v1_2 + 1)) else (bif ((Js (nth a0 v1_2)) && (zG a0 (nth a0 v1_2).To a1)) then Xk a0 a1 n1 v1_0 (xF v1_1 (nth a0 v1_2).To) (v1_2 + 1) else Xk a0 a1 n1 v1_0 v1_1 (v1_2 + 1))) else ((v1_0, v1_1)))
def J0 (a0 : List ZD) (a1 : Int) : ZD × Bool := (bif (!(YN a1 0 (W ((↑a0.length : Int) - 1)))) then ((ZD.mk 0 0), false) else (match Xk a0 a1 (a0.length + 1) (-1) (-1) 0 with | (z1_0, z1_1) => (bif (decide (z1_0 < 0)) then ((ZD.mk 0 0), false) else ((ZD.mk z1_0 z1_1), true))))
def yo (a0 : List ZE) (a1 : ZS) : Nat → List ZD → Nat → Sum (ZD × Bool) (List ZD)
  | 0, _, _ => .inr default
  | n1 + 1, v1_0, v1_1 => (bif (decide ((↑v1_1 : Int) < (↑a1.Zi.length : Int))) then (bif (!(Kw a0 (nth a1.Zi v1_1)).2) then (.inl ((ZD.mk 0 0), false)) else yo a0 a1 n1 (v1_0 ++ ([(Kw a0 (nth a1.Zi v1_1)).1] : List ZD)) (v1_1 + 1)) else (.inr v1_0))
def QF (a0 : List ZE) (a1 : ZS) (a2 : Int) : ZD × Bool := (match yo a0 a1 (a1.Zi.length + 1) ([] : List ZD) 0 with | .inl r1 => r1 | .inr z1_0 => ((J0 z1_0 a2).1, (J0 z1_0 a2).2))
def zX (a0 : List Zl) (a1 : Int) : Nat → Nat → Sum Int Unit
  | 0, _ => .inr ()
  | n1 + 1, v1_0 => (bif (decide ((↑v1_0 : Int) < (↑a0.length : Int))) then (bif ((nth a0 v1_0).Id == a1) then (.inl (↑v1_0 : Int)) else zX a0 a1 n1 (v1_0 + 1)) else (.inr ()))
def Kz (a0 : List Zl) (a1 : Int) : Int := (match zX a0 a1 (a0.length + 1) 0 with | .inl r1 => r1 | .inr _ => (-1))
def zn (a0 : List Zl) (a1 : Int) : Int := (bif (decide ((Kz a0 a1) < 0)) then 0 else (nth a0 (Kz a0 a1).toNat).kj)
def X6 (a0 : List ZE) (a1 : Za) : Int := (bif (decide ((YM a0 a1.Authority) < 0)) then 0 else (nth a0 (YM a0 a1.Authority).toNat).Key)
def zl (a0 : List YC) (a1 : List ZE) (a2 : List Zl) (a3 : ZS) : Nat → Int → Nat → Sum Int Int
  | 0, _, _ => .inr default
  | n1 + 1, v1_0, v1_1 => (bif (decide ((↑v1_1 : Int) < (↑a3.Zi.length : Int))) then (bif (decide ((Y0 a0 (X6 a1 (nth a3.Zi v1_1))) < 0)) then (.inl 0) else zl a0 a1 a2 a3 n1 (ZBz v1_0 (zn a2 (nth a0 (Y0 a0 (X6 a1 (nth a3.Zi v1_1))).toNat).Method)) (v1_1 + 1)) else (.inr v1_0))
def zh (a0 : List YC) (a1 : List ZE) (a2 : List Zl) (a3 : ZS) : Int := (match zl a0 a1 a2 a3 (a3.Zi.length + 1) (zn a2 a3.Method) 0 with | .inl r1 => r1 | .inr z1_0 => z1_0)
def ZAe (a0 : ZF) (a1 : ZN) (a2 : Int) : Bool := (bif (!(YN a2 0 (W ((↑a1.ZR.length : Int) - 1)))) then false else (bif (a2 == (W ((↑a1.ZR.length : Int) - 1))) then (decide (a0.Now < (zh a0.Y3 a0.ZT a0.Methods (nth a1.ZR a2.toNat)))) else ((QF a0.ZT (nth a1.ZR (W (a2 + 1)).toNat) a0.Q6).2 && (decide ((QF a0.ZT (nth a1.ZR (W (a2 + 1)).toNat) a0.Q6).1.To < (zh a0.Y3 a0.ZT a0.Methods (nth a1.ZR a2.toNat)))))))
def JN (a0 : Za) : List Int := ([103, a0.Authority, a0.Seq, a0.Time, a0.XC] : List Int)
def K6 (a1 : ZS) : Nat → List Int → Nat → (List Int)
  | 0, _, _ => default
  | n2 + 1, v2_0, v2_1 => (bif (decide ((↑v2_1 : Int) < (↑a1.Zi.length : Int))) then K6 a1 n2 ((v2_0 ++ (JN (nth a1.Zi v2_1))) ++ ([(nth a1.Zi v2_1).Mark] : List Int)) (v2_1 + 1) else (v2_0))
def Ja (a1 : ZS) : Nat → List Int → Nat → (List Int)
  | 0, _, _ => default
  | n1 + 1, v1_0, v1_1 => (bif (decide ((↑v1_1 : Int) < (↑a1.Path.length : Int))) then (bif (nth a1.Path v1_1).Left then Ja a1 n1 ((v1_0 ++ ([(nth a1.Path v1_1).XC] : List Int)) ++ ([1] : List Int)) (v1_1 + 1) else Ja a1 n1 ((v1_0 ++ ([(nth a1.Path v1_1).XC] : List Int)) ++ ([0] : List Int)) (v1_1 + 1)) else (v1_0))
def Jn (a0 : Int) (a1 : ZS) : Int := (match Ja a1 (a1.Path.length + 1) ([4, a1.Count, a1.Method, a1.ZIY] : List Int) 0 with | z1_0 => (match K6 a1 (a1.Zi.length + 1) (z1_0 ++ ([(↑a1.Zi.length : Int)] : List Int)) 0 with | z2_0 => (Qz a0 z2_0)))
def zg (a0 : Int) (a1 : List ZB) : Nat → List Int → Nat → (List Int)
  | 0, _, _ => default
  | n1 + 1, v1_0, v1_1 => (bif (decide ((↑v1_1 : Int) < (↑a1.length : Int))) then zg a0 a1 n1 (v1_0 ++ ([(Qz a0 (([(nth a1 v1_1).Key, (nth a1 v1_1).Mark] : List Int) ++ (nth a1 v1_1).Zb))] : List Int)) (v1_1 + 1) else (v1_0))
def ze (a0 : Int) (a1 : List ZB) : Int := (match zg a0 a1 (a1.length + 1) ([2] : List Int) 0 with | z1_0 => (Qz a0 z1_0))
def ZDN (a0 : Int) (a1 : Int) (a2 : List ZB) (a3 : Int) : Int := (Qz a0 ([3, a1, (ze a0 a2), a3] : List Int))
def ZDt (a0 : ZN) (a1 : List Int) (a2 : Int) : Int := (bif (((!(YN a2 0 (W ((↑a0.ZR.length : Int) - 1)))) || ((↑a1.length : Int) != (↑a0.ZR.length : Int))) || (!(YN (nth a0.ZR a2.toNat).Count 0 (↑a0.ZZ.length : Int)))) then (-1) else (bif (decide (a2 > 0)) then (ZDN (nth a0.ZR a2.toNat).Method (nth a1 a2.toNat) (a0.ZZ.take (nth a0.ZR a2.toNat).Count.toNat) (Jn (nth a0.ZR a2.toNat).Method (nth a0.ZR (W (a2 - 1)).toNat))) else (ZDN (nth a0.ZR a2.toNat).Method (nth a1 a2.toNat) (a0.ZZ.take (nth a0.ZR a2.toNat).Count.toNat) 0)))
def qN (a0 : Int) (a1 : Int) (a2 : Int) : Int := (Qz a0 ([1, a1, a2] : List Int))
def z4 (a0 : Int) (a2 : List XG) : Nat → Int → Nat → Int
  | 0, _, _ => default
  | n1 + 1, v1_0, v1_1 => (bif (decide ((↑v1_1 : Int) < (↑a2.length : Int))) then (bif (nth a2 v1_1).Left then z4 a0 a2 n1 (qN a0 (nth a2 v1_1).XC v1_0) (v1_1 + 1) else z4 a0 a2 n1 (qN a0 v1_0 (nth a2 v1_1).XC) (v1_1 + 1)) else (v1_0))
def ju (a0 : Int) (a1 : Int) (a2 : List XG) : Int := (match z4 a0 a2 (a2.length + 1) a1 0 with | z1_0 => z1_0)
def JL (a0 : List YC) (a1 : List ZE) (a2 : Za) : Za × Bool := (bif (((decide ((YM a1 a2.Authority) < 0)) || (decide (a2.Seq < 0))) || (!(qc a2.Time))) then ((Za.mk 0 0 0 0 0), false) else (bif (decide ((Y0 a0 (nth a1 (YM a1 a2.Authority).toNat).Key) < 0)) then ((Za.mk 0 0 0 0 0), false) else ((Za.mk a2.Authority a2.Seq a2.Time a2.XC (ke (nth a0 (Y0 a0 (nth a1 (YM a1 a2.Authority).toNat).Key).toNat) (JN a2))), true)))
def kF (a0 : List YC) (a1 : List ZE) (a2 : Za) : Bool := ((JL a0 a1 a2).2 && (((JL a0 a1 a2).1.Authority == a2.Authority) && (((JL a0 a1 a2).1.Seq == a2.Seq) && (((JL a0 a1 a2).1.Time == a2.Time) && (((JL a0 a1 a2).1.XC == a2.XC) && ((JL a0 a1 a2).1.Mark == a2.Mark))))))
def zc (a0 : List YC) (a1 : List ZE) (a2 : ZS) : Nat → Nat → Sum Bool Unit
  | 0, _ => .inr ()
  | n1 + 1, v1_0 => (bif (decide ((↑v1_0 : Int) < (↑a2.Zi.length : Int))) then (bif ((((nth a2.Zi v1_0).XC != a2.ZIY) || ((decide ((↑v1_0 : Int) > 0)) && (decide ((nth a2.Zi (v1_0 - 1)).Authority ≥ (nth a2.Zi v1_0).Authority)))) || (!(kF a0 a1 (nth a2.Zi v1_0)))) then (.inl false) else zc a0 a1 a2 n1 (v1_0 + 1)) else (.inr ()))
def xf (a0 : List YC) (a1 : List ZE) (a2 : ZS) (a3 : Int) : Bool := (bif (((decide ((↑a2.Path.length : Int) > 4)) || ((ju a2.Method a3 a2.Path) != a2.ZIY)) || (!(YN (↑a2.Zi.length : Int) 1 6))) then false else (match zc a0 a1 a2 (a2.Zi.length + 1) 0 with | .inl r1 => r1 | .inr _ => true))
def ZFz (a0 : ZF) (a1 : ZN) (a2 : List Int) (a3 : Int) : Bool := (((QF a0.ZT (nth a1.ZR a3.toNat) a0.Q6).2 && (ZAe a0 a1 a3)) && (xf a0.Y3 a0.ZT (nth a1.ZR a3.toNat) (ZDt a1 a2 a3)))
def zI (a0 : ZF) (a1 : ZN) (a2 : List Int) : Nat → Nat → Nat
  | 0, _ => default
  | n1 + 1, v1_0 => (bif ((decide ((↑v1_0 : Int) > 0)) && (ZFz a0 a1 a2 (W ((↑v1_0 : Int) - 1)))) then zI a0 a1 a2 n1 (v1_0 - 1) else (v1_0))
def K4 (a0 : ZF) (a1 : ZN) (a2 : List Int) : Int := (match zI a0 a1 a2 (a1.ZR.length + 1) a1.ZR.length with | z1_0 => (↑z1_0 : Int))
def jM (a0 : ZF) (a1 : ZN) (a3 : Int) : Nat → Int → Int → Int
  | 0, _, _ => default
  | n1 + 1, v1_0, v1_1 => (bif (decide (v1_1 < (↑a1.ZR.length : Int))) then (bif (decide ((nth a1.ZR v1_1.toNat).Count > a3)) then jM a0 a1 a3 n1 (ZBz v1_0 (QF a0.ZT (nth a1.ZR v1_1.toNat) a0.Q6).1.To) (W (v1_1 + 1)) else jM a0 a1 a3 n1 v1_0 (W (v1_1 + 1))) else (v1_0))
def ZDA (a0 : ZF) (a1 : ZN) (a2 : List Int) (a3 : Int) : Int := (match jM a0 a1 a3 (a1.ZR.length + 2) a0.Now (K4 a0 a1 a2) with | z1_0 => z1_0)
def qR (a0 : ZF) (a1 : ZN) (a2 : List Int) (a3 : ZB) : Int := (bif (decide ((xx a1 a3) < 0)) then a0.Now else (ZDA a0 a1 a2 (xx a1 a3)))
def K9 (a0 : ZF) (a1 : ZI) (a2 : List (List Int)) (a3 : ZB) : Nat → Int → Nat → Int
  | 0, _, _ => default
  | n1 + 1, v1_0, v1_1 => (bif ((decide ((↑v1_1 : Int) < (↑a1.ZK.length : Int))) && (decide ((↑v1_1 : Int) < (↑a2.length : Int)))) then K9 a0 a1 a2 a3 n1 (ZBz v1_0 (qR a0 (nth a1.ZK v1_1) (nth a2 v1_1) a3)) (v1_1 + 1) else (v1_0))
def Y2 (a0 : ZF) (a1 : ZI) (a2 : List (List Int)) (a3 : ZB) : Int := (match K9 a0 a1 a2 a3 (a1.ZK.length + 1) a0.Now 0 with | z1_0 => z1_0)
def XV (a0 : ZB) : Int := (bif (((↑a0.Zb.length : Int) == 0) || (!(YN (nth a0.Zb 0) 101 105))) then 0 else (bif ((↑a0.Zb.length : Int) != (nth ([7, 5, 5, 9, 6] : List Int) (W ((nth a0.Zb 0) - 101)).toNat)) then 0 else (nth a0.Zb 0)))
def Xd (a0 : ZB) : YH × Bool := (bif (((XV a0) != 101) || ((nth a0.Zb 6) != a0.Key)) then ((YH.mk 0 0 0 0 0 0 0), false) else ((YH.mk (nth a0.Zb 1) (nth a0.Zb 2) (nth a0.Zb 3) (nth a0.Zb 4) (nth a0.Zb 5) (nth a0.Zb 6) a0.Mark), true))
def QS (a0 : ZB) : Zy × Bool := (bif (((XV a0) != 102) || ((nth a0.Zb 4) != a0.Key)) then ((Zy.mk 0 0 0 0 0), false) else ((Zy.mk (nth a0.Zb 1) (nth a0.Zb 2) (nth a0.Zb 3) (nth a0.Zb 4) a0.Mark), true))
def qS (a0 : ZB) : Za × Bool := (bif ((XV a0) != 103) then ((Za.mk 0 0 0 0 0), false) else ((Za.mk (nth a0.Zb 1) (nth a0.Zb 2) (nth a0.Zb 3) (nth a0.Zb 4) a0.Mark), true))
def jW (a0 : ZB) : ZY × Bool := (bif (((XV a0) != 104) || ((nth a0.Zb 1) != a0.Key)) then ((ZY.mk 0 0 0 0 0 0 0 0 0), false) else ((ZY.mk (nth a0.Zb 1) (nth a0.Zb 2) (nth a0.Zb 3) (nth a0.Zb 4) (nth a0.Zb 5) (nth a0.Zb 6) (nth a0.Zb 7) (nth a0.Zb 8) a0.Mark), true))
def JQ (a0 : ZB) : Z1 × Bool := (bif (((XV a0) != 105) || ((nth a0.Zb 5) != a0.Key)) then ((Z1.mk 0 0 0 0 0 0), false) else ((Z1.mk (nth a0.Zb 1) (nth a0.Zb 2) (nth a0.Zb 3) (nth a0.Zb 4) (nth a0.Zb 5) a0.Mark), true))
def ZEJ (a0 : ZB) : Bool := (((((Xd a0).2 || (QS a0).2) || (qS a0).2) || (jW a0).2) || (JQ a0).2)
def qQ (a0 : List YC) (a1 : ZB) : Bool := ((ZEJ a1) && (yT a0 a1.Key a1.Zb a1.Mark))
def ZAj (a0 : ZF) (a1 : ZI) (a2 : List (List Int)) (a3 : ZB) : Bool := (((decide ((Y0 a0.Y3 a3.Key) ≥ 0)) && (qQ a0.Y3 a3)) && (decide ((Y2 a0 a1 a2 a3) < (zn a0.Methods (nth a0.Y3 (Y0 a0.Y3 a3.Key).toNat).Method))))
def yu (a0 : ZB) (a1 : ZB) : Nat → Nat → Sum Bool Unit
  | 0, _ => .inr ()
  | n1 + 1, v1_0 => (bif ((decide ((↑v1_0 : Int) < (↑a0.Zb.length : Int))) && (decide ((↑v1_0 : Int) < (↑a1.Zb.length : Int)))) then (bif ((nth a0.Zb v1_0) != (nth a1.Zb v1_0)) then (.inl (decide ((nth a0.Zb v1_0) < (nth a1.Zb v1_0)))) else yu a0 a1 n1 (v1_0 + 1)) else (.inr ()))
def qk (a0 : ZB) (a1 : ZB) : Bool := (match yu a0 a1 (a0.Zb.length + 1) 0 with | .inl r1 => r1 | .inr _ => (bif ((↑a0.Zb.length : Int) != (↑a1.Zb.length : Int)) then (decide ((↑a0.Zb.length : Int) < (↑a1.Zb.length : Int))) else (bif (a0.Key != a1.Key) then (decide (a0.Key < a1.Key)) else (decide (a0.Mark < a1.Mark)))))
def QU (a0 : List ZB) (a1 : ZB) : Nat → Nat → Nat
  | 0, _ => default
  | n1 + 1, v1_0 => (bif ((decide ((↑v1_0 : Int) < (↑a0.length : Int))) && (qk (nth a0 v1_0) a1)) then QU a0 a1 n1 (v1_0 + 1) else (v1_0))
def yr (a0 : List ZB) (a1 : ZB) : List ZB := (match QU a0 a1 (a0.length + 1) 0 with | z1_0 => (bif ((decide ((↑z1_0 : Int) < (↑a0.length : Int))) && (zC (nth a0 z1_0) a1)) then a0 else (((a0.take z1_0) ++ ([a1] : List ZB)) ++ (a0.drop z1_0))))
def Xn (a0 : ZF) (a1 : ZI) (a2 : List (List Int)) (v1_1 : Nat) : Nat → List ZB → Nat → (List ZB)
  | 0, _, _ => default
  | n2 + 1, v2_0, v2_1 => (bif (decide ((↑v2_1 : Int) < (↑(nth a1.ZK v1_1).ZZ.length : Int))) then (bif (ZAj a0 a1 a2 (nth (nth a1.ZK v1_1).ZZ v2_1)) then Xn a0 a1 a2 v1_1 n2 (yr v2_0 (nth (nth a1.ZK v1_1).ZZ v2_1)) (v2_1 + 1) else Xn a0 a1 a2 v1_1 n2 v2_0 (v2_1 + 1)) else (v2_0))
def Qv (a0 : ZF) (a1 : ZI) (a2 : List (List Int)) : Nat → List ZB → Nat → (List ZB)
  | 0, _, _ => default
  | n1 + 1, v1_0, v1_1 => (bif (decide ((↑v1_1 : Int) < (↑a1.ZK.length : Int))) then (match Xn a0 a1 a2 v1_1 ((nth a1.ZK v1_1).ZZ.length + 1) v1_0 0 with | z2_0 => Qv a0 a1 a2 n1 z2_0 (v1_1 + 1)) else (v1_0))
def Zu (a0 : ZF) (a1 : ZI) (a2 : List (List Int)) : List ZB := (match Qv a0 a1 a2 (a1.ZK.length + 1) ([] : List ZB) 0 with | z1_0 => z1_0)
def xj (a0 : YH) : ZD := (ZD.mk a0.YQ a0.To)
def ZFX (a0 : YH) : Bool := ((((((YN a0.YO 1 999) && (YN a0.Key 1 99)) && (YN a0.Qs 1 99)) && (a0.Key != a0.Qs)) && (YN a0.Kb 0 99)) && (Js (xj a0)))
def ya (a0 : YH) : List Int := ([101, a0.YO, a0.Key, a0.Kb, a0.YQ, a0.To, a0.Qs] : List Int)
def ZBR (a0 : List YC) (a1 : Int) : Int := (bif (decide ((Y0 a0 a1) < 0)) then (-1) else (nth a0 (Y0 a0 a1).toNat).Kb)
def ZAX (a0 : List YC) (a1 : YH) : Bool := (((ZFX a1) && (yT a0 a1.Qs (ya a1) a1.Mark)) && ((ZBR a0 a1.Key) == a1.Kb))
def ji (a0 : ZF) (a1 : List ZB) (a2 : ZY) : Nat → Int → Nat → Int → Int → Int → Int → Int → Int → Int → Int × Int × Int × Int × Int × Int × Int × Int
  | 0, _, _, _, _, _, _, _, _, _ => (default, default, default, default, default, default, default, default)
  | n1 + 1, v1_0, v1_1, v1_2, v1_3, v1_4, v1_5, v1_6, v1_7, v1_8 => (bif (decide ((↑v1_1 : Int) < (↑a1.length : Int))) then (bif ((((Xd (nth a1 v1_1)).2 && (ZAX a0.Y3 (Xd (nth a1 v1_1)).1)) && ((Xd (nth a1 v1_1)).1.YO == a2.YO)) && ((Xd (nth a1 v1_1)).1.Key == a2.Key)) then ji a0 a1 a2 n1 (W (v1_0 + 1)) (v1_1 + 1) (Xd (nth a1 v1_1)).1.YO (Xd (nth a1 v1_1)).1.Key (Xd (nth a1 v1_1)).1.Kb (Xd (nth a1 v1_1)).1.YQ (Xd (nth a1 v1_1)).1.To (Xd (nth a1 v1_1)).1.Qs (Xd (nth a1 v1_1)).1.Mark else ji a0 a1 a2 n1 v1_0 (v1_1 + 1) v1_2 v1_3 v1_4 v1_5 v1_6 v1_7 v1_8) else ((v1_0, v1_2, v1_3, v1_4, v1_5, v1_6, v1_7, v1_8)))
def QP (a0 : ZF) (a1 : List ZB) (a2 : ZY) : YH × Bool := (match ji a0 a1 a2 (a1.length + 1) 0 0 0 0 0 0 0 0 0 with | (z1_0, z1_1, z1_2, z1_3, z1_4, z1_5, z1_6, z1_7) => (bif (z1_0 != 1) then ((YH.mk 0 0 0 0 0 0 0), false) else ((YH.mk z1_1 z1_2 z1_3 z1_4 z1_5 z1_6 z1_7), true)))
def zb (a1 : List Za) : Nat → List Int → Nat → (List Int)
  | 0, _, _ => default
  | n1 + 1, v1_0, v1_1 => (bif (decide ((↑v1_1 : Int) < (↑a1.length : Int))) then zb a1 n1 (v1_0 ++ ([(nth a1 v1_1).Mark] : List Int)) (v1_1 + 1) else (v1_0))
def zu (a0 : Int) (a1 : List Za) : Int := (bif ((↑a1.length : Int) == 0) then 0 else (match zb a1 (a1.length + 1) ([] : List Int) 0 with | z1_0 => (xF 1 (Qz a0 z1_0))))
def yZ (a0 : Int) (a1 : Za) : ZB := (ZB.mk a0 (JN a1) a1.Mark)
def ZBg (a0 : List ZB) (a1 : ZB) : Nat → Nat → Sum Bool Unit
  | 0, _ => .inr ()
  | n1 + 1, v1_0 => (bif (decide ((↑v1_0 : Int) < (↑a0.length : Int))) then (bif (zC (nth a0 v1_0) a1) then (.inl true) else ZBg a0 a1 n1 (v1_0 + 1)) else (.inr ()))
def ZFg (a0 : List ZB) (a1 : ZB) : Bool := (match ZBg a0 a1 (a0.length + 1) 0 with | .inl r1 => r1 | .inr _ => false)
def jr (a0 : ZF) (a1 : List ZB) (a2 : List Za) : Nat → List ZD → Nat → Sum (Int × Bool) (List ZD)
  | 0, _, _ => .inr default
  | n1 + 1, v1_0, v1_1 => (bif (decide ((↑v1_1 : Int) < (↑a2.length : Int))) then (bif (((!(Kw a0.ZT (nth a2 v1_1)).2) || ((decide ((↑v1_1 : Int) > 0)) && (decide ((nth a2 (v1_1 - 1)).Authority ≥ (nth a2 v1_1).Authority)))) || (!(ZFg a1 (yZ (X6 a0.ZT (nth a2 v1_1)) (nth a2 v1_1))))) then (.inl (0, false)) else jr a0 a1 a2 n1 (v1_0 ++ ([(Kw a0.ZT (nth a2 v1_1)).1] : List ZD)) (v1_1 + 1)) else (.inr v1_0))
def KQ (a0 : ZF) (a1 : List ZB) (a2 : List Za) : Int × Bool := (match jr a0 a1 a2 (a2.length + 1) ([] : List ZD) 0 with | .inl r1 => r1 | .inr z1_0 => ((J0 z1_0 a0.Q6).1.YQ, (J0 z1_0 a0.Q6).2))
def QT (a0 : ZF) (a1 : ZI) (a2 : List ZB) (a3 : ZY) : Nat → Int → Nat → Int
  | 0, _, _ => default
  | n1 + 1, v1_0, v1_1 => (bif ((decide ((↑v1_1 : Int) < (↑a1.Zz.length : Int))) && (a3.xD != 0)) then (bif ((zu a3.Method (nth a1.Zz v1_1)) != a3.xD) then QT a0 a1 a2 a3 n1 v1_0 (v1_1 + 1) else (bif (KQ a0 a2 (nth a1.Zz v1_1)).2 then QT a0 a1 a2 a3 n1 (xF v1_0 (KQ a0 a2 (nth a1.Zz v1_1)).1) (v1_1 + 1) else QT a0 a1 a2 a3 n1 v1_0 (v1_1 + 1))) else (v1_0))
def zE (a0 : ZF) (a1 : ZI) (a2 : List ZB) (a3 : ZY) : Nat → Int → Nat → Int
  | 0, _, _ => default
  | n2 + 1, v2_0, v2_1 => (bif ((decide ((↑v2_1 : Int) < (↑a1.Zz.length : Int))) && (a3.xD != 0)) then (bif ((zu a3.Method (nth a1.Zz v2_1)) != a3.xD) then zE a0 a1 a2 a3 n2 v2_0 (v2_1 + 1) else (bif (KQ a0 a2 (nth a1.Zz v2_1)).2 then zE a0 a1 a2 a3 n2 (xF v2_0 (KQ a0 a2 (nth a1.Zz v2_1)).1) (v2_1 + 1) else zE a0 a1 a2 a3 n2 v2_0 (v2_1 + 1))) else (v2_0))
def Xu (a0 : ZF) (a1 : ZI) (a2 : List ZB) (a3 : ZY) : Int := (bif (decide ((Y0 a0.Y3 a3.Key) ≥ 0)) then (match QT a0 a1 a2 a3 (a1.Zz.length + 1) (nth a0.Y3 (Y0 a0.Y3 a3.Key).toNat).ZIX 0 with | z1_0 => z1_0) else (match zE a0 a1 a2 a3 (a1.Zz.length + 1) 0 0 with | z2_0 => z2_0))
def Jk (a0 : List ZB) (a1 : YH) : Nat → List Zy → Nat → (List Zy)
  | 0, _, _ => default
  | n1 + 1, v1_0, v1_1 => (bif (decide ((↑v1_1 : Int) < (↑a0.length : Int))) then (bif (((QS (nth a0 v1_1)).2 && ((QS (nth a0 v1_1)).1.YO == a1.YO)) && ((QS (nth a0 v1_1)).1.Qs == a1.Qs)) then Jk a0 a1 n1 (v1_0 ++ ([(QS (nth a0 v1_1)).1] : List Zy)) (v1_1 + 1) else Jk a0 a1 n1 v1_0 (v1_1 + 1)) else (v1_0))
def JB (a0 : List ZB) (a1 : YH) : List Zy := (match Jk a0 a1 (a0.length + 1) ([] : List Zy) 0 with | z1_0 => z1_0)
def XM (a0 : List ZD) (a1 : Int) (a2 : Int) : List ZD := (bif (!(Xo a1 a2).2) then a0 else (a0 ++ ([(Xo a1 a2).1] : List ZD)))
def xu (a0 : List Zy) (a1 : Int) : Nat → Int → Int → Nat → Int × Int
  | 0, _, _, _ => (default, default)
  | n1 + 1, v1_0, v1_1, v1_2 => (bif (decide ((↑v1_2 : Int) < (↑a0.length : Int))) then (bif ((nth a0 v1_2).YO != a1) then xu a0 a1 n1 v1_0 v1_1 (v1_2 + 1) else (bif (decide ((nth a0 v1_2).XH ≥ 0)) then xu a0 a1 n1 (xF v1_0 (nth a0 v1_2).XH) v1_1 (v1_2 + 1) else xu a0 a1 n1 v1_0 (xF v1_1 (nth a0 v1_2).ZO7) (v1_2 + 1))) else ((v1_0, v1_1)))
def Qk (a0 : List Zy) (a1 : Int) : Int := (match xu a0 a1 (a0.length + 1) (-1) (-1) 0 with | (z1_0, z1_1) => (bif (decide (z1_0 < 0)) then 10001 else (xF z1_0 (W (z1_1 + 1)))))
def ZDO (z1_0 : List ZD) (z1_1 : Int) : Nat → Nat → Nat
  | 0, _ => default
  | n2 + 1, v2_0 => (bif ((decide ((↑v2_0 : Int) < (↑z1_0.length : Int))) && (decide ((nth z1_0 v2_0).YQ < z1_1))) then ZDO z1_0 z1_1 n2 (v2_0 + 1) else (v2_0))
def jY (a0 : List ZD) : Nat → List ZD → Nat → Int → Int → (List ZD) × Int × Int
  | 0, _, _, _, _ => (default, default, default)
  | n1 + 1, v1_0, v1_1, v1_2, v1_3 => (bif (decide ((↑v1_1 : Int) < (↑a0.length : Int))) then (bif ((decide ((W ((nth a0 v1_1).To + 1)) < v1_2)) || (decide ((W (v1_3 + 1)) < (nth a0 v1_1).YQ))) then jY a0 n1 (v1_0 ++ ([(nth a0 v1_1)] : List ZD)) (v1_1 + 1) v1_2 v1_3 else jY a0 n1 v1_0 (v1_1 + 1) (ZBz v1_2 (nth a0 v1_1).YQ) (xF v1_3 (nth a0 v1_1).To)) else ((v1_0, v1_2, v1_3)))
def ZEe (a0 : List ZD) (a1 : ZD) : List ZD := (match jY a0 (a0.length + 1) ([] : List ZD) 0 a1.YQ a1.To with | (z1_0, z1_1, z1_2) => (match ZDO z1_0 z1_1 (z1_0.length + 1) 0 with | z2_0 => (((z1_0.take z2_0) ++ ([(ZD.mk z1_1 z1_2)] : List ZD)) ++ ((z1_0.drop z2_0).take (z1_0.length - z2_0)))))
def yM (a0 : List ZD) : Nat → List ZD → Nat → (List ZD)
  | 0, _, _ => default
  | n1 + 1, v1_0, v1_1 => (bif (decide ((↑v1_1 : Int) < (↑a0.length : Int))) then (bif (Js (nth a0 v1_1)) then yM a0 n1 (ZEe v1_0 (nth a0 v1_1)) (v1_1 + 1) else yM a0 n1 v1_0 (v1_1 + 1)) else (v1_0))
def Xm (a0 : List ZD) : List ZD := (match yM a0 (a0.length + 1) ([] : List ZD) 0 with | z1_0 => z1_0)
def xm (a0 : YH) (a1 : List Zy) : List ZD := (bif (decide (a0.YQ > 0)) then (bif (decide (a0.To < 10000)) then (Xm (XM (XM (XM ([] : List ZD) 0 (W (a0.YQ - 1))) (W (a0.To + 1)) 10000) (Qk a1 a0.YO) 10000)) else (Xm (XM (XM ([] : List ZD) 0 (W (a0.YQ - 1))) (Qk a1 a0.YO) 10000))) else (bif (decide (a0.To < 10000)) then (Xm (XM (XM ([] : List ZD) (W (a0.To + 1)) 10000) (Qk a1 a0.YO) 10000)) else (Xm (XM ([] : List ZD) (Qk a1 a0.YO) 10000))))
def ZBj (a0 : ZD) (a1 : ZD) : Bool := ((((Js a0) && (Js a1)) && (decide (a1.YQ ≤ a0.YQ))) && (decide (a0.To ≤ a1.To)))
def xp (a0 : List ZD) (a1 : ZD) : Nat → Nat → Sum Bool Unit
  | 0, _ => .inr ()
  | n1 + 1, v1_0 => (bif (decide ((↑v1_0 : Int) < (↑(Xm a0).length : Int))) then (bif (ZBj a1 (nth (Xm a0) v1_0)) then (.inl true) else xp a0 a1 n1 (v1_0 + 1)) else (.inr ()))
def yh (a0 : List ZD) (a1 : ZD) : Bool := (match xp a0 a1 ((Xm a0).length + 1) 0 with | .inl r1 => r1 | .inr _ => false)
def ZBy (a0 : YH) (a1 : List Zy) (a2 : ZD) : Bool := (yh (xm a0 a1) a2)
def J8 (a0 : List Zy) (a1 : Int) : Nat → Int → Int → Nat → Int × Int
  | 0, _, _, _ => (default, default)
  | n1 + 1, v1_0, v1_1, v1_2 => (bif (decide ((↑v1_2 : Int) < (↑a0.length : Int))) then (bif ((nth a0 v1_2).YO != a1) then J8 a0 a1 n1 v1_0 v1_1 (v1_2 + 1) else (bif (decide ((nth a0 v1_2).XH < 0)) then J8 a0 a1 n1 v1_0 (xF v1_1 (nth a0 v1_2).ZO7) (v1_2 + 1) else (bif ((decide (v1_0 < 0)) || (decide ((nth a0 v1_2).XH < v1_0))) then J8 a0 a1 n1 (nth a0 v1_2).XH v1_1 (v1_2 + 1) else J8 a0 a1 n1 v1_0 v1_1 (v1_2 + 1)))) else ((v1_0, v1_1)))
def K8 (a0 : List Zy) (a1 : Int) : Int := (match J8 a0 a1 (a0.length + 1) (-1) (-1) 0 with | (z1_0, z1_1) => (bif (decide (z1_0 ≥ 0)) then (W (z1_0 - 1)) else z1_1))
def Kp (a0 : ZD) (a1 : ZD) : ZD × Bool := (bif ((!(Js a0)) || (!(Js a1))) then ((ZD.mk 0 0), false) else ((Xo (xF a0.YQ a1.YQ) (ZBz a0.To a1.To)).1, (Xo (xF a0.YQ a1.YQ) (ZBz a0.To a1.To)).2))
def jV (a0 : List ZD) (a1 : List ZD) (v1_1 : Nat) : Nat → List ZD → Nat → (List ZD)
  | 0, _, _ => default
  | n2 + 1, v2_0, v2_1 => (bif (decide ((↑v2_1 : Int) < (↑a1.length : Int))) then (bif (Kp (nth a0 v1_1) (nth a1 v2_1)).2 then jV a0 a1 v1_1 n2 (v2_0 ++ ([(Kp (nth a0 v1_1) (nth a1 v2_1)).1] : List ZD)) (v2_1 + 1) else jV a0 a1 v1_1 n2 v2_0 (v2_1 + 1)) else (v2_0))
def ZAS (a0 : List ZD) (a1 : List ZD) : Nat → List ZD → Nat → (List ZD)
  | 0, _, _ => default
  | n1 + 1, v1_0, v1_1 => (bif (decide ((↑v1_1 : Int) < (↑a0.length : Int))) then (match jV a0 a1 v1_1 (a1.length + 1) v1_0 0 with | z2_0 => ZAS a0 a1 n1 z2_0 (v1_1 + 1)) else (v1_0))
def ZBW (a0 : List ZD) (a1 : List ZD) : List ZD := (match ZAS a0 a1 (a0.length + 1) ([] : List ZD) 0 with | z1_0 => (Xm z1_0))
def yL (a0 : YH) (a1 : List Zy) : List ZD := (bif ((!(Xo 0 (K8 a1 a0.YO)).2) || (decide ((K8 a1 a0.YO) > 10000))) then ([] : List ZD) else (ZBW ([(xj a0)] : List ZD) ([(Xo 0 (K8 a1 a0.YO)).1] : List ZD)))
def kA (a0 : YH) (a1 : List Zy) (a2 : ZD) : Bool := (yh (yL a0 a1) a2)
def KO (a0 : List ZB) : Nat → List Z1 → Nat → (List Z1)
  | 0, _, _ => default
  | n1 + 1, v1_0, v1_1 => (bif (decide ((↑v1_1 : Int) < (↑a0.length : Int))) then (bif (JQ (nth a0 v1_1)).2 then KO a0 n1 (v1_0 ++ ([(JQ (nth a0 v1_1)).1] : List Z1)) (v1_1 + 1) else KO a0 n1 v1_0 (v1_1 + 1)) else (v1_0))
def ym (a0 : List ZB) : List Z1 := (match KO a0 (a0.length + 1) ([] : List Z1) 0 with | z1_0 => z1_0)
def ZAh (a0 : Z1) : Bool := ((((YN a0.Org 1 99) && (YN a0.ZCC 0 99)) && (YN a0.Key 1 99)) && (Js (ZD.mk a0.YQ a0.To)))
def JE (a0 : Z1) : List Int := ([105, a0.Org, a0.ZCC, a0.YQ, a0.To, a0.Key] : List Int)
def xe (a0 : List YC) (a1 : Z1) : Bool := (((ZAh a1) && ((ZBR a0 a1.Key) == a1.Org)) && (yT a0 a1.Key (JE a1) a1.Mark))
def Qt (a0 : List YC) (a1 : List Z1) (a2 : Int) (a3 : Int) : Nat → List ZD → Nat → (List ZD)
  | 0, _, _ => default
  | n1 + 1, v1_0, v1_1 => (bif (decide ((↑v1_1 : Int) < (↑a1.length : Int))) then (bif ((((nth a1 v1_1).Org == a2) && ((nth a1 v1_1).ZCC == a3)) && (xe a0 (nth a1 v1_1))) then Qt a0 a1 a2 a3 n1 (v1_0 ++ ([(ZD.mk (nth a1 v1_1).YQ (nth a1 v1_1).To)] : List ZD)) (v1_1 + 1) else Qt a0 a1 a2 a3 n1 v1_0 (v1_1 + 1)) else (v1_0))
def KS (a0 : List YC) (a1 : List Z1) (a2 : Int) (a3 : Int) : List ZD := (match Qt a0 a1 a2 a3 (a1.length + 1) ([] : List ZD) 0 with | z1_0 => (Xm z1_0))
def js (a0 : List YC) (a1 : List Z1) (a2 : Int) (a3 : Int) (a4 : ZD) : Bool := (bif (a2 == 0) then (Js a4) else (yh (KS a0 a1 a2 a3) a4))
def xi (a0 : ZF) (a1 : ZI) (a2 : List (List Int)) (a3 : Int) (a4 : ZY) : Yf := (bif ((ki a0 a3 a4).Code != 0) then (ki a0 a3 a4) else (bif ((decide ((Y2 a0 a1 a2 (XW a4)) ≥ (zn a0.Methods (nth a0.Y3 (Y0 a0.Y3 a4.Key).toNat).Method))) || (decide ((Y2 a0 a1 a2 (XW a4)) ≥ (zn a0.Methods a4.Method)))) then (jX 5) else (bif (!(QP a0 (Zu a0 a1 a2) a4).2) then (jX 6) else (bif (decide ((Xu a0 a1 (Zu a0 a1 a2) a4) > (Y2 a0 a1 a2 (XW a4)))) then (jX 7) else (bif (ZBy (QP a0 (Zu a0 a1 a2) a4).1 (JB (Zu a0 a1 a2) (QP a0 (Zu a0 a1 a2) a4).1) (ZD.mk (Xu a0 a1 (Zu a0 a1 a2) a4) (Y2 a0 a1 a2 (XW a4)))) then (Yf.mk 2 8 (ZD.mk (Xu a0 a1 (Zu a0 a1 a2) a4) (Y2 a0 a1 a2 (XW a4)))) else (bif (!(kA (QP a0 (Zu a0 a1 a2) a4).1 (JB (Zu a0 a1 a2) (QP a0 (Zu a0 a1 a2) a4).1) (ZD.mk (Xu a0 a1 (Zu a0 a1 a2) a4) (Y2 a0 a1 a2 (XW a4))))) then (Yf.mk 3 7 (ZD.mk (Xu a0 a1 (Zu a0 a1 a2) a4) (Y2 a0 a1 a2 (XW a4)))) else (bif (!(js a0.Y3 (ym (Zu a0 a1 a2)) a4.Org (QP a0 (Zu a0 a1 a2) a4).1.Kb (ZD.mk (Xu a0 a1 (Zu a0 a1 a2) a4) (Y2 a0 a1 a2 (XW a4))))) then (Yf.mk 3 9 (ZD.mk (Xu a0 a1 (Zu a0 a1 a2) a4) (Y2 a0 a1 a2 (XW a4)))) else (Yf.mk 1 0 (ZD.mk (Xu a0 a1 (Zu a0 a1 a2) a4) (Y2 a0 a1 a2 (XW a4)))))))))))
def ZHZ (a0 : ZF) (a1 : ZI) (a2 : Zg) (a3 : ZY) : Yf := (xi a0 a1 (Jf a1 a2) (xa a3.Method a2) a3)
def Kr (a0 : ZF) (a1 : Z3) : Yf := (ZHZ a0 (zT a1) a1.Doc a1.Sig)
def JD (a0 : Int) : ByteArray := (bif (!(YN a0 1 3)) then (⟨#[]⟩ : ByteArray) else (nth ([(⟨#[]⟩ : ByteArray), (⟨#[118, 97, 108, 105, 100]⟩ : ByteArray), (⟨#[105, 110, 118, 97, 108, 105, 100]⟩ : ByteArray), (⟨#[111, 112, 101, 110]⟩ : ByteArray)] : List ByteArray) a0.toNat))
def Ju (a0 : Int) : ByteArray := (bif (!(YN a0 0 9)) then (⟨#[]⟩ : ByteArray) else (nth ([(⟨#[110, 111, 110, 101]⟩ : ByteArray), (⟨#[102, 111, 114, 109]⟩ : ByteArray), (⟨#[100, 111, 99, 117, 109, 101, 110, 116]⟩ : ByteArray), (⟨#[107, 101, 121]⟩ : ByteArray), (⟨#[109, 97, 114, 107]⟩ : ByteArray), (⟨#[98, 114, 111, 107, 101, 110]⟩ : ByteArray), (⟨#[99, 101, 114, 116, 105, 102, 105, 99, 97, 116, 101]⟩ : ByteArray), (⟨#[116, 105, 109, 101]⟩ : ByteArray), (⟨#[101, 110, 100, 101, 100]⟩ : ByteArray), (⟨#[109, 97, 110, 100, 97, 116, 101]⟩ : ByteArray)] : List ByteArray) a0.toNat))
def Je (a0 : Yf) : ByteArray := (bif ((decide ((JD a0.Code) = (⟨#[]⟩ : ByteArray))) || (decide ((Ju a0.Reason) = (⟨#[]⟩ : ByteArray)))) then (⟨#[]⟩ : ByteArray) else (bif ((a0.Span.YQ != 0) || (a0.Span.To != 0)) then (((((((JD a0.Code) ++ (⟨#[32]⟩ : ByteArray)) ++ (Ju a0.Reason)) ++ (⟨#[32]⟩ : ByteArray)) ++ (XT a0.Span.YQ)) ++ (⟨#[45]⟩ : ByteArray)) ++ (XT a0.Span.To)) else (((JD a0.Code) ++ (⟨#[32]⟩ : ByteArray)) ++ (Ju a0.Reason))))
def Jz (a0 : ZF) (a1 : Z3) : ByteArray := ((((((((((⟨#[35]⟩ : ByteArray) ++ (XT a1.Id)) ++ (⟨#[32, 107]⟩ : ByteArray)) ++ (XT a1.Sig.Key)) ++ (⟨#[32]⟩ : ByteArray)) ++ (XT (↑a1.Y7.ZZ.length : Int))) ++ (⟨#[47]⟩ : ByteArray)) ++ (XT (↑a1.Y7.ZR.length : Int))) ++ (⟨#[32]⟩ : ByteArray)) ++ (Je (Kr a0 a1)))
def KC : Nat → Int → List UInt8 → (List UInt8)
  | 0, _, _ => default
  | n1 + 1, v1_0, v1_1 => (bif (decide ((Int.tmod v1_0 10) < 0)) then (bif ((W (Int.tdiv v1_0 10)) == 0) then ((([(UInt8.ofInt (W (48 + (W (-(Int.tmod v1_0 10))))))] : List UInt8) ++ v1_1)) else KC n1 (W (Int.tdiv v1_0 10)) (([(UInt8.ofInt (W (48 + (W (-(Int.tmod v1_0 10))))))] : List UInt8) ++ v1_1)) else (bif ((W (Int.tdiv v1_0 10)) == 0) then ((([(UInt8.ofInt (W (48 + (Int.tmod v1_0 10))))] : List UInt8) ++ v1_1)) else KC n1 (W (Int.tdiv v1_0 10)) (([(UInt8.ofInt (W (48 + (Int.tmod v1_0 10))))] : List UInt8) ++ v1_1)))
def XJ (a0 : Int) : ByteArray := (match KC 21 a0 ([] : List UInt8) with | z1_0 => (bif (decide (a0 < 0)) then ((⟨#[45]⟩ : ByteArray) ++ (⟨z1_0.toArray⟩ : ByteArray)) else (⟨z1_0.toArray⟩ : ByteArray)))
def ZGc (a0 : List Int) : List Int := a0
def ZE8 (a0 : ZB) : ZB := a0
def kO (a0 : List ZB) : Nat → List ZB → Nat → (List ZB)
  | 0, _, _ => default
  | n1 + 1, v1_0, v1_1 => (bif (decide ((↑v1_1 : Int) < (↑a0.length : Int))) then kO a0 n1 (v1_0 ++ ([(nth a0 v1_1)] : List ZB)) (v1_1 + 1) else (v1_0))
def ZBE (a0 : List ZB) : List ZB := (match kO a0 (a0.length + 1) ([] : List ZB) 0 with | z1_0 => z1_0)
def ZEY (a0 : List Za) : List Za := a0
def ZC5 (a0 : ZS) : ZS := a0
def kU (a0 : ZN) : Nat → Nat → List ZS → (List ZS)
  | 0, _, _ => default
  | n1 + 1, v1_0, v1_1 => (bif (decide ((↑v1_0 : Int) < (↑a0.ZR.length : Int))) then kU a0 n1 (v1_0 + 1) (v1_1 ++ ([(nth a0.ZR v1_0)] : List ZS)) else (v1_1))
def ZBB (a0 : ZN) : ZN := (match kU a0 (a0.ZR.length + 1) 0 ([] : List ZS) with | z1_0 => (ZN.mk a0.ZZ z1_0))
def yG (a0 : Z3) : ZI := (ZI.mk ([a0.Y7] : List ZN) ([] : List (List Za)))
def ZW (a0 : Int) (a1 : Int) (a2 : Int) : Bool := ((decide (a1 ≤ a0)) && (decide (a0 ≤ a2)))
def zW (a0 : Zg) : Nat → Nat → Sum Bool Unit
  | 0, _ => .inr ()
  | n1 + 1, v1_0 => (bif (decide ((↑v1_0 : Int) < (↑a0.Yx.length : Int))) then (bif ((decide ((↑(nth a0.Yx v1_0).size : Int) > 40)) || (!(ZW (nth a0.Xl v1_0) 1 1000000000000))) then (.inl false) else zW a0 n1 (v1_0 + 1)) else (.inr ()))
def yj (a0 : Zg) : Bool := (bif (((!(ZW a0.kW 0 999)) || (!(ZW (↑a0.Yx.length : Int) 1 6))) || ((↑a0.Xl.length : Int) != (↑a0.Yx.length : Int))) then false else (match zW a0 (a0.Yx.length + 1) 0 with | .inl r1 => r1 | .inr _ => true))
def xk (a0 : List UInt8) : Nat → List Int → Nat → (List Int)
  | 0, _, _ => default
  | n1 + 1, v1_0, v1_1 => (bif (decide ((↑v1_1 : Int) < (↑a0.length : Int))) then xk a0 n1 (v1_0 ++ ([(W (↑(nth a0 v1_1).toNat : Int))] : List Int)) (v1_1 + 1) else (v1_0))
def kv (a0 : List UInt8) : List Int := (match xk a0 (a0.length + 1) ([] : List Int) 0 with | z1_0 => z1_0)
def ZQk (a0 : Int) (a1 : Int) : Int := (bif (!(ZW a1 1 1000000000000)) then 0 else (Int.tmod (W ((Int.tmod a0 a1) + a1)) a1))
def ZFl (a0 : List Int) : Nat → Int → Nat → Int
  | 0, _, _ => default
  | n1 + 1, v1_0, v1_1 => (bif (decide ((↑v1_1 : Int) < (↑a0.length : Int))) then ZFl a0 n1 (Int.tmod (W ((W ((W (v1_0 * 1000003)) + (ZQk (nth a0 v1_1) 2147483647))) + 13)) 2147483647) (v1_1 + 1) else (v1_0))
def ZIi (a0 : List Int) : Int := (match ZFl a0 (a0.length + 1) 11 0 with | z1_0 => z1_0)
def Qq (a0 : Int) (a1 : List Int) : Int := (ZIi (([7, a0] : List Int) ++ a1))
def jx (a0 : Int) (a1 : ByteArray) (a2 : Int) : Int := (Qq a0 (([a2] : List Int) ++ (kv a1.data.toList)))
def qZ (a0 : Int) (a1 : Zg) : Nat → List Int → Nat → (List Int)
  | 0, _, _ => default
  | n1 + 1, v1_0, v1_1 => (bif (decide ((↑v1_1 : Int) < (↑a1.Yx.length : Int))) then qZ a0 a1 n1 (v1_0 ++ ([(jx a0 (nth a1.Yx v1_1) (nth a1.Xl v1_1))] : List Int)) (v1_1 + 1) else (v1_0))
def xI (a0 : Int) (a1 : Zg) : Int := (bif (!(yj a1)) then (-1) else (match qZ a0 a1 (a1.Yx.length + 1) ([a1.kW] : List Int) 0 with | z1_0 => (Qq a0 z1_0)))
def KU (a0 : ZN) (a1 : Zg) : Nat → List Int → Nat → (List Int)
  | 0, _, _ => default
  | n1 + 1, v1_0, v1_1 => (bif (decide ((↑v1_1 : Int) < (↑a0.ZR.length : Int))) then KU a0 a1 n1 (v1_0 ++ ([(xI (nth a0.ZR v1_1).Method a1)] : List Int)) (v1_1 + 1) else (v1_0))
def K5 (a0 : ZN) (a1 : Zg) : List Int := (match KU a0 a1 (a0.ZR.length + 1) ([] : List Int) 0 with | z1_0 => z1_0)
def QV (a0 : ZI) (a1 : Zg) : Nat → List (List Int) → Nat → (List (List Int))
  | 0, _, _ => default
  | n1 + 1, v1_0, v1_1 => (bif (decide ((↑v1_1 : Int) < (↑a0.ZK.length : Int))) then QV a0 a1 n1 (v1_0 ++ ([(K5 (nth a0.ZK v1_1) a1)] : List (List Int))) (v1_1 + 1) else (v1_0))
def Jo (a0 : ZI) (a1 : Zg) : List (List Int) := (match QV a0 a1 (a0.ZK.length + 1) ([] : List (List Int)) 0 with | z1_0 => z1_0)
def zp (a0 : Int) : Bool := (ZW a0 0 10000)
def jk (a0 : Int) : Bool := (ZW a0 1 2147483646)
def ZHN (a0 : YC) : Bool := (((((ZW a0.Number 1 99) && (ZW a0.Kb 0 99)) && (ZW a0.Method 0 99)) && (zp a0.ZIX)) && (jk a0.kp))
def ZAU (a0 : List YC) : Nat → Nat → Sum Bool Unit
  | 0, _ => .inr ()
  | n1 + 1, v1_0 => (bif (decide ((↑v1_0 : Int) < (↑a0.length : Int))) then (bif ((!(ZHN (nth a0 v1_0))) || ((decide ((↑v1_0 : Int) > 0)) && (decide ((nth a0 (v1_0 - 1)).Number ≥ (nth a0 v1_0).Number)))) then (.inl false) else ZAU a0 n1 (v1_0 + 1)) else (.inr ()))
def ZDb (a0 : List YC) : Bool := (match ZAU a0 (a0.length + 1) 0 with | .inl r1 => r1 | .inr _ => (decide ((↑a0.length : Int) ≤ 12)))
def KM (a0 : List ZE) : Nat → Nat → Sum Bool Unit
  | 0, _ => .inr ()
  | n1 + 1, v1_0 => (bif (decide ((↑v1_0 : Int) < (↑a0.length : Int))) then (bif ((((!(ZW (nth a0 v1_0).Id 0 99)) || (!(ZW (nth a0 v1_0).Key 1 99))) || (!(ZW (nth a0 v1_0).Error 0 100))) || ((decide ((↑v1_0 : Int) > 0)) && (decide ((nth a0 (v1_0 - 1)).Id ≥ (nth a0 v1_0).Id)))) then (.inl false) else KM a0 n1 (v1_0 + 1)) else (.inr ()))
def zU (a0 : List ZE) : Bool := (match KM a0 (a0.length + 1) 0 with | .inl r1 => r1 | .inr _ => (decide ((↑a0.length : Int) ≤ 6)))
def ZBk (a0 : Zl) : Bool := ((((((ZW a0.Id 0 99) && (zp a0.ZDY)) && (ZW a0.Ends 1 10001)) && (ZW a0.kj 1 10001)) && (decide (a0.ZDY < a0.Ends))) && (decide (a0.ZDY < a0.kj)))
def xM (a0 : List Zl) : Nat → Nat → Sum Bool Unit
  | 0, _ => .inr ()
  | n1 + 1, v1_0 => (bif (decide ((↑v1_0 : Int) < (↑a0.length : Int))) then (bif ((!(ZBk (nth a0 v1_0))) || ((decide ((↑v1_0 : Int) > 0)) && (decide ((nth a0 (v1_0 - 1)).Id ≥ (nth a0 v1_0).Id)))) then (.inl false) else xM a0 n1 (v1_0 + 1)) else (.inr ()))
def jl (a0 : List Zl) : Bool := (match xM a0 (a0.length + 1) 0 with | .inl r1 => r1 | .inr _ => (decide ((↑a0.length : Int) ≤ 8)))
def ZBX (a0 : ZF) : Bool := (((((ZDb a0.Y3) && (zU a0.ZT)) && (jl a0.Methods)) && (ZW a0.Q6 0 6)) && (zp a0.Now))
def ZFt (a0 : Int) : Yf := (Yf.mk 3 a0 (ZD.mk 0 0))
def zR (a0 : ZY) : Bool := ((((((((ZW a0.Key 1 99) && (ZW a0.YO 1 999)) && (ZW a0.Method 0 99)) && (ZW a0.Org 0 99)) && (ZW a0.ZAx 1 3)) && (ZW a0.XC 0 1000000000000)) && (ZW a0.ZA1 0 1000000000000)) && (ZW a0.xD 0 1000000000000))
def ZDq (a0 : Int) : Yf := (Yf.mk 2 a0 (ZD.mk 0 0))
def jO (a0 : List YC) (a1 : Int) : Nat → Nat → Sum Int Unit
  | 0, _ => .inr ()
  | n1 + 1, v1_0 => (bif (decide ((↑v1_0 : Int) < (↑a0.length : Int))) then (bif ((nth a0 v1_0).Number == a1) then (.inl (↑v1_0 : Int)) else jO a0 a1 n1 (v1_0 + 1)) else (.inr ()))
def Y5 (a0 : List YC) (a1 : Int) : Int := (match jO a0 a1 (a0.length + 1) 0 with | .inl r1 => r1 | .inr _ => (-1))
def Xx (a0 : ZY) : List Int := ([104, a0.Key, a0.YO, a0.Method, a0.XC, a0.ZAx, a0.Org, a0.ZA1, a0.xD] : List Int)
def ZAb (a0 : Int) (a1 : List Int) : Int := (ZIi ((([a0] : List Int) ++ a1) ++ ([a0] : List Int)))
def ZBf (a0 : YC) (a1 : List Int) : Int := (ZAb a0.kp (([a0.Method] : List Int) ++ a1))
def qg (a0 : List YC) (a1 : Int) (a2 : List Int) : Int × Bool := (bif (decide ((Y5 a0 a1) < 0)) then (0, false) else ((ZBf (nth a0 (Y5 a0 a1).toNat) a2), true))
def X7 (a0 : List YC) (a1 : Int) (a2 : List Int) (a3 : Int) : Bool := ((qg a0 a1 a2).2 && ((qg a0 a1 a2).1 == a3))
def KK (a0 : List YC) (a1 : ZY) : Bool := ((zR a1) && (X7 a0 a1.Key (Xx a1) a1.Mark))
def XY (a0 : ZY) : ZB := (ZB.mk a0.Key (Xx a0) a0.Mark)
def ZAK (a0 : List Int) (a1 : List Int) : Nat → Nat → Sum Bool Unit
  | 0, _ => .inr ()
  | n1 + 1, v1_0 => (bif (decide ((↑v1_0 : Int) < (↑a0.length : Int))) then (bif ((nth a0 v1_0) != (nth a1 v1_0)) then (.inl false) else ZAK a0 a1 n1 (v1_0 + 1)) else (.inr ()))
def ZCM (a0 : List Int) (a1 : List Int) : Bool := (bif ((↑a0.length : Int) != (↑a1.length : Int)) then false else (match ZAK a0 a1 (a0.length + 1) 0 with | .inl r1 => r1 | .inr _ => true))
def zQ (a0 : ZB) (a1 : ZB) : Bool := (((a0.Key == a1.Key) && (a0.Mark == a1.Mark)) && (ZCM a0.Zb a1.Zb))
def qa (a0 : ZN) (a1 : ZB) : Nat → Nat → Sum Int Unit
  | 0, _ => .inr ()
  | n1 + 1, v1_0 => (bif (decide ((↑v1_0 : Int) < (↑a0.ZZ.length : Int))) then (bif (zQ (nth a0.ZZ v1_0) a1) then (.inl (↑v1_0 : Int)) else qa a0 a1 n1 (v1_0 + 1)) else (.inr ()))
def xL (a0 : ZN) (a1 : ZB) : Int := (match qa a0 a1 (a0.ZZ.length + 1) 0 with | .inl r1 => r1 | .inr _ => (-1))
def JZ (a0 : List ZE) (a1 : Int) : Nat → Nat → Sum Int Unit
  | 0, _ => .inr ()
  | n1 + 1, v1_0 => (bif (decide ((↑v1_0 : Int) < (↑a0.length : Int))) then (bif ((nth a0 v1_0).Id == a1) then (.inl (↑v1_0 : Int)) else JZ a0 a1 n1 (v1_0 + 1)) else (.inr ()))
def YP (a0 : List ZE) (a1 : Int) : Int := (match JZ a0 a1 (a0.length + 1) 0 with | .inl r1 => r1 | .inr _ => (-1))
def YZ (a0 : ZD) : Bool := (((zp a0.YQ) && (zp a0.To)) && (decide (a0.YQ ≤ a0.To)))
def Jh (a0 : Int) (a1 : Int) : ZD × Bool := (bif ((decide (a0 > a1)) || (!(YZ (ZD.mk (if 0 > a0 then 0 else a0) (if 10000 < a1 then 10000 else a1))))) then ((ZD.mk 0 0), false) else ((ZD.mk (if 0 > a0 then 0 else a0) (if 10000 < a1 then 10000 else a1)), true))
def KA (a0 : List ZE) (a1 : Za) : ZD × Bool := (bif (((decide ((YP a0 a1.Authority) < 0)) || (decide ((nth a0 (YP a0 a1.Authority).toNat).Error < 0))) || (!(zp a1.Time))) then ((ZD.mk 0 0), false) else ((Jh (W (a1.Time - (nth a0 (YP a0 a1.Authority).toNat).Error)) (W (a1.Time + (nth a0 (YP a0 a1.Authority).toNat).Error))).1, (Jh (W (a1.Time - (nth a0 (YP a0 a1.Authority).toNat).Error)) (W (a1.Time + (nth a0 (YP a0 a1.Authority).toNat).Error))).2))
def yH (a0 : List ZD) (a1 : Int) : Nat → Int → Nat → Int
  | 0, _, _ => default
  | n1 + 1, v1_0, v1_1 => (bif (decide ((↑v1_1 : Int) < (↑a0.length : Int))) then (bif ((YZ (nth a0 v1_1)) && (ZW a1 (nth a0 v1_1).YQ (nth a0 v1_1).To)) then yH a0 a1 n1 (W (v1_0 + 1)) (v1_1 + 1) else yH a0 a1 n1 v1_0 (v1_1 + 1)) else (v1_0))
def kg (a0 : List ZD) (a1 : Int) : Int := (match yH a0 a1 (a0.length + 1) 0 0 with | z1_0 => z1_0)
def Zw (a0 : List ZD) (a1 : Int) (a2 : Int) : Bool := ((ZW a2 0 (W ((↑a0.length : Int) - 1))) && (decide ((kg a0 a1) ≥ (W ((↑a0.length : Int) - a2)))))
def QX (a0 : List ZD) (a1 : Int) : Nat → Bool → Nat → Int → Int → Bool × Int × Int
  | 0, _, _, _, _ => (default, default, default)
  | n1 + 1, v1_0, v1_1, v1_2, v1_3 => (bif (decide ((↑v1_1 : Int) ≤ 10000)) then (bif (Zw a0 (↑v1_1 : Int) a1) then (bif (!v1_0) then QX a0 a1 n1 true (v1_1 + 1) (↑v1_1 : Int) (↑v1_1 : Int) else QX a0 a1 n1 true (v1_1 + 1) v1_2 (↑v1_1 : Int)) else QX a0 a1 n1 v1_0 (v1_1 + 1) v1_2 v1_3) else ((v1_0, v1_2, v1_3)))
def yY (a0 : List ZD) (a1 : Int) : ZD × Bool := (match QX a0 a1 10002 false 0 0 0 with | (z1_0, z1_1, z1_2) => ((ZD.mk z1_1 z1_2), z1_0))
def X4 (a0 : List ZE) (a1 : List Za) : Nat → List ZD → Nat → Sum (ZD × Bool) (List ZD)
  | 0, _, _ => .inr default
  | n1 + 1, v1_0, v1_1 => (bif (decide ((↑v1_1 : Int) < (↑a1.length : Int))) then (bif (!(KA a0 (nth a1 v1_1)).2) then (.inl ((ZD.mk 0 0), false)) else X4 a0 a1 n1 (v1_0 ++ ([(KA a0 (nth a1 v1_1)).1] : List ZD)) (v1_1 + 1)) else (.inr v1_0))
def QK (a0 : List ZE) (a1 : List Za) (a2 : Int) : ZD × Bool := (match X4 a0 a1 (a1.length + 1) ([] : List ZD) 0 with | .inl r1 => r1 | .inr z1_0 => ((yY z1_0 a2).1, (yY z1_0 a2).2))
def KB (a0 : List ZE) (a1 : ZS) (a2 : Int) : ZD × Bool := ((QK a0 a1.Zi a2).1, (QK a0 a1.Zi a2).2)
def Xs (a0 : ZF) (a1 : ZS) : ZD × Bool := ((KB a0.ZT a1 a0.Q6).1, (KB a0.ZT a1 a0.Q6).2)
def Ql (a0 : Za) : List Int := ([103, a0.Authority, a0.Seq, a0.Time, a0.XC] : List Int)
def zB (a1 : ZS) : Nat → List Int → Nat → (List Int)
  | 0, _, _ => default
  | n2 + 1, v2_0, v2_1 => (bif (decide ((↑v2_1 : Int) < (↑a1.Zi.length : Int))) then zB a1 n2 ((v2_0 ++ (Ql (nth a1.Zi v2_1))) ++ ([(nth a1.Zi v2_1).Mark] : List Int)) (v2_1 + 1) else (v2_0))
def JV (a1 : ZS) : Nat → List Int → Nat → (List Int)
  | 0, _, _ => default
  | n1 + 1, v1_0, v1_1 => (bif (decide ((↑v1_1 : Int) < (↑a1.Path.length : Int))) then (bif (nth a1.Path v1_1).Left then JV a1 n1 (v1_0 ++ ([(nth a1.Path v1_1).XC, 1] : List Int)) (v1_1 + 1) else JV a1 n1 (v1_0 ++ ([(nth a1.Path v1_1).XC, 0] : List Int)) (v1_1 + 1)) else (v1_0))
def Jj (a0 : Int) (a1 : ZS) : Int := (match JV a1 (a1.Path.length + 1) ([4, a1.Count, a1.Method, a1.ZIY] : List Int) 0 with | z1_0 => (match zB a1 (a1.Zi.length + 1) (z1_0 ++ ([(↑a1.Zi.length : Int)] : List Int)) 0 with | z2_0 => (Qq a0 z2_0)))
def zm (a0 : Int) (a1 : List ZB) : Nat → List Int → Nat → (List Int)
  | 0, _, _ => default
  | n1 + 1, v1_0, v1_1 => (bif (decide ((↑v1_1 : Int) < (↑a1.length : Int))) then zm a0 a1 n1 (v1_0 ++ ([(Qq a0 (([(nth a1 v1_1).Key, (nth a1 v1_1).Mark] : List Int) ++ (nth a1 v1_1).Zb))] : List Int)) (v1_1 + 1) else (v1_0))
def zs (a0 : Int) (a1 : List ZB) : Int := (match zm a0 a1 (a1.length + 1) ([2] : List Int) 0 with | z1_0 => (Qq a0 z1_0))
def ZDf (a0 : Int) (a1 : Int) (a2 : List ZB) (a3 : Int) : Int := (Qq a0 ([3, a1, (zs a0 a2), a3] : List Int))
def ZB4 (a0 : ZN) (a1 : List Int) (a2 : Int) : Int := (bif (((!(ZW a2 0 (W ((↑a0.ZR.length : Int) - 1)))) || ((↑a1.length : Int) != (↑a0.ZR.length : Int))) || (!(ZW (nth a0.ZR a2.toNat).Count 0 (↑a0.ZZ.length : Int)))) then (-1) else (bif (decide (a2 > 0)) then (ZDf (nth a0.ZR a2.toNat).Method (nth a1 a2.toNat) (a0.ZZ.take (nth a0.ZR a2.toNat).Count.toNat) (Jj (nth a0.ZR a2.toNat).Method (nth a0.ZR (W (a2 - 1)).toNat))) else (ZDf (nth a0.ZR a2.toNat).Method (nth a1 a2.toNat) (a0.ZZ.take (nth a0.ZR a2.toNat).Count.toNat) 0)))
def xy (a0 : Int) (a1 : Int) (a2 : Int) : Int := (Qq a0 ([1, a1, a2] : List Int))
def yC (a0 : Int) (a2 : List XG) : Nat → Int → Nat → Int
  | 0, _, _ => default
  | n1 + 1, v1_0, v1_1 => (bif (decide ((↑v1_1 : Int) < (↑a2.length : Int))) then (bif (nth a2 v1_1).Left then yC a0 a2 n1 (xy a0 (nth a2 v1_1).XC v1_0) (v1_1 + 1) else yC a0 a2 n1 (xy a0 v1_0 (nth a2 v1_1).XC) (v1_1 + 1)) else (v1_0))
def kE (a0 : Int) (a1 : Int) (a2 : List XG) : Int := (match yC a0 a2 (a2.length + 1) a1 0 with | z1_0 => z1_0)
def Qo (a0 : List Za) : Nat → Nat → Sum Bool Unit
  | 0, _ => .inr ()
  | n1 + 1, v1_0 => (bif (decide ((↑v1_0 : Int) < (↑a0.length : Int))) then (bif (decide ((nth a0 (v1_0 - 1)).Authority ≥ (nth a0 v1_0).Authority)) then (.inl false) else Qo a0 n1 (v1_0 + 1)) else (.inr ()))
def XB (a0 : List Za) : Bool := (match Qo a0 (a0.length + 1) 1 with | .inl r1 => r1 | .inr _ => true)
def JK (a0 : List YC) (a1 : List ZE) (a2 : Za) : Za × Bool := (bif (((decide ((YP a1 a2.Authority) < 0)) || (decide (a2.Seq < 0))) || (!(zp a2.Time))) then ((Za.mk 0 0 0 0 0), false) else (bif (!(qg a0 (nth a1 (YP a1 a2.Authority).toNat).Key (Ql a2)).2) then ((Za.mk 0 0 0 0 0), false) else ((Za.mk a2.Authority a2.Seq a2.Time a2.XC (qg a0 (nth a1 (YP a1 a2.Authority).toNat).Key (Ql a2)).1), true)))
def j6 (a0 : List YC) (a1 : List ZE) (a2 : Za) : Bool := ((JK a0 a1 a2).2 && (((JK a0 a1 a2).1.Authority == a2.Authority) && (((JK a0 a1 a2).1.Seq == a2.Seq) && (((JK a0 a1 a2).1.Time == a2.Time) && (((JK a0 a1 a2).1.XC == a2.XC) && ((JK a0 a1 a2).1.Mark == a2.Mark))))))
def z8 (a0 : List YC) (a1 : List ZE) (a2 : ZS) : Nat → Nat → Sum Bool Unit
  | 0, _ => .inr ()
  | n1 + 1, v1_0 => (bif (decide ((↑v1_0 : Int) < (↑a2.Zi.length : Int))) then (bif (((nth a2.Zi v1_0).XC != a2.ZIY) || (!(j6 a0 a1 (nth a2.Zi v1_0)))) then (.inl false) else z8 a0 a1 a2 n1 (v1_0 + 1)) else (.inr ()))
def zi (a0 : List YC) (a1 : List ZE) (a2 : ZS) (a3 : Int) : Bool := (bif ((((decide ((↑a2.Path.length : Int) > 4)) || ((kE a2.Method a3 a2.Path) != a2.ZIY)) || (!(ZW (↑a2.Zi.length : Int) 1 6))) || (!(XB a2.Zi))) then false else (match z8 a0 a1 a2 (a2.Zi.length + 1) 0 with | .inl r1 => r1 | .inr _ => true))
def z3 (a0 : List Zl) (a1 : Int) : Nat → Nat → Sum Int Unit
  | 0, _ => .inr ()
  | n1 + 1, v1_0 => (bif (decide ((↑v1_0 : Int) < (↑a0.length : Int))) then (bif ((nth a0 v1_0).Id == a1) then (.inl (↑v1_0 : Int)) else z3 a0 a1 n1 (v1_0 + 1)) else (.inr ()))
def Kv (a0 : List Zl) (a1 : Int) : Int := (match z3 a0 a1 (a0.length + 1) 0 with | .inl r1 => r1 | .inr _ => (-1))
def zd (a0 : List Zl) (a1 : Int) : Int := (bif (decide ((Kv a0 a1) ≥ 0)) then (nth a0 (Kv a0 a1).toNat).kj else 0)
def Xj (a0 : List ZE) (a1 : Za) : Int := (bif (decide ((YP a0 a1.Authority) ≥ 0)) then (nth a0 (YP a0 a1.Authority).toNat).Key else 0)
def zz (a0 : List YC) (a1 : List ZE) (a2 : List Zl) (a3 : ZS) : Nat → Int → Nat → Sum Int Int
  | 0, _, _ => .inr default
  | n1 + 1, v1_0, v1_1 => (bif (decide ((↑v1_1 : Int) < (↑a3.Zi.length : Int))) then (bif (decide ((Y5 a0 (Xj a1 (nth a3.Zi v1_1))) < 0)) then (.inl 0) else zz a0 a1 a2 a3 n1 (if (zd a2 (nth a0 (Y5 a0 (Xj a1 (nth a3.Zi v1_1))).toNat).Method) < v1_0 then (zd a2 (nth a0 (Y5 a0 (Xj a1 (nth a3.Zi v1_1))).toNat).Method) else v1_0) (v1_1 + 1)) else (.inr v1_0))
def zj (a0 : List YC) (a1 : List ZE) (a2 : List Zl) (a3 : ZS) : Int := (match zz a0 a1 a2 a3 (a3.Zi.length + 1) (zd a2 a3.Method) 0 with | .inl r1 => r1 | .inr z1_0 => z1_0)
def jN (a0 : ZF) (a1 : ZN) (a2 : Int) : Bool := (bif (!(ZW a2 0 (W ((↑a1.ZR.length : Int) - 1)))) then false else (bif (a2 == (W ((↑a1.ZR.length : Int) - 1))) then (decide (a0.Now < (zj a0.Y3 a0.ZT a0.Methods (nth a1.ZR a2.toNat)))) else ((Xs a0 (nth a1.ZR (W (a2 + 1)).toNat)).2 && (decide ((Xs a0 (nth a1.ZR (W (a2 + 1)).toNat)).1.To < (zj a0.Y3 a0.ZT a0.Methods (nth a1.ZR a2.toNat)))))))
def zO (a0 : ZF) (a1 : ZN) (a2 : List Int) : Nat → Nat → Nat
  | 0, _ => default
  | n1 + 1, v1_0 => (bif (decide ((↑v1_0 : Int) > 0)) then (bif (((!(Xs a0 (nth a1.ZR (v1_0 - 1))).2) || (!(zi a0.Y3 a0.ZT (nth a1.ZR (v1_0 - 1)) (ZB4 a1 a2 (W ((↑v1_0 : Int) - 1)))))) || (!(jN a0 a1 (W ((↑v1_0 : Int) - 1))))) then (v1_0) else zO a0 a1 a2 n1 (v1_0 - 1)) else (v1_0))
def K7 (a0 : ZF) (a1 : ZN) (a2 : List Int) : Int := (match zO a0 a1 a2 (a1.ZR.length + 1) a1.ZR.length with | z1_0 => (↑z1_0 : Int))
def jJ (a0 : ZF) (a1 : ZN) (a3 : Int) : Nat → Int → Int → Int
  | 0, _, _ => default
  | n1 + 1, v1_0, v1_1 => (bif (decide (v1_1 < (↑a1.ZR.length : Int))) then (bif (decide ((nth a1.ZR v1_1.toNat).Count > a3)) then jJ a0 a1 a3 n1 (if (Xs a0 (nth a1.ZR v1_1.toNat)).1.To < v1_0 then (Xs a0 (nth a1.ZR v1_1.toNat)).1.To else v1_0) (W (v1_1 + 1)) else jJ a0 a1 a3 n1 v1_0 (W (v1_1 + 1))) else (v1_0))
def ZDE (a0 : ZF) (a1 : ZN) (a2 : List Int) (a3 : Int) : Int := (match jJ a0 a1 a3 (a1.ZR.length + 2) a0.Now (K7 a0 a1 a2) with | z1_0 => z1_0)
def qK (a0 : ZF) (a1 : ZN) (a2 : List Int) (a3 : ZB) : Int := (bif (decide ((xL a1 a3) < 0)) then a0.Now else (ZDE a0 a1 a2 (xL a1 a3)))
def X8 (a0 : ZF) (a1 : ZI) (a2 : List (List Int)) (a3 : ZB) : Nat → Int → Nat → Int
  | 0, _, _ => default
  | n1 + 1, v1_0, v1_1 => (bif (decide ((↑v1_1 : Int) < (↑a1.ZK.length : Int))) then (bif (decide ((↑v1_1 : Int) < (↑a2.length : Int))) then X8 a0 a1 a2 a3 n1 (if (qK a0 (nth a1.ZK v1_1) (nth a2 v1_1) a3) < v1_0 then (qK a0 (nth a1.ZK v1_1) (nth a2 v1_1) a3) else v1_0) (v1_1 + 1) else X8 a0 a1 a2 a3 n1 v1_0 (v1_1 + 1)) else (v1_0))
def Yp (a0 : ZF) (a1 : ZI) (a2 : List (List Int)) (a3 : ZB) : Int := (match X8 a0 a1 a2 a3 (a1.ZK.length + 1) a0.Now 0 with | z1_0 => z1_0)
def J4 (a0 : ZF) (a1 : Int) : Int := (bif (decide ((Y5 a0.Y3 a1) < 0)) then 0 else (zd a0.Methods (nth a0.Y3 (Y5 a0.Y3 a1).toNat).Method))
def xz (a0 : List ZB) (a1 : ZB) : Nat → Nat → Sum Bool Unit
  | 0, _ => .inr ()
  | n1 + 1, v1_0 => (bif (decide ((↑v1_0 : Int) < (↑a0.length : Int))) then (bif (zQ (nth a0 v1_0) a1) then (.inl true) else xz a0 a1 n1 (v1_0 + 1)) else (.inr ()))
def QM (a0 : List ZB) (a1 : ZB) : Bool := (match xz a0 a1 (a0.length + 1) 0 with | .inl r1 => r1 | .inr _ => false)
def YB (a0 : ZB) : Int := (bif ((((↑a0.Zb.length : Int) == 0) || (!(ZW (nth a0.Zb 0) 101 105))) || ((↑a0.Zb.length : Int) != (nth ([7, 5, 5, 9, 6] : List Int) (W ((nth a0.Zb 0) - 101)).toNat))) then 0 else (nth a0.Zb 0))
def XS (a0 : ZB) : YH × Bool := (bif (((YB a0) != 101) || ((nth a0.Zb 6) != a0.Key)) then ((YH.mk 0 0 0 0 0 0 0), false) else ((YH.mk (nth a0.Zb 1) (nth a0.Zb 2) (nth a0.Zb 3) (nth a0.Zb 4) (nth a0.Zb 5) (nth a0.Zb 6) a0.Mark), true))
def Xy (a0 : ZB) : Zy × Bool := (bif (((YB a0) != 102) || ((nth a0.Zb 4) != a0.Key)) then ((Zy.mk 0 0 0 0 0), false) else ((Zy.mk (nth a0.Zb 1) (nth a0.Zb 2) (nth a0.Zb 3) (nth a0.Zb 4) a0.Mark), true))
def Ky (a0 : ZB) : Za × Bool := (bif ((YB a0) != 103) then ((Za.mk 0 0 0 0 0), false) else ((Za.mk (nth a0.Zb 1) (nth a0.Zb 2) (nth a0.Zb 3) (nth a0.Zb 4) a0.Mark), true))
def yS (a0 : ZB) : ZY × Bool := (bif (((YB a0) != 104) || ((nth a0.Zb 1) != a0.Key)) then ((ZY.mk 0 0 0 0 0 0 0 0 0), false) else ((ZY.mk (nth a0.Zb 1) (nth a0.Zb 2) (nth a0.Zb 3) (nth a0.Zb 4) (nth a0.Zb 5) (nth a0.Zb 6) (nth a0.Zb 7) (nth a0.Zb 8) a0.Mark), true))
def QD (a0 : ZB) : Z1 × Bool := (bif (((YB a0) != 105) || ((nth a0.Zb 5) != a0.Key)) then ((Z1.mk 0 0 0 0 0 0), false) else ((Z1.mk (nth a0.Zb 1) (nth a0.Zb 2) (nth a0.Zb 3) (nth a0.Zb 4) (nth a0.Zb 5) a0.Mark), true))
def Jw (a0 : List YC) (a1 : ZB) : Bool := (bif ((YB a1) == 101) then ((XS a1).2 && (X7 a0 a1.Key a1.Zb a1.Mark)) else (bif ((YB a1) == 102) then ((Xy a1).2 && (X7 a0 a1.Key a1.Zb a1.Mark)) else (bif ((YB a1) == 103) then ((Ky a1).2 && (X7 a0 a1.Key a1.Zb a1.Mark)) else (bif ((YB a1) == 104) then ((yS a1).2 && (X7 a0 a1.Key a1.Zb a1.Mark)) else (bif ((YB a1) == 105) then ((QD a1).2 && (X7 a0 a1.Key a1.Zb a1.Mark)) else (false && (X7 a0 a1.Key a1.Zb a1.Mark)))))))
def Jp (a0 : ZB) (a1 : ZB) : Nat → Nat → Sum Bool Unit
  | 0, _ => .inr ()
  | n1 + 1, v1_0 => (bif ((decide ((↑v1_0 : Int) < (↑a0.Zb.length : Int))) && (decide ((↑v1_0 : Int) < (↑a1.Zb.length : Int)))) then (bif ((nth a0.Zb v1_0) != (nth a1.Zb v1_0)) then (.inl (decide ((nth a0.Zb v1_0) < (nth a1.Zb v1_0)))) else Jp a0 a1 n1 (v1_0 + 1)) else (.inr ()))
def Y6 (a0 : ZB) (a1 : ZB) : Bool := (match Jp a0 a1 (a0.Zb.length + 1) 0 with | .inl r1 => r1 | .inr _ => (bif ((↑a0.Zb.length : Int) != (↑a1.Zb.length : Int)) then (decide ((↑a0.Zb.length : Int) < (↑a1.Zb.length : Int))) else (bif (a0.Key != a1.Key) then (decide (a0.Key < a1.Key)) else (decide (a0.Mark < a1.Mark)))))
def KJ (a1 : ZI) (v1_1 : Nat) (v2_0 : List ZB) (v2_1 : Nat) : Nat → Nat → Nat
  | 0, _ => default
  | n3 + 1, v3_0 => (bif ((decide ((↑v3_0 : Int) < (↑v2_0.length : Int))) && (Y6 (nth v2_0 v3_0) (nth (nth a1.ZK v1_1).ZZ v2_1))) then KJ a1 v1_1 v2_0 v2_1 n3 (v3_0 + 1) else (v3_0))
def Xz (a0 : ZF) (a1 : ZI) (a2 : List (List Int)) (v1_1 : Nat) : Nat → List ZB → Nat → (List ZB)
  | 0, _, _ => default
  | n2 + 1, v2_0, v2_1 => (bif (decide ((↑v2_1 : Int) < (↑(nth a1.ZK v1_1).ZZ.length : Int))) then (bif (((QM v2_0 (nth (nth a1.ZK v1_1).ZZ v2_1)) || (!(Jw a0.Y3 (nth (nth a1.ZK v1_1).ZZ v2_1)))) || (decide ((Yp a0 a1 a2 (nth (nth a1.ZK v1_1).ZZ v2_1)) ≥ (J4 a0 (nth (nth a1.ZK v1_1).ZZ v2_1).Key)))) then Xz a0 a1 a2 v1_1 n2 v2_0 (v2_1 + 1) else (match KJ a1 v1_1 v2_0 v2_1 (v2_0.length + 1) 0 with | z3_0 => Xz a0 a1 a2 v1_1 n2 (((v2_0.take z3_0) ++ ([(nth (nth a1.ZK v1_1).ZZ v2_1)] : List ZB)) ++ ((v2_0.drop z3_0).take (v2_0.length - z3_0))) (v2_1 + 1))) else (v2_0))
def Q0 (a0 : ZF) (a1 : ZI) (a2 : List (List Int)) : Nat → List ZB → Nat → (List ZB)
  | 0, _, _ => default
  | n1 + 1, v1_0, v1_1 => (bif (decide ((↑v1_1 : Int) < (↑a1.ZK.length : Int))) then (match Xz a0 a1 a2 v1_1 ((nth a1.ZK v1_1).ZZ.length + 1) v1_0 0 with | z2_0 => Q0 a0 a1 a2 n1 z2_0 (v1_1 + 1)) else (v1_0))
def Zt (a0 : ZF) (a1 : ZI) (a2 : List (List Int)) : List ZB := (match Q0 a0 a1 a2 (a1.ZK.length + 1) ([] : List ZB) 0 with | z1_0 => z1_0)
def xt (a0 : YH) : ZD := (ZD.mk a0.YQ a0.To)
def ZFn (a0 : YH) : Bool := ((((((ZW a0.YO 1 999) && (ZW a0.Key 1 99)) && (ZW a0.Qs 1 99)) && (a0.Key != a0.Qs)) && (ZW a0.Kb 0 99)) && (YZ (xt a0)))
def yn (a0 : YH) : List Int := ([101, a0.YO, a0.Key, a0.Kb, a0.YQ, a0.To, a0.Qs] : List Int)
def ZBY (a0 : List YC) (a1 : Int) : Int := (bif (decide ((Y5 a0 a1) ≥ 0)) then (nth a0 (Y5 a0 a1).toNat).Kb else (-1))
def ZAg (a0 : List YC) (a1 : YH) : Bool := (((ZFn a1) && (X7 a0 a1.Qs (yn a1) a1.Mark)) && (a1.Kb == (ZBY a0 a1.Key)))
def jg (a0 : ZF) (a1 : List ZB) (a2 : ZY) : Nat → Int → Nat → Int → Int → Int → Int → Int → Int → Int → Int × Int × Int × Int × Int × Int × Int × Int
  | 0, _, _, _, _, _, _, _, _, _ => (default, default, default, default, default, default, default, default)
  | n1 + 1, v1_0, v1_1, v1_2, v1_3, v1_4, v1_5, v1_6, v1_7, v1_8 => (bif (decide ((↑v1_1 : Int) < (↑a1.length : Int))) then (bif ((((XS (nth a1 v1_1)).2 && (ZAg a0.Y3 (XS (nth a1 v1_1)).1)) && ((XS (nth a1 v1_1)).1.YO == a2.YO)) && ((XS (nth a1 v1_1)).1.Key == a2.Key)) then jg a0 a1 a2 n1 (W (v1_0 + 1)) (v1_1 + 1) (XS (nth a1 v1_1)).1.YO (XS (nth a1 v1_1)).1.Key (XS (nth a1 v1_1)).1.Kb (XS (nth a1 v1_1)).1.YQ (XS (nth a1 v1_1)).1.To (XS (nth a1 v1_1)).1.Qs (XS (nth a1 v1_1)).1.Mark else jg a0 a1 a2 n1 v1_0 (v1_1 + 1) v1_2 v1_3 v1_4 v1_5 v1_6 v1_7 v1_8) else ((v1_0, v1_2, v1_3, v1_4, v1_5, v1_6, v1_7, v1_8)))
def QQ (a0 : ZF) (a1 : List ZB) (a2 : ZY) : YH × Bool := (match jg a0 a1 a2 (a1.length + 1) 0 0 0 0 0 0 0 0 0 with | (z1_0, z1_1, z1_2, z1_3, z1_4, z1_5, z1_6, z1_7) => (bif (z1_0 != 1) then ((YH.mk 0 0 0 0 0 0 0), false) else ((YH.mk z1_1 z1_2 z1_3 z1_4 z1_5 z1_6 z1_7), true)))
def ZSo (a0 : Int) (a1 : Int) : Int := (if a1 > a0 then a1 else a0)
def z5 (a1 : List Za) : Nat → List Int → Nat → (List Int)
  | 0, _, _ => default
  | n1 + 1, v1_0, v1_1 => (bif (decide ((↑v1_1 : Int) < (↑a1.length : Int))) then z5 a1 n1 (v1_0 ++ ([(nth a1 v1_1).Mark] : List Int)) (v1_1 + 1) else (v1_0))
def KX (a0 : Int) (a1 : List Za) : Int := (bif ((↑a1.length : Int) == 0) then 0 else (match z5 a1 (a1.length + 1) ([] : List Int) 0 with | z1_0 => (ZSo 1 (Qq a0 z1_0))))
def JA (a0 : Int) (a1 : Za) : ZB := (ZB.mk a0 (Ql a1) a1.Mark)
def QC (a0 : ZF) (a1 : ZI) (a2 : List ZB) (v1_1 : Nat) : Nat → Bool → Nat → Bool
  | 0, _, _ => default
  | n2 + 1, v2_0, v2_1 => (bif (decide ((↑v2_1 : Int) < (↑(nth a1.Zz v1_1).length : Int))) then QC a0 a1 a2 v1_1 n2 (v2_0 && (QM a2 (JA (Xj a0.ZT (nth (nth a1.Zz v1_1) v2_1)) (nth (nth a1.Zz v1_1) v2_1)))) (v2_1 + 1) else (v2_0))
def QE (a0 : ZF) (a1 : ZI) (a2 : List ZB) (a3 : ZY) : Nat → Int → Nat → Int
  | 0, _, _ => default
  | n1 + 1, v1_0, v1_1 => (bif (decide ((↑v1_1 : Int) < (↑a1.Zz.length : Int))) then (bif (((a3.xD == 0) || (!(XB (nth a1.Zz v1_1)))) || ((KX a3.Method (nth a1.Zz v1_1)) != a3.xD)) then QE a0 a1 a2 a3 n1 v1_0 (v1_1 + 1) else (match QC a0 a1 a2 v1_1 ((nth a1.Zz v1_1).length + 1) true 0 with | z2_0 => (bif (z2_0 && (QK a0.ZT (nth a1.Zz v1_1) a0.Q6).2) then QE a0 a1 a2 a3 n1 (if (QK a0.ZT (nth a1.Zz v1_1) a0.Q6).1.YQ > v1_0 then (QK a0.ZT (nth a1.Zz v1_1) a0.Q6).1.YQ else v1_0) (v1_1 + 1) else QE a0 a1 a2 a3 n1 v1_0 (v1_1 + 1)))) else (v1_0))
def qn (a0 : ZF) (a1 : ZI) (a2 : List ZB) (v3_1 : Nat) : Nat → Bool → Nat → Bool
  | 0, _, _ => default
  | n4 + 1, v4_0, v4_1 => (bif (decide ((↑v4_1 : Int) < (↑(nth a1.Zz v3_1).length : Int))) then qn a0 a1 a2 v3_1 n4 (v4_0 && (QM a2 (JA (Xj a0.ZT (nth (nth a1.Zz v3_1) v4_1)) (nth (nth a1.Zz v3_1) v4_1)))) (v4_1 + 1) else (v4_0))
def zL (a0 : ZF) (a1 : ZI) (a2 : List ZB) (a3 : ZY) : Nat → Int → Nat → Int
  | 0, _, _ => default
  | n3 + 1, v3_0, v3_1 => (bif (decide ((↑v3_1 : Int) < (↑a1.Zz.length : Int))) then (bif (((a3.xD == 0) || (!(XB (nth a1.Zz v3_1)))) || ((KX a3.Method (nth a1.Zz v3_1)) != a3.xD)) then zL a0 a1 a2 a3 n3 v3_0 (v3_1 + 1) else (match qn a0 a1 a2 v3_1 ((nth a1.Zz v3_1).length + 1) true 0 with | z4_0 => (bif (z4_0 && (QK a0.ZT (nth a1.Zz v3_1) a0.Q6).2) then zL a0 a1 a2 a3 n3 (if (QK a0.ZT (nth a1.Zz v3_1) a0.Q6).1.YQ > v3_0 then (QK a0.ZT (nth a1.Zz v3_1) a0.Q6).1.YQ else v3_0) (v3_1 + 1) else zL a0 a1 a2 a3 n3 v3_0 (v3_1 + 1)))) else (v3_0))
def Xt (a0 : ZF) (a1 : ZI) (a2 : List ZB) (a3 : ZY) : Int := (bif (decide ((Y5 a0.Y3 a3.Key) ≥ 0)) then (match QE a0 a1 a2 a3 (a1.Zz.length + 1) (nth a0.Y3 (Y5 a0.Y3 a3.Key).toNat).ZIX 0 with | z1_0 => z1_0) else (match zL a0 a1 a2 a3 (a1.Zz.length + 1) 0 0 with | z3_0 => z3_0))
def Jm (a0 : List ZB) (a1 : YH) : Nat → List Zy → Nat → (List Zy)
  | 0, _, _ => default
  | n1 + 1, v1_0, v1_1 => (bif (decide ((↑v1_1 : Int) < (↑a0.length : Int))) then (bif (((Xy (nth a0 v1_1)).2 && ((Xy (nth a0 v1_1)).1.YO == a1.YO)) && ((Xy (nth a0 v1_1)).1.Qs == a1.Qs)) then Jm a0 a1 n1 (v1_0 ++ ([(Xy (nth a0 v1_1)).1] : List Zy)) (v1_1 + 1) else Jm a0 a1 n1 v1_0 (v1_1 + 1)) else (v1_0))
def JC (a0 : List ZB) (a1 : YH) : List Zy := (match Jm a0 a1 (a0.length + 1) ([] : List Zy) 0 with | z1_0 => z1_0)
def Zh (a0 : Int) (a1 : Int) (a2 : List ZD) : List ZD := (bif (Jh a0 a1).2 then (a2 ++ ([(Jh a0 a1).1] : List ZD)) else a2)
def xg (a0 : List Zy) (a1 : Int) : Nat → Int → Int → Int → Nat → Int × Int × Int
  | 0, _, _, _, _ => (default, default, default)
  | n1 + 1, v1_0, v1_1, v1_2, v1_3 => (bif (decide ((↑v1_3 : Int) < (↑a0.length : Int))) then (bif ((nth a0 v1_3).YO != a1) then xg a0 a1 n1 v1_0 v1_1 v1_2 (v1_3 + 1) else (bif (decide ((nth a0 v1_3).XH < 0)) then xg a0 a1 n1 v1_0 v1_1 (if (nth a0 v1_3).ZO7 > v1_2 then (nth a0 v1_3).ZO7 else v1_2) (v1_3 + 1) else (bif ((decide (v1_0 < 0)) || (decide ((nth a0 v1_3).XH < v1_0))) then xg a0 a1 n1 (nth a0 v1_3).XH (if (nth a0 v1_3).XH > v1_1 then (nth a0 v1_3).XH else v1_1) v1_2 (v1_3 + 1) else xg a0 a1 n1 v1_0 (if (nth a0 v1_3).XH > v1_1 then (nth a0 v1_3).XH else v1_1) v1_2 (v1_3 + 1)))) else ((v1_0, v1_1, v1_2)))
def jo (a0 : List Zy) (a1 : Int) : Int × Int × Int := (match xg a0 a1 (a0.length + 1) (-1) (-1) (-1) 0 with | (z1_0, z1_1, z1_2) => (z1_0, z1_1, z1_2))
def Xp (a0 : List Zy) (a1 : Int) : Int := (bif (decide ((jo a0 a1).2.1 < 0)) then 10001 else (if (W ((jo a0 a1).2.2 + 1)) > (jo a0 a1).2.1 then (W ((jo a0 a1).2.2 + 1)) else (jo a0 a1).2.1))
def ZAd (z2_0 : List ZD) (z2_1 : Int) : Nat → Nat → Nat
  | 0, _ => default
  | n3 + 1, v3_0 => (bif ((decide ((↑v3_0 : Int) < (↑z2_0.length : Int))) && (decide ((nth z2_0 v3_0).YQ < z2_1))) then ZAd z2_0 z2_1 n3 (v3_0 + 1) else (v3_0))
def yK (v1_0 : List ZD) : Nat → List ZD → Nat → Int → Int → (List ZD) × Int × Int
  | 0, _, _, _, _ => (default, default, default)
  | n2 + 1, v2_0, v2_1, v2_2, v2_3 => (bif (decide ((↑v2_1 : Int) < (↑v1_0.length : Int))) then (bif ((decide ((W ((nth v1_0 v2_1).To + 1)) < v2_2)) || (decide ((W (v2_3 + 1)) < (nth v1_0 v2_1).YQ))) then yK v1_0 n2 (v2_0 ++ ([(nth v1_0 v2_1)] : List ZD)) (v2_1 + 1) v2_2 v2_3 else yK v1_0 n2 v2_0 (v2_1 + 1) (if (nth v1_0 v2_1).YQ < v2_2 then (nth v1_0 v2_1).YQ else v2_2) (if (nth v1_0 v2_1).To > v2_3 then (nth v1_0 v2_1).To else v2_3)) else ((v2_0, v2_2, v2_3)))
def yI (a0 : List ZD) : Nat → List ZD → Nat → (List ZD)
  | 0, _, _ => default
  | n1 + 1, v1_0, v1_1 => (bif (decide ((↑v1_1 : Int) < (↑a0.length : Int))) then (bif (!(YZ (nth a0 v1_1))) then yI a0 n1 v1_0 (v1_1 + 1) else (match yK v1_0 (v1_0.length + 1) ([] : List ZD) 0 (nth a0 v1_1).YQ (nth a0 v1_1).To with | (z2_0, z2_1, z2_2) => (match ZAd z2_0 z2_1 (z2_0.length + 1) 0 with | z3_0 => yI a0 n1 (((z2_0.take z3_0) ++ ([(ZD.mk z2_1 z2_2)] : List ZD)) ++ ((z2_0.drop z3_0).take (z2_0.length - z3_0))) (v1_1 + 1)))) else (v1_0))
def XU (a0 : List ZD) : List ZD := (match yI a0 (a0.length + 1) ([] : List ZD) 0 with | z1_0 => z1_0)
def xo (a0 : YH) (a1 : List Zy) : List ZD := (bif (decide (a0.YQ > 0)) then (bif (decide (a0.To < 10000)) then (XU (Zh (Xp a1 a0.YO) 10000 (Zh (W (a0.To + 1)) 10000 (Zh 0 (W (a0.YQ - 1)) ([] : List ZD))))) else (XU (Zh (Xp a1 a0.YO) 10000 (Zh 0 (W (a0.YQ - 1)) ([] : List ZD))))) else (bif (decide (a0.To < 10000)) then (XU (Zh (Xp a1 a0.YO) 10000 (Zh (W (a0.To + 1)) 10000 ([] : List ZD)))) else (XU (Zh (Xp a1 a0.YO) 10000 ([] : List ZD)))))
def jG (a0 : ZD) (a1 : ZD) : Bool := ((((YZ a0) && (YZ a1)) && (decide (a1.YQ ≤ a0.YQ))) && (decide (a0.To ≤ a1.To)))
def zx (a0 : List ZD) (a1 : ZD) : Nat → Nat → Sum Bool Unit
  | 0, _ => .inr ()
  | n1 + 1, v1_0 => (bif (decide ((↑v1_0 : Int) < (↑(XU a0).length : Int))) then (bif (jG a1 (nth (XU a0) v1_0)) then (.inl true) else zx a0 a1 n1 (v1_0 + 1)) else (.inr ()))
def JF (a0 : List ZD) (a1 : ZD) : Bool := (match zx a0 a1 ((XU a0).length + 1) 0 with | .inl r1 => r1 | .inr _ => false)
def ZBd (a0 : YH) (a1 : List Zy) (a2 : ZD) : Bool := (JF (xo a0 a1) a2)
def xP (a0 : List Zy) (a1 : Int) : Int := (bif (decide ((jo a0 a1).1 ≥ 0)) then (W ((jo a0 a1).1 - 1)) else (jo a0 a1).2.2)
def Qm (a0 : ZD) (a1 : ZD) : ZD × Bool := (bif (((!(YZ a0)) || (!(YZ a1))) || (!(YZ (ZD.mk (if a1.YQ > a0.YQ then a1.YQ else a0.YQ) (if a1.To < a0.To then a1.To else a0.To))))) then ((ZD.mk 0 0), false) else ((ZD.mk (if a1.YQ > a0.YQ then a1.YQ else a0.YQ) (if a1.To < a0.To then a1.To else a0.To)), true))
def Kt (a0 : List ZD) (a1 : List ZD) (v1_1 : Nat) : Nat → List ZD → Nat → (List ZD)
  | 0, _, _ => default
  | n2 + 1, v2_0, v2_1 => (bif (decide ((↑v2_1 : Int) < (↑a1.length : Int))) then (bif (Qm (nth a0 v1_1) (nth a1 v2_1)).2 then Kt a0 a1 v1_1 n2 (v2_0 ++ ([(Qm (nth a0 v1_1) (nth a1 v2_1)).1] : List ZD)) (v2_1 + 1) else Kt a0 a1 v1_1 n2 v2_0 (v2_1 + 1)) else (v2_0))
def jU (a0 : List ZD) (a1 : List ZD) : Nat → List ZD → Nat → (List ZD)
  | 0, _, _ => default
  | n1 + 1, v1_0, v1_1 => (bif (decide ((↑v1_1 : Int) < (↑a0.length : Int))) then (match Kt a0 a1 v1_1 (a1.length + 1) v1_0 0 with | z2_0 => jU a0 a1 n1 z2_0 (v1_1 + 1)) else (v1_0))
def ks (a0 : List ZD) (a1 : List ZD) : List ZD := (match jU a0 a1 (a0.length + 1) ([] : List ZD) 0 with | z1_0 => (XU z1_0))
def yN (a0 : YH) (a1 : List Zy) : List ZD := (ks ([(xt a0)] : List ZD) ([(ZD.mk 0 (xP a1 a0.YO))] : List ZD))
def kK (a0 : YH) (a1 : List Zy) (a2 : ZD) : Bool := (JF (yN a0 a1) a2)
def KV (a0 : List ZB) : Nat → List Z1 → Nat → (List Z1)
  | 0, _, _ => default
  | n1 + 1, v1_0, v1_1 => (bif (decide ((↑v1_1 : Int) < (↑a0.length : Int))) then (bif (QD (nth a0 v1_1)).2 then KV a0 n1 (v1_0 ++ ([(QD (nth a0 v1_1)).1] : List Z1)) (v1_1 + 1) else KV a0 n1 v1_0 (v1_1 + 1)) else (v1_0))
def yg (a0 : List ZB) : List Z1 := (match KV a0 (a0.length + 1) ([] : List Z1) 0 with | z1_0 => z1_0)
def ZAf (a0 : Z1) : Bool := ((((ZW a0.Org 1 99) && (ZW a0.ZCC 0 99)) && (ZW a0.Key 1 99)) && (YZ (ZD.mk a0.YQ a0.To)))
def JH (a0 : Z1) : List Int := ([105, a0.Org, a0.ZCC, a0.YQ, a0.To, a0.Key] : List Int)
def xh (a0 : List YC) (a1 : Z1) : Bool := (((ZAf a1) && ((ZBY a0 a1.Key) == a1.Org)) && (X7 a0 a1.Key (JH a1) a1.Mark))
def Qr (a0 : List YC) (a1 : List Z1) (a2 : Int) (a3 : Int) : Nat → List ZD → Nat → (List ZD)
  | 0, _, _ => default
  | n1 + 1, v1_0, v1_1 => (bif (decide ((↑v1_1 : Int) < (↑a1.length : Int))) then (bif ((((nth a1 v1_1).Org == a2) && ((nth a1 v1_1).ZCC == a3)) && (xh a0 (nth a1 v1_1))) then Qr a0 a1 a2 a3 n1 (v1_0 ++ ([(ZD.mk (nth a1 v1_1).YQ (nth a1 v1_1).To)] : List ZD)) (v1_1 + 1) else Qr a0 a1 a2 a3 n1 v1_0 (v1_1 + 1)) else (v1_0))
def JP (a0 : List YC) (a1 : List Z1) (a2 : Int) (a3 : Int) : List ZD := (match Qr a0 a1 a2 a3 (a1.length + 1) ([] : List ZD) 0 with | z1_0 => (XU z1_0))
def kP (a0 : List YC) (a1 : List Z1) (a2 : Int) (a3 : Int) (a4 : ZD) : Bool := (((a2 == 0) && (YZ a4)) || (JF (JP a0 a1 a2 a3) a4))
def xw (a0 : ZF) (a1 : ZI) (a2 : List (List Int)) (a3 : Int) (a4 : ZY) : Yf := (bif (!(ZBX a0)) then (ZFt 1) else (bif (!(zR a4)) then (ZDq 1) else (bif (decide (a3 < 0)) then (ZFt 2) else (bif (a3 != a4.XC) then (ZDq 2) else (bif (decide ((Y5 a0.Y3 a4.Key) < 0)) then (ZFt 3) else (bif (!(KK a0.Y3 a4)) then (ZDq 4) else (bif ((decide ((Yp a0 a1 a2 (XY a4)) ≥ (J4 a0 a4.Key))) || (decide ((Yp a0 a1 a2 (XY a4)) ≥ (zd a0.Methods a4.Method)))) then (ZFt 5) else (bif (!(QQ a0 (Zt a0 a1 a2) a4).2) then (ZFt 6) else (bif (decide ((Xt a0 a1 (Zt a0 a1 a2) a4) > (Yp a0 a1 a2 (XY a4)))) then (ZFt 7) else (bif (ZBd (QQ a0 (Zt a0 a1 a2) a4).1 (JC (Zt a0 a1 a2) (QQ a0 (Zt a0 a1 a2) a4).1) (ZD.mk (Xt a0 a1 (Zt a0 a1 a2) a4) (Yp a0 a1 a2 (XY a4)))) then (Yf.mk 2 8 (ZD.mk (Xt a0 a1 (Zt a0 a1 a2) a4) (Yp a0 a1 a2 (XY a4)))) else (bif (!(kK (QQ a0 (Zt a0 a1 a2) a4).1 (JC (Zt a0 a1 a2) (QQ a0 (Zt a0 a1 a2) a4).1) (ZD.mk (Xt a0 a1 (Zt a0 a1 a2) a4) (Yp a0 a1 a2 (XY a4))))) then (Yf.mk 3 7 (ZD.mk (Xt a0 a1 (Zt a0 a1 a2) a4) (Yp a0 a1 a2 (XY a4)))) else (bif (!(kP a0.Y3 (yg (Zt a0 a1 a2)) a4.Org (QQ a0 (Zt a0 a1 a2) a4).1.Kb (ZD.mk (Xt a0 a1 (Zt a0 a1 a2) a4) (Yp a0 a1 a2 (XY a4))))) then (Yf.mk 3 9 (ZD.mk (Xt a0 a1 (Zt a0 a1 a2) a4) (Yp a0 a1 a2 (XY a4)))) else (Yf.mk 1 0 (ZD.mk (Xt a0 a1 (Zt a0 a1 a2) a4) (Yp a0 a1 a2 (XY a4))))))))))))))))
def ZHF (a0 : ZF) (a1 : ZI) (a2 : Zg) (a3 : ZY) : Yf := (xw a0 a1 (Jo a1 a2) (xI a3.Method a2) a3)
def Ks (a0 : ZF) (a1 : Z3) : Yf := (ZHF a0 (yG a1) a1.Doc a1.Sig)
def JG (a0 : Int) : ByteArray := (bif (!(ZW a0 1 3)) then (⟨#[]⟩ : ByteArray) else (nth ([(⟨#[]⟩ : ByteArray), (⟨#[118, 97, 108, 105, 100]⟩ : ByteArray), (⟨#[105, 110, 118, 97, 108, 105, 100]⟩ : ByteArray), (⟨#[111, 112, 101, 110]⟩ : ByteArray)] : List ByteArray) a0.toNat))
def J3 (a0 : Int) : ByteArray := (bif (!(ZW a0 0 9)) then (⟨#[]⟩ : ByteArray) else (nth ([(⟨#[110, 111, 110, 101]⟩ : ByteArray), (⟨#[102, 111, 114, 109]⟩ : ByteArray), (⟨#[100, 111, 99, 117, 109, 101, 110, 116]⟩ : ByteArray), (⟨#[107, 101, 121]⟩ : ByteArray), (⟨#[109, 97, 114, 107]⟩ : ByteArray), (⟨#[98, 114, 111, 107, 101, 110]⟩ : ByteArray), (⟨#[99, 101, 114, 116, 105, 102, 105, 99, 97, 116, 101]⟩ : ByteArray), (⟨#[116, 105, 109, 101]⟩ : ByteArray), (⟨#[101, 110, 100, 101, 100]⟩ : ByteArray), (⟨#[109, 97, 110, 100, 97, 116, 101]⟩ : ByteArray)] : List ByteArray) a0.toNat))
def Ji (a0 : Yf) : ByteArray := (bif ((decide ((JG a0.Code) = (⟨#[]⟩ : ByteArray))) || (decide ((J3 a0.Reason) = (⟨#[]⟩ : ByteArray)))) then (⟨#[]⟩ : ByteArray) else (bif ((a0.Span.YQ == 0) && (a0.Span.To == 0)) then (((JG a0.Code) ++ (⟨#[32]⟩ : ByteArray)) ++ (J3 a0.Reason)) else (((((((JG a0.Code) ++ (⟨#[32]⟩ : ByteArray)) ++ (J3 a0.Reason)) ++ (⟨#[32]⟩ : ByteArray)) ++ (XJ a0.Span.YQ)) ++ (⟨#[45]⟩ : ByteArray)) ++ (XJ a0.Span.To))))
def Qi (a0 : ZF) (a1 : Z3) : ByteArray := ((((((((((⟨#[35]⟩ : ByteArray) ++ (XJ a1.Id)) ++ (⟨#[32, 107]⟩ : ByteArray)) ++ (XJ a1.Sig.Key)) ++ (⟨#[32]⟩ : ByteArray)) ++ (XJ (↑a1.Y7.ZZ.length : Int))) ++ (⟨#[47]⟩ : ByteArray)) ++ (XJ (↑a1.Y7.ZR.length : Int))) ++ (⟨#[32]⟩ : ByteArray)) ++ (Ji (Ks a0 a1)))
def ZF6 (a0 : YC) (a1 : YC) : Bool := (bif (a0.Number != a1.Number) then false else (bif (a0.Kb != a1.Kb) then false else (bif (a0.Method != a1.Method) then false else (bif (a0.ZIX != a1.ZIX) then false else (bif (a0.kp != a1.kp) then false else true)))))
def ZEK (a0 : List YC) (a1 : List YC) : Nat → Nat → Sum Bool Unit
  | 0, _ => .inr ()
  | n1 + 1, v1_0 => (bif (decide ((↑v1_0 : Int) < (↑a0.length : Int))) then (bif (!(ZF6 (nth a0 v1_0) (nth a1 v1_0))) then (.inl false) else ZEK a0 a1 n1 (v1_0 + 1)) else (.inr ()))
def ZFi (a0 : List YC) (a1 : List YC) : Bool := (bif ((↑a0.length : Int) != (↑a1.length : Int)) then false else (match ZEK a0 a1 (a0.length + 1) 0 with | .inl r1 => r1 | .inr _ => true))
def y9 (a0 : ZE) (a1 : ZE) : Bool := (bif (a0.Id != a1.Id) then false else (bif (a0.Key != a1.Key) then false else (bif (a0.Error != a1.Error) then false else true)))
def qH (a0 : List ZE) (a1 : List ZE) : Nat → Nat → Sum Bool Unit
  | 0, _ => .inr ()
  | n1 + 1, v1_0 => (bif (decide ((↑v1_0 : Int) < (↑a0.length : Int))) then (bif (!(y9 (nth a0 v1_0) (nth a1 v1_0))) then (.inl false) else qH a0 a1 n1 (v1_0 + 1)) else (.inr ()))
def xN (a0 : List ZE) (a1 : List ZE) : Bool := (bif ((↑a0.length : Int) != (↑a1.length : Int)) then false else (match qH a0 a1 (a0.length + 1) 0 with | .inl r1 => r1 | .inr _ => true))
def kc (a0 : Zl) (a1 : Zl) : Bool := (bif (a0.Id != a1.Id) then false else (bif (a0.ZDY != a1.ZDY) then false else (bif (a0.Ends != a1.Ends) then false else (bif (a0.kj != a1.kj) then false else true))))
def ZAN (a0 : List Zl) (a1 : List Zl) : Nat → Nat → Sum Bool Unit
  | 0, _ => .inr ()
  | n1 + 1, v1_0 => (bif (decide ((↑v1_0 : Int) < (↑a0.length : Int))) then (bif (!(kc (nth a0 v1_0) (nth a1 v1_0))) then (.inl false) else ZAN a0 a1 n1 (v1_0 + 1)) else (.inr ()))
def ZAm (a0 : List Zl) (a1 : List Zl) : Bool := (bif ((↑a0.length : Int) != (↑a1.length : Int)) then false else (match ZAN a0 a1 (a0.length + 1) 0 with | .inl r1 => r1 | .inr _ => true))
def km (a0 : ZF) (a1 : ZF) : Bool := (bif (!(ZFi a0.Y3 a1.Y3)) then false else (bif (!(xN a0.ZT a1.ZT)) then false else (bif (!(ZAm a0.Methods a1.Methods)) then false else (bif (a0.Q6 != a1.Q6) then false else (bif (a0.Now != a1.Now) then false else true)))))
def ZAG (a0 : List ByteArray) (a1 : List ByteArray) : Nat → Nat → Sum Bool Unit
  | 0, _ => .inr ()
  | n1 + 1, v1_0 => (bif (decide ((↑v1_0 : Int) < (↑a0.length : Int))) then (bif (!decide ((nth a0 v1_0) = (nth a1 v1_0))) then (.inl false) else ZAG a0 a1 n1 (v1_0 + 1)) else (.inr ()))
def ZAR (a0 : List ByteArray) (a1 : List ByteArray) : Bool := (bif ((↑a0.length : Int) != (↑a1.length : Int)) then false else (match ZAG a0 a1 (a0.length + 1) 0 with | .inl r1 => r1 | .inr _ => true))
def ZEO (a0 : List Int) (a1 : List Int) : Nat → Nat → Sum Bool Unit
  | 0, _ => .inr ()
  | n1 + 1, v1_0 => (bif (decide ((↑v1_0 : Int) < (↑a0.length : Int))) then (bif ((nth a0 v1_0) != (nth a1 v1_0)) then (.inl false) else ZEO a0 a1 n1 (v1_0 + 1)) else (.inr ()))
def qY (a0 : List Int) (a1 : List Int) : Bool := (bif ((↑a0.length : Int) != (↑a1.length : Int)) then false else (match ZEO a0 a1 (a0.length + 1) 0 with | .inl r1 => r1 | .inr _ => true))
def jv (a0 : Zg) (a1 : Zg) : Bool := (bif (a0.kW != a1.kW) then false else (bif (!(ZAR a0.Yx a1.Yx)) then false else (bif (!(qY a0.Xl a1.Xl)) then false else true)))
def qm (a0 : ZY) (a1 : ZY) : Bool := (bif (a0.Key != a1.Key) then false else (bif (a0.YO != a1.YO) then false else (bif (a0.Method != a1.Method) then false else (bif (a0.XC != a1.XC) then false else (bif (a0.ZAx != a1.ZAx) then false else (bif (a0.Org != a1.Org) then false else (bif (a0.ZA1 != a1.ZA1) then false else (bif (a0.xD != a1.xD) then false else (bif (a0.Mark != a1.Mark) then false else true)))))))))
def ZBU (a0 : ZB) (a1 : ZB) : Bool := (bif (a0.Key != a1.Key) then false else (bif (!(qY a0.Zb a1.Zb)) then false else (bif (a0.Mark != a1.Mark) then false else true)))
def ZBK (a0 : List ZB) (a1 : List ZB) : Nat → Nat → Sum Bool Unit
  | 0, _ => .inr ()
  | n1 + 1, v1_0 => (bif (decide ((↑v1_0 : Int) < (↑a0.length : Int))) then (bif (!(ZBU (nth a0 v1_0) (nth a1 v1_0))) then (.inl false) else ZBK a0 a1 n1 (v1_0 + 1)) else (.inr ()))
def ZBu (a0 : List ZB) (a1 : List ZB) : Bool := (bif ((↑a0.length : Int) != (↑a1.length : Int)) then false else (match ZBK a0 a1 (a0.length + 1) 0 with | .inl r1 => r1 | .inr _ => true))
def ZDa (a0 : XG) (a1 : XG) : Bool := (bif (a0.XC != a1.XC) then false else (bif (!(a0.Left == a1.Left)) then false else true))
def ZCn (a0 : List XG) (a1 : List XG) : Nat → Nat → Sum Bool Unit
  | 0, _ => .inr ()
  | n1 + 1, v1_0 => (bif (decide ((↑v1_0 : Int) < (↑a0.length : Int))) then (bif (!(ZDa (nth a0 v1_0) (nth a1 v1_0))) then (.inl false) else ZCn a0 a1 n1 (v1_0 + 1)) else (.inr ()))
def ZDp (a0 : List XG) (a1 : List XG) : Bool := (bif ((↑a0.length : Int) != (↑a1.length : Int)) then false else (match ZCn a0 a1 (a0.length + 1) 0 with | .inl r1 => r1 | .inr _ => true))
def ZBS (a0 : Za) (a1 : Za) : Bool := (bif (a0.Authority != a1.Authority) then false else (bif (a0.Seq != a1.Seq) then false else (bif (a0.Time != a1.Time) then false else (bif (a0.XC != a1.XC) then false else (bif (a0.Mark != a1.Mark) then false else true)))))
def ZBG (a0 : List Za) (a1 : List Za) : Nat → Nat → Sum Bool Unit
  | 0, _ => .inr ()
  | n1 + 1, v1_0 => (bif (decide ((↑v1_0 : Int) < (↑a0.length : Int))) then (bif (!(ZBS (nth a0 v1_0) (nth a1 v1_0))) then (.inl false) else ZBG a0 a1 n1 (v1_0 + 1)) else (.inr ()))
def ZB6 (a0 : List Za) (a1 : List Za) : Bool := (bif ((↑a0.length : Int) != (↑a1.length : Int)) then false else (match ZBG a0 a1 (a0.length + 1) 0 with | .inl r1 => r1 | .inr _ => true))
def jd (a0 : ZS) (a1 : ZS) : Bool := (bif (a0.Count != a1.Count) then false else (bif (a0.Method != a1.Method) then false else (bif (a0.ZIY != a1.ZIY) then false else (bif (!(ZDp a0.Path a1.Path)) then false else (bif (!(ZB6 a0.Zi a1.Zi)) then false else true)))))
def kM (a0 : List ZS) (a1 : List ZS) : Nat → Nat → Sum Bool Unit
  | 0, _ => .inr ()
  | n1 + 1, v1_0 => (bif (decide ((↑v1_0 : Int) < (↑a0.length : Int))) then (bif (!(jd (nth a0 v1_0) (nth a1 v1_0))) then (.inl false) else kM a0 a1 n1 (v1_0 + 1)) else (.inr ()))
def kB (a0 : List ZS) (a1 : List ZS) : Bool := (bif ((↑a0.length : Int) != (↑a1.length : Int)) then false else (match kM a0 a1 (a0.length + 1) 0 with | .inl r1 => r1 | .inr _ => true))
def ZBb (a0 : ZN) (a1 : ZN) : Bool := (bif (!(ZBu a0.ZZ a1.ZZ)) then false else (bif (!(kB a0.ZR a1.ZR)) then false else true))
def ZCF (a0 : Z3) (a1 : Z3) : Bool := (bif (a0.Id != a1.Id) then false else (bif (a0.Xq != a1.Xq) then false else (bif (!(jv a0.Doc a1.Doc)) then false else (bif (!(qm a0.Sig a1.Sig)) then false else (bif (!(ZBb a0.Y7 a1.Y7)) then false else true)))))
def zS (a0 : ZF) (a1 : Z3) : Bool := (bif (decide ((Zx a0 1048576) < 0)) then true else (bif (decide ((xY a1 (Zx a0 1048576)) < 0)) then true else (bif (!decide ((Qi a0 a1) = (Jz a0 a1))) then false else (bif (!(km a0 a0)) then false else (bif (!(ZCF a1 a1)) then false else true)))))
def jh (a0 : List Z3) : Nat → Int → Nat → Sum Int Int
  | 0, _, _ => .inr default
  | n1 + 1, v1_0, v1_1 => (bif (decide ((↑v1_1 : Int) < (↑a0.length : Int))) then (bif (decide ((xY (nth a0 v1_1) v1_0) < 0)) then (.inl (-1)) else jh a0 n1 (xY (nth a0 v1_1) v1_0) (v1_1 + 1)) else (.inr v1_0))
def Ko (a0 : List Z3) (a1 : Int) : Int := (bif (decide ((W (a1 - (↑a0.length : Int))) < 0)) then (-1) else (match jh a0 (a0.length + 1) (W (a1 - (↑a0.length : Int))) 0 with | .inl r1 => r1 | .inr z1_0 => z1_0))
def Qn (a0 : Zc) (a1 : Int) : Int := (bif (decide ((Ko a0.Z5 a1) < 0)) then (-1) else (Ko a0.Z5 a1))
def ZCa (a0 : List Z3) : Nat → Nat → List Z3 → (List Z3)
  | 0, _, _ => default
  | n1 + 1, v1_0, v1_1 => (bif (decide ((↑v1_0 : Int) < (↑a0.length : Int))) then ZCa a0 n1 (v1_0 + 1) (v1_1.set v1_0 (nth a0 v1_0)) else (v1_1))
def ZID (a0 : List Z3) : List Z3 := (match ZCa a0 (a0.length + 1) 0 (List.replicate a0.length (Z3.mk 0 0 (Zg.mk 0 ([] : List ByteArray) ([] : List Int)) (ZY.mk 0 0 0 0 0 0 0 0 0) (ZN.mk ([] : List ZB) ([] : List ZS)))) with | z1_0 => z1_0)
def ZCP (a0 : Zc) : Zc := a0
def Jd (a0 : ZF) (a1 : Zc) : Nat → ByteArray → Nat → ByteArray
  | 0, _, _ => default
  | n1 + 1, v1_0, v1_1 => (bif (decide ((↑v1_1 : Int) < (↑a1.Z5.length : Int))) then (bif (decide ((↑v1_1 : Int) > 0)) then Jd a0 a1 n1 ((v1_0 ++ (⟨#[59, 32]⟩ : ByteArray)) ++ (Jz a0 (nth a1.Z5 v1_1))) (v1_1 + 1) else Jd a0 a1 n1 (v1_0 ++ (Jz a0 (nth a1.Z5 v1_1))) (v1_1 + 1)) else (v1_0))
def yp (a0 : ZF) (a1 : Zc) : ByteArray := (bif ((↑a1.Z5.length : Int) == 0) then (⟨#[45]⟩ : ByteArray) else (match Jd a0 a1 (a1.Z5.length + 1) (⟨#[]⟩ : ByteArray) 0 with | z1_0 => z1_0))
def KY (a0 : List ByteArray) (a1 : ByteArray) : Nat → ByteArray → Nat → ByteArray
  | 0, _, _ => default
  | n1 + 1, v1_0, v1_1 => (bif (decide ((↑v1_1 : Int) < (↑a0.length : Int))) then (bif (decide ((↑v1_1 : Int) > 0)) then KY a0 a1 n1 ((v1_0 ++ a1) ++ (nth a0 v1_1)) (v1_1 + 1) else KY a0 a1 n1 (v1_0 ++ (nth a0 v1_1)) (v1_1 + 1)) else (v1_0))
def xX (a0 : List ByteArray) (a1 : ByteArray) : ByteArray := (match KY a0 a1 (a0.length + 1) (⟨#[]⟩ : ByteArray) 0 with | z1_0 => z1_0)
def ZHR (a0 : List ByteArray) (a1 : ByteArray) : ByteArray := (bif ((↑a0.length : Int) == 0) then (⟨#[45]⟩ : ByteArray) else (xX a0 a1))
def xC (a0 : ZF) (a1 : Zc) : Nat → List ByteArray → Nat → (List ByteArray)
  | 0, _, _ => default
  | n1 + 1, v1_0, v1_1 => (bif (decide ((↑v1_1 : Int) < (↑a1.Z5.length : Int))) then xC a0 a1 n1 (v1_0 ++ ([(Qi a0 (nth a1.Z5 v1_1))] : List ByteArray)) (v1_1 + 1) else (v1_0))
def yx (a0 : ZF) (a1 : Zc) : ByteArray := (match xC a0 a1 (a1.Z5.length + 1) ([] : List ByteArray) 0 with | z1_0 => (ZHR z1_0 (⟨#[59, 32]⟩ : ByteArray)))
def ZCk (a0 : List Z3) (a1 : List Z3) : Nat → Nat → Sum Bool Unit
  | 0, _ => .inr ()
  | n1 + 1, v1_0 => (bif (decide ((↑v1_0 : Int) < (↑a0.length : Int))) then (bif (!(ZCF (nth a0 v1_0) (nth a1 v1_0))) then (.inl false) else ZCk a0 a1 n1 (v1_0 + 1)) else (.inr ()))
def ZDR (a0 : List Z3) (a1 : List Z3) : Bool := (bif ((↑a0.length : Int) != (↑a1.length : Int)) then false else (match ZCk a0 a1 (a0.length + 1) 0 with | .inl r1 => r1 | .inr _ => true))
def xn (a0 : Zc) (a1 : Zc) : Bool := (bif (a0.Id != a1.Id) then false else (bif (!(ZDR a0.Z5 a1.Z5)) then false else true))
def Jv (a0 : ZF) (a1 : Zc) : Bool := (bif (decide ((Zx a0 1048576) < 0)) then true else (bif (decide ((Qn a1 (Zx a0 1048576)) < 0)) then true else (bif (!decide ((yx a0 a1) = (yp a0 a1))) then false else (bif (!(km a0 a0)) then false else (bif (!(xn a1 a1)) then false else true)))))
def YW (a0 : List YH) (a1 : Int) : Int := (bif (decide ((W (a1 - (↑a0.length : Int))) < 0)) then (-1) else (W (a1 - (↑a0.length : Int))))
def yD (a0 : List Zc) : Nat → Int → Nat → Sum Int Int
  | 0, _, _ => .inr default
  | n1 + 1, v1_0, v1_1 => (bif (decide ((↑v1_1 : Int) < (↑a0.length : Int))) then (bif (decide ((Qn (nth a0 v1_1) v1_0) < 0)) then (.inl (-1)) else yD a0 n1 (Qn (nth a0 v1_1) v1_0) (v1_1 + 1)) else (.inr v1_0))
def Ya (a0 : List Zc) (a1 : Int) : Int := (bif (decide ((W (a1 - (↑a0.length : Int))) < 0)) then (-1) else (match yD a0 (a0.length + 1) (W (a1 - (↑a0.length : Int))) 0 with | .inl r1 => r1 | .inr z1_0 => z1_0))
def Qx (a0 : YD) (a1 : Int) : Int := (bif (decide ((Zx a0.Frame a1) < 0)) then (-1) else (bif (decide ((YW a0.Xg (Zx a0.Frame a1)) < 0)) then (-1) else (bif (decide ((Zv a0.XH (YW a0.Xg (Zx a0.Frame a1))) < 0)) then (-1) else (bif (decide ((Ya a0.ZH (Zv a0.XH (YW a0.Xg (Zx a0.Frame a1)))) < 0)) then (-1) else (bif (decide ((Zv a0.kX (Ya a0.ZH (Zv a0.XH (YW a0.Xg (Zx a0.Frame a1))))) < 0)) then (-1) else (bif (decide ((Zv a0.xU (Zv a0.kX (Ya a0.ZH (Zv a0.XH (YW a0.Xg (Zx a0.Frame a1)))))) < 0)) then (-1) else (bif (decide ((Zv a0.KW (Zv a0.xU (Zv a0.kX (Ya a0.ZH (Zv a0.XH (YW a0.Xg (Zx a0.Frame a1))))))) < 0)) then (-1) else (Zv a0.KW (Zv a0.xU (Zv a0.kX (Ya a0.ZH (Zv a0.XH (YW a0.Xg (Zx a0.Frame a1))))))))))))))
def ZHv (a0 : YH) : YH := a0
def ZCe (a0 : List YH) : Nat → Nat → List YH → (List YH)
  | 0, _, _ => default
  | n1 + 1, v1_0, v1_1 => (bif (decide ((↑v1_0 : Int) < (↑a0.length : Int))) then ZCe a0 n1 (v1_0 + 1) (v1_1.set v1_0 (nth a0 v1_0)) else (v1_1))
def ZIH (a0 : List YH) : List YH := (match ZCe a0 (a0.length + 1) 0 (List.replicate a0.length (YH.mk 0 0 0 0 0 0 0)) with | z1_0 => z1_0)
def jn (a0 : List Zc) : Nat → Nat → List Zc → (List Zc)
  | 0, _, _ => default
  | n1 + 1, v1_0, v1_1 => (bif (decide ((↑v1_0 : Int) < (↑a0.length : Int))) then jn a0 n1 (v1_0 + 1) (v1_1.set v1_0 (nth a0 v1_0)) else (v1_1))
def ZD9 (a0 : List Zc) : List Zc := (match jn a0 (a0.length + 1) 0 (List.replicate a0.length (Zc.mk 0 ([] : List Z3))) with | z1_0 => z1_0)
def ZF8 (a0 : YD) : YD := a0
def qM (a0 : Zc) (a1 : Int) : Nat → Nat → Sum Int Unit
  | 0, _ => .inr ()
  | n1 + 1, v1_0 => (bif (decide ((↑v1_0 : Int) < (↑a0.Z5.length : Int))) then (bif ((nth a0.Z5 v1_0).Id == a1) then (.inl (↑v1_0 : Int)) else qM a0 a1 n1 (v1_0 + 1)) else (.inr ()))
def xR (a0 : Zc) (a1 : Int) : Int := (match qM a0 a1 (a0.Z5.length + 1) 0 with | .inl r1 => r1 | .inr _ => (-1))
def xV (a0 : YD) (a1 : Int) : Nat → Nat → Sum (Int × Int) Unit
  | 0, _ => .inr ()
  | n1 + 1, v1_0 => (bif (decide ((↑v1_0 : Int) < (↑a0.ZH.length : Int))) then (bif (decide ((xR (nth a0.ZH v1_0) a1) ≥ 0)) then (.inl ((↑v1_0 : Int), (xR (nth a0.ZH v1_0) a1))) else xV a0 a1 n1 (v1_0 + 1)) else (.inr ()))
def QZ (a0 : YD) (a1 : Int) : Int × Int := (match xV a0 a1 (a0.ZH.length + 1) 0 with | .inl r1 => r1 | .inr _ => ((-1), (-1)))
def zN (a0 : YD) (a1 : Int) : Yf := (bif (decide ((QZ a0 a1).1 < 0)) then (Yf.mk 0 0 (ZD.mk 0 0)) else (Kr a0.Frame (nth (nth a0.ZH (QZ a0 a1).1.toNat).Z5 (QZ a0 a1).2.toNat)))
def qC (a0 : Zc) (a1 : Int) : Nat → Nat → Sum Int Unit
  | 0, _ => .inr ()
  | n1 + 1, v1_0 => (bif (decide ((↑v1_0 : Int) < (↑a0.Z5.length : Int))) then (bif ((nth a0.Z5 v1_0).Id == a1) then (.inl (↑v1_0 : Int)) else qC a0 a1 n1 (v1_0 + 1)) else (.inr ()))
def xK (a0 : Zc) (a1 : Int) : Int := (match qC a0 a1 (a0.Z5.length + 1) 0 with | .inl r1 => r1 | .inr _ => (-1))
def xH (a0 : YD) (a1 : Int) : Nat → Nat → Sum (Int × Int) Unit
  | 0, _ => .inr ()
  | n1 + 1, v1_0 => (bif (decide ((↑v1_0 : Int) < (↑a0.ZH.length : Int))) then (bif (decide ((xK (nth a0.ZH v1_0) a1) ≥ 0)) then (.inl ((↑v1_0 : Int), (xK (nth a0.ZH v1_0) a1))) else xH a0 a1 n1 (v1_0 + 1)) else (.inr ()))
def QY (a0 : YD) (a1 : Int) : Int × Int := (match xH a0 a1 (a0.ZH.length + 1) 0 with | .inl r1 => r1 | .inr _ => ((-1), (-1)))
def zP (a0 : YD) (a1 : Int) : Yf := (bif (decide ((QY a0 a1).1 < 0)) then (Yf.mk 0 0 (ZD.mk 0 0)) else (Ks a0.Frame (nth (nth a0.ZH (QY a0 a1).1.toNat).Z5 (QY a0 a1).2.toNat)))
def ZE9 (a0 : ZD) (a1 : ZD) : Bool := (bif (a0.YQ != a1.YQ) then false else (bif (a0.To != a1.To) then false else true))
def ZAQ (a0 : Yf) (a1 : Yf) : Bool := (bif (a0.Code != a1.Code) then false else (bif (a0.Reason != a1.Reason) then false else (bif (!(ZE9 a0.Span a1.Span)) then false else true)))
def ZDs (a0 : YH) (a1 : YH) : Bool := (bif (a0.YO != a1.YO) then false else (bif (a0.Key != a1.Key) then false else (bif (a0.Kb != a1.Kb) then false else (bif (a0.YQ != a1.YQ) then false else (bif (a0.To != a1.To) then false else (bif (a0.Qs != a1.Qs) then false else (bif (a0.Mark != a1.Mark) then false else true)))))))
def ZCN (a0 : List YH) (a1 : List YH) : Nat → Nat → Sum Bool Unit
  | 0, _ => .inr ()
  | n1 + 1, v1_0 => (bif (decide ((↑v1_0 : Int) < (↑a0.length : Int))) then (bif (!(ZDs (nth a0 v1_0) (nth a1 v1_0))) then (.inl false) else ZCN a0 a1 n1 (v1_0 + 1)) else (.inr ()))
def ZDl (a0 : List YH) (a1 : List YH) : Bool := (bif ((↑a0.length : Int) != (↑a1.length : Int)) then false else (match ZCN a0 a1 (a0.length + 1) 0 with | .inl r1 => r1 | .inr _ => true))
def kH (a0 : List Zc) (a1 : List Zc) : Nat → Nat → Sum Bool Unit
  | 0, _ => .inr ()
  | n1 + 1, v1_0 => (bif (decide ((↑v1_0 : Int) < (↑a0.length : Int))) then (bif (!(xn (nth a0 v1_0) (nth a1 v1_0))) then (.inl false) else kH a0 a1 n1 (v1_0 + 1)) else (.inr ()))
def kR (a0 : List Zc) (a1 : List Zc) : Bool := (bif ((↑a0.length : Int) != (↑a1.length : Int)) then false else (match kH a0 a1 (a0.length + 1) 0 with | .inl r1 => r1 | .inr _ => true))
def kb (a0 : YD) (a1 : YD) : Bool := (bif (!(km a0.Frame a1.Frame)) then false else (bif (!(ZDl a0.Xg a1.Xg)) then false else (bif (!(qY a0.XH a1.XH)) then false else (bif (!(kR a0.ZH a1.ZH)) then false else (bif (!(qY a0.kX a1.kX)) then false else (bif (!(qY a0.xU a1.xU)) then false else (bif (a0.Next != a1.Next) then false else (bif (!(qY a0.KW a1.KW)) then false else true))))))))
def zA (a0 : YD) (a1 : Int) : Bool := (bif (decide ((Qx a0 1048576) < 0)) then true else (bif (!(ZAQ (zP a0 a1) (zN a0 a1))) then false else (bif (!(kb a0 a0)) then false else true)))
def ZBw (a0 : YD) (v1_1 : Nat) : Nat → List Int → Nat → (List Int)
  | 0, _, _ => default
  | n2 + 1, v2_0, v2_1 => (bif (decide ((↑v2_1 : Int) < (↑(nth a0.ZH v1_1).Z5.length : Int))) then ZBw a0 v1_1 n2 (v2_0 ++ ([(nth (nth a0.ZH v1_1).Z5 v2_1).Id] : List Int)) (v2_1 + 1) else (v2_0))
def ZCA (a0 : YD) : Nat → List Int → Nat → (List Int)
  | 0, _, _ => default
  | n1 + 1, v1_0, v1_1 => (bif (decide ((↑v1_1 : Int) < (↑a0.ZH.length : Int))) then (match ZBw a0 v1_1 ((nth a0.ZH v1_1).Z5.length + 1) v1_0 0 with | z2_0 => ZCA a0 n1 z2_0 (v1_1 + 1)) else (v1_0))
def KZ (a0 : YD) : List Int := (match ZCA a0 (a0.ZH.length + 1) ([] : List Int) 0 with | z1_0 => z1_0)
def Jc (a0 : YD) (a1 : Int) : Nat → Int → Nat → Int
  | 0, _, _ => default
  | n1 + 1, v1_0, v1_1 => (bif (decide ((↑v1_1 : Int) < (↑(KZ a0).length : Int))) then (bif ((zN a0 (nth (KZ a0) v1_1)).Code == a1) then Jc a0 a1 n1 (W (v1_0 + 1)) (v1_1 + 1) else Jc a0 a1 n1 v1_0 (v1_1 + 1)) else (v1_0))
def XQ (a0 : YD) (a1 : Int) : Int := (match Jc a0 a1 ((KZ a0).length + 1) 0 0 with | z1_0 => z1_0)
def ZCp (a0 : YD) : Nat → List Z3 → Nat → (List Z3)
  | 0, _, _ => default
  | n1 + 1, v1_0, v1_1 => (bif (decide ((↑v1_1 : Int) < (↑a0.ZH.length : Int))) then ZCp a0 n1 (v1_0 ++ (nth a0.ZH v1_1).Z5) (v1_1 + 1) else (v1_0))
def X1 (a0 : YD) : List Z3 := (match ZCp a0 (a0.ZH.length + 1) ([] : List Z3) 0 with | z1_0 => z1_0)
def JY (a0 : YD) (a1 : Int) : Nat → Int → Nat → Int
  | 0, _, _ => default
  | n1 + 1, v1_0, v1_1 => (bif (decide ((↑v1_1 : Int) < (↑(X1 a0).length : Int))) then (bif ((zP a0 (nth (X1 a0) v1_1).Id).Code == a1) then JY a0 a1 n1 (W (v1_0 + 1)) (v1_1 + 1) else JY a0 a1 n1 v1_0 (v1_1 + 1)) else (v1_0))
def Xw (a0 : YD) (a1 : Int) : Int := (match JY a0 a1 ((X1 a0).length + 1) 0 0 with | z1_0 => z1_0)
def Jy (a0 : YD) (a1 : Int) : Bool := (bif (decide ((Qx a0 1048576) < 0)) then true else (bif ((Xw a0 a1) != (XQ a0 a1)) then false else (bif (!(kb a0 a0)) then false else true)))
def Kn (a0 : YD) : Nat → ByteArray → Nat → ByteArray
  | 0, _, _ => default
  | n1 + 1, v1_0, v1_1 => (bif (decide ((↑v1_1 : Int) < (↑a0.ZH.length : Int))) then (bif (decide ((↑v1_1 : Int) > 0)) then Kn a0 n1 ((v1_0 ++ (⟨#[43]⟩ : ByteArray)) ++ (XT (↑(nth a0.ZH v1_1).Z5.length : Int))) (v1_1 + 1) else Kn a0 n1 (v1_0 ++ (XT (↑(nth a0.ZH v1_1).Z5.length : Int))) (v1_1 + 1)) else (v1_0))
def qp (a0 : YD) : ByteArray := (match Kn a0 (a0.ZH.length + 1) ((XT a0.Frame.Now) ++ (⟨#[32]⟩ : ByteArray)) 0 with | z1_0 => ((((((((z1_0 ++ (⟨#[32]⟩ : ByteArray)) ++ (XT (XQ a0 1))) ++ (⟨#[47]⟩ : ByteArray)) ++ (XT (XQ a0 2))) ++ (⟨#[47]⟩ : ByteArray)) ++ (XT (XQ a0 3))) ++ (⟨#[32]⟩ : ByteArray)) ++ (XT (↑a0.KW.length : Int))))
def yz (a0 : YD) : Nat → List ByteArray → Nat → (List ByteArray)
  | 0, _, _ => default
  | n2 + 1, v2_0, v2_1 => (bif (decide ((↑v2_1 : Int) ≤ 3)) then yz a0 n2 (v2_0 ++ ([(XJ (Xw a0 (↑v2_1 : Int)))] : List ByteArray)) (v2_1 + 1) else (v2_0))
def qz (a0 : YD) : Nat → List ByteArray → Nat → (List ByteArray)
  | 0, _, _ => default
  | n1 + 1, v1_0, v1_1 => (bif (decide ((↑v1_1 : Int) < (↑a0.ZH.length : Int))) then qz a0 n1 (v1_0 ++ ([(XJ (↑(nth a0.ZH v1_1).Z5.length : Int))] : List ByteArray)) (v1_1 + 1) else (v1_0))
def qo (a0 : YD) : ByteArray := (match qz a0 (a0.ZH.length + 1) ([] : List ByteArray) 0 with | z1_0 => (match yz a0 5 ([] : List ByteArray) 1 with | z2_0 => (((((((XJ a0.Frame.Now) ++ (⟨#[32]⟩ : ByteArray)) ++ (xX z1_0 (⟨#[43]⟩ : ByteArray))) ++ (⟨#[32]⟩ : ByteArray)) ++ (xX z2_0 (⟨#[47]⟩ : ByteArray))) ++ (⟨#[32]⟩ : ByteArray)) ++ (XJ (↑a0.KW.length : Int)))))
def Kq (a0 : YD) : Bool := (bif (decide ((Qx a0 1048576) < 0)) then true else (bif (!decide ((qo a0) = (qp a0))) then false else (bif (!(kb a0 a0)) then false else true)))
end Go.Mo
