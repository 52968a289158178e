/- Models of the functions: what each computes, on typed data. No condition. -/
import Derived.Test.YtdkobknehoecjaaGreatMo
namespace Go.Mo
open Go.Vm
def JL (a0 : List YR) (a1 : Int) : Int := (bif (decide ((W (a1 - (a0.length : Int))) < 0)) then (-1) else (W (a1 - (a0.length : Int))))
def Xg (a0 : List ZQ) (a1 : Int) : Int := (bif (decide ((W (a1 - (a0.length : Int))) < 0)) then (-1) else (W (a1 - (a0.length : Int))))
def z8 (a0 : List Zf) (a1 : Int) : Int := (bif (decide ((W (a1 - (a0.length : Int))) < 0)) then (-1) else (W (a1 - (a0.length : Int))))
def YJ (a0 : Z8) (a1 : Int) : Int := (bif (decide ((JL a0.Zq a1) < 0)) then (-1) else (bif (decide ((Xg a0.ZG (JL a0.Zq a1)) < 0)) then (-1) else (bif (decide ((z8 a0.Methods (Xg a0.ZG (JL a0.Zq a1))) < 0)) then (-1) else (z8 a0.Methods (Xg a0.ZG (JL a0.Zq a1))))))
def Yl (a0 : List Z1) (a1 : Int) : Int := (bif (decide ((W (a1 - (a0.length : Int))) < 0)) then (-1) else (W (a1 - (a0.length : Int))))
def Zy (a0 : List Int) (a1 : Int) : Int := (bif (decide ((W (a1 - (a0.length : Int))) < 0)) then (-1) else (W (a1 - (a0.length : Int))))
def qM (a0 : List ByteArray) : Nat -> Int -> Nat -> Sum Int Int
  | 0, _, _ => .inr default
  | n1 + 1, J, U => (bif (decide ((U : Int) < (a0.length : Int))) then (bif (decide ((W (J - ((nth a0 U).size : Int))) < 0)) then (.inl (-1)) else qM a0 n1 (W (J - ((nth a0 U).size : Int))) (U + 1)) else (.inr J))
def Qo (a0 : List ByteArray) (a1 : Int) : Int := (bif (decide ((W (a1 - (a0.length : Int))) < 0)) then (-1) else (match qM a0 (a0.length + 1) (W (a1 - (a0.length : Int))) 0 with | .inl r1 => r1 | .inr z1_0 => z1_0))
def Yq (a0 : ZV) (a1 : Int) : Int := (bif (decide ((Qo a0.ZN a1) < 0)) then (-1) else (bif (decide ((Zy a0.ZR (Qo a0.ZN a1)) < 0)) then (-1) else (Zy a0.ZR (Qo a0.ZN a1))))
def jE (a0 : ZO) (a1 : Int) : Int := (bif (decide ((Zy a0.YP a1) < 0)) then (-1) else (Zy a0.YP a1))
def jn (a0 : List ZO) : Nat -> Int -> Nat -> Sum Int Int
  | 0, _, _ => .inr default
  | n1 + 1, J, U => (bif (decide ((U : Int) < (a0.length : Int))) then (bif (decide ((jE (nth a0 U) J) < 0)) then (.inl (-1)) else jn a0 n1 (jE (nth a0 U) J) (U + 1)) else (.inr J))
def Je (a0 : List ZO) (a1 : Int) : Int := (bif (decide ((W (a1 - (a0.length : Int))) < 0)) then (-1) else (match jn a0 (a0.length + 1) (W (a1 - (a0.length : Int))) 0 with | .inl r1 => r1 | .inr z1_0 => z1_0))
def KD (a0 : List Zv) (a1 : Int) : Int := (bif (decide ((W (a1 - (a0.length : Int))) < 0)) then (-1) else (W (a1 - (a0.length : Int))))
def xI (a0 : List ZX) (a1 : Int) : Int := (bif (decide ((W (a1 - (a0.length : Int))) < 0)) then (-1) else (W (a1 - (a0.length : Int))))
def yD (a0 : ZK) (a1 : Int) : Int := (bif (decide ((KD a0.Path a1) < 0)) then (-1) else (bif (decide ((xI a0.YE (KD a0.Path a1)) < 0)) then (-1) else (xI a0.YE (KD a0.Path a1))))
def xC (a0 : List ZK) : Nat -> Int -> Nat -> Sum Int Int
  | 0, _, _ => .inr default
  | n1 + 1, J, U => (bif (decide ((U : Int) < (a0.length : Int))) then (bif (decide ((yD (nth a0 U) J) < 0)) then (.inl (-1)) else xC a0 n1 (yD (nth a0 U) J) (U + 1)) else (.inr J))
def zF (a0 : List ZK) (a1 : Int) : Int := (bif (decide ((W (a1 - (a0.length : Int))) < 0)) then (-1) else (match xC a0 (a0.length + 1) (W (a1 - (a0.length : Int))) 0 with | .inl r1 => r1 | .inr z1_0 => z1_0))
def zT (a0 : Za) (a1 : Int) : Int := (bif (decide ((Je a0.ZL a1) < 0)) then (-1) else (bif (decide ((zF a0.Zd (Je a0.ZL a1)) < 0)) then (-1) else (zF a0.Zd (Je a0.ZL a1))))
def kv (a0 : ZM) (a1 : Int) : Int := (bif (decide ((Yq a0.Doc a1) < 0)) then (-1) else (bif (decide ((zT a0.ZI (Yq a0.Doc a1)) < 0)) then (-1) else (zT a0.ZI (Yq a0.Doc a1))))
def ks (a0 : List ZM) : Nat -> Int -> Nat -> Sum Int Int
  | 0, _, _ => .inr default
  | n1 + 1, J, U => (bif (decide ((U : Int) < (a0.length : Int))) then (bif (decide ((kv (nth a0 U) J) < 0)) then (.inl (-1)) else ks a0 n1 (kv (nth a0 U) J) (U + 1)) else (.inr J))
def qv (a0 : List ZM) (a1 : Int) : Int := (bif (decide ((W (a1 - (a0.length : Int))) < 0)) then (-1) else (match ks a0 (a0.length + 1) (W (a1 - (a0.length : Int))) 0 with | .inl r1 => r1 | .inr z1_0 => z1_0))
def z5 (a0 : ZD) (a1 : Int) : Int := (bif (decide ((qv a0.ZF a1) < 0)) then (-1) else (qv a0.ZF a1))
def xU (a0 : List ZD) : Nat -> Int -> Nat -> Sum Int Int
  | 0, _, _ => .inr default
  | n1 + 1, J, U => (bif (decide ((U : Int) < (a0.length : Int))) then (bif (decide ((z5 (nth a0 U) J) < 0)) then (.inl (-1)) else xU a0 n1 (z5 (nth a0 U) J) (U + 1)) else (.inr J))
def Yo (a0 : List ZD) (a1 : Int) : Int := (bif (decide ((W (a1 - (a0.length : Int))) < 0)) then (-1) else (match xU a0 (a0.length + 1) (W (a1 - (a0.length : Int))) 0 with | .inl r1 => r1 | .inr z1_0 => z1_0))
def KB (a0 : ZJ) (a1 : Int) : Int := (bif (decide ((YJ a0.Frame a1) < 0)) then (-1) else (bif (decide ((Yl a0.ZS (YJ a0.Frame a1)) < 0)) then (-1) else (bif (decide ((Zy a0.Zr (Yl a0.ZS (YJ a0.Frame a1))) < 0)) then (-1) else (bif (decide ((Yo a0.ZA (Zy a0.Zr (Yl a0.ZS (YJ a0.Frame a1)))) < 0)) then (-1) else (bif (decide ((Zy a0.Ym (Yo a0.ZA (Zy a0.Zr (Yl a0.ZS (YJ a0.Frame a1))))) < 0)) then (-1) else (bif (decide ((Zy a0.YW (Zy a0.Ym (Yo a0.ZA (Zy a0.Zr (Yl a0.ZS (YJ a0.Frame a1)))))) < 0)) then (-1) else (bif (decide ((Zy a0.YN (Zy a0.YW (Zy a0.Ym (Yo a0.ZA (Zy a0.Zr (Yl a0.ZS (YJ a0.Frame a1))))))) < 0)) then (-1) else (Zy a0.YN (Zy a0.YW (Zy a0.Ym (Yo a0.ZA (Zy a0.Zr (Yl a0.ZS (YJ a0.Frame a1))))))))))))))
def jB (a0 : Yu) (a1 : Int) : Int := (bif (decide ((Yq a0.Doc a1) < 0)) then (-1) else (bif (decide ((Zy a0.Ids (Yq a0.Doc a1)) < 0)) then (-1) else (Zy a0.Ids (Yq a0.Doc a1))))
def Iu (a0 : YR) : YR := a0
def Td (a0 : List YR) : Nat -> Nat -> List YR -> (List YR)
  | 0, _, _ => default
  | n1 + 1, J, U => (bif (decide ((J : Int) < (a0.length : Int))) then Td a0 n1 (J + 1) (U.set J (nth a0 J)) else (U))
def GL (a0 : List YR) : List YR := (match Td a0 (a0.length + 1) 0 (List.replicate a0.length (YR.mk 0 0 0 0 0)) with | z1_0 => z1_0)
def kZ (a0 : ZQ) : ZQ := a0
def xt (a0 : List ZQ) : Nat -> Nat -> List ZQ -> (List ZQ)
  | 0, _, _ => default
  | n1 + 1, J, U => (bif (decide ((J : Int) < (a0.length : Int))) then xt a0 n1 (J + 1) (U.set J (nth a0 J)) else (U))
def VC (a0 : List ZQ) : List ZQ := (match xt a0 (a0.length + 1) 0 (List.replicate a0.length (ZQ.mk 0 0 0)) with | z1_0 => z1_0)
def T7 (a0 : Zf) : Zf := a0
def kc (a0 : List Zf) : Nat -> Nat -> List Zf -> (List Zf)
  | 0, _, _ => default
  | n1 + 1, J, U => (bif (decide ((J : Int) < (a0.length : Int))) then kc a0 n1 (J + 1) (U.set J (nth a0 J)) else (U))
def Rx (a0 : List Zf) : List Zf := (match kc a0 (a0.length + 1) 0 (List.replicate a0.length (Zf.mk 0 0 0 0)) with | z1_0 => z1_0)
def PI (a0 : Z8) : Z8 := a0
def NL (a0 : Z1) : Z1 := a0
def UB (a0 : List Z1) : Nat -> Nat -> List Z1 -> (List Z1)
  | 0, _, _ => default
  | n1 + 1, J, U => (bif (decide ((J : Int) < (a0.length : Int))) then UB a0 n1 (J + 1) (U.set J (nth a0 J)) else (U))
def MD (a0 : List Z1) : List Z1 := (match UB a0 (a0.length + 1) 0 (List.replicate a0.length (Z1.mk 0 0 0 0 0 0 0)) with | z1_0 => z1_0)
def T1 (a0 : List Int) : Nat -> Nat -> List Int -> (List Int)
  | 0, _, _ => default
  | n1 + 1, J, U => (bif (decide ((J : Int) < (a0.length : Int))) then T1 a0 n1 (J + 1) (U.set J (nth a0 J)) else (U))
def I9 (a0 : List Int) : List Int := (match T1 a0 (a0.length + 1) 0 (List.replicate a0.length 0) with | z1_0 => z1_0)
def ke (a0 : List ByteArray) : Nat -> Nat -> List ByteArray -> (List ByteArray)
  | 0, _, _ => default
  | n1 + 1, J, U => (bif (decide ((J : Int) < (a0.length : Int))) then ke a0 n1 (J + 1) (U.set J (nth a0 J)) else (U))
def Ra (a0 : List ByteArray) : List ByteArray := (match ke a0 (a0.length + 1) 0 (List.replicate a0.length (⟨#[]⟩ : ByteArray)) with | z1_0 => z1_0)
def Wf (a0 : ZV) : ZV := a0
def km (a0 : ZY) : ZY := a0
def R0 (a0 : ZO) : ZO := a0
def We (a0 : List ZO) : Nat -> Nat -> List ZO -> (List ZO)
  | 0, _, _ => default
  | n1 + 1, J, U => (bif (decide ((J : Int) < (a0.length : Int))) then We a0 n1 (J + 1) (U.set J (nth a0 J)) else (U))
def OP (a0 : List ZO) : List ZO := (match We a0 (a0.length + 1) 0 (List.replicate a0.length (ZO.mk 0 ([] : List Int) 0)) with | z1_0 => z1_0)
def NM (a0 : Zv) : Zv := a0
def Vz (a0 : List Zv) : Nat -> Nat -> List Zv -> (List Zv)
  | 0, _, _ => default
  | n1 + 1, J, U => (bif (decide ((J : Int) < (a0.length : Int))) then Vz a0 n1 (J + 1) (U.set J (nth a0 J)) else (U))
def ML (a0 : List Zv) : List Zv := (match Vz a0 (a0.length + 1) 0 (List.replicate a0.length (Zv.mk 0 false)) with | z1_0 => z1_0)
def R1 (a0 : ZX) : ZX := a0
def Wr (a0 : List ZX) : Nat -> Nat -> List ZX -> (List ZX)
  | 0, _, _ => default
  | n1 + 1, J, U => (bif (decide ((J : Int) < (a0.length : Int))) then Wr a0 n1 (J + 1) (U.set J (nth a0 J)) else (U))
def OF (a0 : List ZX) : List ZX := (match Wr a0 (a0.length + 1) 0 (List.replicate a0.length (ZX.mk 0 0 0 0 0)) with | z1_0 => z1_0)
def V1 (a0 : ZK) : ZK := a0
def jh (a0 : List ZK) : Nat -> Nat -> List ZK -> (List ZK)
  | 0, _, _ => default
  | n1 + 1, J, U => (bif (decide ((J : Int) < (a0.length : Int))) then jh a0 n1 (J + 1) (U.set J (nth a0 J)) else (U))
def Tk (a0 : List ZK) : List ZK := (match jh a0 (a0.length + 1) 0 (List.replicate a0.length (ZK.mk 0 0 0 ([] : List Zv) ([] : List ZX))) with | z1_0 => z1_0)
def Tc (a0 : Za) : Za := a0
def Oc (a0 : ZM) : ZM := a0
def V8 (a0 : List ZM) : Nat -> Nat -> List ZM -> (List ZM)
  | 0, _, _ => default
  | n1 + 1, J, U => (bif (decide ((J : Int) < (a0.length : Int))) then V8 a0 n1 (J + 1) (U.set J (nth a0 J)) else (U))
def N3 (a0 : List ZM) : List ZM := (match V8 a0 (a0.length + 1) 0 (List.replicate a0.length (ZM.mk 0 0 (ZV.mk 0 ([] : List ByteArray) ([] : List Int)) (ZY.mk 0 0 0 0 0 0 0 0 0) (Za.mk ([] : List ZO) ([] : List ZK)))) with | z1_0 => z1_0)
def Vu (a0 : ZD) : ZD := a0
def jS (a0 : List ZD) : Nat -> Nat -> List ZD -> (List ZD)
  | 0, _, _ => default
  | n1 + 1, J, U => (bif (decide ((J : Int) < (a0.length : Int))) then jS a0 n1 (J + 1) (U.set J (nth a0 J)) else (U))
def T3 (a0 : List ZD) : List ZD := (match jS a0 (a0.length + 1) 0 (List.replicate a0.length (ZD.mk 0 ([] : List ZM))) with | z1_0 => z1_0)
def R9 (a0 : ZJ) : ZJ := a0
def R3 (a0 : Yu) : Yu := a0
def P1 (a0 : Z8) : Z8 := a0
def HG (a0 : ZV) : ZV := a0
def Nn (a0 : ZO) : ZO := a0
def Tq (a0 : List ZO) : Nat -> List ZO -> Nat -> (List ZO)
  | 0, _, _ => default
  | n1 + 1, J, U => (bif (decide ((U : Int) < (a0.length : Int))) then Tq a0 n1 (J ++ ([(nth a0 U)] : List ZO)) (U + 1) else (J))
def Od (a0 : List ZO) : List ZO := (match Tq a0 (a0.length + 1) ([] : List ZO) 0 with | z1_0 => z1_0)
def N6 (a0 : ZK) : ZK := a0
def Vs (a0 : Za) : Nat -> Nat -> List ZK -> (List ZK)
  | 0, _, _ => default
  | n1 + 1, J, U => (bif (decide ((J : Int) < (a0.Zd.length : Int))) then Vs a0 n1 (J + 1) (U ++ ([(nth a0.Zd J)] : List ZK)) else (U))
def R5 (a0 : Za) : Za := (match Vs a0 (a0.Zd.length + 1) 0 ([] : List ZK) with | z1_0 => (Za.mk a0.ZL z1_0))
def MQ (a0 : ZM) : ZM := a0
def Vw (a0 : ZD) : Nat -> Nat -> List ZM -> (List ZM)
  | 0, _, _ => default
  | n1 + 1, J, U => (bif (decide ((J : Int) < (a0.ZF.length : Int))) then Vw a0 n1 (J + 1) (U ++ ([(nth a0.ZF J)] : List ZM)) else (U))
def PB (a0 : ZD) : ZD := (match Vw a0 (a0.ZF.length + 1) 0 ([] : List ZM) with | z1_0 => (ZD.mk a0.Id z1_0))
def V2 (a0 : ZJ) : Nat -> Nat -> List ZD -> (List ZD)
  | 0, _, _ => default
  | n1 + 1, J, U => (bif (decide ((J : Int) < (a0.ZA.length : Int))) then V2 a0 n1 (J + 1) (U ++ ([(nth a0.ZA J)] : List ZD)) else (U))
def PF (a0 : ZJ) : ZJ := (match V2 a0 (a0.ZA.length + 1) 0 ([] : List ZD) with | z1_0 => (ZJ.mk a0.Frame a0.ZS a0.Zr z1_0 a0.Ym a0.YW a0.Next a0.YN))
def YL (a0 : Int) (a1 : Int) (a2 : Int) : Bool := ((decide (a0 >= a1)) && (decide (a0 <= a2)))
def qn (a0 : ZJ) (a1 : Int) : ZJ × Bool := (bif ((!(YL a1 0 100)) || (decide ((W (a0.Frame.Now + a1)) > 10000))) then (a0, false) else ((ZJ.mk (Z8.mk a0.Frame.Zq a0.Frame.ZG a0.Frame.Methods a0.Frame.y9 (W (a0.Frame.Now + a1))) a0.ZS a0.Zr a0.ZA a0.Ym a0.YW a0.Next a0.YN), true))
def qz (a0 : List YR) (a1 : Int) : Nat -> Nat -> Sum Int Unit
  | 0, _ => .inr ()
  | n1 + 1, J => (bif (decide ((J : Int) < (a0.length : Int))) then (bif ((nth a0 J).Number == a1) then (.inl (J : Int)) else qz a0 a1 n1 (J + 1)) else (.inr ()))
def Yd (a0 : List YR) (a1 : Int) : Int := (match qz a0 a1 (a0.length + 1) 0 with | .inl r1 => r1 | .inr _ => (-1))
def Qi (a0 : ZJ) (a1 : Int) : Bool := (YL a1 0 (W ((a0.ZA.length : Int) - 1)))
def zu (a0 : List Zf) (a1 : Int) : Nat -> Int -> Nat -> Int
  | 0, _, _ => default
  | n1 + 1, J, U => (bif (decide ((U : Int) < (a0.length : Int))) then (bif (((decide (a1 >= (nth a0 U).Pn)) && (decide (a1 < (nth a0 U).Ends))) && ((decide (J < 0)) || (decide ((nth a0 U).Ends > (nth a0 J.toNat).Ends)))) then zu a0 a1 n1 (U : Int) (U + 1) else zu a0 a1 n1 J (U + 1)) else (J))
def Zh (a0 : List Zf) (a1 : Int) : Int := (match zu a0 a1 (a0.length + 1) (-1) 0 with | z1_0 => (bif (decide (z1_0 < 0)) then (-1) else (nth a0 z1_0.toNat).Id))
def Jw (a0 : ZJ) (a1 : Int) : Nat -> Nat -> Sum Int Unit
  | 0, _ => .inr ()
  | n1 + 1, J => (bif (decide ((J : Int) < (a0.ZS.length : Int))) then (bif ((nth a0.ZS J).Key == a1) then (.inl (J : Int)) else Jw a0 a1 n1 (J + 1)) else (.inr ()))
def Xb (a0 : ZJ) (a1 : Int) : Int := (match Jw a0 a1 (a0.ZS.length + 1) 0 with | .inl r1 => r1 | .inr _ => (-1))
def z3 (a0 : ZV) : Nat -> Nat -> Sum Bool Unit
  | 0, _ => .inr ()
  | n2 + 1, lI => (bif (decide ((lI : Int) < (a0.ZR.length : Int))) then (bif (!(YL (nth a0.ZR lI) 1 1000000000000)) then (.inl false) else z3 a0 n2 (lI + 1)) else (.inr ()))
def zi (a0 : ZV) : Nat -> Nat -> Sum Bool Unit
  | 0, _ => .inr ()
  | n1 + 1, J => (bif (decide ((J : Int) < (a0.ZN.length : Int))) then (bif (decide (((nth a0.ZN J).size : Int) > 40)) then (.inl false) else zi a0 n1 (J + 1)) else (.inr ()))
def zJ (a0 : ZV) : Bool := (match zi a0 (a0.ZN.length + 1) 0 with | .inl r1 => r1 | .inr _ => (match z3 a0 (a0.ZR.length + 1) 0 with | .inl r2 => r2 | .inr _ => (((YL a0.zA 0 999) && (YL (a0.ZN.length : Int) 1 6)) && ((a0.ZR.length : Int) == (a0.ZN.length : Int)))))
def B5 (a0 : Int) (a1 : Int) : Int := (bif (!(YL a1 1 1000000000000)) then 0 else (Int.tmod (W ((Int.tmod a0 a1) + a1)) a1))
def RN (a0 : List Int) : Nat -> Int -> Nat -> Int
  | 0, _, _ => default
  | n1 + 1, J, U => (bif (decide ((U : Int) < (a0.length : Int))) then RN a0 n1 (Int.tmod (W ((W ((W (J * 1000003)) + (B5 (nth a0 U) 2147483647))) + 13)) 2147483647) (U + 1) else (J))
def MF (a0 : List Int) : Int := (match RN a0 (a0.length + 1) 11 0 with | z1_0 => z1_0)
def KH (a0 : Int) (a1 : List Int) : Int := (MF (([7, a0] : List Int) ++ a1))
def yw (a1 : ByteArray) : Nat -> List Int -> Nat -> (List Int)
  | 0, _, _ => default
  | n1 + 1, J, U => (bif (decide ((U : Int) < (a1.size : Int))) then yw a1 n1 (J ++ ([(W ((bAt a1 U) : Int))] : List Int)) (U + 1) else (J))
def jc (a0 : Int) (a1 : ByteArray) (a2 : Int) : Int := (match yw a1 (a1.size + 1) ([a2] : List Int) 0 with | z1_0 => (KH a0 z1_0))
def qR (a0 : Int) (a1 : ZV) : Nat -> List Int -> Nat -> (List Int)
  | 0, _, _ => default
  | n1 + 1, J, U => (bif (decide ((U : Int) < (a1.ZN.length : Int))) then qR a0 a1 n1 (J ++ ([(jc a0 (nth a1.ZN U) (nth a1.ZR U))] : List Int)) (U + 1) else (J))
def Qq (a0 : Int) (a1 : ZV) : Int := (bif (!(zJ a1)) then (-1) else (match qR a0 a1 (a1.ZN.length + 1) ([a1.zA] : List Int) 0 with | z1_0 => (KH a0 z1_0)))
def qN (a0 : ZY) : Bool := ((((((((YL a0.Key 1 99) && (YL a0.Zg 1 999)) && (YL a0.Method 0 99)) && (YL a0.Org 0 99)) && (YL a0.xH 1 3)) && (YL a0.XN 0 1000000000000)) && (YL a0.xL 0 1000000000000)) && (YL a0.kx 0 1000000000000))
def QY (a0 : ZY) : List Int := ([104, a0.Key, a0.Zg, a0.Method, a0.XN, a0.xH, a0.Org, a0.xL, a0.kx] : List Int)
def kr (a0 : Int) (a1 : List Int) : Int := (MF ((([a0] : List Int) ++ a1) ++ ([a0] : List Int)))
def qg (a0 : YR) (a1 : List Int) : Int := (kr a0.WN (([a0.Method] : List Int) ++ a1))
def KT (a0 : List YR) (a1 : ZY) : ZY × Bool := (bif ((!(qN a1)) || (decide ((Yd a0 a1.Key) < 0))) then ((ZY.mk 0 0 0 0 0 0 0 0 0), false) else ((ZY.mk a1.Key a1.Zg a1.Method a1.XN a1.xH a1.Org a1.xL a1.kx (qg (nth a0 (Yd a0 a1.Key).toNat) (QY a1))), true))
def z6 (a0 : ZY) : ZO := (ZO.mk a0.Key (QY a0) a0.Mark)
def y8 (a0 : Z1) : List Int := ([101, a0.Zg, a0.Key, a0.ji, a0.VN, a0.To, a0.Z5] : List Int)
def qy (a0 : Z1) : ZO := (ZO.mk a0.Z5 (y8 a0) a0.Mark)
def Xa (a0 : ZJ) (a1 : Int) (a2 : ZV) (a3 : Int) (a4 : Int) : ZM × Bool := (bif ((decide ((Zh a0.Frame.Methods a0.Frame.Now) < 0)) || (decide ((Xb a0 a1) < 0))) then ((ZM.mk 0 0 (ZV.mk 0 ([] : List ByteArray) ([] : List Int)) (ZY.mk 0 0 0 0 0 0 0 0 0) (Za.mk ([] : List ZO) ([] : List ZK))), false) else ((ZM.mk a0.Next a4 a2 (KT a0.Frame.Zq (ZY.mk a1 (nth a0.ZS (Xb a0 a1).toNat).Zg (Zh a0.Frame.Methods a0.Frame.Now) (Qq (Zh a0.Frame.Methods a0.Frame.Now) a2) 1 a3 0 0 0)).1 (Za.mk ([(z6 (KT a0.Frame.Zq (ZY.mk a1 (nth a0.ZS (Xb a0 a1).toNat).Zg (Zh a0.Frame.Methods a0.Frame.Now) (Qq (Zh a0.Frame.Methods a0.Frame.Now) a2) 1 a3 0 0 0)).1), (qy (nth a0.ZS (Xb a0 a1).toNat))] : List ZO) ([] : List ZK))), (KT a0.Frame.Zq (ZY.mk a1 (nth a0.ZS (Xb a0 a1).toNat).Zg (Zh a0.Frame.Methods a0.Frame.Now) (Qq (Zh a0.Frame.Methods a0.Frame.Now) a2) 1 a3 0 0 0)).2))
def TK (a0 : Int) : Bool := (YL a0 0 10000)
def kg (a0 : List Int) (a1 : List Int) : Nat -> Nat -> Sum Bool Unit
  | 0, _ => .inr ()
  | n1 + 1, J => (bif (decide ((J : Int) < (a0.length : Int))) then (bif ((nth a0 J) != (nth a1 J)) then (.inl false) else kg a0 a1 n1 (J + 1)) else (.inr ()))
def UI (a0 : List Int) (a1 : List Int) : Bool := (bif ((a0.length : Int) != (a1.length : Int)) then false else (match kg a0 a1 (a0.length + 1) 0 with | .inl r1 => r1 | .inr _ => true))
def yk (a0 : ZO) (a1 : ZO) : Bool := (((a0.Key == a1.Key) && (a0.Mark == a1.Mark)) && (UI a0.YP a1.YP))
def kd (a0 : Za) (a1 : ZO) : Nat -> Nat -> Sum Int Unit
  | 0, _ => .inr ()
  | n1 + 1, J => (bif (decide ((J : Int) < (a0.ZL.length : Int))) then (bif (yk (nth a0.ZL J) a1) then (.inl (J : Int)) else kd a0 a1 n1 (J + 1)) else (.inr ()))
def jI (a0 : Za) (a1 : ZO) : Int := (match kd a0 a1 (a0.ZL.length + 1) 0 with | .inl r1 => r1 | .inr _ => (-1))
def xp (a0 : Za) : Nat -> Nat -> Sum Bool Unit
  | 0, _ => .inr ()
  | n2 + 1, lI => (bif (decide ((lI : Int) < (a0.Zd.length : Int))) then (bif ((!(YL (nth a0.Zd lI).Count 1 (a0.ZL.length : Int))) || ((decide ((lI : Int) > 0)) && (decide ((nth a0.Zd (lI - 1)).Count > (nth a0.Zd lI).Count)))) then (.inl false) else xp a0 n2 (lI + 1)) else (.inr ()))
def xi (a0 : Za) : Nat -> Nat -> Sum Bool Unit
  | 0, _ => .inr ()
  | n1 + 1, J => (bif (decide ((J : Int) < (a0.ZL.length : Int))) then (bif (decide ((jI a0 (nth a0.ZL J)) < (J : Int))) then (.inl false) else xi a0 n1 (J + 1)) else (.inr ()))
def yX (a0 : Za) : Bool := (match xi a0 (a0.ZL.length + 1) 0 with | .inl r1 => r1 | .inr _ => (match xp a0 (a0.Zd.length + 1) 0 with | .inl r2 => r2 | .inr _ => ((YL (a0.ZL.length : Int) 1 12) && (decide ((a0.Zd.length : Int) <= 8)))))
def Uq (a0 : ZM) : Bool := (((((YL a0.Id 1 999) && (TK a0.Y7)) && (zJ a0.Doc)) && (yX a0.ZI)) && (yk (nth a0.ZI.ZL 0) (z6 a0.Sig)))
def qL (a0 : ZD) : Nat -> Nat -> Sum Bool Unit
  | 0, _ => .inr ()
  | n1 + 1, J => (bif (decide ((J : Int) < (a0.ZF.length : Int))) then (bif ((!(Uq (nth a0.ZF J))) || ((decide ((J : Int) > 0)) && (decide ((nth a0.ZF (J - 1)).Id >= (nth a0.ZF J).Id)))) then (.inl false) else qL a0 n1 (J + 1)) else (.inr ()))
def JG (a0 : ZD) : Bool := (match qL a0 (a0.ZF.length + 1) 0 with | .inl r1 => r1 | .inr _ => ((YL a0.Id 0 99) && (decide ((a0.ZF.length : Int) <= 8))))
def qA (a0 : ZD) (a1 : Int) : Nat -> Nat -> Sum Int Unit
  | 0, _ => .inr ()
  | n1 + 1, J => (bif (decide ((J : Int) < (a0.ZF.length : Int))) then (bif ((nth a0.ZF J).Id == a1) then (.inl (J : Int)) else qA a0 a1 n1 (J + 1)) else (.inr ()))
def Yk (a0 : ZD) (a1 : Int) : Int := (match qA a0 a1 (a0.ZF.length + 1) 0 with | .inl r1 => r1 | .inr _ => (-1))
def QN (a0 : ZD) (a1 : ZM) : Nat -> Bool -> Nat -> List ZM -> Bool × (List ZM)
  | 0, _, _, _ => (default, default)
  | n1 + 1, J, U, lA => (bif (decide ((U : Int) < (a0.ZF.length : Int))) then (bif ((!J) && (decide (a1.Id < (nth a0.ZF U).Id))) then QN a0 a1 n1 true (U + 1) ((lA ++ ([a1] : List ZM)) ++ ([(nth a0.ZF U)] : List ZM)) else QN a0 a1 n1 J (U + 1) (lA ++ ([(nth a0.ZF U)] : List ZM))) else ((J, lA)))
def Qr (a0 : ZD) (a1 : ZM) : ZD × Bool := (bif ((!(JG a0)) || (decide ((Yk a0 a1.Id) >= 0))) then (a0, false) else (match QN a0 a1 (a0.ZF.length + 1) false 0 ([] : List ZM) with | (z1_0, z1_1) => (bif (!z1_0) then (bif (!(JG (ZD.mk a0.Id (z1_1 ++ ([a1] : List ZM))))) then (a0, false) else ((ZD.mk a0.Id (z1_1 ++ ([a1] : List ZM))), true)) else (bif (!(JG (ZD.mk a0.Id z1_1))) then (a0, false) else ((ZD.mk a0.Id z1_1), true)))))
def qu (a0 : ZJ) (a1 : Int) (a2 : Int) (a3 : ZV) (a4 : Int) (a5 : Int) : ZJ × Bool := (bif (((!(Qi a0 a1)) || (decide ((Yd a0.Frame.Zq a2) < 0))) || (decide ((nth a0.Frame.Zq (Yd a0.Frame.Zq a2).toNat).Wn > a0.Frame.Now))) then (a0, false) else (bif (!(Xa a0 a2 a3 a4 a5).2) then (a0, false) else (bif (!(Qr (nth a0.ZA a1.toNat) (Xa a0 a2 a3 a4 a5).1).2) then (a0, false) else ((ZJ.mk a0.Frame a0.ZS a0.Zr (a0.ZA.set a1.toNat (Qr (nth a0.ZA a1.toNat) (Xa a0 a2 a3 a4 a5).1).1) a0.Ym a0.YW (W (a0.Next + 1)) a0.YN), true))))
def xa (a0 : ZJ) (a1 : Int) : Nat -> Nat -> Sum (Int × Int) Unit
  | 0, _ => .inr ()
  | n1 + 1, J => (bif (decide ((J : Int) < (a0.ZA.length : Int))) then (bif (decide ((Yk (nth a0.ZA J) a1) >= 0)) then (.inl ((J : Int), (Yk (nth a0.ZA J) a1))) else xa a0 a1 n1 (J + 1)) else (.inr ()))
def ZH (a0 : ZJ) (a1 : Int) : Int × Int := (match xa a0 a1 (a0.ZA.length + 1) 0 with | .inl r1 => r1 | .inr _ => ((-1), (-1)))
def Qc (a0 : ZO) : Int := (bif (((a0.YP.length : Int) == 0) || (!(YL (nth a0.YP 0) 101 105))) then 0 else (bif ((a0.YP.length : Int) != (nth ([7, 5, 5, 9, 6] : List Int) (W ((nth a0.YP 0) - 101)).toNat)) then 0 else (nth a0.YP 0)))
def Zc (a0 : ZO) : Z1 × Bool := (bif (((Qc a0) != 101) || ((nth a0.YP 6) != a0.Key)) then ((Z1.mk 0 0 0 0 0 0 0), false) else ((Z1.mk (nth a0.YP 1) (nth a0.YP 2) (nth a0.YP 3) (nth a0.YP 4) (nth a0.YP 5) (nth a0.YP 6) a0.Mark), true))
def xy (a0 : List Z1) (a1 : Int) : Nat -> Nat -> Sum Int Unit
  | 0, _ => .inr ()
  | n1 + 1, J => (bif (decide ((J : Int) < (a0.length : Int))) then (bif ((nth a0 J).Zg == a1) then (.inl (J : Int)) else xy a0 a1 n1 (J + 1)) else (.inr ()))
def Z2 (a0 : List Z1) (a1 : Int) : Int := (match xy a0 a1 (a0.length + 1) 0 with | .inl r1 => r1 | .inr _ => (-1))
def kE (a0 : Z4) : Bool := ((((YL a0.Zg 1 999) && (TK a0.OC)) && (YL a0.Zr (-1) (W (a0.OC + 1)))) && (YL a0.Z5 1 99))
def Jv (a0 : Z4) : List Int := ([102, a0.Zg, a0.OC, a0.Zr, a0.Z5] : List Int)
def YZ (a0 : List YR) (a1 : Z4) : Z4 × Bool := (bif ((!(kE a1)) || (decide ((Yd a0 a1.Z5) < 0))) then ((Z4.mk 0 0 0 0 0), false) else ((Z4.mk a1.Zg a1.OC a1.Zr a1.Z5 (qg (nth a0 (Yd a0 a1.Z5).toNat) (Jv a1))), true))
def Yz (a0 : Z4) : ZO := (ZO.mk a0.Z5 (Jv a0) a0.Mark)
def yJ (a0 : Za) (a1 : ZO) : Za × Bool := (bif (!(yX (Za.mk (a0.ZL ++ ([a1] : List ZO)) a0.Zd))) then (a0, false) else ((Za.mk (a0.ZL ++ ([a1] : List ZO)) a0.Zd), true))
def Xu (a0 : ZD) (a1 : Int) (a2 : ZO) : ZD × Bool := (bif (decide ((Yk a0 a1) < 0)) then (a0, false) else ((ZD.mk a0.Id (a0.ZF.set (Yk a0 a1).toNat (ZM.mk (nth a0.ZF (Yk a0 a1).toNat).Id (nth a0.ZF (Yk a0 a1).toNat).Y7 (nth a0.ZF (Yk a0 a1).toNat).Doc (nth a0.ZF (Yk a0 a1).toNat).Sig (yJ (nth a0.ZF (Yk a0 a1).toNat).ZI a2).1))), (yJ (nth a0.ZF (Yk a0 a1).toNat).ZI a2).2))
def yF (a0 : ZJ) (a1 : Int) : ZJ × Bool := (bif ((decide ((ZH a0 a1).1 < 0)) || (decide (((nth (nth a0.ZA (ZH a0 a1).1.toNat).ZF (ZH a0 a1).2.toNat).ZI.ZL.length : Int) < 2))) then (a0, false) else (bif (((!(Zc (nth (nth (nth a0.ZA (ZH a0 a1).1.toNat).ZF (ZH a0 a1).2.toNat).ZI.ZL 1)).2) || (decide ((Z2 a0.ZS (Zc (nth (nth (nth a0.ZA (ZH a0 a1).1.toNat).ZF (ZH a0 a1).2.toNat).ZI.ZL 1)).1.Zg) < 0))) || (decide ((Z2 a0.ZS (Zc (nth (nth (nth a0.ZA (ZH a0 a1).1.toNat).ZF (ZH a0 a1).2.toNat).ZI.ZL 1)).1.Zg) >= (a0.Zr.length : Int)))) then (a0, false) else (bif (decide ((nth a0.Zr (Z2 a0.ZS (Zc (nth (nth (nth a0.ZA (ZH a0 a1).1.toNat).ZF (ZH a0 a1).2.toNat).ZI.ZL 1)).1.Zg).toNat) <= (W (a0.Frame.Now + 1)))) then (bif ((!(YZ a0.Frame.Zq (Z4.mk (Zc (nth (nth (nth a0.ZA (ZH a0 a1).1.toNat).ZF (ZH a0 a1).2.toNat).ZI.ZL 1)).1.Zg a0.Frame.Now (nth a0.Zr (Z2 a0.ZS (Zc (nth (nth (nth a0.ZA (ZH a0 a1).1.toNat).ZF (ZH a0 a1).2.toNat).ZI.ZL 1)).1.Zg).toNat) (nth a0.ZS (Z2 a0.ZS (Zc (nth (nth (nth a0.ZA (ZH a0 a1).1.toNat).ZF (ZH a0 a1).2.toNat).ZI.ZL 1)).1.Zg).toNat).Z5 0)).2) || (decide ((nth a0.Frame.Zq (Yd a0.Frame.Zq (nth a0.ZS (Z2 a0.ZS (Zc (nth (nth (nth a0.ZA (ZH a0 a1).1.toNat).ZF (ZH a0 a1).2.toNat).ZI.ZL 1)).1.Zg).toNat).Z5).toNat).Wn > a0.Frame.Now))) then (a0, false) else ((ZJ.mk a0.Frame a0.ZS a0.Zr (a0.ZA.set (ZH a0 a1).1.toNat (Xu (nth a0.ZA (ZH a0 a1).1.toNat) a1 (Yz (YZ a0.Frame.Zq (Z4.mk (Zc (nth (nth (nth a0.ZA (ZH a0 a1).1.toNat).ZF (ZH a0 a1).2.toNat).ZI.ZL 1)).1.Zg a0.Frame.Now (nth a0.Zr (Z2 a0.ZS (Zc (nth (nth (nth a0.ZA (ZH a0 a1).1.toNat).ZF (ZH a0 a1).2.toNat).ZI.ZL 1)).1.Zg).toNat) (nth a0.ZS (Z2 a0.ZS (Zc (nth (nth (nth a0.ZA (ZH a0 a1).1.toNat).ZF (ZH a0 a1).2.toNat).ZI.ZL 1)).1.Zg).toNat).Z5 0)).1)).1) a0.Ym a0.YW a0.Next a0.YN), (Xu (nth a0.ZA (ZH a0 a1).1.toNat) a1 (Yz (YZ a0.Frame.Zq (Z4.mk (Zc (nth (nth (nth a0.ZA (ZH a0 a1).1.toNat).ZF (ZH a0 a1).2.toNat).ZI.ZL 1)).1.Zg a0.Frame.Now (nth a0.Zr (Z2 a0.ZS (Zc (nth (nth (nth a0.ZA (ZH a0 a1).1.toNat).ZF (ZH a0 a1).2.toNat).ZI.ZL 1)).1.Zg).toNat) (nth a0.ZS (Z2 a0.ZS (Zc (nth (nth (nth a0.ZA (ZH a0 a1).1.toNat).ZF (ZH a0 a1).2.toNat).ZI.ZL 1)).1.Zg).toNat).Z5 0)).1)).2)) else (bif ((!(YZ a0.Frame.Zq (Z4.mk (Zc (nth (nth (nth a0.ZA (ZH a0 a1).1.toNat).ZF (ZH a0 a1).2.toNat).ZI.ZL 1)).1.Zg a0.Frame.Now (-1) (nth a0.ZS (Z2 a0.ZS (Zc (nth (nth (nth a0.ZA (ZH a0 a1).1.toNat).ZF (ZH a0 a1).2.toNat).ZI.ZL 1)).1.Zg).toNat).Z5 0)).2) || (decide ((nth a0.Frame.Zq (Yd a0.Frame.Zq (nth a0.ZS (Z2 a0.ZS (Zc (nth (nth (nth a0.ZA (ZH a0 a1).1.toNat).ZF (ZH a0 a1).2.toNat).ZI.ZL 1)).1.Zg).toNat).Z5).toNat).Wn > a0.Frame.Now))) then (a0, false) else ((ZJ.mk a0.Frame a0.ZS a0.Zr (a0.ZA.set (ZH a0 a1).1.toNat (Xu (nth a0.ZA (ZH a0 a1).1.toNat) a1 (Yz (YZ a0.Frame.Zq (Z4.mk (Zc (nth (nth (nth a0.ZA (ZH a0 a1).1.toNat).ZF (ZH a0 a1).2.toNat).ZI.ZL 1)).1.Zg a0.Frame.Now (-1) (nth a0.ZS (Z2 a0.ZS (Zc (nth (nth (nth a0.ZA (ZH a0 a1).1.toNat).ZF (ZH a0 a1).2.toNat).ZI.ZL 1)).1.Zg).toNat).Z5 0)).1)).1) a0.Ym a0.YW a0.Next a0.YN), (Xu (nth a0.ZA (ZH a0 a1).1.toNat) a1 (Yz (YZ a0.Frame.Zq (Z4.mk (Zc (nth (nth (nth a0.ZA (ZH a0 a1).1.toNat).ZF (ZH a0 a1).2.toNat).ZI.ZL 1)).1.Zg a0.Frame.Now (-1) (nth a0.ZS (Z2 a0.ZS (Zc (nth (nth (nth a0.ZA (ZH a0 a1).1.toNat).ZF (ZH a0 a1).2.toNat).ZI.ZL 1)).1.Zg).toNat).Z5 0)).1)).2)))))
def yM (a0 : ZJ) (a1 : Int) : ZJ × Bool := (bif ((!(YL a1 0 (W ((a0.Zr.length : Int) - 1)))) || ((nth a0.Zr a1.toNat) != (-1))) then (a0, false) else ((ZJ.mk a0.Frame a0.ZS (a0.Zr.set a1.toNat (W (a0.Frame.Now + 1))) a0.ZA a0.Ym a0.YW a0.Next a0.YN), true))
def KA (a0 : List ZQ) (a1 : Int) : Nat -> Nat -> Sum Int Unit
  | 0, _ => .inr ()
  | n1 + 1, J => (bif (decide ((J : Int) < (a0.length : Int))) then (bif ((nth a0 J).Id == a1) then (.inl (J : Int)) else KA a0 a1 n1 (J + 1)) else (.inr ()))
def Ze (a0 : List ZQ) (a1 : Int) : Int := (match KA a0 a1 (a0.length + 1) 0 with | .inl r1 => r1 | .inr _ => (-1))
def xJ (a0 : ZJ) (a1 : List Int) : Nat -> Nat -> Sum Bool Unit
  | 0, _ => .inr ()
  | n1 + 1, J => (bif (decide ((J : Int) < (a1.length : Int))) then (bif (((decide ((Ze a0.Frame.ZG (nth a1 J)) < 0)) || (decide ((Ze a0.Frame.ZG (nth a1 J)) >= (a0.Ym.length : Int)))) || ((decide ((J : Int) > 0)) && (decide ((nth a1 (J - 1)) >= (nth a1 J))))) then (.inl false) else (bif ((decide ((Yd a0.Frame.Zq (nth a0.Frame.ZG (Ze a0.Frame.ZG (nth a1 J)).toNat).Key) < 0)) || (decide ((nth a0.Frame.Zq (Yd a0.Frame.Zq (nth a0.Frame.ZG (Ze a0.Frame.ZG (nth a1 J)).toNat).Key).toNat).Wn > a0.Frame.Now))) then (.inl false) else xJ a0 a1 n1 (J + 1))) else (.inr ()))
def K8 (a0 : ZJ) (a1 : List Int) : Bool := (match xJ a0 a1 (a1.length + 1) 0 with | .inl r1 => r1 | .inr _ => (decide ((a1.length : Int) > 0)))
def zx (a0 : Za) (a1 : ZV) : Nat -> List Int -> Nat -> (List Int)
  | 0, _, _ => default
  | n1 + 1, J, U => (bif (decide ((U : Int) < (a0.Zd.length : Int))) then zx a0 a1 n1 (J ++ ([(Qq (nth a0.Zd U).Method a1)] : List Int)) (U + 1) else (J))
def Jx (a0 : Za) (a1 : ZV) : List Int := (match zx a0 a1 (a0.Zd.length + 1) ([] : List Int) 0 with | z1_0 => z1_0)
def KX (a0 : ZX) : List Int := ([103, a0.Authority, a0.Seq, a0.Time, a0.XN] : List Int)
def zS (a1 : ZK) : Nat -> List Int -> Nat -> (List Int)
  | 0, _, _ => default
  | n2 + 1, lI, lq => (bif (decide ((lq : Int) < (a1.YE.length : Int))) then zS a1 n2 ((lI ++ (KX (nth a1.YE lq))) ++ ([(nth a1.YE lq).Mark] : List Int)) (lq + 1) else (lI))
def KE (a1 : ZK) : Nat -> List Int -> Nat -> (List Int)
  | 0, _, _ => default
  | n1 + 1, J, U => (bif (decide ((U : Int) < (a1.Path.length : Int))) then (bif (nth a1.Path U).Left then KE a1 n1 ((J ++ ([(nth a1.Path U).XN] : List Int)) ++ ([1] : List Int)) (U + 1) else KE a1 n1 ((J ++ ([(nth a1.Path U).XN] : List Int)) ++ ([0] : List Int)) (U + 1)) else (J))
def KJ (a0 : Int) (a1 : ZK) : Int := (match KE a1 (a1.Path.length + 1) ([4, a1.Count, a1.Method, a1.ID] : List Int) 0 with | z1_0 => (match zS a1 (a1.YE.length + 1) (z1_0 ++ ([(a1.YE.length : Int)] : List Int)) 0 with | z2_0 => (KH a0 z2_0)))
def zz (a0 : Int) (a1 : List ZO) : Nat -> List Int -> Nat -> (List Int)
  | 0, _, _ => default
  | n1 + 1, J, U => (bif (decide ((U : Int) < (a1.length : Int))) then zz a0 a1 n1 (J ++ ([(KH a0 (([(nth a1 U).Key, (nth a1 U).Mark] : List Int) ++ (nth a1 U).YP))] : List Int)) (U + 1) else (J))
def J2 (a0 : Int) (a1 : List ZO) : Int := (match zz a0 a1 (a1.length + 1) ([2] : List Int) 0 with | z1_0 => (KH a0 z1_0))
def U1 (a0 : Int) (a1 : Int) (a2 : List ZO) (a3 : Int) : Int := (KH a0 ([3, a1, (J2 a0 a2), a3] : List Int))
def TI (a0 : Za) (a1 : List Int) (a2 : Int) : Int := (bif (((!(YL a2 0 (W ((a0.Zd.length : Int) - 1)))) || ((a1.length : Int) != (a0.Zd.length : Int))) || (!(YL (nth a0.Zd a2.toNat).Count 0 (a0.ZL.length : Int)))) then (-1) else (bif (decide (a2 > 0)) then (U1 (nth a0.Zd a2.toNat).Method (nth a1 a2.toNat) (a0.ZL.take (nth a0.Zd a2.toNat).Count.toNat) (KJ (nth a0.Zd a2.toNat).Method (nth a0.Zd (W (a2 - 1)).toNat))) else (U1 (nth a0.Zd a2.toNat).Method (nth a1 a2.toNat) (a0.ZL.take (nth a0.Zd a2.toNat).Count.toNat) 0)))
def Jt (a0 : ZD) (a1 : Int) : Nat -> List Int -> Nat -> (List Int)
  | 0, _, _ => default
  | n1 + 1, J, U => (bif (decide ((U : Int) < (a0.ZF.length : Int))) then Jt a0 a1 n1 (J ++ ([(TI (Za.mk (nth a0.ZF U).ZI.ZL ((nth a0.ZF U).ZI.Zd ++ ([(ZK.mk ((nth a0.ZF U).ZI.ZL.length : Int) a1 0 ([] : List Zv) ([] : List ZX))] : List ZK))) (Jx (Za.mk (nth a0.ZF U).ZI.ZL ((nth a0.ZF U).ZI.Zd ++ ([(ZK.mk ((nth a0.ZF U).ZI.ZL.length : Int) a1 0 ([] : List Zv) ([] : List ZX))] : List ZK))) (nth a0.ZF U).Doc) (W ((((nth a0.ZF U).ZI.Zd ++ ([(ZK.mk ((nth a0.ZF U).ZI.ZL.length : Int) a1 0 ([] : List Zv) ([] : List ZX))] : List ZK)).length : Int) - 1)))] : List Int)) (U + 1) else (J))
def YD (a0 : ZD) (a1 : Int) : List Int := (match Jt a0 a1 (a0.ZF.length + 1) ([] : List Int) 0 with | z1_0 => z1_0)
def jv (a0 : Int) (a1 : Int) (a2 : Int) : Int := (KH a0 ([1, a1, a2] : List Int))
def xm (a0 : Int) (a1 : List Int) : Nat -> List Int -> Nat -> (List Int)
  | 0, _, _ => default
  | n1 + 1, J, U => (bif (decide ((U : Int) < (a1.length : Int))) then (bif (decide ((W ((U : Int) + 1)) < (a1.length : Int))) then xm a0 a1 n1 (J ++ ([(jv a0 (nth a1 U) (nth a1 (W ((U : Int) + 1)).toNat))] : List Int)) (U + 2) else xm a0 a1 n1 (J ++ ([(nth a1 U)] : List Int)) (U + 2)) else (J))
def kl (a0 : Int) (a1 : List Int) : List Int := (match xm a0 a1 (a1.length + 1) ([] : List Int) 0 with | z1_0 => z1_0)
def jo (a0 : Int) : Nat -> List Int -> (List Int)
  | 0, _ => default
  | n1 + 1, J => (bif (decide ((J.length : Int) > 1)) then jo a0 n1 (kl a0 J) else (J))
def KI (a0 : Int) (a1 : List Int) : Int := (bif (!(YL (a1.length : Int) 1 16)) then (-1) else (match jo a0 (a1.length + 1) a1 with | z1_0 => (nth z1_0 0)))
def zg (a0 : ZD) (a1 : Int) : Int := (KI a1 (YD a0 a1))
def R6 (a0 : List Int) (a1 : Int) : Nat -> Nat -> Sum Bool Unit
  | 0, _ => .inr ()
  | n1 + 1, J => (bif (decide ((J : Int) < (a0.length : Int))) then (bif ((nth a0 J) == a1) then (.inl true) else R6 a0 a1 n1 (J + 1)) else (.inr ()))
def PE (a0 : List Int) (a1 : Int) : Bool := (match R6 a0 a1 (a0.length + 1) 0 with | .inl r1 => r1 | .inr _ => false)
def Pd (a0 : Int) (a1 : Int) : Int := (bif (decide (a1 > a0)) then a1 else a0)
def NP (a0 : Int) (a1 : Int) : Int := (bif (decide (a1 < a0)) then a1 else a0)
def J1 (a0 : List YR) (a1 : List ZQ) (a2 : ZX) : ZX × Bool := (bif (((decide ((Ze a1 a2.Authority) < 0)) || (decide (a2.Seq < 0))) || (!(TK a2.Time))) then ((ZX.mk 0 0 0 0 0), false) else (bif (decide ((Yd a0 (nth a1 (Ze a1 a2.Authority).toNat).Key) < 0)) then ((ZX.mk 0 0 0 0 0), false) else ((ZX.mk a2.Authority a2.Seq a2.Time a2.XN (qg (nth a0 (Yd a0 (nth a1 (Ze a1 a2.Authority).toNat).Key).toNat) (KX a2))), true)))
def KU (a0 : Int) : Nat -> Int -> List Zv -> List Int -> (List Zv)
  | 0, _, _, _ => default
  | n1 + 1, J, U, lA => (bif (decide ((lA.length : Int) > 1)) then (bif ((Int.tmod J 2) == 1) then KU a0 n1 (W (Int.tdiv J 2)) (U ++ ([(Zv.mk (nth lA (W (J - 1)).toNat) true)] : List Zv)) (kl a0 lA) else (bif (decide ((W (J + 1)) < (lA.length : Int))) then KU a0 n1 (W (Int.tdiv J 2)) (U ++ ([(Zv.mk (nth lA (W (J + 1)).toNat) false)] : List Zv)) (kl a0 lA) else KU a0 n1 (W (Int.tdiv J 2)) U (kl a0 lA))) else (U))
def Km (a0 : Int) (a1 : List Int) (a2 : Int) : List Zv := (bif ((decide ((a1.length : Int) > 16)) || (!(YL a2 0 (W ((a1.length : Int) - 1))))) then ([] : List Zv) else (match KU a0 (a1.length + 1) a2 ([] : List Zv) a1 with | z1_0 => z1_0))
def Qg (a0 : Za) (a1 : ZK) : Za × Bool := (bif (!(yX (Za.mk a0.ZL (a0.Zd ++ ([a1] : List ZK))))) then (a0, false) else ((Za.mk a0.ZL (a0.Zd ++ ([a1] : List ZK))), true))
def Q6 (a0 : ZD) (a1 : Int) (a2 : List ZX) : Nat -> Bool -> Nat -> List ZM -> Bool × (List ZM)
  | 0, _, _, _ => (default, default)
  | n1 + 1, J, U, lA => (bif ((decide ((U : Int) < (a0.ZF.length : Int))) && J) then Q6 a0 a1 a2 n1 (Qg (nth a0.ZF U).ZI (ZK.mk ((nth a0.ZF U).ZI.ZL.length : Int) a1 (KI a1 (YD a0 a1)) (Km a1 (YD a0 a1) (U : Int)) a2)).2 (U + 1) (lA.set U (ZM.mk (nth lA U).Id (nth lA U).Y7 (nth lA U).Doc (nth lA U).Sig (Qg (nth a0.ZF U).ZI (ZK.mk ((nth a0.ZF U).ZI.ZL.length : Int) a1 (KI a1 (YD a0 a1)) (Km a1 (YD a0 a1) (U : Int)) a2)).1)) else ((J, lA)))
def QZ (a0 : ZD) (a1 : Int) (a2 : List ZX) : ZD × Bool := (match Q6 a0 a1 a2 (a0.ZF.length + 1) ((JG a0) && (decide ((a0.ZF.length : Int) > 0))) 0 a0.ZF with | (z1_0, z1_1) => (bif ((!z1_0) || (!(JG (ZD.mk a0.Id z1_1)))) then (a0, false) else ((ZD.mk a0.Id z1_1), true)))
def qS (a0 : ZJ) (a2 : List Int) : Nat -> Nat -> List Int -> (List Int)
  | 0, _, _ => default
  | n2 + 1, lI, lq => (bif (decide ((lI : Int) < (a2.length : Int))) then qS a0 a2 n2 (lI + 1) (lq.set (Ze a0.Frame.ZG (nth a2 lI)).toNat (W ((nth a0.Ym (Ze a0.Frame.ZG (nth a2 lI)).toNat) + 1))) else (lq))
def zU (a0 : ZJ) (a1 : Int) (a2 : List Int) (a3 : Int) : Nat -> List ZX -> Nat -> Sum (ZJ × Bool) (List ZX)
  | 0, _, _ => .inr default
  | n1 + 1, J, U => (bif (decide ((U : Int) < (a2.length : Int))) then (bif (PE a0.YW (nth a2 U)) then (bif (!(J1 a0.Frame.Zq a0.Frame.ZG (ZX.mk (nth a2 U) (nth a0.Ym (Ze a0.Frame.ZG (nth a2 U)).toNat) (NP 10000 (Pd 0 (W (a0.Frame.Now + a3)))) (zg (nth a0.ZA a1.toNat) (Zh a0.Frame.Methods a0.Frame.Now)) 0)).2) then (.inl (a0, false)) else zU a0 a1 a2 a3 n1 (J ++ ([(J1 a0.Frame.Zq a0.Frame.ZG (ZX.mk (nth a2 U) (nth a0.Ym (Ze a0.Frame.ZG (nth a2 U)).toNat) (NP 10000 (Pd 0 (W (a0.Frame.Now + a3)))) (zg (nth a0.ZA a1.toNat) (Zh a0.Frame.Methods a0.Frame.Now)) 0)).1] : List ZX)) (U + 1)) else (bif (!(J1 a0.Frame.Zq a0.Frame.ZG (ZX.mk (nth a2 U) (nth a0.Ym (Ze a0.Frame.ZG (nth a2 U)).toNat) a0.Frame.Now (zg (nth a0.ZA a1.toNat) (Zh a0.Frame.Methods a0.Frame.Now)) 0)).2) then (.inl (a0, false)) else zU a0 a1 a2 a3 n1 (J ++ ([(J1 a0.Frame.Zq a0.Frame.ZG (ZX.mk (nth a2 U) (nth a0.Ym (Ze a0.Frame.ZG (nth a2 U)).toNat) a0.Frame.Now (zg (nth a0.ZA a1.toNat) (Zh a0.Frame.Methods a0.Frame.Now)) 0)).1] : List ZX)) (U + 1))) else (.inr J))
def xE (a0 : ZJ) (a1 : Int) (a2 : List Int) (a3 : Int) : ZJ × Bool := (bif ((((!(Qi a0 a1)) || (decide ((Zh a0.Frame.Methods a0.Frame.Now) < 0))) || (!(K8 a0 a2))) || (!(YL a3 (-10000) 10000))) then (a0, false) else (match zU a0 a1 a2 a3 (a2.length + 1) ([] : List ZX) 0 with | .inl r1 => r1 | .inr z1_0 => (bif (!(QZ (nth a0.ZA a1.toNat) (Zh a0.Frame.Methods a0.Frame.Now) z1_0).2) then (a0, false) else (match qS a0 a2 (a2.length + 1) 0 a0.Ym with | z2_0 => ((ZJ.mk a0.Frame a0.ZS a0.Zr (a0.ZA.set a1.toNat (QZ (nth a0.ZA a1.toNat) (Zh a0.Frame.Methods a0.Frame.Now) z1_0).1) z2_0 a0.YW a0.Next a0.YN), true)))))
def xb (a0 : Int) (a1 : ZM) : Nat -> List Int -> Nat -> (List Int)
  | 0, _, _ => default
  | n1 + 1, J, U => (bif (decide ((U : Int) < (a1.ZI.Zd.length : Int))) then xb a0 a1 n1 (J ++ ([(KJ a0 (nth a1.ZI.Zd U))] : List Int)) (U + 1) else (J))
def jT (a0 : Int) (a1 : ZM) : Int := (match xb a0 a1 (a1.ZI.Zd.length + 1) ([5, a1.Id, a1.Y7, (Qq a0 a1.Doc), (J2 a0 a1.ZI.ZL)] : List Int) 0 with | z1_0 => (KH a0 z1_0))
def WE (a0 : Int) (a1 : List ZM) : Nat -> List Int -> Nat -> (List Int)
  | 0, _, _ => default
  | n1 + 1, J, U => (bif (decide ((U : Int) < (a1.length : Int))) then WE a0 a1 n1 (J ++ ([(jT a0 (nth a1 U))] : List Int)) (U + 1) else (J))
def Wv (a0 : Int) (a1 : List ZM) : Int := (match WE a0 a1 (a1.length + 1) ([] : List Int) 0 with | z1_0 => (KI a0 z1_0))
def JV (a0 : ZD) (a2 : List Int) : Nat -> Nat -> List ZM -> Sum (YM × Bool) (List ZM)
  | 0, _, _ => .inr default
  | n1 + 1, J, U => (bif (decide ((J : Int) < (a2.length : Int))) then (bif (decide ((Yk a0 (nth a2 J)) < 0)) then (.inl ((YM.mk 0 0 ([] : List ZM) 0), false)) else JV a0 a2 n1 (J + 1) (U ++ ([(nth a0.ZF (Yk a0 (nth a2 J)).toNat)] : List ZM))) else (.inr U))
def Xe (a0 : ZD) (a1 : Int) (a2 : List Int) (a3 : Int) : YM × Bool := (match JV a0 a2 (a2.length + 1) 0 ([] : List ZM) with | .inl r1 => r1 | .inr z1_0 => (bif ((a2.length : Int) == 0) then ((YM.mk 0 0 ([] : List ZM) 0), false) else ((YM.mk a0.Id a1 z1_0 (Wv a3 z1_0)), true)))
def Jk (a0 : YM) : Nat -> Nat -> Sum Bool Unit
  | 0, _ => .inr ()
  | n1 + 1, J => (bif (decide ((J : Int) < (a0.ZF.length : Int))) then (bif (!(Uq (nth a0.ZF J))) then (.inl false) else Jk a0 n1 (J + 1)) else (.inr ()))
def Kb (a0 : YM) (a1 : Int) : Bool := (match Jk a0 (a0.ZF.length + 1) 0 with | .inl r1 => r1 | .inr _ => ((YL (a0.ZF.length : Int) 1 8) && (a0.XN == (Wv a1 a0.ZF))))
def QC (a1 : YM) : Nat -> Bool -> Nat -> Int -> List ZM -> Bool × Int × (List ZM)
  | 0, _, _, _, _ => (default, default, default)
  | n1 + 1, J, U, lA, iL => (bif ((decide ((U : Int) < (a1.ZF.length : Int))) && J) then QC a1 n1 (Qr (ZD.mk lA iL) (nth a1.ZF U)).2 (U + 1) (Qr (ZD.mk lA iL) (nth a1.ZF U)).1.Id (Qr (ZD.mk lA iL) (nth a1.ZF U)).1.ZF else ((J, lA, iL)))
def QQ (a0 : ZD) (a1 : YM) (a2 : Int) : ZD × Bool := (match QC a1 (a1.ZF.length + 1) ((Kb a1 a2) && (a1.To == a0.Id)) 0 a0.Id a0.ZF with | (z1_0, z1_1, z1_2) => (bif (!z1_0) then (a0, false) else ((ZD.mk z1_1 z1_2), true)))
def KW (a0 : ZD) (a1 : Int) : Nat -> Nat -> List ZM -> (List ZM)
  | 0, _, _ => default
  | n1 + 1, J, U => (bif (decide ((J : Int) < (a0.ZF.length : Int))) then (bif ((J : Int) != (Yk a0 a1)) then KW a0 a1 n1 (J + 1) (U ++ ([(nth a0.ZF J)] : List ZM)) else KW a0 a1 n1 (J + 1) U) else (U))
def zV (a0 : ZD) (a1 : Int) : ZD × Bool := (bif (decide ((Yk a0 a1) < 0)) then (a0, false) else (match KW a0 a1 (a0.ZF.length + 1) 0 ([] : List ZM) with | z1_0 => ((ZD.mk a0.Id z1_0), true)))
def Qv (a0 : ZD) (a1 : ZD) (a2 : List Int) (a3 : Int) : Nat -> Bool -> Nat -> Int -> List ZM -> Bool × Int × (List ZM)
  | 0, _, _, _, _ => (default, default, default)
  | n1 + 1, J, U, lA, iL => (bif (((decide ((U : Int) < (a2.length : Int))) && (Xe a0 a1.Id a2 a3).2) && J) then Qv a0 a1 a2 a3 n1 (zV (ZD.mk lA iL) (nth a2 U)).2 (U + 1) (zV (ZD.mk lA iL) (nth a2 U)).1.Id (zV (ZD.mk lA iL) (nth a2 U)).1.ZF else ((J, lA, iL)))
def Qn (a0 : ZD) (a1 : ZD) (a2 : List Int) (a3 : Int) : ZD × ZD × Bool := (match Qv a0 a1 a2 a3 (a2.length + 1) (QQ a1 (Xe a0 a1.Id a2 a3).1 a3).2 0 a0.Id a0.ZF with | (z1_0, z1_1, z1_2) => (bif ((!(Xe a0 a1.Id a2 a3).2) || (!z1_0)) then (a0, a1, false) else ((ZD.mk z1_1 z1_2), (QQ a1 (Xe a0 a1.Id a2 a3).1 a3).1, true)))
def qm (a0 : ZJ) (a1 : Int) (a2 : Int) (a3 : Int) : ZJ × Bool := (bif ((((!(Qi a0 a1)) || (!(Qi a0 a2))) || (a1 == a2)) || (decide ((Zh a0.Frame.Methods a0.Frame.Now) < 0))) then (a0, false) else ((ZJ.mk a0.Frame a0.ZS a0.Zr ((a0.ZA.set a1.toNat (Qn (nth a0.ZA a1.toNat) (nth a0.ZA a2.toNat) ([a3] : List Int) (Zh a0.Frame.Methods a0.Frame.Now)).1).set a2.toNat (Qn (nth a0.ZA a1.toNat) (nth a0.ZA a2.toNat) ([a3] : List Int) (Zh a0.Frame.Methods a0.Frame.Now)).2.1) a0.Ym a0.YW a0.Next a0.YN), (Qn (nth a0.ZA a1.toNat) (nth a0.ZA a2.toNat) ([a3] : List Int) (Zh a0.Frame.Methods a0.Frame.Now)).2.2))
def Kt (a0 : ZD) (a1 : Int) : Nat -> Int -> Nat -> List ZM -> Int × (List ZM)
  | 0, _, _, _ => (default, default)
  | n1 + 1, J, U, lA => (bif (decide ((U : Int) < (a0.ZF.length : Int))) then (bif (decide ((nth a0.ZF U).Y7 < a1)) then Kt a0 a1 n1 (W (J + 1)) (U + 1) lA else Kt a0 a1 n1 J (U + 1) (lA ++ ([(nth a0.ZF U)] : List ZM))) else ((J, lA)))
def yG (a0 : ZD) (a1 : Int) : ZD × Int := (match Kt a0 a1 (a0.ZF.length + 1) 0 0 ([] : List ZM) with | (z1_0, z1_1) => ((ZD.mk a0.Id z1_1), z1_0))
def yP (a0 : ZJ) (a1 : Int) : ZJ × Bool := (bif (!(Qi a0 a1)) then (a0, false) else ((ZJ.mk a0.Frame a0.ZS a0.Zr (a0.ZA.set a1.toNat (yG (nth a0.ZA a1.toNat) a0.Frame.Now).1) a0.Ym a0.YW a0.Next a0.YN), true))
def zf (a0 : List Zf) (a1 : Int) : Nat -> Nat -> Sum Int Unit
  | 0, _ => .inr ()
  | n1 + 1, J => (bif (decide ((J : Int) < (a0.length : Int))) then (bif ((nth a0 J).Id == a1) then (.inl (J : Int)) else zf a0 a1 n1 (J + 1)) else (.inr ()))
def zC (a0 : List Zf) (a1 : Int) : Int := (match zf a0 a1 (a0.length + 1) 0 with | .inl r1 => r1 | .inr _ => (-1))
def TE (a0 : List Zf) (a1 : Int) : Int := (bif (decide ((zC a0 a1) < 0)) then 0 else (nth a0 (zC a0 a1).toNat).UR)
def qi (a0 : Z8) (a1 : Int) : Bool := ((decide ((Yd a0.Zq a1) >= 0)) && (decide (a0.Now >= (TE a0.Methods (nth a0.Zq (Yd a0.Zq a1).toNat).Method))))
def yz (a0 : ZJ) (a1 : Int) (a2 : Int) (a3 : ZV) : ZJ × Bool := (bif ((!(Qi a0 a1)) || (!(qi a0.Frame a2))) then (a0, false) else (bif (!(Xa a0 a2 a3 0 10000).2) then (a0, false) else (bif (!(Qr (nth a0.ZA a1.toNat) (Xa a0 a2 a3 0 10000).1).2) then (a0, false) else ((ZJ.mk a0.Frame a0.ZS a0.Zr (a0.ZA.set a1.toNat (Qr (nth a0.ZA a1.toNat) (Xa a0 a2 a3 0 10000).1).1) a0.Ym a0.YW (W (a0.Next + 1)) (a0.YN ++ ([a0.Next] : List Int))), true))))
def QU (a0 : ZJ) : Nat -> List Int -> Nat -> (List Int)
  | 0, _, _ => default
  | n1 + 1, J, U => (bif (decide ((U : Int) < (a0.Frame.ZG.length : Int))) then (bif ((PE a0.YW (nth a0.Frame.ZG U).Id) || (qi a0.Frame (nth a0.Frame.ZG U).Key)) then QU a0 n1 (J ++ ([(nth a0.Frame.ZG U).Id] : List Int)) (U + 1) else QU a0 n1 J (U + 1)) else (J))
def Yc (a0 : ZJ) : List Int := (match QU a0 (a0.Frame.ZG.length + 1) ([] : List Int) 0 with | z1_0 => z1_0)
def zt (a0 : ZJ) (a1 : Int) (a2 : Int) : Nat -> Nat -> List ZX -> Sum (ZJ × Bool) (List ZX)
  | 0, _, _ => .inr default
  | n1 + 1, J, U => (bif (decide ((J : Int) < ((Yc a0).length : Int))) then (bif (!(J1 a0.Frame.Zq a0.Frame.ZG (ZX.mk (nth (Yc a0) J) 0 a2 (nth (YD (nth a0.ZA (ZH a0 a1).1.toNat) (Zh a0.Frame.Methods a0.Frame.Now)) (ZH a0 a1).2.toNat) 0)).2) then (.inl (a0, false)) else zt a0 a1 a2 n1 (J + 1) (U ++ ([(J1 a0.Frame.Zq a0.Frame.ZG (ZX.mk (nth (Yc a0) J) 0 a2 (nth (YD (nth a0.ZA (ZH a0 a1).1.toNat) (Zh a0.Frame.Methods a0.Frame.Now)) (ZH a0 a1).2.toNat) 0)).1] : List ZX))) else (.inr U))
def Kq (a0 : ZJ) (a1 : Int) (a2 : Int) : ZJ × Bool := (bif ((((decide ((ZH a0 a1).1 < 0)) || (decide ((Zh a0.Frame.Methods a0.Frame.Now) < 0))) || (!(PE a0.YN a1))) || (((Yc a0).length : Int) == 0)) then (a0, false) else (match zt a0 a1 a2 ((Yc a0).length + 1) 0 ([] : List ZX) with | .inl r1 => r1 | .inr z1_0 => ((ZJ.mk a0.Frame a0.ZS a0.Zr (a0.ZA.set (ZH a0 a1).1.toNat (ZD.mk (nth a0.ZA (ZH a0 a1).1.toNat).Id ((nth a0.ZA (ZH a0 a1).1.toNat).ZF.set (ZH a0 a1).2.toNat (ZM.mk (nth (nth a0.ZA (ZH a0 a1).1.toNat).ZF (ZH a0 a1).2.toNat).Id (nth (nth a0.ZA (ZH a0 a1).1.toNat).ZF (ZH a0 a1).2.toNat).Y7 (nth (nth a0.ZA (ZH a0 a1).1.toNat).ZF (ZH a0 a1).2.toNat).Doc (nth (nth a0.ZA (ZH a0 a1).1.toNat).ZF (ZH a0 a1).2.toNat).Sig (Qg (nth (nth a0.ZA (ZH a0 a1).1.toNat).ZF (ZH a0 a1).2.toNat).ZI (ZK.mk ((nth (nth a0.ZA (ZH a0 a1).1.toNat).ZF (ZH a0 a1).2.toNat).ZI.ZL.length : Int) (Zh a0.Frame.Methods a0.Frame.Now) (nth (YD (nth a0.ZA (ZH a0 a1).1.toNat) (Zh a0.Frame.Methods a0.Frame.Now)) (ZH a0 a1).2.toNat) ([] : List Zv) z1_0)).1)))) a0.Ym a0.YW a0.Next a0.YN), (Qg (nth (nth a0.ZA (ZH a0 a1).1.toNat).ZF (ZH a0 a1).2.toNat).ZI (ZK.mk ((nth (nth a0.ZA (ZH a0 a1).1.toNat).ZF (ZH a0 a1).2.toNat).ZI.ZL.length : Int) (Zh a0.Frame.Methods a0.Frame.Now) (nth (YD (nth a0.ZA (ZH a0 a1).1.toNat) (Zh a0.Frame.Methods a0.Frame.Now)) (ZH a0 a1).2.toNat) ([] : List Zv) z1_0)).2)))
def qo (a0 : ZJ) (a1 : Int) (a2 : Int) : ZJ × Bool := (bif ((decide ((ZH a0 a1).1 < 0)) || (decide (((nth (nth a0.ZA (ZH a0 a1).1.toNat).ZF (ZH a0 a1).2.toNat).ZI.ZL.length : Int) < 2))) then (a0, false) else (bif (((!(Zc (nth (nth (nth a0.ZA (ZH a0 a1).1.toNat).ZF (ZH a0 a1).2.toNat).ZI.ZL 1)).2) || (decide ((Z2 a0.ZS (Zc (nth (nth (nth a0.ZA (ZH a0 a1).1.toNat).ZF (ZH a0 a1).2.toNat).ZI.ZL 1)).1.Zg) < 0))) || (!(qi a0.Frame (nth a0.ZS (Z2 a0.ZS (Zc (nth (nth (nth a0.ZA (ZH a0 a1).1.toNat).ZF (ZH a0 a1).2.toNat).ZI.ZL 1)).1.Zg).toNat).Z5))) then (a0, false) else (bif (!(YZ a0.Frame.Zq (Z4.mk (Zc (nth (nth (nth a0.ZA (ZH a0 a1).1.toNat).ZF (ZH a0 a1).2.toNat).ZI.ZL 1)).1.Zg a2 (-1) (nth a0.ZS (Z2 a0.ZS (Zc (nth (nth (nth a0.ZA (ZH a0 a1).1.toNat).ZF (ZH a0 a1).2.toNat).ZI.ZL 1)).1.Zg).toNat).Z5 0)).2) then (a0, false) else ((ZJ.mk a0.Frame a0.ZS a0.Zr (a0.ZA.set (ZH a0 a1).1.toNat (Xu (nth a0.ZA (ZH a0 a1).1.toNat) a1 (Yz (YZ a0.Frame.Zq (Z4.mk (Zc (nth (nth (nth a0.ZA (ZH a0 a1).1.toNat).ZF (ZH a0 a1).2.toNat).ZI.ZL 1)).1.Zg a2 (-1) (nth a0.ZS (Z2 a0.ZS (Zc (nth (nth (nth a0.ZA (ZH a0 a1).1.toNat).ZF (ZH a0 a1).2.toNat).ZI.ZL 1)).1.Zg).toNat).Z5 0)).1)).1) a0.Ym a0.YW a0.Next a0.YN), (Xu (nth a0.ZA (ZH a0 a1).1.toNat) a1 (Yz (YZ a0.Frame.Zq (Z4.mk (Zc (nth (nth (nth a0.ZA (ZH a0 a1).1.toNat).ZF (ZH a0 a1).2.toNat).ZI.ZL 1)).1.Zg a2 (-1) (nth a0.ZS (Z2 a0.ZS (Zc (nth (nth (nth a0.ZA (ZH a0 a1).1.toNat).ZF (ZH a0 a1).2.toNat).ZI.ZL 1)).1.Zg).toNat).Z5 0)).1)).2))))
def QH (a0 : ZJ) (a1 : Yu) : ZJ × Bool := (bif (a1.Kind == 1) then ((qn a0 a1.A).1, (qn a0 a1.A).2) else (bif (a1.Kind == 2) then ((qu a0 a1.A a1.B a1.Doc a1.C a1.D).1, (qu a0 a1.A a1.B a1.Doc a1.C a1.D).2) else (bif (a1.Kind == 3) then ((yF a0 a1.A).1, (yF a0 a1.A).2) else (bif (a1.Kind == 4) then ((yM a0 a1.A).1, (yM a0 a1.A).2) else (bif (a1.Kind == 5) then ((xE a0 a1.A a1.Ids a1.B).1, (xE a0 a1.A a1.Ids a1.B).2) else (bif (a1.Kind == 6) then ((qm a0 a1.A a1.B a1.C).1, (qm a0 a1.A a1.B a1.C).2) else (bif (a1.Kind == 7) then ((yP a0 a1.A).1, (yP a0 a1.A).2) else (bif (a1.Kind == 8) then ((yz a0 a1.A a1.B a1.Doc).1, (yz a0 a1.A a1.B a1.Doc).2) else (bif (a1.Kind == 9) then ((Kq a0 a1.A a1.B).1, (Kq a0 a1.A a1.B).2) else (bif (a1.Kind == 10) then ((qo a0 a1.A a1.B).1, (qo a0 a1.A a1.B).2) else (a0, false)))))))))))
def RL (a0 : Z8) : Z8 := a0
def OL (a0 : List Int) : List Int := a0
def VB (a0 : ZV) : ZV := a0
def Rh (a0 : ZO) : ZO := a0
def j3 (a0 : List ZO) : Nat -> List ZO -> Nat -> (List ZO)
  | 0, _, _ => default
  | n1 + 1, J, U => (bif (decide ((U : Int) < (a0.length : Int))) then j3 a0 n1 (J ++ ([(nth a0 U)] : List ZO)) (U + 1) else (J))
def WX (a0 : List ZO) : List ZO := (match j3 a0 (a0.length + 1) ([] : List ZO) 0 with | z1_0 => z1_0)
def TS (a0 : List ZX) : List ZX := a0
def Uh (a0 : ZK) : ZK := a0
def jk (a0 : Za) : Nat -> Nat -> List ZK -> (List ZK)
  | 0, _, _ => default
  | n1 + 1, J, U => (bif (decide ((J : Int) < (a0.Zd.length : Int))) then jk a0 n1 (J + 1) (U ++ ([(nth a0.Zd J)] : List ZK)) else (U))
def Wa (a0 : Za) : Za := (match jk a0 (a0.Zd.length + 1) 0 ([] : List ZK) with | z1_0 => (Za.mk a0.ZL z1_0))
def OK (a0 : ZM) : ZM := a0
def qb (a0 : ZD) : Nat -> Nat -> List ZM -> (List ZM)
  | 0, _, _ => default
  | n1 + 1, J, U => (bif (decide ((J : Int) < (a0.ZF.length : Int))) then qb a0 n1 (J + 1) (U ++ ([(nth a0.ZF J)] : List ZM)) else (U))
def kT (a0 : ZD) : ZD := (match qb a0 (a0.ZF.length + 1) 0 ([] : List ZM) with | z1_0 => (ZD.mk a0.Id z1_0))
def kR (a0 : ZJ) : Nat -> Nat -> List ZD -> (List ZD)
  | 0, _, _ => default
  | n1 + 1, J, U => (bif (decide ((J : Int) < (a0.ZA.length : Int))) then kR a0 n1 (J + 1) (U ++ ([(nth a0.ZA J)] : List ZD)) else (U))
def V0 (a0 : ZJ) : ZJ := (match kR a0 (a0.ZA.length + 1) 0 ([] : List ZD) with | z1_0 => (ZJ.mk a0.Frame a0.ZS a0.Zr z1_0 a0.Ym a0.YW a0.Next a0.YN))
def Zp (a0 : Int) (a1 : Int) (a2 : Int) : Bool := ((decide (a1 <= a0)) && (decide (a0 <= a2)))
def yQ (a0 : ZJ) (a1 : Int) : ZJ × Bool := (bif ((!(Zp a1 0 100)) || (decide ((W (a0.Frame.Now + a1)) > 10000))) then (a0, false) else ((ZJ.mk (Z8.mk a0.Frame.Zq a0.Frame.ZG a0.Frame.Methods a0.Frame.y9 (W (a0.Frame.Now + a1))) a0.ZS a0.Zr a0.ZA a0.Ym a0.YW a0.Next a0.YN), true))
def jG (a0 : List YR) (a1 : Int) : Nat -> Nat -> Sum Int Unit
  | 0, _ => .inr ()
  | n1 + 1, J => (bif (decide ((J : Int) < (a0.length : Int))) then (bif ((nth a0 J).Number == a1) then (.inl (J : Int)) else jG a0 a1 n1 (J + 1)) else (.inr ()))
def YH (a0 : List YR) (a1 : Int) : Int := (match jG a0 a1 (a0.length + 1) 0 with | .inl r1 => r1 | .inr _ => (-1))
def zw (a0 : List Zf) (a1 : Int) : Nat -> Int -> Nat -> Int
  | 0, _, _ => default
  | n1 + 1, J, U => (bif (decide ((U : Int) < (a0.length : Int))) then (bif (((decide ((nth a0 U).Pn <= a1)) && (decide (a1 < (nth a0 U).Ends))) && ((decide (J < 0)) || (decide ((nth a0 U).Ends > (nth a0 J.toNat).Ends)))) then zw a0 a1 n1 (U : Int) (U + 1) else zw a0 a1 n1 J (U + 1)) else (J))
def ZP (a0 : List Zf) (a1 : Int) : Int := (match zw a0 a1 (a0.length + 1) (-1) 0 with | z1_0 => (bif (decide (z1_0 < 0)) then (-1) else (nth a0 z1_0.toNat).Id))
def YU (a0 : ZJ) (a1 : Int) : Bool := (Zp a1 0 (W ((a0.ZA.length : Int) - 1)))
def zm (a0 : ZV) : Nat -> Nat -> Sum Bool Unit
  | 0, _ => .inr ()
  | n1 + 1, J => (bif (decide ((J : Int) < (a0.ZN.length : Int))) then (bif ((decide (((nth a0.ZN J).size : Int) > 40)) || (!(Zp (nth a0.ZR J) 1 1000000000000))) then (.inl false) else zm a0 n1 (J + 1)) else (.inr ()))
def zE (a0 : ZV) : Bool := (bif (((!(Zp a0.zA 0 999)) || (!(Zp (a0.ZN.length : Int) 1 6))) || ((a0.ZR.length : Int) != (a0.ZN.length : Int))) then false else (match zm a0 (a0.ZN.length + 1) 0 with | .inl r1 => r1 | .inr _ => true))
def xQ (a0 : List UInt8) : Nat -> List Int -> Nat -> (List Int)
  | 0, _, _ => default
  | n1 + 1, J, U => (bif (decide ((U : Int) < (a0.length : Int))) then xQ a0 n1 (J ++ ([(W ((nth a0 U).toNat : Int))] : List Int)) (U + 1) else (J))
def kA (a0 : List UInt8) : List Int := (match xQ a0 (a0.length + 1) ([] : List Int) 0 with | z1_0 => z1_0)
def Al (a0 : Int) (a1 : Int) : Int := (bif (!(Zp a1 1 1000000000000)) then 0 else (Int.tmod (W ((Int.tmod a0 a1) + a1)) a1))
def RC (a0 : List Int) : Nat -> Int -> Nat -> Int
  | 0, _, _ => default
  | n1 + 1, J, U => (bif (decide ((U : Int) < (a0.length : Int))) then RC a0 n1 (Int.tmod (W ((W ((W (J * 1000003)) + (Al (nth a0 U) 2147483647))) + 13)) 2147483647) (U + 1) else (J))
def Mq (a0 : List Int) : Int := (match RC a0 (a0.length + 1) 11 0 with | z1_0 => z1_0)
def KK (a0 : Int) (a1 : List Int) : Int := (Mq (([7, a0] : List Int) ++ a1))
def jU (a0 : Int) (a1 : ByteArray) (a2 : Int) : Int := (KK a0 (([a2] : List Int) ++ (kA a1.data.toList)))
def qI (a0 : Int) (a1 : ZV) : Nat -> List Int -> Nat -> (List Int)
  | 0, _, _ => default
  | n1 + 1, J, U => (bif (decide ((U : Int) < (a1.ZN.length : Int))) then qI a0 a1 n1 (J ++ ([(jU a0 (nth a1.ZN U) (nth a1.ZR U))] : List Int)) (U + 1) else (J))
def Ya (a0 : Int) (a1 : ZV) : Int := (bif (!(zE a1)) then (-1) else (match qI a0 a1 (a1.ZN.length + 1) ([a1.zA] : List Int) 0 with | z1_0 => (KK a0 z1_0)))
def X8 (a0 : ZY) : List Int := ([104, a0.Key, a0.Zg, a0.Method, a0.XN, a0.xH, a0.Org, a0.xL, a0.kx] : List Int)
def ko (a0 : Int) (a1 : List Int) : Int := (Mq ((([a0] : List Int) ++ a1) ++ ([a0] : List Int)))
def W4 (a0 : YR) (a1 : List Int) : Int := (ko a0.WN (([a0.Method] : List Int) ++ a1))
def ya (a0 : List YR) (a1 : Int) (a2 : List Int) : Int × Bool := (bif (decide ((YH a0 a1) < 0)) then (0, false) else ((W4 (nth a0 (YH a0 a1).toNat) a2), true))
def qT (a0 : ZY) : Bool := ((((((((Zp a0.Key 1 99) && (Zp a0.Zg 1 999)) && (Zp a0.Method 0 99)) && (Zp a0.Org 0 99)) && (Zp a0.xH 1 3)) && (Zp a0.XN 0 1000000000000)) && (Zp a0.xL 0 1000000000000)) && (Zp a0.kx 0 1000000000000))
def Y6 (a0 : List YR) (a1 : ZY) : ZY × Bool := (bif ((!(qT a1)) || (!(ya a0 a1.Key (X8 a1)).2)) then ((ZY.mk 0 0 0 0 0 0 0 0 0), false) else ((ZY.mk a1.Key a1.Zg a1.Method a1.XN a1.xH a1.Org a1.xL a1.kx (ya a0 a1.Key (X8 a1)).1), true))
def QP (a0 : ZY) : ZO := (ZO.mk a0.Key (X8 a0) a0.Mark)
def xd (a0 : Z1) : List Int := ([101, a0.Zg, a0.Key, a0.ji, a0.VN, a0.To, a0.Z5] : List Int)
def JK (a0 : Z1) : ZO := (ZO.mk a0.Z5 (xd a0) a0.Mark)
def yO (a0 : ZD) (a1 : Int) : Nat -> Nat -> Sum Int Unit
  | 0, _ => .inr ()
  | n1 + 1, J => (bif (decide ((J : Int) < (a0.ZF.length : Int))) then (bif ((nth a0.ZF J).Id == a1) then (.inl (J : Int)) else yO a0 a1 n1 (J + 1)) else (.inr ()))
def ZW (a0 : ZD) (a1 : Int) : Int := (match yO a0 a1 (a0.ZF.length + 1) 0 with | .inl r1 => r1 | .inr _ => (-1))
def TP (a0 : Int) : Bool := (Zp a0 0 10000)
def kX (a0 : List Int) (a1 : List Int) : Nat -> Nat -> Sum Bool Unit
  | 0, _ => .inr ()
  | n1 + 1, J => (bif (decide ((J : Int) < (a0.length : Int))) then (bif ((nth a0 J) != (nth a1 J)) then (.inl false) else kX a0 a1 n1 (J + 1)) else (.inr ()))
def UC (a0 : List Int) (a1 : List Int) : Bool := (bif ((a0.length : Int) != (a1.length : Int)) then false else (match kX a0 a1 (a0.length + 1) 0 with | .inl r1 => r1 | .inr _ => true))
def yf (a0 : ZO) (a1 : ZO) : Bool := (((a0.Key == a1.Key) && (a0.Mark == a1.Mark)) && (UC a0.YP a1.YP))
def WZ (a0 : List ZO) (a1 : ZO) : Nat -> Nat -> Sum Bool Unit
  | 0, _ => .inr ()
  | n1 + 1, J => (bif (decide ((J : Int) < (a0.length : Int))) then (bif (yf (nth a0 J) a1) then (.inl true) else WZ a0 a1 n1 (J + 1)) else (.inr ()))
def VL (a0 : List ZO) (a1 : ZO) : Bool := (match WZ a0 a1 (a0.length + 1) 0 with | .inl r1 => r1 | .inr _ => false)
def qC (a0 : Za) : Nat -> Nat -> Sum Bool Unit
  | 0, _ => .inr ()
  | n2 + 1, lI => (bif (decide ((lI : Int) < (a0.Zd.length : Int))) then (bif ((!(Zp (nth a0.Zd lI).Count 1 (a0.ZL.length : Int))) || ((decide ((lI : Int) > 0)) && (decide ((nth a0.Zd lI).Count < (nth a0.Zd (lI - 1)).Count)))) then (.inl false) else qC a0 n2 (lI + 1)) else (.inr ()))
def xz (a0 : Za) : Nat -> Nat -> Sum Bool Unit
  | 0, _ => .inr ()
  | n1 + 1, J => (bif (decide ((J : Int) < (a0.ZL.length : Int))) then (bif (VL (a0.ZL.take J) (nth a0.ZL J)) then (.inl false) else xz a0 n1 (J + 1)) else (.inr ()))
def zX (a0 : Za) : Bool := (bif ((!(Zp (a0.ZL.length : Int) 1 12)) || (decide ((a0.Zd.length : Int) > 8))) then false else (match xz a0 (a0.ZL.length + 1) 0 with | .inl r1 => r1 | .inr _ => (match qC a0 (a0.Zd.length + 1) 0 with | .inl r2 => r2 | .inr _ => true)))
def Ur (a0 : ZM) : Bool := (((((Zp a0.Id 1 999) && (TP a0.Y7)) && (zE a0.Doc)) && (zX a0.ZI)) && (yf (nth a0.ZI.ZL 0) (QP a0.Sig)))
def qO (a0 : ZD) : Nat -> Nat -> Sum Bool Unit
  | 0, _ => .inr ()
  | n1 + 1, J => (bif (decide ((J : Int) < (a0.ZF.length : Int))) then (bif ((!(Ur (nth a0.ZF J))) || ((decide ((J : Int) > 0)) && (decide ((nth a0.ZF (J - 1)).Id >= (nth a0.ZF J).Id)))) then (.inl false) else qO a0 n1 (J + 1)) else (.inr ()))
def Ji (a0 : ZD) : Bool := (match qO a0 (a0.ZF.length + 1) 0 with | .inl r1 => r1 | .inr _ => ((Zp a0.Id 0 99) && (decide ((a0.ZF.length : Int) <= 8))))
def Y9 (a0 : ZD) (a1 : ZM) : Nat -> Nat -> Nat
  | 0, _ => default
  | n1 + 1, J => (bif ((decide ((J : Int) < (a0.ZF.length : Int))) && (decide ((nth a0.ZF J).Id < a1.Id))) then Y9 a0 a1 n1 (J + 1) else (J))
def XB (a0 : ZD) (a1 : ZM) : ZD × Bool := (bif ((decide ((ZW a0 a1.Id) >= 0)) || (!(Ji a0))) then (a0, false) else (match Y9 a0 a1 (a0.ZF.length + 1) 0 with | z1_0 => (bif (!(Ji (ZD.mk a0.Id (((a0.ZF.take z1_0) ++ ([a1] : List ZM)) ++ (a0.ZF.drop z1_0))))) then (a0, false) else ((ZD.mk a0.Id (((a0.ZF.take z1_0) ++ ([a1] : List ZM)) ++ (a0.ZF.drop z1_0))), true))))
def K6 (a0 : ZJ) (a1 : Int) (a2 : Int) (a3 : ZV) (a4 : Int) (a5 : Int) : Nat -> Nat -> Sum (ZJ × Bool) Unit
  | 0, _ => .inr ()
  | n1 + 1, J => (bif (decide ((J : Int) < (a0.ZS.length : Int))) then (bif ((nth a0.ZS J).Key != a2) then K6 a0 a1 a2 a3 a4 a5 n1 (J + 1) else (bif ((!(Y6 a0.Frame.Zq (ZY.mk a2 (nth a0.ZS J).Zg (ZP a0.Frame.Methods a0.Frame.Now) (Ya (ZP a0.Frame.Methods a0.Frame.Now) a3) 1 a4 0 0 0)).2) || (!(XB (nth a0.ZA a1.toNat) (ZM.mk a0.Next a5 a3 (Y6 a0.Frame.Zq (ZY.mk a2 (nth a0.ZS J).Zg (ZP a0.Frame.Methods a0.Frame.Now) (Ya (ZP a0.Frame.Methods a0.Frame.Now) a3) 1 a4 0 0 0)).1 (Za.mk ([(QP (Y6 a0.Frame.Zq (ZY.mk a2 (nth a0.ZS J).Zg (ZP a0.Frame.Methods a0.Frame.Now) (Ya (ZP a0.Frame.Methods a0.Frame.Now) a3) 1 a4 0 0 0)).1), (JK (nth a0.ZS J))] : List ZO) ([] : List ZK)))).2)) then (.inl (a0, false)) else (.inl ((ZJ.mk a0.Frame a0.ZS a0.Zr (a0.ZA.set a1.toNat (XB (nth a0.ZA a1.toNat) (ZM.mk a0.Next a5 a3 (Y6 a0.Frame.Zq (ZY.mk a2 (nth a0.ZS J).Zg (ZP a0.Frame.Methods a0.Frame.Now) (Ya (ZP a0.Frame.Methods a0.Frame.Now) a3) 1 a4 0 0 0)).1 (Za.mk ([(QP (Y6 a0.Frame.Zq (ZY.mk a2 (nth a0.ZS J).Zg (ZP a0.Frame.Methods a0.Frame.Now) (Ya (ZP a0.Frame.Methods a0.Frame.Now) a3) 1 a4 0 0 0)).1), (JK (nth a0.ZS J))] : List ZO) ([] : List ZK)))).1) a0.Ym a0.YW (W (a0.Next + 1)) a0.YN), true)))) else (.inr ()))
def XP (a0 : ZJ) (a1 : Int) (a2 : Int) (a3 : ZV) (a4 : Int) (a5 : Int) : ZJ × Bool := (bif (((!(YU a0 a1)) || (decide ((YH a0.Frame.Zq a2) < 0))) || (decide ((ZP a0.Frame.Methods a0.Frame.Now) < 0))) then (a0, false) else (match K6 a0 a1 a2 a3 a4 a5 (a0.ZS.length + 1) 0 with | .inl r1 => r1 | .inr _ => (a0, false)))
def xe (a0 : ZJ) (a1 : Int) (a2 : Int) (a3 : ZV) (a4 : Int) (a5 : Int) : ZJ × Bool := (bif ((decide ((YH a0.Frame.Zq a2) < 0)) || (decide ((nth a0.Frame.Zq (YH a0.Frame.Zq a2).toNat).Wn > a0.Frame.Now))) then (a0, false) else ((XP a0 a1 a2 a3 a4 a5).1, (XP a0 a1 a2 a3 a4 a5).2))
def y7 (a0 : ZJ) (a1 : Int) : Nat -> Nat -> Sum (Int × Int) Unit
  | 0, _ => .inr ()
  | n1 + 1, J => (bif (decide ((J : Int) < (a0.ZA.length : Int))) then (bif (decide ((ZW (nth a0.ZA J) a1) >= 0)) then (.inl ((J : Int), (ZW (nth a0.ZA J) a1))) else y7 a0 a1 n1 (J + 1)) else (.inr ()))
def ZT (a0 : ZJ) (a1 : Int) : Int × Int := (match y7 a0 a1 (a0.ZA.length + 1) 0 with | .inl r1 => r1 | .inr _ => ((-1), (-1)))
def QX (a0 : ZO) : Int := (bif ((((a0.YP.length : Int) == 0) || (!(Zp (nth a0.YP 0) 101 105))) || ((a0.YP.length : Int) != (nth ([7, 5, 5, 9, 6] : List Int) (W ((nth a0.YP 0) - 101)).toNat))) then 0 else (nth a0.YP 0))
def J6 (a0 : ZO) : Z1 × Bool := (bif (((QX a0) != 101) || ((nth a0.YP 6) != a0.Key)) then ((Z1.mk 0 0 0 0 0 0 0), false) else ((Z1.mk (nth a0.YP 1) (nth a0.YP 2) (nth a0.YP 3) (nth a0.YP 4) (nth a0.YP 5) (nth a0.YP 6) a0.Mark), true))
def yV (a0 : List Z1) (a1 : Int) : Nat -> Nat -> Sum Int Unit
  | 0, _ => .inr ()
  | n1 + 1, J => (bif (decide ((J : Int) < (a0.length : Int))) then (bif ((nth a0 J).Zg == a1) then (.inl (J : Int)) else yV a0 a1 n1 (J + 1)) else (.inr ()))
def XL (a0 : List Z1) (a1 : Int) : Int := (match yV a0 a1 (a0.length + 1) 0 with | .inl r1 => r1 | .inr _ => (-1))
def YG (a0 : ZJ) (a1 : Int) : Int × Int × Bool := (bif ((decide ((ZT a0 a1).1 < 0)) || (decide (((nth (nth a0.ZA (ZT a0 a1).1.toNat).ZF (ZT a0 a1).2.toNat).ZI.ZL.length : Int) < 2))) then (0, 0, false) else ((ZT a0 a1).1, (XL a0.ZS (J6 (nth (nth (nth a0.ZA (ZT a0 a1).1.toNat).ZF (ZT a0 a1).2.toNat).ZI.ZL 1)).1.Zg), ((J6 (nth (nth (nth a0.ZA (ZT a0 a1).1.toNat).ZF (ZT a0 a1).2.toNat).ZI.ZL 1)).2 && (decide ((XL a0.ZS (J6 (nth (nth (nth a0.ZA (ZT a0 a1).1.toNat).ZF (ZT a0 a1).2.toNat).ZI.ZL 1)).1.Zg) >= 0)))))
def JT (a0 : Z4) : List Int := ([102, a0.Zg, a0.OC, a0.Zr, a0.Z5] : List Int)
def VG (a0 : Z4) : Bool := ((((Zp a0.Zg 1 999) && (TP a0.OC)) && (Zp a0.Zr (-1) (W (a0.OC + 1)))) && (Zp a0.Z5 1 99))
def Yp (a0 : List YR) (a1 : Z4) : Z4 × Bool := (bif ((!(VG a1)) || (!(ya a0 a1.Z5 (JT a1)).2)) then ((Z4.mk 0 0 0 0 0), false) else ((Z4.mk a1.Zg a1.OC a1.Zr a1.Z5 (ya a0 a1.Z5 (JT a1)).1), true))
def XD (a0 : Z4) : ZO := (ZO.mk a0.Z5 (JT a0) a0.Mark)
def Jp (a0 : Za) (a1 : ZO) : Za × Bool := (bif (!(zX (Za.mk (a0.ZL ++ ([a1] : List ZO)) a0.Zd))) then (a0, false) else ((Za.mk (a0.ZL ++ ([a1] : List ZO)) a0.Zd), true))
def XZ (a0 : ZD) (a1 : Int) (a2 : ZO) : ZD × Bool := (bif (decide ((ZW a0 a1) < 0)) then (a0, false) else ((ZD.mk a0.Id (a0.ZF.set (ZW a0 a1).toNat (ZM.mk (nth a0.ZF (ZW a0 a1).toNat).Id (nth a0.ZF (ZW a0 a1).toNat).Y7 (nth a0.ZF (ZW a0 a1).toNat).Doc (nth a0.ZF (ZW a0 a1).toNat).Sig (Jp (nth a0.ZF (ZW a0 a1).toNat).ZI a2).1))), (Jp (nth a0.ZF (ZW a0 a1).toNat).ZI a2).2))
def JX (a0 : ZJ) (a1 : Int) (a2 : Int) (a3 : Z4) : ZJ × Bool := (bif ((!(Yp a0.Frame.Zq a3).2) || (!(XZ (nth a0.ZA a1.toNat) a2 (XD (Yp a0.Frame.Zq a3).1)).2)) then (a0, false) else ((ZJ.mk a0.Frame a0.ZS a0.Zr (a0.ZA.set a1.toNat (XZ (nth a0.ZA a1.toNat) a2 (XD (Yp a0.Frame.Zq a3).1)).1) a0.Ym a0.YW a0.Next a0.YN), true))
def K9 (a0 : ZJ) (a1 : Int) : ZJ × Bool := (bif ((!(YG a0 a1).2.2) || (decide ((YG a0 a1).2.1 >= (a0.Zr.length : Int)))) then (a0, false) else (bif ((decide ((YH a0.Frame.Zq (nth a0.ZS (YG a0 a1).2.1.toNat).Z5) < 0)) || (decide ((nth a0.Frame.Zq (YH a0.Frame.Zq (nth a0.ZS (YG a0 a1).2.1.toNat).Z5).toNat).Wn > a0.Frame.Now))) then (a0, false) else (bif (decide ((nth a0.Zr (YG a0 a1).2.1.toNat) > (W (a0.Frame.Now + 1)))) then ((JX a0 (YG a0 a1).1 a1 (Z4.mk (nth a0.ZS (YG a0 a1).2.1.toNat).Zg a0.Frame.Now (-1) (nth a0.ZS (YG a0 a1).2.1.toNat).Z5 0)).1, (JX a0 (YG a0 a1).1 a1 (Z4.mk (nth a0.ZS (YG a0 a1).2.1.toNat).Zg a0.Frame.Now (-1) (nth a0.ZS (YG a0 a1).2.1.toNat).Z5 0)).2) else ((JX a0 (YG a0 a1).1 a1 (Z4.mk (nth a0.ZS (YG a0 a1).2.1.toNat).Zg a0.Frame.Now (nth a0.Zr (YG a0 a1).2.1.toNat) (nth a0.ZS (YG a0 a1).2.1.toNat).Z5 0)).1, (JX a0 (YG a0 a1).1 a1 (Z4.mk (nth a0.ZS (YG a0 a1).2.1.toNat).Zg a0.Frame.Now (nth a0.Zr (YG a0 a1).2.1.toNat) (nth a0.ZS (YG a0 a1).2.1.toNat).Z5 0)).2))))
def KN (a0 : ZJ) (a1 : Int) : ZJ × Bool := (bif ((!(Zp a1 0 (W ((a0.Zr.length : Int) - 1)))) || ((nth a0.Zr a1.toNat) != (-1))) then (a0, false) else ((ZJ.mk a0.Frame a0.ZS (a0.Zr.set a1.toNat (W (a0.Frame.Now + 1))) a0.ZA a0.Ym a0.YW a0.Next a0.YN), true))
def ka (a0 : List Int) : Nat -> Nat -> Sum Bool Unit
  | 0, _ => .inr ()
  | n1 + 1, J => (bif (decide ((J : Int) < (a0.length : Int))) then (bif (decide ((nth a0 (J - 1)) >= (nth a0 J))) then (.inl false) else ka a0 n1 (J + 1)) else (.inr ()))
def qw (a0 : List Int) : Bool := (match ka a0 (a0.length + 1) 1 with | .inl r1 => r1 | .inr _ => true)
def J5 (a0 : ZX) : List Int := ([103, a0.Authority, a0.Seq, a0.Time, a0.XN] : List Int)
def zH (a1 : ZK) : Nat -> List Int -> Nat -> (List Int)
  | 0, _, _ => default
  | n2 + 1, lI, lq => (bif (decide ((lq : Int) < (a1.YE.length : Int))) then zH a1 n2 ((lI ++ (J5 (nth a1.YE lq))) ++ ([(nth a1.YE lq).Mark] : List Int)) (lq + 1) else (lI))
def KC (a1 : ZK) : Nat -> List Int -> Nat -> (List Int)
  | 0, _, _ => default
  | n1 + 1, J, U => (bif (decide ((U : Int) < (a1.Path.length : Int))) then (bif (nth a1.Path U).Left then KC a1 n1 (J ++ ([(nth a1.Path U).XN, 1] : List Int)) (U + 1) else KC a1 n1 (J ++ ([(nth a1.Path U).XN, 0] : List Int)) (U + 1)) else (J))
def KL (a0 : Int) (a1 : ZK) : Int := (match KC a1 (a1.Path.length + 1) ([4, a1.Count, a1.Method, a1.ID] : List Int) 0 with | z1_0 => (match zH a1 (a1.YE.length + 1) (z1_0 ++ ([(a1.YE.length : Int)] : List Int)) 0 with | z2_0 => (KK a0 z2_0)))
def zn (a0 : Int) (a1 : List ZO) : Nat -> List Int -> Nat -> (List Int)
  | 0, _, _ => default
  | n1 + 1, J, U => (bif (decide ((U : Int) < (a1.length : Int))) then zn a0 a1 n1 (J ++ ([(KK a0 (([(nth a1 U).Key, (nth a1 U).Mark] : List Int) ++ (nth a1 U).YP))] : List Int)) (U + 1) else (J))
def J3 (a0 : Int) (a1 : List ZO) : Int := (match zn a0 a1 (a1.length + 1) ([2] : List Int) 0 with | z1_0 => (KK a0 z1_0))
def TD (a0 : Int) (a1 : Int) (a2 : List ZO) (a3 : Int) : Int := (KK a0 ([3, a1, (J3 a0 a2), a3] : List Int))
def QJ (a0 : ZM) (a1 : Int) : Int := (bif (decide ((a0.ZI.Zd.length : Int) > 0)) then (TD a1 (Ya a1 a0.Doc) a0.ZI.ZL (KL a1 (nth a0.ZI.Zd (a0.ZI.Zd.length - 1)))) else (TD a1 (Ya a1 a0.Doc) a0.ZI.ZL 0))
def ym (a0 : ZD) (a1 : Int) : Nat -> List Int -> Nat -> (List Int)
  | 0, _, _ => default
  | n1 + 1, J, U => (bif (decide ((U : Int) < (a0.ZF.length : Int))) then ym a0 a1 n1 (J ++ ([(QJ (nth a0.ZF U) a1)] : List Int)) (U + 1) else (J))
def Xc (a0 : ZD) (a1 : Int) : List Int := (match ym a0 a1 (a0.ZF.length + 1) ([] : List Int) 0 with | z1_0 => z1_0)
def jr (a0 : Int) (a1 : Int) (a2 : Int) : Int := (KK a0 ([1, a1, a2] : List Int))
def Ja (a0 : Int) (a1 : List Int) : Nat -> List Int -> Nat -> (List Int)
  | 0, _, _ => default
  | n1 + 1, J, U => (bif (decide ((U : Int) < (a1.length : Int))) then (bif (decide ((W ((U : Int) + 1)) < (a1.length : Int))) then Ja a0 a1 n1 (J ++ ([(jr a0 (nth a1 U) (nth a1 (W ((U : Int) + 1)).toNat))] : List Int)) (U + 2) else Ja a0 a1 n1 (J ++ ([(nth a1 U)] : List Int)) (U + 2)) else (J))
def Jy (a0 : Int) (a1 : List Int) : List Int := (match Ja a0 a1 (a1.length + 1) ([] : List Int) 0 with | z1_0 => z1_0)
def j4 (a0 : Int) : Nat -> List Int -> (List Int)
  | 0, _ => default
  | n1 + 1, J => (bif (decide ((J.length : Int) > 1)) then j4 a0 n1 (Jy a0 J) else (J))
def qq (a0 : Int) (a1 : List Int) : Int := (bif (!(Zp (a1.length : Int) 1 16)) then (-1) else (match j4 a0 (a1.length + 1) a1 with | z1_0 => (nth z1_0 0)))
def Qf (a0 : ZD) (a1 : Int) : Int := (qq a1 (Xc a0 a1))
def Jd (a0 : List ZQ) (a1 : Int) : Nat -> Nat -> Sum Int Unit
  | 0, _ => .inr ()
  | n1 + 1, J => (bif (decide ((J : Int) < (a0.length : Int))) then (bif ((nth a0 J).Id == a1) then (.inl (J : Int)) else Jd a0 a1 n1 (J + 1)) else (.inr ()))
def Zi (a0 : List ZQ) (a1 : Int) : Int := (match Jd a0 a1 (a0.length + 1) 0 with | .inl r1 => r1 | .inr _ => (-1))
def UH (a0 : List Int) (a1 : Int) : Nat -> Nat -> Sum Int Unit
  | 0, _ => .inr ()
  | n1 + 1, J => (bif (decide ((J : Int) < (a0.length : Int))) then (bif ((nth a0 J) == a1) then (.inl (J : Int)) else UH a0 a1 n1 (J + 1)) else (.inr ()))
def PC (a0 : List Int) (a1 : Int) : Int := (match UH a0 a1 (a0.length + 1) 0 with | .inl r1 => r1 | .inr _ => (-1))
def jb (a0 : List Int) (a1 : Int) : Bool := (decide ((PC a0 a1) >= 0))
def Jm (a0 : List YR) (a1 : List ZQ) (a2 : ZX) : ZX × Bool := (bif (((decide ((Zi a1 a2.Authority) < 0)) || (decide (a2.Seq < 0))) || (!(TP a2.Time))) then ((ZX.mk 0 0 0 0 0), false) else (bif (!(ya a0 (nth a1 (Zi a1 a2.Authority).toNat).Key (J5 a2)).2) then ((ZX.mk 0 0 0 0 0), false) else ((ZX.mk a2.Authority a2.Seq a2.Time a2.XN (ya a0 (nth a1 (Zi a1 a2.Authority).toNat).Key (J5 a2)).1), true)))
def JW (a0 : Int) : Nat -> List Int -> Int -> List Zv -> (List Zv)
  | 0, _, _, _ => default
  | n1 + 1, J, U, lA => (bif (decide ((J.length : Int) > 1)) then (bif ((Int.tmod U 2) == 1) then JW a0 n1 (Jy a0 J) (W (Int.tdiv U 2)) (lA ++ ([(Zv.mk (nth J (W (U - 1)).toNat) true)] : List Zv)) else (bif (decide ((W (U + 1)) < (J.length : Int))) then JW a0 n1 (Jy a0 J) (W (Int.tdiv U 2)) (lA ++ ([(Zv.mk (nth J (W (U + 1)).toNat) false)] : List Zv)) else JW a0 n1 (Jy a0 J) (W (Int.tdiv U 2)) lA)) else (lA))
def Qj (a0 : Int) (a1 : List Int) (a2 : Int) : List Zv := (bif ((!(Zp a2 0 (W ((a1.length : Int) - 1)))) || (decide ((a1.length : Int) > 16))) then ([] : List Zv) else (match JW a0 (a1.length + 1) a1 a2 ([] : List Zv) with | z1_0 => z1_0))
def XW (a0 : Za) (a1 : ZK) : Za × Bool := (bif (!(zX (Za.mk a0.ZL (a0.Zd ++ ([a1] : List ZK))))) then (a0, false) else ((Za.mk a0.ZL (a0.Zd ++ ([a1] : List ZK))), true))
def X7 (a0 : ZD) (a1 : Int) (a2 : List ZX) : Nat -> Nat -> List ZM -> Sum (ZD × Bool) (List ZM)
  | 0, _, _ => .inr default
  | n1 + 1, J, U => (bif (decide ((J : Int) < (a0.ZF.length : Int))) then (bif (!(XW (nth a0.ZF J).ZI (ZK.mk ((nth a0.ZF J).ZI.ZL.length : Int) a1 (Qf a0 a1) (Qj a1 (Xc a0 a1) (J : Int)) a2)).2) then (.inl (a0, false)) else X7 a0 a1 a2 n1 (J + 1) (U.set J (ZM.mk (nth U J).Id (nth U J).Y7 (nth U J).Doc (nth U J).Sig (XW (nth a0.ZF J).ZI (ZK.mk ((nth a0.ZF J).ZI.ZL.length : Int) a1 (Qf a0 a1) (Qj a1 (Xc a0 a1) (J : Int)) a2)).1))) else (.inr U))
def Qb (a0 : ZD) (a1 : Int) (a2 : List ZX) : ZD × Bool := (bif (((a0.ZF.length : Int) == 0) || (!(Ji a0))) then (a0, false) else (match X7 a0 a1 a2 (a0.ZF.length + 1) 0 a0.ZF with | .inl r1 => r1 | .inr z1_0 => (bif (!(Ji (ZD.mk a0.Id z1_0))) then (a0, false) else ((ZD.mk a0.Id z1_0), true))))
def Xr (a0 : ZJ) (a1 : Int) (a2 : List Int) (a3 : Int) : Nat -> List ZX -> Nat -> List Int -> Sum (ZJ × Bool) ((List ZX) × (List Int))
  | 0, _, _, _ => .inr (default, default)
  | n1 + 1, J, U, lA => (bif (decide ((U : Int) < (a2.length : Int))) then (bif ((decide ((Zi a0.Frame.ZG (nth a2 U)) < 0)) || (decide ((Zi a0.Frame.ZG (nth a2 U)) >= (a0.Ym.length : Int)))) then (.inl (a0, false)) else (bif ((decide ((YH a0.Frame.Zq (nth a0.Frame.ZG (Zi a0.Frame.ZG (nth a2 U)).toNat).Key) < 0)) || (decide ((nth a0.Frame.Zq (YH a0.Frame.Zq (nth a0.Frame.ZG (Zi a0.Frame.ZG (nth a2 U)).toNat).Key).toNat).Wn > a0.Frame.Now))) then (.inl (a0, false)) else (bif (jb a0.YW (nth a2 U)) then (bif (!(Jm a0.Frame.Zq a0.Frame.ZG (ZX.mk (nth a2 U) (nth a0.Ym (Zi a0.Frame.ZG (nth a2 U)).toNat) (if (if (W (a0.Frame.Now + a3)) < 10000 then (W (a0.Frame.Now + a3)) else 10000) > 0 then (if (W (a0.Frame.Now + a3)) < 10000 then (W (a0.Frame.Now + a3)) else 10000) else 0) (Qf (nth a0.ZA a1.toNat) (ZP a0.Frame.Methods a0.Frame.Now)) 0)).2) then (.inl (a0, false)) else Xr a0 a1 a2 a3 n1 (J ++ ([(Jm a0.Frame.Zq a0.Frame.ZG (ZX.mk (nth a2 U) (nth a0.Ym (Zi a0.Frame.ZG (nth a2 U)).toNat) (if (if (W (a0.Frame.Now + a3)) < 10000 then (W (a0.Frame.Now + a3)) else 10000) > 0 then (if (W (a0.Frame.Now + a3)) < 10000 then (W (a0.Frame.Now + a3)) else 10000) else 0) (Qf (nth a0.ZA a1.toNat) (ZP a0.Frame.Methods a0.Frame.Now)) 0)).1] : List ZX)) (U + 1) (lA.set (Zi a0.Frame.ZG (nth a2 U)).toNat (W ((nth lA (Zi a0.Frame.ZG (nth a2 U)).toNat) + 1)))) else (bif (!(Jm a0.Frame.Zq a0.Frame.ZG (ZX.mk (nth a2 U) (nth a0.Ym (Zi a0.Frame.ZG (nth a2 U)).toNat) a0.Frame.Now (Qf (nth a0.ZA a1.toNat) (ZP a0.Frame.Methods a0.Frame.Now)) 0)).2) then (.inl (a0, false)) else Xr a0 a1 a2 a3 n1 (J ++ ([(Jm a0.Frame.Zq a0.Frame.ZG (ZX.mk (nth a2 U) (nth a0.Ym (Zi a0.Frame.ZG (nth a2 U)).toNat) a0.Frame.Now (Qf (nth a0.ZA a1.toNat) (ZP a0.Frame.Methods a0.Frame.Now)) 0)).1] : List ZX)) (U + 1) (lA.set (Zi a0.Frame.ZG (nth a2 U)).toNat (W ((nth lA (Zi a0.Frame.ZG (nth a2 U)).toNat) + 1))))))) else (.inr (J, lA)))
def zP (a0 : ZJ) (a1 : Int) (a2 : List Int) (a3 : Int) : ZJ × Bool := (bif (((((!(YU a0 a1)) || (decide ((ZP a0.Frame.Methods a0.Frame.Now) < 0))) || (!(qw a2))) || ((a2.length : Int) == 0)) || (!(Zp a3 (-10000) 10000))) then (a0, false) else (match Xr a0 a1 a2 a3 (a2.length + 1) ([] : List ZX) 0 a0.Ym with | .inl r1 => r1 | .inr (z1_0, z1_1) => (bif (!(Qb (nth a0.ZA a1.toNat) (ZP a0.Frame.Methods a0.Frame.Now) z1_0).2) then (a0, false) else ((ZJ.mk a0.Frame a0.ZS a0.Zr (a0.ZA.set a1.toNat (Qb (nth a0.ZA a1.toNat) (ZP a0.Frame.Methods a0.Frame.Now) z1_0).1) z1_1 a0.YW a0.Next a0.YN), true))))
def xR (a0 : Int) (a1 : ZM) : Nat -> List Int -> Nat -> (List Int)
  | 0, _, _ => default
  | n1 + 1, J, U => (bif (decide ((U : Int) < (a1.ZI.Zd.length : Int))) then xR a0 a1 n1 (J ++ ([(KL a0 (nth a1.ZI.Zd U))] : List Int)) (U + 1) else (J))
def ju (a0 : Int) (a1 : ZM) : Int := (match xR a0 a1 (a1.ZI.Zd.length + 1) ([5, a1.Id, a1.Y7, (Ya a0 a1.Doc), (J3 a0 a1.ZI.ZL)] : List Int) 0 with | z1_0 => (KK a0 z1_0))
def zI (a0 : Int) (a1 : List ZM) : Nat -> List Int -> Nat -> (List Int)
  | 0, _, _ => default
  | n1 + 1, J, U => (bif (decide ((U : Int) < (a1.length : Int))) then zI a0 a1 n1 (J ++ ([(ju a0 (nth a1 U))] : List Int)) (U + 1) else (J))
def K4 (a0 : Int) (a1 : List ZM) : Int := (match zI a0 a1 (a1.length + 1) ([] : List Int) 0 with | z1_0 => (qq a0 z1_0))
def Xp (a0 : ZD) (a2 : List Int) : Nat -> Nat -> List ZM -> Sum (YM × Bool) (List ZM)
  | 0, _, _ => .inr default
  | n1 + 1, J, U => (bif (decide ((J : Int) < (a2.length : Int))) then (bif (decide ((ZW a0 (nth a2 J)) < 0)) then (.inl ((YM.mk 0 0 ([] : List ZM) 0), false)) else Xp a0 a2 n1 (J + 1) (U ++ ([(nth a0.ZF (ZW a0 (nth a2 J)).toNat)] : List ZM))) else (.inr U))
def Yw (a0 : ZD) (a1 : Int) (a2 : List Int) (a3 : Int) : YM × Bool := (match Xp a0 a2 (a2.length + 1) 0 ([] : List ZM) with | .inl r1 => r1 | .inr z1_0 => (bif ((a2.length : Int) == 0) then ((YM.mk 0 0 ([] : List ZM) 0), false) else ((YM.mk a0.Id a1 z1_0 (K4 a3 z1_0)), true)))
def Jn (a0 : YM) : Nat -> Nat -> Sum Bool Unit
  | 0, _ => .inr ()
  | n1 + 1, J => (bif (decide ((J : Int) < (a0.ZF.length : Int))) then (bif (!(Ur (nth a0.ZF J))) then (.inl false) else Jn a0 n1 (J + 1)) else (.inr ()))
def Qt (a0 : YM) (a1 : Int) : Bool := (match Jn a0 (a0.ZF.length + 1) 0 with | .inl r1 => r1 | .inr _ => ((Zp (a0.ZF.length : Int) 1 8) && (a0.XN == (K4 a1 a0.ZF))))
def QA (a0 : ZD) (a1 : YM) : Nat -> Nat -> Int -> List ZM -> Sum (ZD × Bool) (Int × (List ZM))
  | 0, _, _, _ => .inr (default, default)
  | n1 + 1, J, U, lA => (bif (decide ((J : Int) < (a1.ZF.length : Int))) then (bif (!(XB (ZD.mk U lA) (nth a1.ZF J)).2) then (.inl (a0, false)) else QA a0 a1 n1 (J + 1) (XB (ZD.mk U lA) (nth a1.ZF J)).1.Id (XB (ZD.mk U lA) (nth a1.ZF J)).1.ZF) else (.inr (U, lA)))
def XJ (a0 : ZD) (a1 : YM) (a2 : Int) : ZD × Bool := (bif ((!(Qt a1 a2)) || (a1.To != a0.Id)) then (a0, false) else (match QA a0 a1 (a1.ZF.length + 1) 0 a0.Id a0.ZF with | .inl r1 => r1 | .inr (z1_0, z1_1) => ((ZD.mk z1_0 z1_1), true)))
def Q8 (a0 : ZD) (a1 : Int) : ZD × Bool := (bif (decide ((ZW a0 a1) < 0)) then (a0, false) else ((ZD.mk a0.Id (a0.ZF.take (ZW a0 a1).toNat ++ (a0.ZF.drop (W ((ZW a0 a1) + 1)).toNat))), true))
def QB (a0 : ZD) (a1 : ZD) (a2 : List Int) : Nat -> Nat -> Int -> List ZM -> Sum (ZD × ZD × Bool) (Int × (List ZM))
  | 0, _, _, _ => .inr (default, default)
  | n1 + 1, J, U, lA => (bif (decide ((J : Int) < (a2.length : Int))) then (bif (!(Q8 (ZD.mk U lA) (nth a2 J)).2) then (.inl (a0, a1, false)) else QB a0 a1 a2 n1 (J + 1) (Q8 (ZD.mk U lA) (nth a2 J)).1.Id (Q8 (ZD.mk U lA) (nth a2 J)).1.ZF) else (.inr (U, lA)))
def Yy (a0 : ZD) (a1 : ZD) (a2 : List Int) (a3 : Int) : ZD × ZD × Bool := (bif ((!(Yw a0 a1.Id a2 a3).2) || (!(XJ a1 (Yw a0 a1.Id a2 a3).1 a3).2)) then (a0, a1, false) else (match QB a0 a1 a2 (a2.length + 1) 0 a0.Id a0.ZF with | .inl r1 => r1 | .inr (z1_0, z1_1) => ((ZD.mk z1_0 z1_1), (XJ a1 (Yw a0 a1.Id a2 a3).1 a3).1, true)))
def yE (a0 : ZJ) (a1 : Int) (a2 : Int) (a3 : Int) : ZJ × Bool := (bif ((((!(YU a0 a1)) || (!(YU a0 a2))) || (a1 == a2)) || (decide ((ZP a0.Frame.Methods a0.Frame.Now) < 0))) then (a0, false) else (bif (Yy (nth a0.ZA a1.toNat) (nth a0.ZA a2.toNat) ([a3] : List Int) (ZP a0.Frame.Methods a0.Frame.Now)).2.2 then ((ZJ.mk a0.Frame a0.ZS a0.Zr ((a0.ZA.set a1.toNat (Yy (nth a0.ZA a1.toNat) (nth a0.ZA a2.toNat) ([a3] : List Int) (ZP a0.Frame.Methods a0.Frame.Now)).1).set a2.toNat (Yy (nth a0.ZA a1.toNat) (nth a0.ZA a2.toNat) ([a3] : List Int) (ZP a0.Frame.Methods a0.Frame.Now)).2.1) a0.Ym a0.YW a0.Next a0.YN), (Yy (nth a0.ZA a1.toNat) (nth a0.ZA a2.toNat) ([a3] : List Int) (ZP a0.Frame.Methods a0.Frame.Now)).2.2) else (a0, (Yy (nth a0.ZA a1.toNat) (nth a0.ZA a2.toNat) ([a3] : List Int) (ZP a0.Frame.Methods a0.Frame.Now)).2.2)))
def Jb (a0 : ZD) (a1 : Int) : Nat -> Nat -> List ZM -> (List ZM)
  | 0, _, _ => default
  | n1 + 1, J, U => (bif (decide ((J : Int) < (a0.ZF.length : Int))) then (bif (decide ((nth a0.ZF J).Y7 >= a1)) then Jb a0 a1 n1 (J + 1) (U ++ ([(nth a0.ZF J)] : List ZM)) else Jb a0 a1 n1 (J + 1) U) else (U))
def J0 (a0 : ZD) (a1 : Int) : ZD × Int := (match Jb a0 a1 (a0.ZF.length + 1) 0 ([] : List ZM) with | z1_0 => ((ZD.mk a0.Id z1_0), (W ((a0.ZF.length : Int) - (z1_0.length : Int)))))
def zL (a0 : ZJ) (a1 : Int) : ZJ × Bool := (bif (!(YU a0 a1)) then (a0, false) else ((ZJ.mk a0.Frame a0.ZS a0.Zr (a0.ZA.set a1.toNat (J0 (nth a0.ZA a1.toNat) a0.Frame.Now).1) a0.Ym a0.YW a0.Next a0.YN), true))
def zk (a0 : List Zf) (a1 : Int) : Nat -> Nat -> Sum Int Unit
  | 0, _ => .inr ()
  | n1 + 1, J => (bif (decide ((J : Int) < (a0.length : Int))) then (bif ((nth a0 J).Id == a1) then (.inl (J : Int)) else zk a0 a1 n1 (J + 1)) else (.inr ()))
def zQ (a0 : List Zf) (a1 : Int) : Int := (match zk a0 a1 (a0.length + 1) 0 with | .inl r1 => r1 | .inr _ => (-1))
def TC (a0 : List Zf) (a1 : Int) : Int := (bif (decide ((zQ a0 a1) >= 0)) then (nth a0 (zQ a0 a1).toNat).UR else 0)
def Wp (a0 : Z8) (a1 : Int) : Int := (bif (decide ((YH a0.Zq a1) < 0)) then 0 else (TC a0.Methods (nth a0.Zq (YH a0.Zq a1).toNat).Method))
def za (a0 : Z8) (a1 : Int) : Bool := ((decide ((YH a0.Zq a1) >= 0)) && (decide (a0.Now >= (Wp a0 a1))))
def z9 (a0 : ZJ) (a1 : Int) (a2 : Int) (a3 : ZV) : ZJ × Bool := (bif (!(za a0.Frame a2)) then (a0, false) else (bif (XP a0 a1 a2 a3 0 10000).2 then ((ZJ.mk (XP a0 a1 a2 a3 0 10000).1.Frame (XP a0 a1 a2 a3 0 10000).1.ZS (XP a0 a1 a2 a3 0 10000).1.Zr (XP a0 a1 a2 a3 0 10000).1.ZA (XP a0 a1 a2 a3 0 10000).1.Ym (XP a0 a1 a2 a3 0 10000).1.YW (XP a0 a1 a2 a3 0 10000).1.Next ((XP a0 a1 a2 a3 0 10000).1.YN ++ ([a0.Next] : List Int))), (XP a0 a1 a2 a3 0 10000).2) else ((XP a0 a1 a2 a3 0 10000).1, (XP a0 a1 a2 a3 0 10000).2)))
def Xt (a0 : ZJ) : Nat -> List Int -> Nat -> (List Int)
  | 0, _, _ => default
  | n1 + 1, J, U => (bif (decide ((U : Int) < (a0.Frame.ZG.length : Int))) then (bif ((jb a0.YW (nth a0.Frame.ZG U).Id) || (za a0.Frame (nth a0.Frame.ZG U).Key)) then Xt a0 n1 (J ++ ([(nth a0.Frame.ZG U).Id] : List Int)) (U + 1) else Xt a0 n1 J (U + 1)) else (J))
def Z6 (a0 : ZJ) : List Int := (match Xt a0 (a0.Frame.ZG.length + 1) ([] : List Int) 0 with | z1_0 => z1_0)
def Qd (a0 : ZJ) (a1 : Int) (a2 : Int) : Nat -> Nat -> List ZX -> Sum (ZJ × Bool) (List ZX)
  | 0, _, _ => .inr default
  | n1 + 1, J, U => (bif (decide ((J : Int) < ((Z6 a0).length : Int))) then (bif (!(Jm a0.Frame.Zq a0.Frame.ZG (ZX.mk (nth (Z6 a0) J) 0 a2 (QJ (nth (nth a0.ZA (ZT a0 a1).1.toNat).ZF (ZT a0 a1).2.toNat) (ZP a0.Frame.Methods a0.Frame.Now)) 0)).2) then (.inl (a0, false)) else Qd a0 a1 a2 n1 (J + 1) (U ++ ([(Jm a0.Frame.Zq a0.Frame.ZG (ZX.mk (nth (Z6 a0) J) 0 a2 (QJ (nth (nth a0.ZA (ZT a0 a1).1.toNat).ZF (ZT a0 a1).2.toNat) (ZP a0.Frame.Methods a0.Frame.Now)) 0)).1] : List ZX))) else (.inr U))
def JZ (a0 : ZJ) (a1 : Int) (a2 : Int) : ZJ × Bool := (bif ((((!(jb a0.YN a1)) || (decide ((ZT a0 a1).1 < 0))) || (decide ((ZP a0.Frame.Methods a0.Frame.Now) < 0))) || (((Z6 a0).length : Int) == 0)) then (a0, false) else (match Qd a0 a1 a2 ((Z6 a0).length + 1) 0 ([] : List ZX) with | .inl r1 => r1 | .inr z1_0 => ((ZJ.mk a0.Frame a0.ZS a0.Zr (a0.ZA.set (ZT a0 a1).1.toNat (ZD.mk (nth a0.ZA (ZT a0 a1).1.toNat).Id ((nth a0.ZA (ZT a0 a1).1.toNat).ZF.set (ZT a0 a1).2.toNat (ZM.mk (nth (nth a0.ZA (ZT a0 a1).1.toNat).ZF (ZT a0 a1).2.toNat).Id (nth (nth a0.ZA (ZT a0 a1).1.toNat).ZF (ZT a0 a1).2.toNat).Y7 (nth (nth a0.ZA (ZT a0 a1).1.toNat).ZF (ZT a0 a1).2.toNat).Doc (nth (nth a0.ZA (ZT a0 a1).1.toNat).ZF (ZT a0 a1).2.toNat).Sig (XW (nth (nth a0.ZA (ZT a0 a1).1.toNat).ZF (ZT a0 a1).2.toNat).ZI (ZK.mk ((nth (nth a0.ZA (ZT a0 a1).1.toNat).ZF (ZT a0 a1).2.toNat).ZI.ZL.length : Int) (ZP a0.Frame.Methods a0.Frame.Now) (QJ (nth (nth a0.ZA (ZT a0 a1).1.toNat).ZF (ZT a0 a1).2.toNat) (ZP a0.Frame.Methods a0.Frame.Now)) ([] : List Zv) z1_0)).1)))) a0.Ym a0.YW a0.Next a0.YN), (XW (nth (nth a0.ZA (ZT a0 a1).1.toNat).ZF (ZT a0 a1).2.toNat).ZI (ZK.mk ((nth (nth a0.ZA (ZT a0 a1).1.toNat).ZF (ZT a0 a1).2.toNat).ZI.ZL.length : Int) (ZP a0.Frame.Methods a0.Frame.Now) (QJ (nth (nth a0.ZA (ZT a0 a1).1.toNat).ZF (ZT a0 a1).2.toNat) (ZP a0.Frame.Methods a0.Frame.Now)) ([] : List Zv) z1_0)).2)))
def y5 (a0 : ZJ) (a1 : Int) (a2 : Int) : ZJ × Bool := (bif ((!(YG a0 a1).2.2) || (!(za a0.Frame (nth a0.ZS (YG a0 a1).2.1.toNat).Z5))) then (a0, false) else ((JX a0 (YG a0 a1).1 a1 (Z4.mk (nth a0.ZS (YG a0 a1).2.1.toNat).Zg a2 (-1) (nth a0.ZS (YG a0 a1).2.1.toNat).Z5 0)).1, (JX a0 (YG a0 a1).1 a1 (Z4.mk (nth a0.ZS (YG a0 a1).2.1.toNat).Zg a2 (-1) (nth a0.ZS (YG a0 a1).2.1.toNat).Z5 0)).2))
def Z3 (a0 : ZJ) (a1 : Yu) : ZJ × Bool := (bif (a1.Kind == 1) then ((yQ a0 a1.A).1, (yQ a0 a1.A).2) else (bif (a1.Kind == 2) then ((xe a0 a1.A a1.B a1.Doc a1.C a1.D).1, (xe a0 a1.A a1.B a1.Doc a1.C a1.D).2) else (bif (a1.Kind == 3) then ((K9 a0 a1.A).1, (K9 a0 a1.A).2) else (bif (a1.Kind == 4) then ((KN a0 a1.A).1, (KN a0 a1.A).2) else (bif (a1.Kind == 5) then ((zP a0 a1.A a1.Ids a1.B).1, (zP a0 a1.A a1.Ids a1.B).2) else (bif (a1.Kind == 6) then ((yE a0 a1.A a1.B a1.C).1, (yE a0 a1.A a1.B a1.C).2) else (bif (a1.Kind == 7) then ((zL a0 a1.A).1, (zL a0 a1.A).2) else (bif (a1.Kind == 8) then ((z9 a0 a1.A a1.B a1.Doc).1, (z9 a0 a1.A a1.B a1.Doc).2) else (bif (a1.Kind == 9) then ((JZ a0 a1.A a1.B).1, (JZ a0 a1.A a1.B).2) else (bif (a1.Kind == 10) then ((y5 a0 a1.A a1.B).1, (y5 a0 a1.A a1.B).2) else (a0, false)))))))))))
def PH (a0 : YR) (a1 : YR) : Bool := (bif (a0.Number != a1.Number) then false else (bif (a0.ji != a1.ji) then false else (bif (a0.Method != a1.Method) then false else (bif (a0.Wn != a1.Wn) then false else (bif (a0.WN != a1.WN) then false else true)))))
def Tm (a0 : List YR) (a1 : List YR) : Nat -> Nat -> Sum Bool Unit
  | 0, _ => .inr ()
  | n1 + 1, J => (bif (decide ((J : Int) < (a0.length : Int))) then (bif (!(PH (nth a0 J) (nth a1 J))) then (.inl false) else Tm a0 a1 n1 (J + 1)) else (.inr ()))
def RA (a0 : List YR) (a1 : List YR) : Bool := (bif ((a0.length : Int) != (a1.length : Int)) then false else (match Tm a0 a1 (a0.length + 1) 0 with | .inl r1 => r1 | .inr _ => true))
def yn (a0 : ZQ) (a1 : ZQ) : Bool := (bif (a0.Id != a1.Id) then false else (bif (a0.Key != a1.Key) then false else (bif (a0.Error != a1.Error) then false else true)))
def xq (a0 : List ZQ) (a1 : List ZQ) : Nat -> Nat -> Sum Bool Unit
  | 0, _ => .inr ()
  | n1 + 1, J => (bif (decide ((J : Int) < (a0.length : Int))) then (bif (!(yn (nth a0 J) (nth a1 J))) then (.inl false) else xq a0 a1 n1 (J + 1)) else (.inr ()))
def yx (a0 : List ZQ) (a1 : List ZQ) : Bool := (bif ((a0.length : Int) != (a1.length : Int)) then false else (match xq a0 a1 (a0.length + 1) 0 with | .inl r1 => r1 | .inr _ => true))
def j9 (a0 : Zf) (a1 : Zf) : Bool := (bif (a0.Id != a1.Id) then false else (bif (a0.Pn != a1.Pn) then false else (bif (a0.Ends != a1.Ends) then false else (bif (a0.UR != a1.UR) then false else true))))
def kY (a0 : List Zf) (a1 : List Zf) : Nat -> Nat -> Sum Bool Unit
  | 0, _ => .inr ()
  | n1 + 1, J => (bif (decide ((J : Int) < (a0.length : Int))) then (bif (!(j9 (nth a0 J) (nth a1 J))) then (.inl false) else kY a0 a1 n1 (J + 1)) else (.inr ()))
def ky (a0 : List Zf) (a1 : List Zf) : Bool := (bif ((a0.length : Int) != (a1.length : Int)) then false else (match kY a0 a1 (a0.length + 1) 0 with | .inl r1 => r1 | .inr _ => true))
def U8 (a0 : Z8) (a1 : Z8) : Bool := (bif (!(RA a0.Zq a1.Zq)) then false else (bif (!(yx a0.ZG a1.ZG)) then false else (bif (!(ky a0.Methods a1.Methods)) then false else (bif (a0.y9 != a1.y9) then false else (bif (a0.Now != a1.Now) then false else true)))))
def U0 (a0 : Z1) (a1 : Z1) : Bool := (bif (a0.Zg != a1.Zg) then false else (bif (a0.Key != a1.Key) then false else (bif (a0.ji != a1.ji) then false else (bif (a0.VN != a1.VN) then false else (bif (a0.To != a1.To) then false else (bif (a0.Z5 != a1.Z5) then false else (bif (a0.Mark != a1.Mark) then false else true)))))))
def V7 (a0 : List Z1) (a1 : List Z1) : Nat -> Nat -> Sum Bool Unit
  | 0, _ => .inr ()
  | n1 + 1, J => (bif (decide ((J : Int) < (a0.length : Int))) then (bif (!(U0 (nth a0 J) (nth a1 J))) then (.inl false) else V7 a0 a1 n1 (J + 1)) else (.inr ()))
def Uy (a0 : List Z1) (a1 : List Z1) : Bool := (bif ((a0.length : Int) != (a1.length : Int)) then false else (match V7 a0 a1 (a0.length + 1) 0 with | .inl r1 => r1 | .inr _ => true))
def T4 (a0 : List Int) (a1 : List Int) : Nat -> Nat -> Sum Bool Unit
  | 0, _ => .inr ()
  | n1 + 1, J => (bif (decide ((J : Int) < (a0.length : Int))) then (bif ((nth a0 J) != (nth a1 J)) then (.inl false) else T4 a0 a1 n1 (J + 1)) else (.inr ()))
def xX (a0 : List Int) (a1 : List Int) : Bool := (bif ((a0.length : Int) != (a1.length : Int)) then false else (match T4 a0 a1 (a0.length + 1) 0 with | .inl r1 => r1 | .inr _ => true))
def kh (a0 : List ByteArray) (a1 : List ByteArray) : Nat -> Nat -> Sum Bool Unit
  | 0, _ => .inr ()
  | n1 + 1, J => (bif (decide ((J : Int) < (a0.length : Int))) then (bif (!decide ((nth a0 J) = (nth a1 J))) then (.inl false) else kh a0 a1 n1 (J + 1)) else (.inr ()))
def WC (a0 : List ByteArray) (a1 : List ByteArray) : Bool := (bif ((a0.length : Int) != (a1.length : Int)) then false else (match kh a0 a1 (a0.length + 1) 0 with | .inl r1 => r1 | .inr _ => true))
def qD (a0 : ZV) (a1 : ZV) : Bool := (bif (a0.zA != a1.zA) then false else (bif (!(WC a0.ZN a1.ZN)) then false else (bif (!(xX a0.ZR a1.ZR)) then false else true)))
def qG (a0 : ZY) (a1 : ZY) : Bool := (bif (a0.Key != a1.Key) then false else (bif (a0.Zg != a1.Zg) then false else (bif (a0.Method != a1.Method) then false else (bif (a0.XN != a1.XN) then false else (bif (a0.xH != a1.xH) then false else (bif (a0.Org != a1.Org) then false else (bif (a0.xL != a1.xL) then false else (bif (a0.kx != a1.kx) then false else (bif (a0.Mark != a1.Mark) then false else true)))))))))
def Ww (a0 : ZO) (a1 : ZO) : Bool := (bif (a0.Key != a1.Key) then false else (bif (!(xX a0.YP a1.YP)) then false else (bif (a0.Mark != a1.Mark) then false else true)))
def Wg (a0 : List ZO) (a1 : List ZO) : Nat -> Nat -> Sum Bool Unit
  | 0, _ => .inr ()
  | n1 + 1, J => (bif (decide ((J : Int) < (a0.length : Int))) then (bif (!(Ww (nth a0 J) (nth a1 J))) then (.inl false) else Wg a0 a1 n1 (J + 1)) else (.inr ()))
def W7 (a0 : List ZO) (a1 : List ZO) : Bool := (bif ((a0.length : Int) != (a1.length : Int)) then false else (match Wg a0 a1 (a0.length + 1) 0 with | .inl r1 => r1 | .inr _ => true))
def TO (a0 : Zv) (a1 : Zv) : Bool := (bif (a0.XN != a1.XN) then false else (bif (!(a0.Left == a1.Left)) then false else true))
def V6 (a0 : List Zv) (a1 : List Zv) : Nat -> Nat -> Sum Bool Unit
  | 0, _ => .inr ()
  | n1 + 1, J => (bif (decide ((J : Int) < (a0.length : Int))) then (bif (!(TO (nth a0 J) (nth a1 J))) then (.inl false) else V6 a0 a1 n1 (J + 1)) else (.inr ()))
def TF (a0 : List Zv) (a1 : List Zv) : Bool := (bif ((a0.length : Int) != (a1.length : Int)) then false else (match V6 a0 a1 (a0.length + 1) 0 with | .inl r1 => r1 | .inr _ => true))
def Wu (a0 : ZX) (a1 : ZX) : Bool := (bif (a0.Authority != a1.Authority) then false else (bif (a0.Seq != a1.Seq) then false else (bif (a0.Time != a1.Time) then false else (bif (a0.XN != a1.XN) then false else (bif (a0.Mark != a1.Mark) then false else true)))))
def WW (a0 : List ZX) (a1 : List ZX) : Nat -> Nat -> Sum Bool Unit
  | 0, _ => .inr ()
  | n1 + 1, J => (bif (decide ((J : Int) < (a0.length : Int))) then (bif (!(Wu (nth a0 J) (nth a1 J))) then (.inl false) else WW a0 a1 n1 (J + 1)) else (.inr ()))
def VY (a0 : List ZX) (a1 : List ZX) : Bool := (bif ((a0.length : Int) != (a1.length : Int)) then false else (match WW a0 a1 (a0.length + 1) 0 with | .inl r1 => r1 | .inr _ => true))
def jL (a0 : ZK) (a1 : ZK) : Bool := (bif (a0.Count != a1.Count) then false else (bif (a0.Method != a1.Method) then false else (bif (a0.ID != a1.ID) then false else (bif (!(TF a0.Path a1.Path)) then false else (bif (!(VY a0.YE a1.YE)) then false else true)))))
def jm (a0 : List ZK) (a1 : List ZK) : Nat -> Nat -> Sum Bool Unit
  | 0, _ => .inr ()
  | n1 + 1, J => (bif (decide ((J : Int) < (a0.length : Int))) then (bif (!(jL (nth a0 J) (nth a1 J))) then (.inl false) else jm a0 a1 n1 (J + 1)) else (.inr ()))
def jw (a0 : List ZK) (a1 : List ZK) : Bool := (bif ((a0.length : Int) != (a1.length : Int)) then false else (match jm a0 a1 (a0.length + 1) 0 with | .inl r1 => r1 | .inr _ => true))
def Vk (a0 : Za) (a1 : Za) : Bool := (bif (!(W7 a0.ZL a1.ZL)) then false else (bif (!(jw a0.Zd a1.Zd)) then false else true))
def TG (a0 : ZM) (a1 : ZM) : Bool := (bif (a0.Id != a1.Id) then false else (bif (a0.Y7 != a1.Y7) then false else (bif (!(qD a0.Doc a1.Doc)) then false else (bif (!(qG a0.Sig a1.Sig)) then false else (bif (!(Vk a0.ZI a1.ZI)) then false else true)))))
def Vq (a0 : List ZM) (a1 : List ZM) : Nat -> Nat -> Sum Bool Unit
  | 0, _ => .inr ()
  | n1 + 1, J => (bif (decide ((J : Int) < (a0.length : Int))) then (bif (!(TG (nth a0 J) (nth a1 J))) then (.inl false) else Vq a0 a1 n1 (J + 1)) else (.inr ()))
def Uz (a0 : List ZM) (a1 : List ZM) : Bool := (bif ((a0.length : Int) != (a1.length : Int)) then false else (match Vq a0 a1 (a0.length + 1) 0 with | .inl r1 => r1 | .inr _ => true))
def qx (a0 : ZD) (a1 : ZD) : Bool := (bif (a0.Id != a1.Id) then false else (bif (!(Uz a0.ZF a1.ZF)) then false else true))
def jP (a0 : List ZD) (a1 : List ZD) : Nat -> Nat -> Sum Bool Unit
  | 0, _ => .inr ()
  | n1 + 1, J => (bif (decide ((J : Int) < (a0.length : Int))) then (bif (!(qx (nth a0 J) (nth a1 J))) then (.inl false) else jP a0 a1 n1 (J + 1)) else (.inr ()))
def jR (a0 : List ZD) (a1 : List ZD) : Bool := (bif ((a0.length : Int) != (a1.length : Int)) then false else (match jP a0 a1 (a0.length + 1) 0 with | .inl r1 => r1 | .inr _ => true))
def jJ (a0 : ZJ) (a1 : ZJ) : Bool := (bif (!(U8 a0.Frame a1.Frame)) then false else (bif (!(Uy a0.ZS a1.ZS)) then false else (bif (!(xX a0.Zr a1.Zr)) then false else (bif (!(jR a0.ZA a1.ZA)) then false else (bif (!(xX a0.Ym a1.Ym)) then false else (bif (!(xX a0.YW a1.YW)) then false else (bif (a0.Next != a1.Next) then false else (bif (!(xX a0.YN a1.YN)) then false else true))))))))
def TA (a0 : Yu) (a1 : Yu) : Bool := (bif (a0.Kind != a1.Kind) then false else (bif (a0.A != a1.A) then false else (bif (a0.B != a1.B) then false else (bif (a0.C != a1.C) then false else (bif (a0.D != a1.D) then false else (bif (!(qD a0.Doc a1.Doc)) then false else (bif (!(xX a0.Ids a1.Ids)) then false else true)))))))
def zM : Nat -> Int -> Nat -> List YR -> Int × (List YR)
  | 0, _, _, _ => (default, default)
  | n1 + 1, J, U, lA => (bif (decide ((U : Int) < (lA.length : Int))) then zM n1 (W ((W ((W ((W ((W (J + 1)) + 1)) + 1)) + 1)) + 1)) (U + 1) (lA.set U (YR.mk J (W (J + 1)) (W ((W (J + 1)) + 1)) (W ((W ((W (J + 1)) + 1)) + 1)) (W ((W ((W ((W (J + 1)) + 1)) + 1)) + 1)))) else ((J, lA)))
def XM (a0 : List YR) (a1 : Int) : (List YR) × Int := (match zM (a0.length + 1) a1 0 a0 with | (z1_0, z1_1) => (z1_1, z1_0))
def QW : Nat -> Int -> Nat -> List ZQ -> Int × (List ZQ)
  | 0, _, _, _ => (default, default)
  | n1 + 1, J, U, lA => (bif (decide ((U : Int) < (lA.length : Int))) then QW n1 (W ((W ((W (J + 1)) + 1)) + 1)) (U + 1) (lA.set U (ZQ.mk J (W (J + 1)) (W ((W (J + 1)) + 1)))) else ((J, lA)))
def Yj (a0 : List ZQ) (a1 : Int) : (List ZQ) × Int := (match QW (a0.length + 1) a1 0 a0 with | (z1_0, z1_1) => (z1_1, z1_0))
def Jj : Nat -> Int -> Nat -> List Zf -> Int × (List Zf)
  | 0, _, _, _ => (default, default)
  | n1 + 1, J, U, lA => (bif (decide ((U : Int) < (lA.length : Int))) then Jj n1 (W ((W ((W ((W (J + 1)) + 1)) + 1)) + 1)) (U + 1) (lA.set U (Zf.mk J (W (J + 1)) (W ((W (J + 1)) + 1)) (W ((W ((W (J + 1)) + 1)) + 1)))) else ((J, lA)))
def Xs (a0 : List Zf) (a1 : Int) : (List Zf) × Int := (match Jj (a0.length + 1) a1 0 a0 with | (z1_0, z1_1) => (z1_1, z1_0))
def Zu (a0 : Z8) (a1 : Int) : Z8 × Int := ((Z8.mk (XM a0.Zq a1).1 (Yj a0.ZG (XM a0.Zq a1).2).1 (Xs a0.Methods (Yj a0.ZG (XM a0.Zq a1).2).2).1 a0.y9 a0.Now), (Xs a0.Methods (Yj a0.ZG (XM a0.Zq a1).2).2).2)
def Ki : Nat -> Int -> Nat -> List Z1 -> Int × (List Z1)
  | 0, _, _, _ => (default, default)
  | n1 + 1, J, U, lA => (bif (decide ((U : Int) < (lA.length : Int))) then Ki n1 (W ((W ((W ((W ((W ((W ((W (J + 1)) + 1)) + 1)) + 1)) + 1)) + 1)) + 1)) (U + 1) (lA.set U (Z1.mk J (W (J + 1)) (W ((W (J + 1)) + 1)) (W ((W ((W (J + 1)) + 1)) + 1)) (W ((W ((W ((W (J + 1)) + 1)) + 1)) + 1)) (W ((W ((W ((W ((W (J + 1)) + 1)) + 1)) + 1)) + 1)) (W ((W ((W ((W ((W ((W (J + 1)) + 1)) + 1)) + 1)) + 1)) + 1)))) else ((J, lA)))
def YC (a0 : List Z1) (a1 : Int) : (List Z1) × Int := (match Ki (a0.length + 1) a1 0 a0 with | (z1_0, z1_1) => (z1_1, z1_0))
def zN : Nat -> Int -> Nat -> List Int -> Int × (List Int)
  | 0, _, _, _ => (default, default)
  | n1 + 1, J, U, lA => (bif (decide ((U : Int) < (lA.length : Int))) then zN n1 (W (J + 1)) (U + 1) (lA.set U J) else ((J, lA)))
def ZC (a0 : List Int) (a1 : Int) : (List Int) × Int := (match zN (a0.length + 1) a1 0 a0 with | (z1_0, z1_1) => (z1_1, z1_0))
def Ts : Nat -> Int -> ByteArray -> ByteArray
  | 0, _, _ => default
  | n1 + 1, J, U => (bif (decide (J > 0)) then Ts n1 (W (Int.tdiv J 10)) ((⟨([(UInt8.ofInt (W (48 + (Int.tmod J 10))))] : List UInt8).toArray⟩ : ByteArray) ++ U) else (U))
def Qk (a0 : Int) : ByteArray := (bif (decide (a0 <= 0)) then (⟨#[109, 48]⟩ : ByteArray) else (match Ts 22 a0 (⟨#[]⟩ : ByteArray) with | z1_0 => ((⟨#[109]⟩ : ByteArray) ++ z1_0)))
def Jh : Nat -> Int -> Nat -> List ByteArray -> Int × (List ByteArray)
  | 0, _, _, _ => (default, default)
  | n1 + 1, J, U, lA => (bif (decide ((U : Int) < (lA.length : Int))) then Jh n1 (W (J + 1)) (U + 1) (lA.set U (Qk J)) else ((J, lA)))
def ZB (a0 : List ByteArray) (a1 : Int) : (List ByteArray) × Int := (match Jh (a0.length + 1) a1 0 a0 with | (z1_0, z1_1) => (z1_1, z1_0))
def J4 : Nat -> Int -> Nat -> List ZO -> Int × (List ZO)
  | 0, _, _, _ => (default, default)
  | n1 + 1, J, U, lA => (bif (decide ((U : Int) < (lA.length : Int))) then J4 n1 (W ((ZC (nth lA U).YP (W (J + 1))).2 + 1)) (U + 1) (lA.set U (ZO.mk J (ZC (nth lA U).YP (W (J + 1))).1 (ZC (nth lA U).YP (W (J + 1))).2)) else ((J, lA)))
def Zn (a0 : List ZO) (a1 : Int) : (List ZO) × Int := (match J4 (a0.length + 1) a1 0 a0 with | (z1_0, z1_1) => (z1_1, z1_0))
def Ke : Nat -> Int -> Nat -> List Zv -> Int × (List Zv)
  | 0, _, _, _ => (default, default)
  | n1 + 1, J, U, lA => (bif (decide ((U : Int) < (lA.length : Int))) then Ke n1 (W ((W (J + 1)) + 1)) (U + 1) (lA.set U (Zv.mk J ((Int.tmod (W (J + 1)) 3) == 0))) else ((J, lA)))
def Zt (a0 : List Zv) (a1 : Int) : (List Zv) × Int := (match Ke (a0.length + 1) a1 0 a0 with | (z1_0, z1_1) => (z1_1, z1_0))
def J7 : Nat -> Int -> Nat -> List ZX -> Int × (List ZX)
  | 0, _, _, _ => (default, default)
  | n1 + 1, J, U, lA => (bif (decide ((U : Int) < (lA.length : Int))) then J7 n1 (W ((W ((W ((W ((W (J + 1)) + 1)) + 1)) + 1)) + 1)) (U + 1) (lA.set U (ZX.mk J (W (J + 1)) (W ((W (J + 1)) + 1)) (W ((W ((W (J + 1)) + 1)) + 1)) (W ((W ((W ((W (J + 1)) + 1)) + 1)) + 1)))) else ((J, lA)))
def Z9 (a0 : List ZX) (a1 : Int) : (List ZX) × Int := (match J7 (a0.length + 1) a1 0 a0 with | (z1_0, z1_1) => (z1_1, z1_0))
def JE : Nat -> Int -> Nat -> List ZK -> Int × (List ZK)
  | 0, _, _, _ => (default, default)
  | n1 + 1, J, U, lA => (bif (decide ((U : Int) < (lA.length : Int))) then JE n1 (Z9 (nth lA U).YE (Zt (nth lA U).Path (W ((W ((W (J + 1)) + 1)) + 1))).2).2 (U + 1) (lA.set U (ZK.mk J (W (J + 1)) (W ((W (J + 1)) + 1)) (Zt (nth lA U).Path (W ((W ((W (J + 1)) + 1)) + 1))).1 (Z9 (nth lA U).YE (Zt (nth lA U).Path (W ((W ((W (J + 1)) + 1)) + 1))).2).1)) else ((J, lA)))
def Zz (a0 : List ZK) (a1 : Int) : (List ZK) × Int := (match JE (a0.length + 1) a1 0 a0 with | (z1_0, z1_1) => (z1_1, z1_0))
def Kf : Nat -> Int -> Nat -> List ZM -> Int × (List ZM)
  | 0, _, _, _ => (default, default)
  | n1 + 1, J, U, lA => (bif (decide ((U : Int) < (lA.length : Int))) then Kf n1 (Zz (nth lA U).ZI.Zd (Zn (nth lA U).ZI.ZL (W ((W ((W ((W ((W ((W ((W ((W ((W ((ZC (nth lA U).Doc.ZR (ZB (nth lA U).Doc.ZN (W ((W ((W (J + 1)) + 1)) + 1))).2).2 + 1)) + 1)) + 1)) + 1)) + 1)) + 1)) + 1)) + 1)) + 1))).2).2 (U + 1) (lA.set U (ZM.mk J (W (J + 1)) (ZV.mk (W ((W (J + 1)) + 1)) (ZB (nth lA U).Doc.ZN (W ((W ((W (J + 1)) + 1)) + 1))).1 (ZC (nth lA U).Doc.ZR (ZB (nth lA U).Doc.ZN (W ((W ((W (J + 1)) + 1)) + 1))).2).1) (ZY.mk (ZC (nth lA U).Doc.ZR (ZB (nth lA U).Doc.ZN (W ((W ((W (J + 1)) + 1)) + 1))).2).2 (W ((ZC (nth lA U).Doc.ZR (ZB (nth lA U).Doc.ZN (W ((W ((W (J + 1)) + 1)) + 1))).2).2 + 1)) (W ((W ((ZC (nth lA U).Doc.ZR (ZB (nth lA U).Doc.ZN (W ((W ((W (J + 1)) + 1)) + 1))).2).2 + 1)) + 1)) (W ((W ((W ((ZC (nth lA U).Doc.ZR (ZB (nth lA U).Doc.ZN (W ((W ((W (J + 1)) + 1)) + 1))).2).2 + 1)) + 1)) + 1)) (W ((W ((W ((W ((ZC (nth lA U).Doc.ZR (ZB (nth lA U).Doc.ZN (W ((W ((W (J + 1)) + 1)) + 1))).2).2 + 1)) + 1)) + 1)) + 1)) (W ((W ((W ((W ((W ((ZC (nth lA U).Doc.ZR (ZB (nth lA U).Doc.ZN (W ((W ((W (J + 1)) + 1)) + 1))).2).2 + 1)) + 1)) + 1)) + 1)) + 1)) (W ((W ((W ((W ((W ((W ((ZC (nth lA U).Doc.ZR (ZB (nth lA U).Doc.ZN (W ((W ((W (J + 1)) + 1)) + 1))).2).2 + 1)) + 1)) + 1)) + 1)) + 1)) + 1)) (W ((W ((W ((W ((W ((W ((W ((ZC (nth lA U).Doc.ZR (ZB (nth lA U).Doc.ZN (W ((W ((W (J + 1)) + 1)) + 1))).2).2 + 1)) + 1)) + 1)) + 1)) + 1)) + 1)) + 1)) (W ((W ((W ((W ((W ((W ((W ((W ((ZC (nth lA U).Doc.ZR (ZB (nth lA U).Doc.ZN (W ((W ((W (J + 1)) + 1)) + 1))).2).2 + 1)) + 1)) + 1)) + 1)) + 1)) + 1)) + 1)) + 1))) (Za.mk (Zn (nth lA U).ZI.ZL (W ((W ((W ((W ((W ((W ((W ((W ((W ((ZC (nth lA U).Doc.ZR (ZB (nth lA U).Doc.ZN (W ((W ((W (J + 1)) + 1)) + 1))).2).2 + 1)) + 1)) + 1)) + 1)) + 1)) + 1)) + 1)) + 1)) + 1))).1 (Zz (nth lA U).ZI.Zd (Zn (nth lA U).ZI.ZL (W ((W ((W ((W ((W ((W ((W ((W ((W ((ZC (nth lA U).Doc.ZR (ZB (nth lA U).Doc.ZN (W ((W ((W (J + 1)) + 1)) + 1))).2).2 + 1)) + 1)) + 1)) + 1)) + 1)) + 1)) + 1)) + 1)) + 1))).2).1))) else ((J, lA)))
def YI (a0 : List ZM) (a1 : Int) : (List ZM) × Int := (match Kf (a0.length + 1) a1 0 a0 with | (z1_0, z1_1) => (z1_1, z1_0))
def JJ : Nat -> Int -> Nat -> List ZD -> Int × (List ZD)
  | 0, _, _, _ => (default, default)
  | n1 + 1, J, U, lA => (bif (decide ((U : Int) < (lA.length : Int))) then JJ n1 (YI (nth lA U).ZF (W (J + 1))).2 (U + 1) (lA.set U (ZD.mk J (YI (nth lA U).ZF (W (J + 1))).1)) else ((J, lA)))
def YB (a0 : List ZD) (a1 : Int) : (List ZD) × Int := (match JJ (a0.length + 1) a1 0 a0 with | (z1_0, z1_1) => (z1_1, z1_0))
def Z0 (a0 : ZJ) (a1 : Int) : ZJ × Int := ((ZJ.mk (Zu a0.Frame a1).1 (YC a0.ZS (Zu a0.Frame a1).2).1 (ZC a0.Zr (YC a0.ZS (Zu a0.Frame a1).2).2).1 (YB a0.ZA (ZC a0.Zr (YC a0.ZS (Zu a0.Frame a1).2).2).2).1 (ZC a0.Ym (YB a0.ZA (ZC a0.Zr (YC a0.ZS (Zu a0.Frame a1).2).2).2).2).1 (ZC a0.YW (ZC a0.Ym (YB a0.ZA (ZC a0.Zr (YC a0.ZS (Zu a0.Frame a1).2).2).2).2).2).1 a0.Next (ZC a0.YN (ZC a0.YW (ZC a0.Ym (YB a0.ZA (ZC a0.Zr (YC a0.ZS (Zu a0.Frame a1).2).2).2).2).2).2).1), (ZC a0.YN (ZC a0.YW (ZC a0.Ym (YB a0.ZA (ZC a0.Zr (YC a0.ZS (Zu a0.Frame a1).2).2).2).2).2).2).2)
def Yt (a0 : ZV) (a1 : Int) : ZV × Int := ((ZV.mk a0.zA (ZB a0.ZN a1).1 (ZC a0.ZR (ZB a0.ZN a1).2).1), (ZC a0.ZR (ZB a0.ZN a1).2).2)
def XI (a0 : Yu) (a1 : Int) : Yu × Int := ((Yu.mk a0.Kind a0.A a0.B a0.C a0.D (Yt a0.Doc a1).1 (ZC a0.Ids (Yt a0.Doc a1).2).1), (ZC a0.Ids (Yt a0.Doc a1).2).2)
def WY (a0 : List YR) : Nat -> Int -> Nat -> Sum Int Int
  | 0, _, _ => .inr default
  | n1 + 1, J, U => (bif (decide ((U : Int) < (a0.length : Int))) then (bif ((nth a0 U).Number != J) then (.inl (-1)) else (bif ((nth a0 U).ji != (W (J + 1))) then (.inl (-1)) else (bif ((nth a0 U).Method != (W ((W (J + 1)) + 1))) then (.inl (-1)) else (bif ((nth a0 U).Wn != (W ((W ((W (J + 1)) + 1)) + 1))) then (.inl (-1)) else (bif ((nth a0 U).WN != (W ((W ((W ((W (J + 1)) + 1)) + 1)) + 1))) then (.inl (-1)) else WY a0 n1 (W ((W ((W ((W ((W (J + 1)) + 1)) + 1)) + 1)) + 1)) (U + 1)))))) else (.inr J))
def zZ (a0 : List YR) (a1 : Int) : Int := (match WY a0 (a0.length + 1) a1 0 with | .inl r1 => r1 | .inr z1_0 => z1_0)
def yK (a0 : List ZQ) : Nat -> Int -> Nat -> Sum Int Int
  | 0, _, _ => .inr default
  | n1 + 1, J, U => (bif (decide ((U : Int) < (a0.length : Int))) then (bif ((nth a0 U).Id != J) then (.inl (-1)) else (bif ((nth a0 U).Key != (W (J + 1))) then (.inl (-1)) else (bif ((nth a0 U).Error != (W ((W (J + 1)) + 1))) then (.inl (-1)) else yK a0 n1 (W ((W ((W (J + 1)) + 1)) + 1)) (U + 1)))) else (.inr J))
def JM (a0 : List ZQ) (a1 : Int) : Int := (match yK a0 (a0.length + 1) a1 0 with | .inl r1 => r1 | .inr z1_0 => z1_0)
def qZ (a0 : List Zf) : Nat -> Int -> Nat -> Sum Int Int
  | 0, _, _ => .inr default
  | n1 + 1, J, U => (bif (decide ((U : Int) < (a0.length : Int))) then (bif ((nth a0 U).Id != J) then (.inl (-1)) else (bif ((nth a0 U).Pn != (W (J + 1))) then (.inl (-1)) else (bif ((nth a0 U).Ends != (W ((W (J + 1)) + 1))) then (.inl (-1)) else (bif ((nth a0 U).UR != (W ((W ((W (J + 1)) + 1)) + 1))) then (.inl (-1)) else qZ a0 n1 (W ((W ((W ((W (J + 1)) + 1)) + 1)) + 1)) (U + 1))))) else (.inr J))
def yj (a0 : List Zf) (a1 : Int) : Int := (match qZ a0 (a0.length + 1) a1 0 with | .inl r1 => r1 | .inr z1_0 => z1_0)
def Xn (a0 : Z8) (a1 : Int) : Int := (bif (decide ((zZ a0.Zq a1) < 0)) then (-1) else (bif (decide ((JM a0.ZG (zZ a0.Zq a1)) < 0)) then (-1) else (bif (decide ((yj a0.Methods (JM a0.ZG (zZ a0.Zq a1))) < 0)) then (-1) else (yj a0.Methods (JM a0.ZG (zZ a0.Zq a1))))))
def kQ (a0 : List Z1) : Nat -> Int -> Nat -> Sum Int Int
  | 0, _, _ => .inr default
  | n1 + 1, J, U => (bif (decide ((U : Int) < (a0.length : Int))) then (bif ((nth a0 U).Zg != J) then (.inl (-1)) else (bif ((nth a0 U).Key != (W (J + 1))) then (.inl (-1)) else (bif ((nth a0 U).ji != (W ((W (J + 1)) + 1))) then (.inl (-1)) else (bif ((nth a0 U).VN != (W ((W ((W (J + 1)) + 1)) + 1))) then (.inl (-1)) else (bif ((nth a0 U).To != (W ((W ((W ((W (J + 1)) + 1)) + 1)) + 1))) then (.inl (-1)) else (bif ((nth a0 U).Z5 != (W ((W ((W ((W ((W (J + 1)) + 1)) + 1)) + 1)) + 1))) then (.inl (-1)) else (bif ((nth a0 U).Mark != (W ((W ((W ((W ((W ((W (J + 1)) + 1)) + 1)) + 1)) + 1)) + 1))) then (.inl (-1)) else kQ a0 n1 (W ((W ((W ((W ((W ((W ((W (J + 1)) + 1)) + 1)) + 1)) + 1)) + 1)) + 1)) (U + 1)))))))) else (.inr J))
def QE (a0 : List Z1) (a1 : Int) : Int := (match kQ a0 (a0.length + 1) a1 0 with | .inl r1 => r1 | .inr z1_0 => z1_0)
def Wq (a0 : List Int) : Nat -> Int -> Nat -> Sum Int Int
  | 0, _, _ => .inr default
  | n1 + 1, J, U => (bif (decide ((U : Int) < (a0.length : Int))) then (bif ((nth a0 U) != J) then (.inl (-1)) else Wq a0 n1 (W (J + 1)) (U + 1)) else (.inr J))
def Zl (a0 : List Int) (a1 : Int) : Int := (match Wq a0 (a0.length + 1) a1 0 with | .inl r1 => r1 | .inr z1_0 => z1_0)
def qa (a0 : List ByteArray) : Nat -> Int -> Nat -> Sum Int Int
  | 0, _, _ => .inr default
  | n1 + 1, J, U => (bif (decide ((U : Int) < (a0.length : Int))) then (bif (!decide ((nth a0 U) = (Qk J))) then (.inl (-1)) else qa a0 n1 (W (J + 1)) (U + 1)) else (.inr J))
def Zo (a0 : List ByteArray) (a1 : Int) : Int := (match qa a0 (a0.length + 1) a1 0 with | .inl r1 => r1 | .inr z1_0 => z1_0)
def jY (a0 : List ZO) : Nat -> Int -> Nat -> Sum Int Int
  | 0, _, _ => .inr default
  | n1 + 1, J, U => (bif (decide ((U : Int) < (a0.length : Int))) then (bif ((nth a0 U).Key != J) then (.inl (-1)) else (bif (decide ((Zl (nth a0 U).YP (W (J + 1))) < 0)) then (.inl (-1)) else (bif ((nth a0 U).Mark != (Zl (nth a0 U).YP (W (J + 1)))) then (.inl (-1)) else jY a0 n1 (W ((Zl (nth a0 U).YP (W (J + 1))) + 1)) (U + 1)))) else (.inr J))
def QI (a0 : List ZO) (a1 : Int) : Int := (match jY a0 (a0.length + 1) a1 0 with | .inl r1 => r1 | .inr z1_0 => z1_0)
def kj (a0 : List Zv) : Nat -> Int -> Nat -> Sum Int Int
  | 0, _, _ => .inr default
  | n1 + 1, J, U => (bif (decide ((U : Int) < (a0.length : Int))) then (bif ((nth a0 U).XN != J) then (.inl (-1)) else (bif (!((nth a0 U).Left == ((Int.tmod (W (J + 1)) 3) == 0))) then (.inl (-1)) else kj a0 n1 (W ((W (J + 1)) + 1)) (U + 1))) else (.inr J))
def Ql (a0 : List Zv) (a1 : Int) : Int := (match kj a0 (a0.length + 1) a1 0 with | .inl r1 => r1 | .inr z1_0 => z1_0)
def jt (a0 : List ZX) : Nat -> Int -> Nat -> Sum Int Int
  | 0, _, _ => .inr default
  | n1 + 1, J, U => (bif (decide ((U : Int) < (a0.length : Int))) then (bif ((nth a0 U).Authority != J) then (.inl (-1)) else (bif ((nth a0 U).Seq != (W (J + 1))) then (.inl (-1)) else (bif ((nth a0 U).Time != (W ((W (J + 1)) + 1))) then (.inl (-1)) else (bif ((nth a0 U).XN != (W ((W ((W (J + 1)) + 1)) + 1))) then (.inl (-1)) else (bif ((nth a0 U).Mark != (W ((W ((W ((W (J + 1)) + 1)) + 1)) + 1))) then (.inl (-1)) else jt a0 n1 (W ((W ((W ((W ((W (J + 1)) + 1)) + 1)) + 1)) + 1)) (U + 1)))))) else (.inr J))
def Jz (a0 : List ZX) (a1 : Int) : Int := (match jt a0 (a0.length + 1) a1 0 with | .inl r1 => r1 | .inr z1_0 => z1_0)
def xo (a0 : List ZK) : Nat -> Int -> Nat -> Sum Int Int
  | 0, _, _ => .inr default
  | n1 + 1, J, U => (bif (decide ((U : Int) < (a0.length : Int))) then (bif ((nth a0 U).Count != J) then (.inl (-1)) else (bif ((nth a0 U).Method != (W (J + 1))) then (.inl (-1)) else (bif ((nth a0 U).ID != (W ((W (J + 1)) + 1))) then (.inl (-1)) else (bif (decide ((Ql (nth a0 U).Path (W ((W ((W (J + 1)) + 1)) + 1))) < 0)) then (.inl (-1)) else (bif (decide ((Jz (nth a0 U).YE (Ql (nth a0 U).Path (W ((W ((W (J + 1)) + 1)) + 1)))) < 0)) then (.inl (-1)) else xo a0 n1 (Jz (nth a0 U).YE (Ql (nth a0 U).Path (W ((W ((W (J + 1)) + 1)) + 1)))) (U + 1)))))) else (.inr J))
def Qu (a0 : List ZK) (a1 : Int) : Int := (match xo a0 (a0.length + 1) a1 0 with | .inl r1 => r1 | .inr z1_0 => z1_0)
def kW (a0 : List ZM) : Nat -> Int -> Nat -> Sum Int Int
  | 0, _, _ => .inr default
  | n1 + 1, J, U => (bif (decide ((U : Int) < (a0.length : Int))) then (bif ((nth a0 U).Id != J) then (.inl (-1)) else (bif ((nth a0 U).Y7 != (W (J + 1))) then (.inl (-1)) else (bif ((nth a0 U).Doc.zA != (W ((W (J + 1)) + 1))) then (.inl (-1)) else (bif (decide ((Zo (nth a0 U).Doc.ZN (W ((W ((W (J + 1)) + 1)) + 1))) < 0)) then (.inl (-1)) else (bif (decide ((Zl (nth a0 U).Doc.ZR (Zo (nth a0 U).Doc.ZN (W ((W ((W (J + 1)) + 1)) + 1)))) < 0)) then (.inl (-1)) else (bif ((nth a0 U).Sig.Key != (Zl (nth a0 U).Doc.ZR (Zo (nth a0 U).Doc.ZN (W ((W ((W (J + 1)) + 1)) + 1))))) then (.inl (-1)) else (bif ((nth a0 U).Sig.Zg != (W ((Zl (nth a0 U).Doc.ZR (Zo (nth a0 U).Doc.ZN (W ((W ((W (J + 1)) + 1)) + 1)))) + 1))) then (.inl (-1)) else (bif ((nth a0 U).Sig.Method != (W ((W ((Zl (nth a0 U).Doc.ZR (Zo (nth a0 U).Doc.ZN (W ((W ((W (J + 1)) + 1)) + 1)))) + 1)) + 1))) then (.inl (-1)) else (bif ((nth a0 U).Sig.XN != (W ((W ((W ((Zl (nth a0 U).Doc.ZR (Zo (nth a0 U).Doc.ZN (W ((W ((W (J + 1)) + 1)) + 1)))) + 1)) + 1)) + 1))) then (.inl (-1)) else (bif ((nth a0 U).Sig.xH != (W ((W ((W ((W ((Zl (nth a0 U).Doc.ZR (Zo (nth a0 U).Doc.ZN (W ((W ((W (J + 1)) + 1)) + 1)))) + 1)) + 1)) + 1)) + 1))) then (.inl (-1)) else (bif ((nth a0 U).Sig.Org != (W ((W ((W ((W ((W ((Zl (nth a0 U).Doc.ZR (Zo (nth a0 U).Doc.ZN (W ((W ((W (J + 1)) + 1)) + 1)))) + 1)) + 1)) + 1)) + 1)) + 1))) then (.inl (-1)) else (bif ((nth a0 U).Sig.xL != (W ((W ((W ((W ((W ((W ((Zl (nth a0 U).Doc.ZR (Zo (nth a0 U).Doc.ZN (W ((W ((W (J + 1)) + 1)) + 1)))) + 1)) + 1)) + 1)) + 1)) + 1)) + 1))) then (.inl (-1)) else (bif ((nth a0 U).Sig.kx != (W ((W ((W ((W ((W ((W ((W ((Zl (nth a0 U).Doc.ZR (Zo (nth a0 U).Doc.ZN (W ((W ((W (J + 1)) + 1)) + 1)))) + 1)) + 1)) + 1)) + 1)) + 1)) + 1)) + 1))) then (.inl (-1)) else (bif ((nth a0 U).Sig.Mark != (W ((W ((W ((W ((W ((W ((W ((W ((Zl (nth a0 U).Doc.ZR (Zo (nth a0 U).Doc.ZN (W ((W ((W (J + 1)) + 1)) + 1)))) + 1)) + 1)) + 1)) + 1)) + 1)) + 1)) + 1)) + 1))) then (.inl (-1)) else (bif (decide ((QI (nth a0 U).ZI.ZL (W ((W ((W ((W ((W ((W ((W ((W ((W ((Zl (nth a0 U).Doc.ZR (Zo (nth a0 U).Doc.ZN (W ((W ((W (J + 1)) + 1)) + 1)))) + 1)) + 1)) + 1)) + 1)) + 1)) + 1)) + 1)) + 1)) + 1))) < 0)) then (.inl (-1)) else (bif (decide ((Qu (nth a0 U).ZI.Zd (QI (nth a0 U).ZI.ZL (W ((W ((W ((W ((W ((W ((W ((W ((W ((Zl (nth a0 U).Doc.ZR (Zo (nth a0 U).Doc.ZN (W ((W ((W (J + 1)) + 1)) + 1)))) + 1)) + 1)) + 1)) + 1)) + 1)) + 1)) + 1)) + 1)) + 1)))) < 0)) then (.inl (-1)) else kW a0 n1 (Qu (nth a0 U).ZI.Zd (QI (nth a0 U).ZI.ZL (W ((W ((W ((W ((W ((W ((W ((W ((W ((Zl (nth a0 U).Doc.ZR (Zo (nth a0 U).Doc.ZN (W ((W ((W (J + 1)) + 1)) + 1)))) + 1)) + 1)) + 1)) + 1)) + 1)) + 1)) + 1)) + 1)) + 1)))) (U + 1))))))))))))))))) else (.inr J))
def Kh (a0 : List ZM) (a1 : Int) : Int := (match kW a0 (a0.length + 1) a1 0 with | .inl r1 => r1 | .inr z1_0 => z1_0)
def xn (a0 : List ZD) : Nat -> Int -> Nat -> Sum Int Int
  | 0, _, _ => .inr default
  | n1 + 1, J, U => (bif (decide ((U : Int) < (a0.length : Int))) then (bif ((nth a0 U).Id != J) then (.inl (-1)) else (bif (decide ((Kh (nth a0 U).ZF (W (J + 1))) < 0)) then (.inl (-1)) else xn a0 n1 (Kh (nth a0 U).ZF (W (J + 1))) (U + 1))) else (.inr J))
def X5 (a0 : List ZD) (a1 : Int) : Int := (match xn a0 (a0.length + 1) a1 0 with | .inl r1 => r1 | .inr z1_0 => z1_0)
def yA (a0 : ZJ) (a1 : Int) : Int := (bif (decide ((Xn a0.Frame a1) < 0)) then (-1) else (bif (decide ((QE a0.ZS (Xn a0.Frame a1)) < 0)) then (-1) else (bif (decide ((Zl a0.Zr (QE a0.ZS (Xn a0.Frame a1))) < 0)) then (-1) else (bif (decide ((X5 a0.ZA (Zl a0.Zr (QE a0.ZS (Xn a0.Frame a1)))) < 0)) then (-1) else (bif (decide ((Zl a0.Ym (X5 a0.ZA (Zl a0.Zr (QE a0.ZS (Xn a0.Frame a1))))) < 0)) then (-1) else (bif (decide ((Zl a0.YW (Zl a0.Ym (X5 a0.ZA (Zl a0.Zr (QE a0.ZS (Xn a0.Frame a1)))))) < 0)) then (-1) else (bif (decide ((Zl a0.YN (Zl a0.YW (Zl a0.Ym (X5 a0.ZA (Zl a0.Zr (QE a0.ZS (Xn a0.Frame a1))))))) < 0)) then (-1) else (Zl a0.YN (Zl a0.YW (Zl a0.Ym (X5 a0.ZA (Zl a0.Zr (QE a0.ZS (Xn a0.Frame a1))))))))))))))
def zc (a0 : ZJ) (a1 : Yu) : Bool := (bif (decide ((KB a0 1048576) < 0)) then true else (bif (decide ((jB a1 (KB a0 1048576)) < 0)) then true else (bif ((!(jJ (Z3 a0 a1).1 (QH a0 a1).1)) || (!((Z3 a0 a1).2 == (QH a0 a1).2))) then false else (bif (!(jJ a0 a0)) then false else (bif (!(TA a1 a1)) then false else (bif (((decide ((XI a1 (Z0 a0 1).2).2 < 0)) || (!(jJ (Z3 a0 a1).1 (QH a0 a1).1))) || (!((Z3 a0 a1).2 == (QH a0 a1).2))) then false else (bif (decide ((yA (Z0 (Z3 a0 a1).1 1).1 1) < 0)) then false else (bif ((yA (Z0 (Z3 a0 a1).1 1).1 1) != (Z0 (Z3 a0 a1).1 1).2) then false else (bif ((!(jJ (Z3 a0 a1).1 (QH a0 a1).1)) || (!((Z3 a0 a1).2 == (QH a0 a1).2))) then false else (bif (decide ((yA (Z0 (Z3 a0 a1).1 1).1 1) < 0)) then false else (bif ((yA (Z0 (Z3 a0 a1).1 1).1 1) != (Z0 (Z3 a0 a1).1 1).2) then false else true)))))))))))
end Go.Mo
