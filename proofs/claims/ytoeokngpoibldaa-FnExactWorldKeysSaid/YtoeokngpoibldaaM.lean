/- Models of the functions: what each computes, on typed data. No condition. -/
import Derived.Test.YtoeokngpoibldaaMo
namespace Go.Mo
open Go.Vm
def s_l5Table : List TMethod := ([(TMethod.mk 1 0 40 50), (TMethod.mk 2 20 80 70), (TMethod.mk 3 40 120 200), (TMethod.mk 4 60 10001 10001)] : List TMethod)
def s_WorldMethods : List TMethod := s_l5Table
def i_WorldMethods : List TMethod := ([(TMethod.mk 1 0 40 50), (TMethod.mk 2 20 80 70), (TMethod.mk 3 40 120 200), (TMethod.mk 4 60 10001 10001)] : List TMethod)
def l_eqMethod (a0 : TMethod) (a1 : TMethod) : Bool := (bif (a0.Id != a1.Id) then false else (bif (a0.Known != a1.Known) then false else (bif (a0.Ends != a1.Ends) then false else (bif (a0.Broken != a1.Broken) then false else true))))
def l_eqMethodS_1 (a0 : List TMethod) (a1 : List TMethod) : Nat → Nat → Sum Bool Unit
  | 0, _ => .inr ()
  | n1 + 1, v1_0 => (bif (decide ((↑v1_0 : Int) < (↑a0.length : Int))) then (bif (!(l_eqMethod (nth a0 v1_0) (nth a1 v1_0))) then (.inl false) else l_eqMethodS_1 a0 a1 n1 (v1_0 + 1)) else (.inr ()))
def l_eqMethodS (a0 : List TMethod) (a1 : List TMethod) : Bool := (bif ((↑a0.length : Int) != (↑a1.length : Int)) then false else (match l_eqMethodS_1 a0 a1 (a0.length + 1) 0 with | .inl r1 => r1 | .inr _ => true))
def l_markMethodS_1 : Nat → Int → Nat → List TMethod → Int × (List TMethod)
  | 0, _, _, _ => (default, default)
  | n1 + 1, v1_0, v1_1, v1_2 => (bif (decide ((↑v1_1 : Int) < (↑v1_2.length : Int))) then l_markMethodS_1 n1 (W ((W ((W ((W (v1_0 + 1)) + 1)) + 1)) + 1)) (v1_1 + 1) (v1_2.set v1_1 (TMethod.mk v1_0 (W (v1_0 + 1)) (W ((W (v1_0 + 1)) + 1)) (W ((W ((W (v1_0 + 1)) + 1)) + 1)))) else ((v1_0, v1_2)))
def l_markMethodS (a0 : List TMethod) (a1 : Int) : (List TMethod) × Int := (match l_markMethodS_1 (a0.length + 1) a1 0 a0 with | (z1_0, z1_1) => (z1_1, z1_0))
def l_heldMethodS_1 (a0 : List TMethod) : Nat → Int → Nat → Sum Int Int
  | 0, _, _ => .inr default
  | n1 + 1, v1_0, v1_1 => (bif (decide ((↑v1_1 : Int) < (↑a0.length : Int))) then (bif ((nth a0 v1_1).Id != v1_0) then (.inl (-1)) else (bif ((nth a0 v1_1).Known != (W (v1_0 + 1))) then (.inl (-1)) else (bif ((nth a0 v1_1).Ends != (W ((W (v1_0 + 1)) + 1))) then (.inl (-1)) else (bif ((nth a0 v1_1).Broken != (W ((W ((W (v1_0 + 1)) + 1)) + 1))) then (.inl (-1)) else l_heldMethodS_1 a0 n1 (W ((W ((W ((W (v1_0 + 1)) + 1)) + 1)) + 1)) (v1_1 + 1))))) else (.inr v1_0))
def l_heldMethodS (a0 : List TMethod) (a1 : Int) : Int := (match l_heldMethodS_1 a0 (a0.length + 1) a1 0 with | .inl r1 => r1 | .inr z1_0 => z1_0)
def l_FnExactWorldMethods : Bool := (bif (!(l_eqMethodS i_WorldMethods s_WorldMethods)) then false else (bif (decide ((l_heldMethodS (l_markMethodS i_WorldMethods 1).1 1) < 0)) then false else (bif ((l_heldMethodS (l_markMethodS i_WorldMethods 1).1 1) != (l_markMethodS i_WorldMethods 1).2) then false else (bif (!(l_eqMethodS i_WorldMethods s_WorldMethods)) then false else (bif (decide ((l_heldMethodS (l_markMethodS i_WorldMethods 1).1 1) < 0)) then false else (bif ((l_heldMethodS (l_markMethodS i_WorldMethods 1).1 1) != (l_markMethodS i_WorldMethods 1).2) then false else true))))))
def s_l8Keys : List TKey := ([(TKey.mk 1 90 1 0 501), (TKey.mk 2 90 3 40 502), (TKey.mk 11 1 1 0 511), (TKey.mk 12 1 2 20 512), (TKey.mk 13 2 3 40 513), (TKey.mk 21 50 1 0 521), (TKey.mk 31 81 1 0 531), (TKey.mk 32 82 2 20 532), (TKey.mk 33 83 3 40 533), (TKey.mk 34 84 4 60 534)] : List TKey)
def s_WorldKeys : List TKey := s_l8Keys
def i_WorldKeys : List TKey := ([(TKey.mk 1 90 1 0 501), (TKey.mk 2 90 3 40 502), (TKey.mk 11 1 1 0 511), (TKey.mk 12 1 2 20 512), (TKey.mk 13 2 3 40 513), (TKey.mk 21 50 1 0 521), (TKey.mk 31 81 1 0 531), (TKey.mk 32 82 2 20 532), (TKey.mk 33 83 3 40 533), (TKey.mk 34 84 4 60 534)] : List TKey)
def l_eqKey (a0 : TKey) (a1 : TKey) : Bool := (bif (a0.Number != a1.Number) then false else (bif (a0.Owner != a1.Owner) then false else (bif (a0.Method != a1.Method) then false else (bif (a0.Born != a1.Born) then false else (bif (a0.Secret != a1.Secret) then false else true)))))
def l_eqKeyS_1 (a0 : List TKey) (a1 : List TKey) : Nat → Nat → Sum Bool Unit
  | 0, _ => .inr ()
  | n1 + 1, v1_0 => (bif (decide ((↑v1_0 : Int) < (↑a0.length : Int))) then (bif (!(l_eqKey (nth a0 v1_0) (nth a1 v1_0))) then (.inl false) else l_eqKeyS_1 a0 a1 n1 (v1_0 + 1)) else (.inr ()))
def l_eqKeyS (a0 : List TKey) (a1 : List TKey) : Bool := (bif ((↑a0.length : Int) != (↑a1.length : Int)) then false else (match l_eqKeyS_1 a0 a1 (a0.length + 1) 0 with | .inl r1 => r1 | .inr _ => true))
def l_markKeyS_1 : Nat → Int → Nat → List TKey → Int × (List TKey)
  | 0, _, _, _ => (default, default)
  | n1 + 1, v1_0, v1_1, v1_2 => (bif (decide ((↑v1_1 : Int) < (↑v1_2.length : Int))) then l_markKeyS_1 n1 (W ((W ((W ((W ((W (v1_0 + 1)) + 1)) + 1)) + 1)) + 1)) (v1_1 + 1) (v1_2.set v1_1 (TKey.mk v1_0 (W (v1_0 + 1)) (W ((W (v1_0 + 1)) + 1)) (W ((W ((W (v1_0 + 1)) + 1)) + 1)) (W ((W ((W ((W (v1_0 + 1)) + 1)) + 1)) + 1)))) else ((v1_0, v1_2)))
def l_markKeyS (a0 : List TKey) (a1 : Int) : (List TKey) × Int := (match l_markKeyS_1 (a0.length + 1) a1 0 a0 with | (z1_0, z1_1) => (z1_1, z1_0))
def l_heldKeyS_1 (a0 : List TKey) : Nat → Int → Nat → Sum Int Int
  | 0, _, _ => .inr default
  | n1 + 1, v1_0, v1_1 => (bif (decide ((↑v1_1 : Int) < (↑a0.length : Int))) then (bif ((nth a0 v1_1).Number != v1_0) then (.inl (-1)) else (bif ((nth a0 v1_1).Owner != (W (v1_0 + 1))) then (.inl (-1)) else (bif ((nth a0 v1_1).Method != (W ((W (v1_0 + 1)) + 1))) then (.inl (-1)) else (bif ((nth a0 v1_1).Born != (W ((W ((W (v1_0 + 1)) + 1)) + 1))) then (.inl (-1)) else (bif ((nth a0 v1_1).Secret != (W ((W ((W ((W (v1_0 + 1)) + 1)) + 1)) + 1))) then (.inl (-1)) else l_heldKeyS_1 a0 n1 (W ((W ((W ((W ((W (v1_0 + 1)) + 1)) + 1)) + 1)) + 1)) (v1_1 + 1)))))) else (.inr v1_0))
def l_heldKeyS (a0 : List TKey) (a1 : Int) : Int := (match l_heldKeyS_1 a0 (a0.length + 1) a1 0 with | .inl r1 => r1 | .inr z1_0 => z1_0)
def l_FnExactWorldKeys : Bool := (bif (!(l_eqKeyS i_WorldKeys s_WorldKeys)) then false else (bif (decide ((l_heldKeyS (l_markKeyS i_WorldKeys 1).1 1) < 0)) then false else (bif ((l_heldKeyS (l_markKeyS i_WorldKeys 1).1 1) != (l_markKeyS i_WorldKeys 1).2) then false else (bif (!(l_eqKeyS i_WorldKeys s_WorldKeys)) then false else (bif (decide ((l_heldKeyS (l_markKeyS i_WorldKeys 1).1 1) < 0)) then false else (bif ((l_heldKeyS (l_markKeyS i_WorldKeys 1).1 1) != (l_markKeyS i_WorldKeys 1).2) then false else true))))))
end Go.Mo
