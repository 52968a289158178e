/- Models of the functions: what each computes, on typed data. No condition. -/
import Derived.Test.YtoeokngpoibldaaMo
namespace Go.Mo
open Go.Vm
def s_l1In (a0 : Int) (a1 : Int) (a2 : Int) : Bool := ((decide (a0 ≥ a1)) && (decide (a0 ≤ a2)))
def i_InRange (a0 : Int) (a1 : Int) (a2 : Int) : Bool := ((decide (a1 ≤ a0)) && (decide (a0 ≤ a2)))
def l_toStamp (a0 : TStamp) : TStamp := a0
def s_FormatInt_1 : Nat → ByteArray → Int → ByteArray
  | 0, _, _ => default
  | n1 + 1, v1_0, v1_1 => (bif (v1_1 != 0) then (bif (decide ((Int.tmod v1_1 10) < 0)) then s_FormatInt_1 n1 ((⟨([(UInt8.ofInt (W (48 + (W (-(Int.tmod v1_1 10))))))] : List UInt8).toArray⟩ : ByteArray) ++ v1_0) (W (Int.tdiv v1_1 10)) else s_FormatInt_1 n1 ((⟨([(UInt8.ofInt (W (48 + (Int.tmod v1_1 10))))] : List UInt8).toArray⟩ : ByteArray) ++ v1_0) (W (Int.tdiv v1_1 10))) else (v1_0))
def s_FormatInt (a0 : Int) : ByteArray := (bif (a0 == 0) then (⟨#[48]⟩ : ByteArray) else (match s_FormatInt_1 22 (⟨#[]⟩ : ByteArray) a0 with | z1_0 => (bif (decide (a0 < 0)) then ((⟨#[45]⟩ : ByteArray) ++ z1_0) else z1_0)))
def s_FormatStamp (a0 : TStamp) : ByteArray := ((((((⟨#[97]⟩ : ByteArray) ++ (s_FormatInt a0.Authority)) ++ (⟨#[110]⟩ : ByteArray)) ++ (s_FormatInt a0.Seq)) ++ (⟨#[116]⟩ : ByteArray)) ++ (s_FormatInt a0.Time))
def i_FormatInt_1 : Nat → Int → List UInt8 → (List UInt8)
  | 0, _, _ => default
  | n1 + 1, v1_0, v1_1 => (bif (decide ((Int.tmod v1_0 10) < 0)) then (bif ((W (Int.tdiv v1_0 10)) == 0) then ((([(UInt8.ofInt (W (48 + (W (-(Int.tmod v1_0 10))))))] : List UInt8) ++ v1_1)) else i_FormatInt_1 n1 (W (Int.tdiv v1_0 10)) (([(UInt8.ofInt (W (48 + (W (-(Int.tmod v1_0 10))))))] : List UInt8) ++ v1_1)) else (bif ((W (Int.tdiv v1_0 10)) == 0) then ((([(UInt8.ofInt (W (48 + (Int.tmod v1_0 10))))] : List UInt8) ++ v1_1)) else i_FormatInt_1 n1 (W (Int.tdiv v1_0 10)) (([(UInt8.ofInt (W (48 + (Int.tmod v1_0 10))))] : List UInt8) ++ v1_1)))
def i_FormatInt (a0 : Int) : ByteArray := (match i_FormatInt_1 21 a0 ([] : List UInt8) with | z1_0 => (bif (decide (a0 < 0)) then ((⟨#[45]⟩ : ByteArray) ++ (⟨z1_0.toArray⟩ : ByteArray)) else (⟨z1_0.toArray⟩ : ByteArray)))
def i_FormatStamp (a0 : TStamp) : ByteArray := ((((((⟨#[97]⟩ : ByteArray) ++ (i_FormatInt a0.Authority)) ++ (⟨#[110]⟩ : ByteArray)) ++ (i_FormatInt a0.Seq)) ++ (⟨#[116]⟩ : ByteArray)) ++ (i_FormatInt a0.Time))
def l_FnExactFormatStamp (a0 : TStamp) : Bool := (bif (!decide ((i_FormatStamp (l_toStamp a0)) = (s_FormatStamp (l_toStamp a0)))) then false else true)
def s_l5Table : List TMethod := ([(TMethod.mk 1 0 40 50), (TMethod.mk 2 20 80 70), (TMethod.mk 3 40 120 200), (TMethod.mk 4 60 10001 10001)] : List TMethod)
def s_WorldMethods : List TMethod := s_l5Table
def i_WorldMethods : List TMethod := ([(TMethod.mk 1 0 40 50), (TMethod.mk 2 20 80 70), (TMethod.mk 3 40 120 200), (TMethod.mk 4 60 10001 10001)] : List TMethod)
def l_eqMethod (a0 : TMethod) (a1 : TMethod) : Bool := (bif (a0.Id != a1.Id) then false else (bif (a0.Known != a1.Known) then false else (bif (a0.Ends != a1.Ends) then false else (bif (a0.Broken != a1.Broken) then false else true))))
def l_eqMethodS_1 (a0 : List TMethod) (a1 : List TMethod) : Nat → Nat → Sum Bool Unit
  | 0, _ => .inr ()
  | n1 + 1, v1_0 => (bif (decide ((↑v1_0 : Int) < (↑a0.length : Int))) then (bif (!(l_eqMethod (nth a0 v1_0) (nth a1 v1_0))) then (.inl false) else l_eqMethodS_1 a0 a1 n1 (v1_0 + 1)) else (.inr ()))
def l_eqMethodS (a0 : List TMethod) (a1 : List TMethod) : Bool := (bif ((↑a0.length : Int) != (↑a1.length : Int)) then false else (match l_eqMethodS_1 a0 a1 (a0.length + 1) 0 with | .inl r1 => r1 | .inr _ => true))
def l_heldMethodS_1 (a0 : List TMethod) : Nat → Int → Nat → Sum Int Int
  | 0, _, _ => .inr default
  | n1 + 1, v1_0, v1_1 => (bif (decide ((↑v1_1 : Int) < (↑a0.length : Int))) then (bif ((nth a0 v1_1).Id != v1_0) then (.inl (-1)) else (bif ((nth a0 v1_1).Known != (W (v1_0 + 1))) then (.inl (-1)) else (bif ((nth a0 v1_1).Ends != (W ((W (v1_0 + 1)) + 1))) then (.inl (-1)) else (bif ((nth a0 v1_1).Broken != (W ((W ((W (v1_0 + 1)) + 1)) + 1))) then (.inl (-1)) else l_heldMethodS_1 a0 n1 (W ((W ((W ((W (v1_0 + 1)) + 1)) + 1)) + 1)) (v1_1 + 1))))) else (.inr v1_0))
def l_heldMethodS (a0 : List TMethod) (a1 : Int) : Int := (match l_heldMethodS_1 a0 (a0.length + 1) a1 0 with | .inl r1 => r1 | .inr z1_0 => z1_0)
def s_l8Keys : List TKey := ([(TKey.mk 1 90 1 0 501), (TKey.mk 2 90 3 40 502), (TKey.mk 11 1 1 0 511), (TKey.mk 12 1 2 20 512), (TKey.mk 13 2 3 40 513), (TKey.mk 21 50 1 0 521), (TKey.mk 31 81 1 0 531), (TKey.mk 32 82 2 20 532), (TKey.mk 33 83 3 40 533), (TKey.mk 34 84 4 60 534)] : List TKey)
def s_WorldKeys : List TKey := s_l8Keys
def i_WorldKeys : List TKey := ([(TKey.mk 1 90 1 0 501), (TKey.mk 2 90 3 40 502), (TKey.mk 11 1 1 0 511), (TKey.mk 12 1 2 20 512), (TKey.mk 13 2 3 40 513), (TKey.mk 21 50 1 0 521), (TKey.mk 31 81 1 0 531), (TKey.mk 32 82 2 20 532), (TKey.mk 33 83 3 40 533), (TKey.mk 34 84 4 60 534)] : List TKey)
def l_eqKey (a0 : TKey) (a1 : TKey) : Bool := (bif (a0.Number != a1.Number) then false else (bif (a0.Owner != a1.Owner) then false else (bif (a0.Method != a1.Method) then false else (bif (a0.Born != a1.Born) then false else (bif (a0.Secret != a1.Secret) then false else true)))))
def l_eqKeyS_1 (a0 : List TKey) (a1 : List TKey) : Nat → Nat → Sum Bool Unit
  | 0, _ => .inr ()
  | n1 + 1, v1_0 => (bif (decide ((↑v1_0 : Int) < (↑a0.length : Int))) then (bif (!(l_eqKey (nth a0 v1_0) (nth a1 v1_0))) then (.inl false) else l_eqKeyS_1 a0 a1 n1 (v1_0 + 1)) else (.inr ()))
def l_eqKeyS (a0 : List TKey) (a1 : List TKey) : Bool := (bif ((↑a0.length : Int) != (↑a1.length : Int)) then false else (match l_eqKeyS_1 a0 a1 (a0.length + 1) 0 with | .inl r1 => r1 | .inr _ => true))
def l_heldKeyS_1 (a0 : List TKey) : Nat → Int → Nat → Sum Int Int
  | 0, _, _ => .inr default
  | n1 + 1, v1_0, v1_1 => (bif (decide ((↑v1_1 : Int) < (↑a0.length : Int))) then (bif ((nth a0 v1_1).Number != v1_0) then (.inl (-1)) else (bif ((nth a0 v1_1).Owner != (W (v1_0 + 1))) then (.inl (-1)) else (bif ((nth a0 v1_1).Method != (W ((W (v1_0 + 1)) + 1))) then (.inl (-1)) else (bif ((nth a0 v1_1).Born != (W ((W ((W (v1_0 + 1)) + 1)) + 1))) then (.inl (-1)) else (bif ((nth a0 v1_1).Secret != (W ((W ((W ((W (v1_0 + 1)) + 1)) + 1)) + 1))) then (.inl (-1)) else l_heldKeyS_1 a0 n1 (W ((W ((W ((W ((W (v1_0 + 1)) + 1)) + 1)) + 1)) + 1)) (v1_1 + 1)))))) else (.inr v1_0))
def l_heldKeyS (a0 : List TKey) (a1 : Int) : Int := (match l_heldKeyS_1 a0 (a0.length + 1) a1 0 with | .inl r1 => r1 | .inr z1_0 => z1_0)
def l_szStepS (a0 : List TStep) (a1 : Int) : Int := (bif (decide ((W (a1 - (↑a0.length : Int))) < 0)) then (-1) else (W (a1 - (↑a0.length : Int))))
def l_szStampS (a0 : List TStamp) (a1 : Int) : Int := (bif (decide ((W (a1 - (↑a0.length : Int))) < 0)) then (-1) else (W (a1 - (↑a0.length : Int))))
def l_szRenewal (a0 : TRenewal) (a1 : Int) : Int := (bif (decide ((l_szStepS a0.Path a1) < 0)) then (-1) else (bif (decide ((l_szStampS a0.Stamps (l_szStepS a0.Path a1)) < 0)) then (-1) else (l_szStampS a0.Stamps (l_szStepS a0.Path a1))))
def l_toStep (a0 : TStep) : TStep := a0
def l_toStepS_1 (a0 : List TStep) : Nat → Nat → List TStep → (List TStep)
  | 0, _, _ => default
  | n1 + 1, v1_0, v1_1 => (bif (decide ((↑v1_0 : Int) < (↑a0.length : Int))) then l_toStepS_1 a0 n1 (v1_0 + 1) (v1_1.set v1_0 (l_toStep (nth a0 v1_0))) else (v1_1))
def l_toStepS (a0 : List TStep) : List TStep := (match l_toStepS_1 a0 (a0.length + 1) 0 (List.replicate a0.length (TStep.mk 0 false)) with | z1_0 => z1_0)
def l_toStampS_1 (a0 : List TStamp) : Nat → Nat → List TStamp → (List TStamp)
  | 0, _, _ => default
  | n1 + 1, v1_0, v1_1 => (bif (decide ((↑v1_0 : Int) < (↑a0.length : Int))) then l_toStampS_1 a0 n1 (v1_0 + 1) (v1_1.set v1_0 (l_toStamp (nth a0 v1_0))) else (v1_1))
def l_toStampS (a0 : List TStamp) : List TStamp := (match l_toStampS_1 a0 (a0.length + 1) 0 (List.replicate a0.length (TStamp.mk 0 0 0 0 0)) with | z1_0 => z1_0)
def l_toRenewal (a0 : TRenewal) : TRenewal := (TRenewal.mk a0.Count a0.Method a0.Root (l_toStepS a0.Path) (l_toStampS a0.Stamps))
def s_RenewalSize (a0 : TRenewal) : Int := (W ((W (3 + (W (2 * (↑a0.Path.length : Int))))) + (W (6 * (↑a0.Stamps.length : Int)))))
def i_RenewalSize (a0 : TRenewal) : Int := (W ((W (3 + (W (2 * (↑a0.Path.length : Int))))) + (W (6 * (↑a0.Stamps.length : Int)))))
def l_eqStep (a0 : TStep) (a1 : TStep) : Bool := (bif (a0.Digest != a1.Digest) then false else (bif (!(a0.Left == a1.Left)) then false else true))
def l_eqStepS_1 (a0 : List TStep) (a1 : List TStep) : Nat → Nat → Sum Bool Unit
  | 0, _ => .inr ()
  | n1 + 1, v1_0 => (bif (decide ((↑v1_0 : Int) < (↑a0.length : Int))) then (bif (!(l_eqStep (nth a0 v1_0) (nth a1 v1_0))) then (.inl false) else l_eqStepS_1 a0 a1 n1 (v1_0 + 1)) else (.inr ()))
def l_eqStepS (a0 : List TStep) (a1 : List TStep) : Bool := (bif ((↑a0.length : Int) != (↑a1.length : Int)) then false else (match l_eqStepS_1 a0 a1 (a0.length + 1) 0 with | .inl r1 => r1 | .inr _ => true))
def l_eqStamp (a0 : TStamp) (a1 : TStamp) : Bool := (bif (a0.Authority != a1.Authority) then false else (bif (a0.Seq != a1.Seq) then false else (bif (a0.Time != a1.Time) then false else (bif (a0.Digest != a1.Digest) then false else (bif (a0.Mark != a1.Mark) then false else true)))))
def l_eqStampS_1 (a0 : List TStamp) (a1 : List TStamp) : Nat → Nat → Sum Bool Unit
  | 0, _ => .inr ()
  | n1 + 1, v1_0 => (bif (decide ((↑v1_0 : Int) < (↑a0.length : Int))) then (bif (!(l_eqStamp (nth a0 v1_0) (nth a1 v1_0))) then (.inl false) else l_eqStampS_1 a0 a1 n1 (v1_0 + 1)) else (.inr ()))
def l_eqStampS (a0 : List TStamp) (a1 : List TStamp) : Bool := (bif ((↑a0.length : Int) != (↑a1.length : Int)) then false else (match l_eqStampS_1 a0 a1 (a0.length + 1) 0 with | .inl r1 => r1 | .inr _ => true))
def l_eqRenewal (a0 : TRenewal) (a1 : TRenewal) : Bool := (bif (a0.Count != a1.Count) then false else (bif (a0.Method != a1.Method) then false else (bif (a0.Root != a1.Root) then false else (bif (!(l_eqStepS a0.Path a1.Path)) then false else (bif (!(l_eqStampS a0.Stamps a1.Stamps)) then false else true)))))
def l_FnExactRenewalSize (a0 : TRenewal) : Bool := (bif (decide ((l_szRenewal a0 1048576) < 0)) then true else (bif ((i_RenewalSize (l_toRenewal a0)) != (s_RenewalSize (l_toRenewal a0))) then false else (bif (!(l_eqRenewal (l_toRenewal a0) (l_toRenewal a0))) then false else true)))
def l_szStringS_1 (a0 : List ByteArray) : Nat → Int → Nat → Sum Int Int
  | 0, _, _ => .inr default
  | n1 + 1, v1_0, v1_1 => (bif (decide ((↑v1_1 : Int) < (↑a0.length : Int))) then (bif (decide ((W (v1_0 - (↑(nth a0 v1_1).size : Int))) < 0)) then (.inl (-1)) else l_szStringS_1 a0 n1 (W (v1_0 - (↑(nth a0 v1_1).size : Int))) (v1_1 + 1)) else (.inr v1_0))
def l_szStringS (a0 : List ByteArray) (a1 : Int) : Int := (bif (decide ((W (a1 - (↑a0.length : Int))) < 0)) then (-1) else (match l_szStringS_1 a0 (a0.length + 1) (W (a1 - (↑a0.length : Int))) 0 with | .inl r1 => r1 | .inr z1_0 => z1_0))
def l_szIntS (a0 : List Int) (a1 : Int) : Int := (bif (decide ((W (a1 - (↑a0.length : Int))) < 0)) then (-1) else (W (a1 - (↑a0.length : Int))))
def l_szDocument (a0 : TDocument) (a1 : Int) : Int := (bif (decide ((l_szStringS a0.Parts a1) < 0)) then (-1) else (bif (decide ((l_szIntS a0.Salts (l_szStringS a0.Parts a1)) < 0)) then (-1) else (l_szIntS a0.Salts (l_szStringS a0.Parts a1))))
def l_szEvent (a0 : TEvent) (a1 : Int) : Int := (bif (decide ((l_szDocument a0.Doc a1) < 0)) then (-1) else (bif (decide ((l_szIntS a0.Ids (l_szDocument a0.Doc a1)) < 0)) then (-1) else (l_szIntS a0.Ids (l_szDocument a0.Doc a1))))
def l_szEventS_1 (a0 : List TEvent) : Nat → Int → Nat → Sum Int Int
  | 0, _, _ => .inr default
  | n1 + 1, v1_0, v1_1 => (bif (decide ((↑v1_1 : Int) < (↑a0.length : Int))) then (bif (decide ((l_szEvent (nth a0 v1_1) v1_0) < 0)) then (.inl (-1)) else l_szEventS_1 a0 n1 (l_szEvent (nth a0 v1_1) v1_0) (v1_1 + 1)) else (.inr v1_0))
def l_szEventS (a0 : List TEvent) (a1 : Int) : Int := (bif (decide ((W (a1 - (↑a0.length : Int))) < 0)) then (-1) else (match l_szEventS_1 a0 (a0.length + 1) (W (a1 - (↑a0.length : Int))) 0 with | .inl r1 => r1 | .inr z1_0 => z1_0))
def l_toStringS_1 (a0 : List ByteArray) : Nat → Nat → List ByteArray → (List ByteArray)
  | 0, _, _ => default
  | n1 + 1, v1_0, v1_1 => (bif (decide ((↑v1_0 : Int) < (↑a0.length : Int))) then l_toStringS_1 a0 n1 (v1_0 + 1) (v1_1.set v1_0 (nth a0 v1_0)) else (v1_1))
def l_toStringS (a0 : List ByteArray) : List ByteArray := (match l_toStringS_1 a0 (a0.length + 1) 0 (List.replicate a0.length (⟨#[]⟩ : ByteArray)) with | z1_0 => z1_0)
def l_toIntS_1 (a0 : List Int) : Nat → Nat → List Int → (List Int)
  | 0, _, _ => default
  | n1 + 1, v1_0, v1_1 => (bif (decide ((↑v1_0 : Int) < (↑a0.length : Int))) then l_toIntS_1 a0 n1 (v1_0 + 1) (v1_1.set v1_0 (nth a0 v1_0)) else (v1_1))
def l_toIntS (a0 : List Int) : List Int := (match l_toIntS_1 a0 (a0.length + 1) 0 (List.replicate a0.length 0) with | z1_0 => z1_0)
def l_toDocument (a0 : TDocument) : TDocument := (TDocument.mk a0.Title (l_toStringS a0.Parts) (l_toIntS a0.Salts))
def l_toEvent (a0 : TEvent) : TEvent := (TEvent.mk a0.Kind a0.A a0.B a0.C a0.D (TDocument.mk (l_toDocument a0.Doc).Title (l_toDocument a0.Doc).Parts (l_toDocument a0.Doc).Salts) (l_toIntS a0.Ids))
def l_toEventS_1 (a0 : List TEvent) : Nat → Nat → List TEvent → (List TEvent)
  | 0, _, _ => default
  | n1 + 1, v1_0, v1_1 => (bif (decide ((↑v1_0 : Int) < (↑a0.length : Int))) then l_toEventS_1 a0 n1 (v1_0 + 1) (v1_1.set v1_0 (l_toEvent (nth a0 v1_0))) else (v1_1))
def l_toEventS (a0 : List TEvent) : List TEvent := (match l_toEventS_1 a0 (a0.length + 1) 0 (List.replicate a0.length (TEvent.mk 0 0 0 0 0 (TDocument.mk 0 ([] : List ByteArray) ([] : List Int)) ([] : List Int))) with | z1_0 => z1_0)
def s_CountKind_1 (a0 : List TEvent) (a1 : Int) : Nat → Int → Nat → Int
  | 0, _, _ => default
  | n1 + 1, v1_0, v1_1 => (bif (decide ((↑v1_1 : Int) < (↑a0.length : Int))) then (bif ((nth a0 v1_1).Kind == a1) then s_CountKind_1 a0 a1 n1 (W (v1_0 + 1)) (v1_1 + 1) else s_CountKind_1 a0 a1 n1 v1_0 (v1_1 + 1)) else (v1_0))
def s_CountKind (a0 : List TEvent) (a1 : Int) : Int := (match s_CountKind_1 a0 a1 (a0.length + 1) 0 0 with | z1_0 => z1_0)
def i_CountKind_1 (a0 : List TEvent) (a1 : Int) : Nat → Int → Nat → Int
  | 0, _, _ => default
  | n1 + 1, v1_0, v1_1 => (bif (decide ((↑v1_1 : Int) < (↑a0.length : Int))) then (bif ((nth a0 v1_1).Kind == a1) then i_CountKind_1 a0 a1 n1 (W (v1_0 + 1)) (v1_1 + 1) else i_CountKind_1 a0 a1 n1 v1_0 (v1_1 + 1)) else (v1_0))
def i_CountKind (a0 : List TEvent) (a1 : Int) : Int := (match i_CountKind_1 a0 a1 (a0.length + 1) 0 0 with | z1_0 => z1_0)
def l_eqStringS_1 (a0 : List ByteArray) (a1 : List ByteArray) : Nat → Nat → Sum Bool Unit
  | 0, _ => .inr ()
  | n1 + 1, v1_0 => (bif (decide ((↑v1_0 : Int) < (↑a0.length : Int))) then (bif (!decide ((nth a0 v1_0) = (nth a1 v1_0))) then (.inl false) else l_eqStringS_1 a0 a1 n1 (v1_0 + 1)) else (.inr ()))
def l_eqStringS (a0 : List ByteArray) (a1 : List ByteArray) : Bool := (bif ((↑a0.length : Int) != (↑a1.length : Int)) then false else (match l_eqStringS_1 a0 a1 (a0.length + 1) 0 with | .inl r1 => r1 | .inr _ => true))
def l_eqIntS_1 (a0 : List Int) (a1 : List Int) : Nat → Nat → Sum Bool Unit
  | 0, _ => .inr ()
  | n1 + 1, v1_0 => (bif (decide ((↑v1_0 : Int) < (↑a0.length : Int))) then (bif ((nth a0 v1_0) != (nth a1 v1_0)) then (.inl false) else l_eqIntS_1 a0 a1 n1 (v1_0 + 1)) else (.inr ()))
def l_eqIntS (a0 : List Int) (a1 : List Int) : Bool := (bif ((↑a0.length : Int) != (↑a1.length : Int)) then false else (match l_eqIntS_1 a0 a1 (a0.length + 1) 0 with | .inl r1 => r1 | .inr _ => true))
def l_eqDocument (a0 : TDocument) (a1 : TDocument) : Bool := (bif (a0.Title != a1.Title) then false else (bif (!(l_eqStringS a0.Parts a1.Parts)) then false else (bif (!(l_eqIntS a0.Salts a1.Salts)) then false else true)))
def l_eqEvent (a0 : TEvent) (a1 : TEvent) : Bool := (bif (a0.Kind != a1.Kind) then false else (bif (a0.A != a1.A) then false else (bif (a0.B != a1.B) then false else (bif (a0.C != a1.C) then false else (bif (a0.D != a1.D) then false else (bif (!(l_eqDocument a0.Doc a1.Doc)) then false else (bif (!(l_eqIntS a0.Ids a1.Ids)) then false else true)))))))
def l_eqEventS_1 (a0 : List TEvent) (a1 : List TEvent) : Nat → Nat → Sum Bool Unit
  | 0, _ => .inr ()
  | n1 + 1, v1_0 => (bif (decide ((↑v1_0 : Int) < (↑a0.length : Int))) then (bif (!(l_eqEvent (nth a0 v1_0) (nth a1 v1_0))) then (.inl false) else l_eqEventS_1 a0 a1 n1 (v1_0 + 1)) else (.inr ()))
def l_eqEventS (a0 : List TEvent) (a1 : List TEvent) : Bool := (bif ((↑a0.length : Int) != (↑a1.length : Int)) then false else (match l_eqEventS_1 a0 a1 (a0.length + 1) 0 with | .inl r1 => r1 | .inr _ => true))
def l_FnExactCountKind (a0 : List TEvent) (a1 : Int) : Bool := (bif (decide ((l_szEventS a0 1048576) < 0)) then true else (bif ((i_CountKind (l_toEventS a0) a1) != (s_CountKind (l_toEventS a0) a1)) then false else (bif (!(l_eqEventS (l_toEventS a0) (l_toEventS a0))) then false else true)))
end Go.Mo
