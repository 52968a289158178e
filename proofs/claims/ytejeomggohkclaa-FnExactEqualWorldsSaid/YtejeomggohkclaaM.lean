/- Models of the functions: what each computes, on typed data. No condition. -/
import Derived.Test.YtejeomggohkclaaMo
namespace Go.Mo
open Go.Vm
def l_szStringS_1 (a0 : List ByteArray) : Nat → Int → Nat → Sum Int Int
  | 0, _, _ => .inr default
  | n1 + 1, v1_0, v1_1 => (bif (decide ((↑v1_1 : Int) < (↑a0.length : Int))) then (bif (decide ((W (v1_0 - (↑(nth a0 v1_1).size : Int))) < 0)) then (.inl (-1)) else l_szStringS_1 a0 n1 (W (v1_0 - (↑(nth a0 v1_1).size : Int))) (v1_1 + 1)) else (.inr v1_0))
def l_szStringS (a0 : List ByteArray) (a1 : Int) : Int := (bif (decide ((W (a1 - (↑a0.length : Int))) < 0)) then (-1) else (match l_szStringS_1 a0 (a0.length + 1) (W (a1 - (↑a0.length : Int))) 0 with | .inl r1 => r1 | .inr z1_0 => z1_0))
def l_szIntS (a0 : List Int) (a1 : Int) : Int := (bif (decide ((W (a1 - (↑a0.length : Int))) < 0)) then (-1) else (W (a1 - (↑a0.length : Int))))
def l_szDocument (a0 : TDocument) (a1 : Int) : Int := (bif (decide ((l_szStringS a0.Parts a1) < 0)) then (-1) else (bif (decide ((l_szIntS a0.Salts (l_szStringS a0.Parts a1)) < 0)) then (-1) else (l_szIntS a0.Salts (l_szStringS a0.Parts a1))))
def l_szEvent (a0 : TEvent) (a1 : Int) : Int := (bif (decide ((l_szDocument a0.Doc a1) < 0)) then (-1) else (bif (decide ((l_szIntS a0.Ids (l_szDocument a0.Doc a1)) < 0)) then (-1) else (l_szIntS a0.Ids (l_szDocument a0.Doc a1))))
def l_szEventS_1 (a0 : List TEvent) : Nat → Int → Nat → Sum Int Int
  | 0, _, _ => .inr default
  | n1 + 1, v1_0, v1_1 => (bif (decide ((↑v1_1 : Int) < (↑a0.length : Int))) then (bif (decide ((l_szEvent (nth a0 v1_1) v1_0) < 0)) then (.inl (-1)) else l_szEventS_1 a0 n1 (l_szEvent (nth a0 v1_1) v1_0) (v1_1 + 1)) else (.inr v1_0))
def l_szEventS (a0 : List TEvent) (a1 : Int) : Int := (bif (decide ((W (a1 - (↑a0.length : Int))) < 0)) then (-1) else (match l_szEventS_1 a0 (a0.length + 1) (W (a1 - (↑a0.length : Int))) 0 with | .inl r1 => r1 | .inr z1_0 => z1_0))
def l_toStringS_1 (a0 : List ByteArray) : Nat → Nat → List ByteArray → (List ByteArray)
  | 0, _, _ => default
  | n1 + 1, v1_0, v1_1 => (bif (decide ((↑v1_0 : Int) < (↑a0.length : Int))) then l_toStringS_1 a0 n1 (v1_0 + 1) (v1_1.set v1_0 (nth a0 v1_0)) else (v1_1))
def l_toStringS (a0 : List ByteArray) : List ByteArray := (match l_toStringS_1 a0 (a0.length + 1) 0 (List.replicate a0.length (⟨#[]⟩ : ByteArray)) with | z1_0 => z1_0)
def l_toIntS_1 (a0 : List Int) : Nat → Nat → List Int → (List Int)
  | 0, _, _ => default
  | n1 + 1, v1_0, v1_1 => (bif (decide ((↑v1_0 : Int) < (↑a0.length : Int))) then l_toIntS_1 a0 n1 (v1_0 + 1) (v1_1.set v1_0 (nth a0 v1_0)) else (v1_1))
def l_toIntS (a0 : List Int) : List Int := (match l_toIntS_1 a0 (a0.length + 1) 0 (List.replicate a0.length 0) with | z1_0 => z1_0)
def l_toDocument (a0 : TDocument) : TDocument := (TDocument.mk a0.Title (l_toStringS a0.Parts) (l_toIntS a0.Salts))
def l_toEvent (a0 : TEvent) : TEvent := (TEvent.mk a0.Kind a0.A a0.B a0.C a0.D (TDocument.mk (l_toDocument a0.Doc).Title (l_toDocument a0.Doc).Parts (l_toDocument a0.Doc).Salts) (l_toIntS a0.Ids))
def l_toEventS_1 (a0 : List TEvent) : Nat → Nat → List TEvent → (List TEvent)
  | 0, _, _ => default
  | n1 + 1, v1_0, v1_1 => (bif (decide ((↑v1_0 : Int) < (↑a0.length : Int))) then l_toEventS_1 a0 n1 (v1_0 + 1) (v1_1.set v1_0 (l_toEvent (nth a0 v1_0))) else (v1_1))
def l_toEventS (a0 : List TEvent) : List TEvent := (match l_toEventS_1 a0 (a0.length + 1) 0 (List.replicate a0.length (TEvent.mk 0 0 0 0 0 (TDocument.mk 0 ([] : List ByteArray) ([] : List Int)) ([] : List Int))) with | z1_0 => z1_0)
def s_l1In (a0 : Int) (a1 : Int) (a2 : Int) : Bool := ((decide (a0 ≥ a1)) && (decide (a0 ≤ a2)))
def s_IsHonest_1 (a0 : List TEvent) : Nat → Nat → Sum Bool Unit
  | 0, _ => .inr ()
  | n1 + 1, v1_0 => (bif (decide ((↑v1_0 : Int) < (↑a0.length : Int))) then (bif (s_l1In (nth a0 v1_0).Kind 8 10) then (.inl false) else s_IsHonest_1 a0 n1 (v1_0 + 1)) else (.inr ()))
def s_IsHonest (a0 : List TEvent) : Bool := (match s_IsHonest_1 a0 (a0.length + 1) 0 with | .inl r1 => r1 | .inr _ => true)
def i_InRange (a0 : Int) (a1 : Int) (a2 : Int) : Bool := ((decide (a1 ≤ a0)) && (decide (a0 ≤ a2)))
def i_IsHonest_1 (a0 : List TEvent) : Nat → Nat → Sum Bool Unit
  | 0, _ => .inr ()
  | n1 + 1, v1_0 => (bif (decide ((↑v1_0 : Int) < (↑a0.length : Int))) then (bif (i_InRange (nth a0 v1_0).Kind 8 10) then (.inl false) else i_IsHonest_1 a0 n1 (v1_0 + 1)) else (.inr ()))
def i_IsHonest (a0 : List TEvent) : Bool := (match i_IsHonest_1 a0 (a0.length + 1) 0 with | .inl r1 => r1 | .inr _ => true)
def l_eqStringS_1 (a0 : List ByteArray) (a1 : List ByteArray) : Nat → Nat → Sum Bool Unit
  | 0, _ => .inr ()
  | n1 + 1, v1_0 => (bif (decide ((↑v1_0 : Int) < (↑a0.length : Int))) then (bif (!decide ((nth a0 v1_0) = (nth a1 v1_0))) then (.inl false) else l_eqStringS_1 a0 a1 n1 (v1_0 + 1)) else (.inr ()))
def l_eqStringS (a0 : List ByteArray) (a1 : List ByteArray) : Bool := (bif ((↑a0.length : Int) != (↑a1.length : Int)) then false else (match l_eqStringS_1 a0 a1 (a0.length + 1) 0 with | .inl r1 => r1 | .inr _ => true))
def l_eqIntS_1 (a0 : List Int) (a1 : List Int) : Nat → Nat → Sum Bool Unit
  | 0, _ => .inr ()
  | n1 + 1, v1_0 => (bif (decide ((↑v1_0 : Int) < (↑a0.length : Int))) then (bif ((nth a0 v1_0) != (nth a1 v1_0)) then (.inl false) else l_eqIntS_1 a0 a1 n1 (v1_0 + 1)) else (.inr ()))
def l_eqIntS (a0 : List Int) (a1 : List Int) : Bool := (bif ((↑a0.length : Int) != (↑a1.length : Int)) then false else (match l_eqIntS_1 a0 a1 (a0.length + 1) 0 with | .inl r1 => r1 | .inr _ => true))
def l_eqDocument (a0 : TDocument) (a1 : TDocument) : Bool := (bif (a0.Title != a1.Title) then false else (bif (!(l_eqStringS a0.Parts a1.Parts)) then false else (bif (!(l_eqIntS a0.Salts a1.Salts)) then false else true)))
def l_eqEvent (a0 : TEvent) (a1 : TEvent) : Bool := (bif (a0.Kind != a1.Kind) then false else (bif (a0.A != a1.A) then false else (bif (a0.B != a1.B) then false else (bif (a0.C != a1.C) then false else (bif (a0.D != a1.D) then false else (bif (!(l_eqDocument a0.Doc a1.Doc)) then false else (bif (!(l_eqIntS a0.Ids a1.Ids)) then false else true)))))))
def l_eqEventS_1 (a0 : List TEvent) (a1 : List TEvent) : Nat → Nat → Sum Bool Unit
  | 0, _ => .inr ()
  | n1 + 1, v1_0 => (bif (decide ((↑v1_0 : Int) < (↑a0.length : Int))) then (bif (!(l_eqEvent (nth a0 v1_0) (nth a1 v1_0))) then (.inl false) else l_eqEventS_1 a0 a1 n1 (v1_0 + 1)) else (.inr ()))
def l_eqEventS (a0 : List TEvent) (a1 : List TEvent) : Bool := (bif ((↑a0.length : Int) != (↑a1.length : Int)) then false else (match l_eqEventS_1 a0 a1 (a0.length + 1) 0 with | .inl r1 => r1 | .inr _ => true))
def l_FnExactIsHonest (a0 : List TEvent) : Bool := (bif (decide ((l_szEventS a0 1048576) < 0)) then true else (bif (!((i_IsHonest (l_toEventS a0)) == (s_IsHonest (l_toEventS a0)))) then false else (bif (!(l_eqEventS (l_toEventS a0) (l_toEventS a0))) then false else true)))
def l_szBoolS (a0 : List Bool) (a1 : Int) : Int := (bif (decide ((W (a1 - (↑a0.length : Int))) < 0)) then (-1) else (W (a1 - (↑a0.length : Int))))
def l_szIntSS_1 (a0 : List (List Int)) : Nat → Int → Nat → Sum Int Int
  | 0, _, _ => .inr default
  | n1 + 1, v1_0, v1_1 => (bif (decide ((↑v1_1 : Int) < (↑a0.length : Int))) then (bif (decide ((l_szIntS (nth a0 v1_1) v1_0) < 0)) then (.inl (-1)) else l_szIntSS_1 a0 n1 (l_szIntS (nth a0 v1_1) v1_0) (v1_1 + 1)) else (.inr v1_0))
def l_szIntSS (a0 : List (List Int)) (a1 : Int) : Int := (bif (decide ((W (a1 - (↑a0.length : Int))) < 0)) then (-1) else (match l_szIntSS_1 a0 (a0.length + 1) (W (a1 - (↑a0.length : Int))) 0 with | .inl r1 => r1 | .inr z1_0 => z1_0))
def l_szRedacted (a0 : TRedacted) (a1 : Int) : Int := (bif (decide ((l_szIntS a0.Methods a1) < 0)) then (-1) else (bif (decide ((l_szBoolS a0.Shown (l_szIntS a0.Methods a1)) < 0)) then (-1) else (bif (decide ((l_szStringS a0.Parts (l_szBoolS a0.Shown (l_szIntS a0.Methods a1))) < 0)) then (-1) else (bif (decide ((l_szIntS a0.Salts (l_szStringS a0.Parts (l_szBoolS a0.Shown (l_szIntS a0.Methods a1)))) < 0)) then (-1) else (bif (decide ((l_szIntSS a0.Digests (l_szIntS a0.Salts (l_szStringS a0.Parts (l_szBoolS a0.Shown (l_szIntS a0.Methods a1))))) < 0)) then (-1) else (l_szIntSS a0.Digests (l_szIntS a0.Salts (l_szStringS a0.Parts (l_szBoolS a0.Shown (l_szIntS a0.Methods a1))))))))))
def l_toBoolS_1 (a0 : List Bool) : Nat → Nat → List Bool → (List Bool)
  | 0, _, _ => default
  | n1 + 1, v1_0, v1_1 => (bif (decide ((↑v1_0 : Int) < (↑a0.length : Int))) then l_toBoolS_1 a0 n1 (v1_0 + 1) (v1_1.set v1_0 (nth a0 v1_0)) else (v1_1))
def l_toBoolS (a0 : List Bool) : List Bool := (match l_toBoolS_1 a0 (a0.length + 1) 0 (List.replicate a0.length false) with | z1_0 => z1_0)
def l_toIntSS_1 (a0 : List (List Int)) : Nat → Nat → List (List Int) → (List (List Int))
  | 0, _, _ => default
  | n1 + 1, v1_0, v1_1 => (bif (decide ((↑v1_0 : Int) < (↑a0.length : Int))) then l_toIntSS_1 a0 n1 (v1_0 + 1) (v1_1.set v1_0 (l_toIntS (nth a0 v1_0))) else (v1_1))
def l_toIntSS (a0 : List (List Int)) : List (List Int) := (match l_toIntSS_1 a0 (a0.length + 1) 0 (List.replicate a0.length ([] : List Int)) with | z1_0 => z1_0)
def l_toRedacted (a0 : TRedacted) : TRedacted := (TRedacted.mk a0.Title (l_toIntS a0.Methods) (l_toBoolS a0.Shown) (l_toStringS a0.Parts) (l_toIntS a0.Salts) (l_toIntSS a0.Digests))
def s_FormatInt_1 : Nat → ByteArray → Int → ByteArray
  | 0, _, _ => default
  | n1 + 1, v1_0, v1_1 => (bif (v1_1 != 0) then (bif (decide ((Int.tmod v1_1 10) < 0)) then s_FormatInt_1 n1 ((⟨([(UInt8.ofInt (W (48 + (W (-(Int.tmod v1_1 10))))))] : List UInt8).toArray⟩ : ByteArray) ++ v1_0) (W (Int.tdiv v1_1 10)) else s_FormatInt_1 n1 ((⟨([(UInt8.ofInt (W (48 + (Int.tmod v1_1 10))))] : List UInt8).toArray⟩ : ByteArray) ++ v1_0) (W (Int.tdiv v1_1 10))) else (v1_0))
def s_FormatInt (a0 : Int) : ByteArray := (bif (a0 == 0) then (⟨#[48]⟩ : ByteArray) else (match s_FormatInt_1 22 (⟨#[]⟩ : ByteArray) a0 with | z1_0 => (bif (decide (a0 < 0)) then ((⟨#[45]⟩ : ByteArray) ++ z1_0) else z1_0)))
def i_FormatInt_1 : Nat → Int → List UInt8 → (List UInt8)
  | 0, _, _ => default
  | n1 + 1, v1_0, v1_1 => (bif (decide ((Int.tmod v1_0 10) < 0)) then (bif ((W (Int.tdiv v1_0 10)) == 0) then ((([(UInt8.ofInt (W (48 + (W (-(Int.tmod v1_0 10))))))] : List UInt8) ++ v1_1)) else i_FormatInt_1 n1 (W (Int.tdiv v1_0 10)) (([(UInt8.ofInt (W (48 + (W (-(Int.tmod v1_0 10))))))] : List UInt8) ++ v1_1)) else (bif ((W (Int.tdiv v1_0 10)) == 0) then ((([(UInt8.ofInt (W (48 + (Int.tmod v1_0 10))))] : List UInt8) ++ v1_1)) else i_FormatInt_1 n1 (W (Int.tdiv v1_0 10)) (([(UInt8.ofInt (W (48 + (Int.tmod v1_0 10))))] : List UInt8) ++ v1_1)))
def i_FormatInt (a0 : Int) : ByteArray := (match i_FormatInt_1 21 a0 ([] : List UInt8) with | z1_0 => (bif (decide (a0 < 0)) then ((⟨#[45]⟩ : ByteArray) ++ (⟨z1_0.toArray⟩ : ByteArray)) else (⟨z1_0.toArray⟩ : ByteArray)))
def l_eqBoolS_1 (a0 : List Bool) (a1 : List Bool) : Nat → Nat → Sum Bool Unit
  | 0, _ => .inr ()
  | n1 + 1, v1_0 => (bif (decide ((↑v1_0 : Int) < (↑a0.length : Int))) then (bif (!((nth a0 v1_0) == (nth a1 v1_0))) then (.inl false) else l_eqBoolS_1 a0 a1 n1 (v1_0 + 1)) else (.inr ()))
def l_eqBoolS (a0 : List Bool) (a1 : List Bool) : Bool := (bif ((↑a0.length : Int) != (↑a1.length : Int)) then false else (match l_eqBoolS_1 a0 a1 (a0.length + 1) 0 with | .inl r1 => r1 | .inr _ => true))
def l_eqIntSS_1 (a0 : List (List Int)) (a1 : List (List Int)) : Nat → Nat → Sum Bool Unit
  | 0, _ => .inr ()
  | n1 + 1, v1_0 => (bif (decide ((↑v1_0 : Int) < (↑a0.length : Int))) then (bif (!(l_eqIntS (nth a0 v1_0) (nth a1 v1_0))) then (.inl false) else l_eqIntSS_1 a0 a1 n1 (v1_0 + 1)) else (.inr ()))
def l_eqIntSS (a0 : List (List Int)) (a1 : List (List Int)) : Bool := (bif ((↑a0.length : Int) != (↑a1.length : Int)) then false else (match l_eqIntSS_1 a0 a1 (a0.length + 1) 0 with | .inl r1 => r1 | .inr _ => true))
def l_eqRedacted (a0 : TRedacted) (a1 : TRedacted) : Bool := (bif (a0.Title != a1.Title) then false else (bif (!(l_eqIntS a0.Methods a1.Methods)) then false else (bif (!(l_eqBoolS a0.Shown a1.Shown)) then false else (bif (!(l_eqStringS a0.Parts a1.Parts)) then false else (bif (!(l_eqIntS a0.Salts a1.Salts)) then false else (bif (!(l_eqIntSS a0.Digests a1.Digests)) then false else true))))))
def l_szKeyS (a0 : List TKey) (a1 : Int) : Int := (bif (decide ((W (a1 - (↑a0.length : Int))) < 0)) then (-1) else (W (a1 - (↑a0.length : Int))))
def l_szAuthorityS (a0 : List TAuthority) (a1 : Int) : Int := (bif (decide ((W (a1 - (↑a0.length : Int))) < 0)) then (-1) else (W (a1 - (↑a0.length : Int))))
def l_szMethodS (a0 : List TMethod) (a1 : Int) : Int := (bif (decide ((W (a1 - (↑a0.length : Int))) < 0)) then (-1) else (W (a1 - (↑a0.length : Int))))
def l_szFrame (a0 : TFrame) (a1 : Int) : Int := (bif (decide ((l_szKeyS a0.Keys a1) < 0)) then (-1) else (bif (decide ((l_szAuthorityS a0.Authorities (l_szKeyS a0.Keys a1)) < 0)) then (-1) else (bif (decide ((l_szMethodS a0.Methods (l_szAuthorityS a0.Authorities (l_szKeyS a0.Keys a1))) < 0)) then (-1) else (l_szMethodS a0.Methods (l_szAuthorityS a0.Authorities (l_szKeyS a0.Keys a1))))))
def l_toKey (a0 : TKey) : TKey := a0
def l_toKeyS_1 (a0 : List TKey) : Nat → Nat → List TKey → (List TKey)
  | 0, _, _ => default
  | n1 + 1, v1_0, v1_1 => (bif (decide ((↑v1_0 : Int) < (↑a0.length : Int))) then l_toKeyS_1 a0 n1 (v1_0 + 1) (v1_1.set v1_0 (l_toKey (nth a0 v1_0))) else (v1_1))
def l_toKeyS (a0 : List TKey) : List TKey := (match l_toKeyS_1 a0 (a0.length + 1) 0 (List.replicate a0.length (TKey.mk 0 0 0 0 0)) with | z1_0 => z1_0)
def l_toAuthority (a0 : TAuthority) : TAuthority := a0
def l_toAuthorityS_1 (a0 : List TAuthority) : Nat → Nat → List TAuthority → (List TAuthority)
  | 0, _, _ => default
  | n1 + 1, v1_0, v1_1 => (bif (decide ((↑v1_0 : Int) < (↑a0.length : Int))) then l_toAuthorityS_1 a0 n1 (v1_0 + 1) (v1_1.set v1_0 (l_toAuthority (nth a0 v1_0))) else (v1_1))
def l_toAuthorityS (a0 : List TAuthority) : List TAuthority := (match l_toAuthorityS_1 a0 (a0.length + 1) 0 (List.replicate a0.length (TAuthority.mk 0 0 0)) with | z1_0 => z1_0)
def l_toMethod (a0 : TMethod) : TMethod := a0
def l_toMethodS_1 (a0 : List TMethod) : Nat → Nat → List TMethod → (List TMethod)
  | 0, _, _ => default
  | n1 + 1, v1_0, v1_1 => (bif (decide ((↑v1_0 : Int) < (↑a0.length : Int))) then l_toMethodS_1 a0 n1 (v1_0 + 1) (v1_1.set v1_0 (l_toMethod (nth a0 v1_0))) else (v1_1))
def l_toMethodS (a0 : List TMethod) : List TMethod := (match l_toMethodS_1 a0 (a0.length + 1) 0 (List.replicate a0.length (TMethod.mk 0 0 0 0)) with | z1_0 => z1_0)
def l_toFrame (a0 : TFrame) : TFrame := (TFrame.mk (l_toKeyS a0.Keys) (l_toAuthorityS a0.Authorities) (l_toMethodS a0.Methods) a0.Liars a0.Now)
def s_FindKey_1 (a0 : List TKey) (a1 : Int) : Nat → Nat → Sum Int Unit
  | 0, _ => .inr ()
  | n1 + 1, v1_0 => (bif (decide ((↑v1_0 : Int) < (↑a0.length : Int))) then (bif ((nth a0 v1_0).Number == a1) then (.inl (↑v1_0 : Int)) else s_FindKey_1 a0 a1 n1 (v1_0 + 1)) else (.inr ()))
def s_FindKey (a0 : List TKey) (a1 : Int) : Int := (match s_FindKey_1 a0 a1 (a0.length + 1) 0 with | .inl r1 => r1 | .inr _ => (-1))
def s_FindMethod_1 (a0 : List TMethod) (a1 : Int) : Nat → Nat → Sum Int Unit
  | 0, _ => .inr ()
  | n1 + 1, v1_0 => (bif (decide ((↑v1_0 : Int) < (↑a0.length : Int))) then (bif ((nth a0 v1_0).Id == a1) then (.inl (↑v1_0 : Int)) else s_FindMethod_1 a0 a1 n1 (v1_0 + 1)) else (.inr ()))
def s_FindMethod (a0 : List TMethod) (a1 : Int) : Int := (match s_FindMethod_1 a0 a1 (a0.length + 1) 0 with | .inl r1 => r1 | .inr _ => (-1))
def s_BreakOf (a0 : List TMethod) (a1 : Int) : Int := (bif (decide ((s_FindMethod a0 a1) < 0)) then 0 else (nth a0 (s_FindMethod a0 a1).toNat).Broken)
def s_IsStolen (a0 : TFrame) (a1 : Int) : Bool := ((decide ((s_FindKey a0.Keys a1) ≥ 0)) && (decide (a0.Now ≥ (s_BreakOf a0.Methods (nth a0.Keys (s_FindKey a0.Keys a1).toNat).Method))))
def i_FindKey_1 (a0 : List TKey) (a1 : Int) : Nat → Nat → Sum Int Unit
  | 0, _ => .inr ()
  | n1 + 1, v1_0 => (bif (decide ((↑v1_0 : Int) < (↑a0.length : Int))) then (bif ((nth a0 v1_0).Number == a1) then (.inl (↑v1_0 : Int)) else i_FindKey_1 a0 a1 n1 (v1_0 + 1)) else (.inr ()))
def i_FindKey (a0 : List TKey) (a1 : Int) : Int := (match i_FindKey_1 a0 a1 (a0.length + 1) 0 with | .inl r1 => r1 | .inr _ => (-1))
def i_FindMethod_1 (a0 : List TMethod) (a1 : Int) : Nat → Nat → Sum Int Unit
  | 0, _ => .inr ()
  | n1 + 1, v1_0 => (bif (decide ((↑v1_0 : Int) < (↑a0.length : Int))) then (bif ((nth a0 v1_0).Id == a1) then (.inl (↑v1_0 : Int)) else i_FindMethod_1 a0 a1 n1 (v1_0 + 1)) else (.inr ()))
def i_FindMethod (a0 : List TMethod) (a1 : Int) : Int := (match i_FindMethod_1 a0 a1 (a0.length + 1) 0 with | .inl r1 => r1 | .inr _ => (-1))
def i_BreakOf (a0 : List TMethod) (a1 : Int) : Int := (bif (decide ((i_FindMethod a0 a1) ≥ 0)) then (nth a0 (i_FindMethod a0 a1).toNat).Broken else 0)
def i_breakOfKey (a0 : TFrame) (a1 : Int) : Int := (bif (decide ((i_FindKey a0.Keys a1) < 0)) then 0 else (i_BreakOf a0.Methods (nth a0.Keys (i_FindKey a0.Keys a1).toNat).Method))
def i_IsStolen (a0 : TFrame) (a1 : Int) : Bool := ((decide ((i_FindKey a0.Keys a1) ≥ 0)) && (decide (a0.Now ≥ (i_breakOfKey a0 a1))))
def l_eqKey (a0 : TKey) (a1 : TKey) : Bool := (bif (a0.Number != a1.Number) then false else (bif (a0.Owner != a1.Owner) then false else (bif (a0.Method != a1.Method) then false else (bif (a0.Born != a1.Born) then false else (bif (a0.Secret != a1.Secret) then false else true)))))
def l_eqKeyS_1 (a0 : List TKey) (a1 : List TKey) : Nat → Nat → Sum Bool Unit
  | 0, _ => .inr ()
  | n1 + 1, v1_0 => (bif (decide ((↑v1_0 : Int) < (↑a0.length : Int))) then (bif (!(l_eqKey (nth a0 v1_0) (nth a1 v1_0))) then (.inl false) else l_eqKeyS_1 a0 a1 n1 (v1_0 + 1)) else (.inr ()))
def l_eqKeyS (a0 : List TKey) (a1 : List TKey) : Bool := (bif ((↑a0.length : Int) != (↑a1.length : Int)) then false else (match l_eqKeyS_1 a0 a1 (a0.length + 1) 0 with | .inl r1 => r1 | .inr _ => true))
def l_eqAuthority (a0 : TAuthority) (a1 : TAuthority) : Bool := (bif (a0.Id != a1.Id) then false else (bif (a0.Key != a1.Key) then false else (bif (a0.Error != a1.Error) then false else true)))
def l_eqAuthorityS_1 (a0 : List TAuthority) (a1 : List TAuthority) : Nat → Nat → Sum Bool Unit
  | 0, _ => .inr ()
  | n1 + 1, v1_0 => (bif (decide ((↑v1_0 : Int) < (↑a0.length : Int))) then (bif (!(l_eqAuthority (nth a0 v1_0) (nth a1 v1_0))) then (.inl false) else l_eqAuthorityS_1 a0 a1 n1 (v1_0 + 1)) else (.inr ()))
def l_eqAuthorityS (a0 : List TAuthority) (a1 : List TAuthority) : Bool := (bif ((↑a0.length : Int) != (↑a1.length : Int)) then false else (match l_eqAuthorityS_1 a0 a1 (a0.length + 1) 0 with | .inl r1 => r1 | .inr _ => true))
def l_eqMethod (a0 : TMethod) (a1 : TMethod) : Bool := (bif (a0.Id != a1.Id) then false else (bif (a0.Known != a1.Known) then false else (bif (a0.Ends != a1.Ends) then false else (bif (a0.Broken != a1.Broken) then false else true))))
def l_eqMethodS_1 (a0 : List TMethod) (a1 : List TMethod) : Nat → Nat → Sum Bool Unit
  | 0, _ => .inr ()
  | n1 + 1, v1_0 => (bif (decide ((↑v1_0 : Int) < (↑a0.length : Int))) then (bif (!(l_eqMethod (nth a0 v1_0) (nth a1 v1_0))) then (.inl false) else l_eqMethodS_1 a0 a1 n1 (v1_0 + 1)) else (.inr ()))
def l_eqMethodS (a0 : List TMethod) (a1 : List TMethod) : Bool := (bif ((↑a0.length : Int) != (↑a1.length : Int)) then false else (match l_eqMethodS_1 a0 a1 (a0.length + 1) 0 with | .inl r1 => r1 | .inr _ => true))
def l_eqFrame (a0 : TFrame) (a1 : TFrame) : Bool := (bif (!(l_eqKeyS a0.Keys a1.Keys)) then false else (bif (!(l_eqAuthorityS a0.Authorities a1.Authorities)) then false else (bif (!(l_eqMethodS a0.Methods a1.Methods)) then false else (bif (a0.Liars != a1.Liars) then false else (bif (a0.Now != a1.Now) then false else true)))))
def l_FnExactIsStolen (a0 : TFrame) (a1 : Int) : Bool := (bif (decide ((l_szFrame a0 1048576) < 0)) then true else (bif (!((i_IsStolen (l_toFrame a0) a1) == (s_IsStolen (l_toFrame a0) a1))) then false else (bif (!(l_eqFrame (l_toFrame a0) (l_toFrame a0))) then false else true)))
def l_szPiece (a0 : TPiece) (a1 : Int) : Int := (bif (decide ((l_szIntS a0.Ints a1) < 0)) then (-1) else (l_szIntS a0.Ints a1))
def l_szPieceS_1 (a0 : List TPiece) : Nat → Int → Nat → Sum Int Int
  | 0, _, _ => .inr default
  | n1 + 1, v1_0, v1_1 => (bif (decide ((↑v1_1 : Int) < (↑a0.length : Int))) then (bif (decide ((l_szPiece (nth a0 v1_1) v1_0) < 0)) then (.inl (-1)) else l_szPieceS_1 a0 n1 (l_szPiece (nth a0 v1_1) v1_0) (v1_1 + 1)) else (.inr v1_0))
def l_szPieceS (a0 : List TPiece) (a1 : Int) : Int := (bif (decide ((W (a1 - (↑a0.length : Int))) < 0)) then (-1) else (match l_szPieceS_1 a0 (a0.length + 1) (W (a1 - (↑a0.length : Int))) 0 with | .inl r1 => r1 | .inr z1_0 => z1_0))
def l_szStepS (a0 : List TStep) (a1 : Int) : Int := (bif (decide ((W (a1 - (↑a0.length : Int))) < 0)) then (-1) else (W (a1 - (↑a0.length : Int))))
def l_szStampS (a0 : List TStamp) (a1 : Int) : Int := (bif (decide ((W (a1 - (↑a0.length : Int))) < 0)) then (-1) else (W (a1 - (↑a0.length : Int))))
def l_szRenewal (a0 : TRenewal) (a1 : Int) : Int := (bif (decide ((l_szStepS a0.Path a1) < 0)) then (-1) else (bif (decide ((l_szStampS a0.Stamps (l_szStepS a0.Path a1)) < 0)) then (-1) else (l_szStampS a0.Stamps (l_szStepS a0.Path a1))))
def l_szRenewalS_1 (a0 : List TRenewal) : Nat → Int → Nat → Sum Int Int
  | 0, _, _ => .inr default
  | n1 + 1, v1_0, v1_1 => (bif (decide ((↑v1_1 : Int) < (↑a0.length : Int))) then (bif (decide ((l_szRenewal (nth a0 v1_1) v1_0) < 0)) then (.inl (-1)) else l_szRenewalS_1 a0 n1 (l_szRenewal (nth a0 v1_1) v1_0) (v1_1 + 1)) else (.inr v1_0))
def l_szRenewalS (a0 : List TRenewal) (a1 : Int) : Int := (bif (decide ((W (a1 - (↑a0.length : Int))) < 0)) then (-1) else (match l_szRenewalS_1 a0 (a0.length + 1) (W (a1 - (↑a0.length : Int))) 0 with | .inl r1 => r1 | .inr z1_0 => z1_0))
def l_szStrand (a0 : TStrand) (a1 : Int) : Int := (bif (decide ((l_szPieceS a0.Pieces a1) < 0)) then (-1) else (bif (decide ((l_szRenewalS a0.Chain (l_szPieceS a0.Pieces a1)) < 0)) then (-1) else (l_szRenewalS a0.Chain (l_szPieceS a0.Pieces a1))))
def l_toPiece (a0 : TPiece) : TPiece := (TPiece.mk a0.Key (l_toIntS a0.Ints) a0.Mark)
def l_toPieceS_1 (a0 : List TPiece) : Nat → Nat → List TPiece → (List TPiece)
  | 0, _, _ => default
  | n1 + 1, v1_0, v1_1 => (bif (decide ((↑v1_0 : Int) < (↑a0.length : Int))) then l_toPieceS_1 a0 n1 (v1_0 + 1) (v1_1.set v1_0 (l_toPiece (nth a0 v1_0))) else (v1_1))
def l_toPieceS (a0 : List TPiece) : List TPiece := (match l_toPieceS_1 a0 (a0.length + 1) 0 (List.replicate a0.length (TPiece.mk 0 ([] : List Int) 0)) with | z1_0 => z1_0)
def l_toStep (a0 : TStep) : TStep := a0
def l_toStepS_1 (a0 : List TStep) : Nat → Nat → List TStep → (List TStep)
  | 0, _, _ => default
  | n1 + 1, v1_0, v1_1 => (bif (decide ((↑v1_0 : Int) < (↑a0.length : Int))) then l_toStepS_1 a0 n1 (v1_0 + 1) (v1_1.set v1_0 (l_toStep (nth a0 v1_0))) else (v1_1))
def l_toStepS (a0 : List TStep) : List TStep := (match l_toStepS_1 a0 (a0.length + 1) 0 (List.replicate a0.length (TStep.mk 0 false)) with | z1_0 => z1_0)
def l_toStamp (a0 : TStamp) : TStamp := a0
def l_toStampS_1 (a0 : List TStamp) : Nat → Nat → List TStamp → (List TStamp)
  | 0, _, _ => default
  | n1 + 1, v1_0, v1_1 => (bif (decide ((↑v1_0 : Int) < (↑a0.length : Int))) then l_toStampS_1 a0 n1 (v1_0 + 1) (v1_1.set v1_0 (l_toStamp (nth a0 v1_0))) else (v1_1))
def l_toStampS (a0 : List TStamp) : List TStamp := (match l_toStampS_1 a0 (a0.length + 1) 0 (List.replicate a0.length (TStamp.mk 0 0 0 0 0)) with | z1_0 => z1_0)
def l_toRenewal (a0 : TRenewal) : TRenewal := (TRenewal.mk a0.Count a0.Method a0.Root (l_toStepS a0.Path) (l_toStampS a0.Stamps))
def l_toRenewalS_1 (a0 : List TRenewal) : Nat → Nat → List TRenewal → (List TRenewal)
  | 0, _, _ => default
  | n1 + 1, v1_0, v1_1 => (bif (decide ((↑v1_0 : Int) < (↑a0.length : Int))) then l_toRenewalS_1 a0 n1 (v1_0 + 1) (v1_1.set v1_0 (l_toRenewal (nth a0 v1_0))) else (v1_1))
def l_toRenewalS (a0 : List TRenewal) : List TRenewal := (match l_toRenewalS_1 a0 (a0.length + 1) 0 (List.replicate a0.length (TRenewal.mk 0 0 0 ([] : List TStep) ([] : List TStamp))) with | z1_0 => z1_0)
def l_toStrand (a0 : TStrand) : TStrand := (TStrand.mk (l_toPieceS a0.Pieces) (l_toRenewalS a0.Chain))
def s_RenewalSize (a0 : TRenewal) : Int := (W ((W (3 + (W (2 * (↑a0.Path.length : Int))))) + (W (6 * (↑a0.Stamps.length : Int)))))
def s_StrandSize_2 (a0 : TStrand) : Nat → Int → Nat → Int
  | 0, _, _ => default
  | n2 + 1, v2_0, v2_1 => (bif (decide ((↑v2_1 : Int) < (↑a0.Chain.length : Int))) then s_StrandSize_2 a0 n2 (W (v2_0 + (s_RenewalSize (nth a0.Chain v2_1)))) (v2_1 + 1) else (v2_0))
def s_StrandSize_1 (a0 : TStrand) : Nat → Int → Nat → Int
  | 0, _, _ => default
  | n1 + 1, v1_0, v1_1 => (bif (decide ((↑v1_1 : Int) < (↑a0.Pieces.length : Int))) then s_StrandSize_1 a0 n1 (W ((W (v1_0 + 2)) + (↑(nth a0.Pieces v1_1).Ints.length : Int))) (v1_1 + 1) else (v1_0))
def s_StrandSize (a0 : TStrand) : Int := (match s_StrandSize_1 a0 (a0.Pieces.length + 1) 0 0 with | z1_0 => (match s_StrandSize_2 a0 (a0.Chain.length + 1) z1_0 0 with | z2_0 => z2_0))
def i_RenewalSize (a0 : TRenewal) : Int := (W ((W (3 + (W (2 * (↑a0.Path.length : Int))))) + (W (6 * (↑a0.Stamps.length : Int)))))
def i_StrandSize_2 (a0 : TStrand) : Nat → Int → Nat → Int
  | 0, _, _ => default
  | n2 + 1, v2_0, v2_1 => (bif (decide ((↑v2_1 : Int) < (↑a0.Pieces.length : Int))) then i_StrandSize_2 a0 n2 (W (v2_0 + (W (2 + (↑(nth a0.Pieces v2_1).Ints.length : Int))))) (v2_1 + 1) else (v2_0))
def i_StrandSize_1 (a0 : TStrand) : Nat → Int → Nat → Int
  | 0, _, _ => default
  | n1 + 1, v1_0, v1_1 => (bif (decide ((↑v1_1 : Int) < (↑a0.Chain.length : Int))) then i_StrandSize_1 a0 n1 (W (v1_0 + (i_RenewalSize (nth a0.Chain v1_1)))) (v1_1 + 1) else (v1_0))
def i_StrandSize (a0 : TStrand) : Int := (match i_StrandSize_1 a0 (a0.Chain.length + 1) 0 0 with | z1_0 => (match i_StrandSize_2 a0 (a0.Pieces.length + 1) z1_0 0 with | z2_0 => z2_0))
def l_eqPiece (a0 : TPiece) (a1 : TPiece) : Bool := (bif (a0.Key != a1.Key) then false else (bif (!(l_eqIntS a0.Ints a1.Ints)) then false else (bif (a0.Mark != a1.Mark) then false else true)))
def l_eqPieceS_1 (a0 : List TPiece) (a1 : List TPiece) : Nat → Nat → Sum Bool Unit
  | 0, _ => .inr ()
  | n1 + 1, v1_0 => (bif (decide ((↑v1_0 : Int) < (↑a0.length : Int))) then (bif (!(l_eqPiece (nth a0 v1_0) (nth a1 v1_0))) then (.inl false) else l_eqPieceS_1 a0 a1 n1 (v1_0 + 1)) else (.inr ()))
def l_eqPieceS (a0 : List TPiece) (a1 : List TPiece) : Bool := (bif ((↑a0.length : Int) != (↑a1.length : Int)) then false else (match l_eqPieceS_1 a0 a1 (a0.length + 1) 0 with | .inl r1 => r1 | .inr _ => true))
def l_eqStep (a0 : TStep) (a1 : TStep) : Bool := (bif (a0.Digest != a1.Digest) then false else (bif (!(a0.Left == a1.Left)) then false else true))
def l_eqStepS_1 (a0 : List TStep) (a1 : List TStep) : Nat → Nat → Sum Bool Unit
  | 0, _ => .inr ()
  | n1 + 1, v1_0 => (bif (decide ((↑v1_0 : Int) < (↑a0.length : Int))) then (bif (!(l_eqStep (nth a0 v1_0) (nth a1 v1_0))) then (.inl false) else l_eqStepS_1 a0 a1 n1 (v1_0 + 1)) else (.inr ()))
def l_eqStepS (a0 : List TStep) (a1 : List TStep) : Bool := (bif ((↑a0.length : Int) != (↑a1.length : Int)) then false else (match l_eqStepS_1 a0 a1 (a0.length + 1) 0 with | .inl r1 => r1 | .inr _ => true))
def l_eqStamp (a0 : TStamp) (a1 : TStamp) : Bool := (bif (a0.Authority != a1.Authority) then false else (bif (a0.Seq != a1.Seq) then false else (bif (a0.Time != a1.Time) then false else (bif (a0.Digest != a1.Digest) then false else (bif (a0.Mark != a1.Mark) then false else true)))))
def l_eqStampS_1 (a0 : List TStamp) (a1 : List TStamp) : Nat → Nat → Sum Bool Unit
  | 0, _ => .inr ()
  | n1 + 1, v1_0 => (bif (decide ((↑v1_0 : Int) < (↑a0.length : Int))) then (bif (!(l_eqStamp (nth a0 v1_0) (nth a1 v1_0))) then (.inl false) else l_eqStampS_1 a0 a1 n1 (v1_0 + 1)) else (.inr ()))
def l_eqStampS (a0 : List TStamp) (a1 : List TStamp) : Bool := (bif ((↑a0.length : Int) != (↑a1.length : Int)) then false else (match l_eqStampS_1 a0 a1 (a0.length + 1) 0 with | .inl r1 => r1 | .inr _ => true))
def l_eqRenewal (a0 : TRenewal) (a1 : TRenewal) : Bool := (bif (a0.Count != a1.Count) then false else (bif (a0.Method != a1.Method) then false else (bif (a0.Root != a1.Root) then false else (bif (!(l_eqStepS a0.Path a1.Path)) then false else (bif (!(l_eqStampS a0.Stamps a1.Stamps)) then false else true)))))
def l_eqRenewalS_1 (a0 : List TRenewal) (a1 : List TRenewal) : Nat → Nat → Sum Bool Unit
  | 0, _ => .inr ()
  | n1 + 1, v1_0 => (bif (decide ((↑v1_0 : Int) < (↑a0.length : Int))) then (bif (!(l_eqRenewal (nth a0 v1_0) (nth a1 v1_0))) then (.inl false) else l_eqRenewalS_1 a0 a1 n1 (v1_0 + 1)) else (.inr ()))
def l_eqRenewalS (a0 : List TRenewal) (a1 : List TRenewal) : Bool := (bif ((↑a0.length : Int) != (↑a1.length : Int)) then false else (match l_eqRenewalS_1 a0 a1 (a0.length + 1) 0 with | .inl r1 => r1 | .inr _ => true))
def l_eqStrand (a0 : TStrand) (a1 : TStrand) : Bool := (bif (!(l_eqPieceS a0.Pieces a1.Pieces)) then false else (bif (!(l_eqRenewalS a0.Chain a1.Chain)) then false else true))
def l_FnExactStrandSize (a0 : TStrand) : Bool := (bif (decide ((l_szStrand a0 1048576) < 0)) then true else (bif ((i_StrandSize (l_toStrand a0)) != (s_StrandSize (l_toStrand a0))) then false else (bif (!(l_eqStrand (l_toStrand a0) (l_toStrand a0))) then false else true)))
def l_szItem (a0 : TItem) (a1 : Int) : Int := (bif (decide ((l_szDocument a0.Doc a1) < 0)) then (-1) else (bif (decide ((l_szStrand a0.Strand (l_szDocument a0.Doc a1)) < 0)) then (-1) else (l_szStrand a0.Strand (l_szDocument a0.Doc a1))))
def l_szItemS_1 (a0 : List TItem) : Nat → Int → Nat → Sum Int Int
  | 0, _, _ => .inr default
  | n1 + 1, v1_0, v1_1 => (bif (decide ((↑v1_1 : Int) < (↑a0.length : Int))) then (bif (decide ((l_szItem (nth a0 v1_1) v1_0) < 0)) then (.inl (-1)) else l_szItemS_1 a0 n1 (l_szItem (nth a0 v1_1) v1_0) (v1_1 + 1)) else (.inr v1_0))
def l_szItemS (a0 : List TItem) (a1 : Int) : Int := (bif (decide ((W (a1 - (↑a0.length : Int))) < 0)) then (-1) else (match l_szItemS_1 a0 (a0.length + 1) (W (a1 - (↑a0.length : Int))) 0 with | .inl r1 => r1 | .inr z1_0 => z1_0))
def l_szArchive (a0 : TArchive) (a1 : Int) : Int := (bif (decide ((l_szItemS a0.Items a1) < 0)) then (-1) else (l_szItemS a0.Items a1))
def l_toSignature (a0 : TSignature) : TSignature := a0
def l_toItem (a0 : TItem) : TItem := (TItem.mk a0.Id a0.Keep (TDocument.mk (l_toDocument a0.Doc).Title (l_toDocument a0.Doc).Parts (l_toDocument a0.Doc).Salts) (l_toSignature a0.Sig) (TStrand.mk (l_toStrand a0.Strand).Pieces (l_toStrand a0.Strand).Chain))
def l_toItemS_1 (a0 : List TItem) : Nat → Nat → List TItem → (List TItem)
  | 0, _, _ => default
  | n1 + 1, v1_0, v1_1 => (bif (decide ((↑v1_0 : Int) < (↑a0.length : Int))) then l_toItemS_1 a0 n1 (v1_0 + 1) (v1_1.set v1_0 (l_toItem (nth a0 v1_0))) else (v1_1))
def l_toItemS (a0 : List TItem) : List TItem := (match l_toItemS_1 a0 (a0.length + 1) 0 (List.replicate a0.length (TItem.mk 0 0 (TDocument.mk 0 ([] : List ByteArray) ([] : List Int)) (TSignature.mk 0 0 0 0 0 0 0 0 0) (TStrand.mk ([] : List TPiece) ([] : List TRenewal)))) with | z1_0 => z1_0)
def l_toArchive (a0 : TArchive) : TArchive := (TArchive.mk a0.Id (l_toItemS a0.Items))
def s_Max (a0 : Int) (a1 : Int) : Int := (bif (decide (a1 > a0)) then a1 else a0)
def s_LongestPath_2 (a0 : TArchive) (v1_1 : Nat) : Nat → Int → Nat → Int
  | 0, _, _ => default
  | n2 + 1, v2_0, v2_1 => (bif (decide ((↑v2_1 : Int) < (↑(nth a0.Items v1_1).Strand.Chain.length : Int))) then s_LongestPath_2 a0 v1_1 n2 (s_Max v2_0 (↑(nth (nth a0.Items v1_1).Strand.Chain v2_1).Path.length : Int)) (v2_1 + 1) else (v2_0))
def s_LongestPath_1 (a0 : TArchive) : Nat → Int → Nat → Int
  | 0, _, _ => default
  | n1 + 1, v1_0, v1_1 => (bif (decide ((↑v1_1 : Int) < (↑a0.Items.length : Int))) then (match s_LongestPath_2 a0 v1_1 ((nth a0.Items v1_1).Strand.Chain.length + 1) v1_0 0 with | z2_0 => s_LongestPath_1 a0 n1 z2_0 (v1_1 + 1)) else (v1_0))
def s_LongestPath (a0 : TArchive) : Int := (match s_LongestPath_1 a0 (a0.Items.length + 1) 0 0 with | z1_0 => z1_0)
def i_LongestPath_2 (a0 : TArchive) (v1_1 : Nat) : Nat → Int → Nat → Int
  | 0, _, _ => default
  | n2 + 1, v2_0, v2_1 => (bif (decide ((↑v2_1 : Int) < (↑(nth a0.Items v1_1).Strand.Chain.length : Int))) then i_LongestPath_2 a0 v1_1 n2 (if (↑(nth (nth a0.Items v1_1).Strand.Chain v2_1).Path.length : Int) > v2_0 then (↑(nth (nth a0.Items v1_1).Strand.Chain v2_1).Path.length : Int) else v2_0) (v2_1 + 1) else (v2_0))
def i_LongestPath_1 (a0 : TArchive) : Nat → Int → Nat → Int
  | 0, _, _ => default
  | n1 + 1, v1_0, v1_1 => (bif (decide ((↑v1_1 : Int) < (↑a0.Items.length : Int))) then (match i_LongestPath_2 a0 v1_1 ((nth a0.Items v1_1).Strand.Chain.length + 1) v1_0 0 with | z2_0 => i_LongestPath_1 a0 n1 z2_0 (v1_1 + 1)) else (v1_0))
def i_LongestPath (a0 : TArchive) : Int := (match i_LongestPath_1 a0 (a0.Items.length + 1) 0 0 with | z1_0 => z1_0)
def l_eqSignature (a0 : TSignature) (a1 : TSignature) : Bool := (bif (a0.Key != a1.Key) then false else (bif (a0.Serial != a1.Serial) then false else (bif (a0.Method != a1.Method) then false else (bif (a0.Digest != a1.Digest) then false else (bif (a0.Commit != a1.Commit) then false else (bif (a0.Org != a1.Org) then false else (bif (a0.Before != a1.Before) then false else (bif (a0.After != a1.After) then false else (bif (a0.Mark != a1.Mark) then false else true)))))))))
def l_eqItem (a0 : TItem) (a1 : TItem) : Bool := (bif (a0.Id != a1.Id) then false else (bif (a0.Keep != a1.Keep) then false else (bif (!(l_eqDocument a0.Doc a1.Doc)) then false else (bif (!(l_eqSignature a0.Sig a1.Sig)) then false else (bif (!(l_eqStrand a0.Strand a1.Strand)) then false else true)))))
def l_eqItemS_1 (a0 : List TItem) (a1 : List TItem) : Nat → Nat → Sum Bool Unit
  | 0, _ => .inr ()
  | n1 + 1, v1_0 => (bif (decide ((↑v1_0 : Int) < (↑a0.length : Int))) then (bif (!(l_eqItem (nth a0 v1_0) (nth a1 v1_0))) then (.inl false) else l_eqItemS_1 a0 a1 n1 (v1_0 + 1)) else (.inr ()))
def l_eqItemS (a0 : List TItem) (a1 : List TItem) : Bool := (bif ((↑a0.length : Int) != (↑a1.length : Int)) then false else (match l_eqItemS_1 a0 a1 (a0.length + 1) 0 with | .inl r1 => r1 | .inr _ => true))
def l_eqArchive (a0 : TArchive) (a1 : TArchive) : Bool := (bif (a0.Id != a1.Id) then false else (bif (!(l_eqItemS a0.Items a1.Items)) then false else true))
def l_FnExactLongestPath (a0 : TArchive) : Bool := (bif (decide ((l_szArchive a0 1048576) < 0)) then true else (bif ((i_LongestPath (l_toArchive a0)) != (s_LongestPath (l_toArchive a0))) then false else (bif (!(l_eqArchive (l_toArchive a0) (l_toArchive a0))) then false else true)))
def s_ArchiveSize_1 (a0 : TArchive) : Nat → Int → Nat → Int
  | 0, _, _ => default
  | n1 + 1, v1_0, v1_1 => (bif (decide ((↑v1_1 : Int) < (↑a0.Items.length : Int))) then s_ArchiveSize_1 a0 n1 (W (v1_0 + (s_StrandSize (nth a0.Items v1_1).Strand))) (v1_1 + 1) else (v1_0))
def s_ArchiveSize (a0 : TArchive) : Int := (match s_ArchiveSize_1 a0 (a0.Items.length + 1) 0 0 with | z1_0 => z1_0)
def i_ArchiveSize_1 (a0 : TArchive) : Nat → Int → Nat → Int
  | 0, _, _ => default
  | n1 + 1, v1_0, v1_1 => (bif (decide ((↑v1_1 : Int) < (↑a0.Items.length : Int))) then i_ArchiveSize_1 a0 n1 (W (v1_0 + (i_StrandSize (nth a0.Items v1_1).Strand))) (v1_1 + 1) else (v1_0))
def i_ArchiveSize (a0 : TArchive) : Int := (match i_ArchiveSize_1 a0 (a0.Items.length + 1) 0 0 with | z1_0 => z1_0)
def l_FnExactArchiveSize (a0 : TArchive) : Bool := (bif (decide ((l_szArchive a0 1048576) < 0)) then true else (bif ((i_ArchiveSize (l_toArchive a0)) != (s_ArchiveSize (l_toArchive a0))) then false else (bif (!(l_eqArchive (l_toArchive a0) (l_toArchive a0))) then false else true)))
def s_FindAuthority_1 (a0 : List TAuthority) (a1 : Int) : Nat → Nat → Sum Int Unit
  | 0, _ => .inr ()
  | n1 + 1, v1_0 => (bif (decide ((↑v1_0 : Int) < (↑a0.length : Int))) then (bif ((nth a0 v1_0).Id == a1) then (.inl (↑v1_0 : Int)) else s_FindAuthority_1 a0 a1 n1 (v1_0 + 1)) else (.inr ()))
def s_FindAuthority (a0 : List TAuthority) (a1 : Int) : Int := (match s_FindAuthority_1 a0 a1 (a0.length + 1) 0 with | .inl r1 => r1 | .inr _ => (-1))
def s_StampKey (a0 : List TAuthority) (a1 : TStamp) : Int := (bif (decide ((s_FindAuthority a0 a1.Authority) < 0)) then 0 else (nth a0 (s_FindAuthority a0 a1.Authority).toNat).Key)
def s_Min (a0 : Int) (a1 : Int) : Int := (bif (decide (a1 < a0)) then a1 else a0)
def s_RenewalBreak_1 (a0 : List TKey) (a1 : List TAuthority) (a2 : List TMethod) (a3 : TRenewal) : Nat → Int → Nat → Sum Int Int
  | 0, _, _ => .inr default
  | n1 + 1, v1_0, v1_1 => (bif (decide ((↑v1_1 : Int) < (↑a3.Stamps.length : Int))) then (bif (decide ((s_FindKey a0 (s_StampKey a1 (nth a3.Stamps v1_1))) < 0)) then (.inl 0) else s_RenewalBreak_1 a0 a1 a2 a3 n1 (s_Min v1_0 (s_BreakOf a2 (nth a0 (s_FindKey a0 (s_StampKey a1 (nth a3.Stamps v1_1))).toNat).Method)) (v1_1 + 1)) else (.inr v1_0))
def s_RenewalBreak (a0 : List TKey) (a1 : List TAuthority) (a2 : List TMethod) (a3 : TRenewal) : Int := (match s_RenewalBreak_1 a0 a1 a2 a3 (a3.Stamps.length + 1) (s_BreakOf a2 a3.Method) 0 with | .inl r1 => r1 | .inr z1_0 => z1_0)
def s_IsSafeNow (a0 : TFrame) (a1 : TItem) : Bool := ((decide ((↑a1.Strand.Chain.length : Int) > 0)) && (decide (a0.Now < (s_RenewalBreak a0.Keys a0.Authorities a0.Methods (nth a1.Strand.Chain (a1.Strand.Chain.length - 1))))))
def i_lastRenewal (a0 : TItem) : TRenewal × Bool := (bif ((↑a0.Strand.Chain.length : Int) == 0) then ((TRenewal.mk 0 0 0 ([] : List TStep) ([] : List TStamp)), false) else ((nth a0.Strand.Chain (a0.Strand.Chain.length - 1)), true))
def i_FindAuthority_1 (a0 : List TAuthority) (a1 : Int) : Nat → Nat → Sum Int Unit
  | 0, _ => .inr ()
  | n1 + 1, v1_0 => (bif (decide ((↑v1_0 : Int) < (↑a0.length : Int))) then (bif ((nth a0 v1_0).Id == a1) then (.inl (↑v1_0 : Int)) else i_FindAuthority_1 a0 a1 n1 (v1_0 + 1)) else (.inr ()))
def i_FindAuthority (a0 : List TAuthority) (a1 : Int) : Int := (match i_FindAuthority_1 a0 a1 (a0.length + 1) 0 with | .inl r1 => r1 | .inr _ => (-1))
def i_StampKey (a0 : List TAuthority) (a1 : TStamp) : Int := (bif (decide ((i_FindAuthority a0 a1.Authority) ≥ 0)) then (nth a0 (i_FindAuthority a0 a1.Authority).toNat).Key else 0)
def i_RenewalBreak_1 (a0 : List TKey) (a1 : List TAuthority) (a2 : List TMethod) (a3 : TRenewal) : Nat → Int → Nat → Sum Int Int
  | 0, _, _ => .inr default
  | n1 + 1, v1_0, v1_1 => (bif (decide ((↑v1_1 : Int) < (↑a3.Stamps.length : Int))) then (bif (decide ((i_FindKey a0 (i_StampKey a1 (nth a3.Stamps v1_1))) < 0)) then (.inl 0) else i_RenewalBreak_1 a0 a1 a2 a3 n1 (if (i_BreakOf a2 (nth a0 (i_FindKey a0 (i_StampKey a1 (nth a3.Stamps v1_1))).toNat).Method) < v1_0 then (i_BreakOf a2 (nth a0 (i_FindKey a0 (i_StampKey a1 (nth a3.Stamps v1_1))).toNat).Method) else v1_0) (v1_1 + 1)) else (.inr v1_0))
def i_RenewalBreak (a0 : List TKey) (a1 : List TAuthority) (a2 : List TMethod) (a3 : TRenewal) : Int := (match i_RenewalBreak_1 a0 a1 a2 a3 (a3.Stamps.length + 1) (i_BreakOf a2 a3.Method) 0 with | .inl r1 => r1 | .inr z1_0 => z1_0)
def i_IsSafeNow (a0 : TFrame) (a1 : TItem) : Bool := ((i_lastRenewal a1).2 && (decide (a0.Now < (i_RenewalBreak a0.Keys a0.Authorities a0.Methods (i_lastRenewal a1).1))))
def l_FnExactIsSafeNow (a0 : TFrame) (a1 : TItem) : Bool := (bif (decide ((l_szFrame a0 1048576) < 0)) then true else (bif (decide ((l_szItem a1 (l_szFrame a0 1048576)) < 0)) then true else (bif (!((i_IsSafeNow (l_toFrame a0) (l_toItem a1)) == (s_IsSafeNow (l_toFrame a0) (l_toItem a1)))) then false else (bif (!(l_eqFrame (l_toFrame a0) (l_toFrame a0))) then false else (bif (!(l_eqItem (l_toItem a1) (l_toItem a1))) then false else true)))))
def s_l32Ends (a0 : List TMethod) (a1 : Int) : Int := (bif (decide ((s_FindMethod a0 a1) < 0)) then 0 else (nth a0 (s_FindMethod a0 a1).toNat).Ends)
def s_EndsOf_1 (a0 : TFrame) (a1 : TRenewal) : Nat → Int → Nat → Sum Int Int
  | 0, _, _ => .inr default
  | n1 + 1, v1_0, v1_1 => (bif (decide ((↑v1_1 : Int) < (↑a1.Stamps.length : Int))) then (bif (decide ((s_FindKey a0.Keys (s_StampKey a0.Authorities (nth a1.Stamps v1_1))) < 0)) then (.inl 0) else s_EndsOf_1 a0 a1 n1 (s_Min v1_0 (s_l32Ends a0.Methods (nth a0.Keys (s_FindKey a0.Keys (s_StampKey a0.Authorities (nth a1.Stamps v1_1))).toNat).Method)) (v1_1 + 1)) else (.inr v1_0))
def s_EndsOf (a0 : TFrame) (a1 : TRenewal) : Int := (match s_EndsOf_1 a0 a1 (a1.Stamps.length + 1) (s_l32Ends a0.Methods a1.Method) 0 with | .inl r1 => r1 | .inr z1_0 => z1_0)
def s_l32Last (a0 : TFrame) (a1 : TItem) : Int := (bif ((↑a1.Strand.Chain.length : Int) == 0) then 0 else (s_EndsOf a0 (nth a1.Strand.Chain (a1.Strand.Chain.length - 1))))
def s_NeedsRenewal (a0 : TFrame) (a1 : TItem) (a2 : Int) : Bool := (((↑a1.Strand.Chain.length : Int) == 0) || (decide ((W ((s_l32Last a0 a1) - a0.Now)) ≤ a2)))
def i_endOf (a0 : TFrame) (a1 : Int) : Int := (bif (decide ((i_FindMethod a0.Methods a1) ≥ 0)) then (nth a0.Methods (i_FindMethod a0.Methods a1).toNat).Ends else 0)
def i_EndsOf_1 (a0 : TFrame) (a1 : TRenewal) : Nat → Int → Nat → Sum Int Int
  | 0, _, _ => .inr default
  | n1 + 1, v1_0, v1_1 => (bif (decide ((↑v1_1 : Int) < (↑a1.Stamps.length : Int))) then (bif (decide ((i_FindKey a0.Keys (i_StampKey a0.Authorities (nth a1.Stamps v1_1))) < 0)) then (.inl 0) else i_EndsOf_1 a0 a1 n1 (if (i_endOf a0 (nth a0.Keys (i_FindKey a0.Keys (i_StampKey a0.Authorities (nth a1.Stamps v1_1))).toNat).Method) < v1_0 then (i_endOf a0 (nth a0.Keys (i_FindKey a0.Keys (i_StampKey a0.Authorities (nth a1.Stamps v1_1))).toNat).Method) else v1_0) (v1_1 + 1)) else (.inr v1_0))
def i_EndsOf (a0 : TFrame) (a1 : TRenewal) : Int := (match i_EndsOf_1 a0 a1 (a1.Stamps.length + 1) (i_endOf a0 a1.Method) 0 with | .inl r1 => r1 | .inr z1_0 => z1_0)
def i_NeedsRenewal (a0 : TFrame) (a1 : TItem) (a2 : Int) : Bool := ((!(i_lastRenewal a1).2) || (decide ((W ((i_EndsOf a0 (i_lastRenewal a1).1) - a0.Now)) ≤ a2)))
def l_FnExactNeedsRenewal (a0 : TFrame) (a1 : TItem) (a2 : Int) : Bool := (bif (decide ((l_szFrame a0 1048576) < 0)) then true else (bif (decide ((l_szItem a1 (l_szFrame a0 1048576)) < 0)) then true else (bif (!((i_NeedsRenewal (l_toFrame a0) (l_toItem a1) a2) == (s_NeedsRenewal (l_toFrame a0) (l_toItem a1) a2))) then false else (bif (!(l_eqFrame (l_toFrame a0) (l_toFrame a0))) then false else (bif (!(l_eqItem (l_toItem a1) (l_toItem a1))) then false else true)))))
def s_NextDue_1 (a0 : TFrame) (a1 : TArchive) : Nat → Int → Nat → Int
  | 0, _, _ => default
  | n1 + 1, v1_0, v1_1 => (bif (decide ((↑v1_1 : Int) < (↑a1.Items.length : Int))) then s_NextDue_1 a0 a1 n1 (s_Min v1_0 (s_l32Last a0 (nth a1.Items v1_1))) (v1_1 + 1) else (v1_0))
def s_NextDue (a0 : TFrame) (a1 : TArchive) : Int := (match s_NextDue_1 a0 a1 (a1.Items.length + 1) 10001 0 with | z1_0 => z1_0)
def i_NextDue_1 (a0 : TFrame) (a1 : TArchive) : Nat → Int → Nat → Int
  | 0, _, _ => default
  | n1 + 1, v1_0, v1_1 => (bif (decide ((↑v1_1 : Int) < (↑a1.Items.length : Int))) then (bif (i_lastRenewal (nth a1.Items v1_1)).2 then i_NextDue_1 a0 a1 n1 (if (i_EndsOf a0 (i_lastRenewal (nth a1.Items v1_1)).1) < v1_0 then (i_EndsOf a0 (i_lastRenewal (nth a1.Items v1_1)).1) else v1_0) (v1_1 + 1) else i_NextDue_1 a0 a1 n1 (if 0 < v1_0 then 0 else v1_0) (v1_1 + 1)) else (v1_0))
def i_NextDue (a0 : TFrame) (a1 : TArchive) : Int := (match i_NextDue_1 a0 a1 (a1.Items.length + 1) 10001 0 with | z1_0 => z1_0)
def l_FnExactNextDue (a0 : TFrame) (a1 : TArchive) : Bool := (bif (decide ((l_szFrame a0 1048576) < 0)) then true else (bif (decide ((l_szArchive a1 (l_szFrame a0 1048576)) < 0)) then true else (bif ((i_NextDue (l_toFrame a0) (l_toArchive a1)) != (s_NextDue (l_toFrame a0) (l_toArchive a1))) then false else (bif (!(l_eqFrame (l_toFrame a0) (l_toFrame a0))) then false else (bif (!(l_eqArchive (l_toArchive a1) (l_toArchive a1))) then false else true)))))
def l_szCertS (a0 : List TCert) (a1 : Int) : Int := (bif (decide ((W (a1 - (↑a0.length : Int))) < 0)) then (-1) else (W (a1 - (↑a0.length : Int))))
def l_szArchiveS_1 (a0 : List TArchive) : Nat → Int → Nat → Sum Int Int
  | 0, _, _ => .inr default
  | n1 + 1, v1_0, v1_1 => (bif (decide ((↑v1_1 : Int) < (↑a0.length : Int))) then (bif (decide ((l_szArchive (nth a0 v1_1) v1_0) < 0)) then (.inl (-1)) else l_szArchiveS_1 a0 n1 (l_szArchive (nth a0 v1_1) v1_0) (v1_1 + 1)) else (.inr v1_0))
def l_szArchiveS (a0 : List TArchive) (a1 : Int) : Int := (bif (decide ((W (a1 - (↑a0.length : Int))) < 0)) then (-1) else (match l_szArchiveS_1 a0 (a0.length + 1) (W (a1 - (↑a0.length : Int))) 0 with | .inl r1 => r1 | .inr z1_0 => z1_0))
def l_szWorld (a0 : TWorld) (a1 : Int) : Int := (bif (decide ((l_szFrame a0.Frame a1) < 0)) then (-1) else (bif (decide ((l_szCertS a0.Certs (l_szFrame a0.Frame a1)) < 0)) then (-1) else (bif (decide ((l_szIntS a0.Ended (l_szCertS a0.Certs (l_szFrame a0.Frame a1))) < 0)) then (-1) else (bif (decide ((l_szArchiveS a0.Archives (l_szIntS a0.Ended (l_szCertS a0.Certs (l_szFrame a0.Frame a1)))) < 0)) then (-1) else (bif (decide ((l_szIntS a0.Seqs (l_szArchiveS a0.Archives (l_szIntS a0.Ended (l_szCertS a0.Certs (l_szFrame a0.Frame a1))))) < 0)) then (-1) else (bif (decide ((l_szIntS a0.Lying (l_szIntS a0.Seqs (l_szArchiveS a0.Archives (l_szIntS a0.Ended (l_szCertS a0.Certs (l_szFrame a0.Frame a1)))))) < 0)) then (-1) else (bif (decide ((l_szIntS a0.Forged (l_szIntS a0.Lying (l_szIntS a0.Seqs (l_szArchiveS a0.Archives (l_szIntS a0.Ended (l_szCertS a0.Certs (l_szFrame a0.Frame a1))))))) < 0)) then (-1) else (l_szIntS a0.Forged (l_szIntS a0.Lying (l_szIntS a0.Seqs (l_szArchiveS a0.Archives (l_szIntS a0.Ended (l_szCertS a0.Certs (l_szFrame a0.Frame a1))))))))))))))
def l_toCert (a0 : TCert) : TCert := a0
def l_toCertS_1 (a0 : List TCert) : Nat → Nat → List TCert → (List TCert)
  | 0, _, _ => default
  | n1 + 1, v1_0, v1_1 => (bif (decide ((↑v1_0 : Int) < (↑a0.length : Int))) then l_toCertS_1 a0 n1 (v1_0 + 1) (v1_1.set v1_0 (l_toCert (nth a0 v1_0))) else (v1_1))
def l_toCertS (a0 : List TCert) : List TCert := (match l_toCertS_1 a0 (a0.length + 1) 0 (List.replicate a0.length (TCert.mk 0 0 0 0 0 0 0)) with | z1_0 => z1_0)
def l_toArchiveS_1 (a0 : List TArchive) : Nat → Nat → List TArchive → (List TArchive)
  | 0, _, _ => default
  | n1 + 1, v1_0, v1_1 => (bif (decide ((↑v1_0 : Int) < (↑a0.length : Int))) then l_toArchiveS_1 a0 n1 (v1_0 + 1) (v1_1.set v1_0 (l_toArchive (nth a0 v1_0))) else (v1_1))
def l_toArchiveS (a0 : List TArchive) : List TArchive := (match l_toArchiveS_1 a0 (a0.length + 1) 0 (List.replicate a0.length (TArchive.mk 0 ([] : List TItem))) with | z1_0 => z1_0)
def l_toWorld (a0 : TWorld) : TWorld := (TWorld.mk (TFrame.mk (l_toFrame a0.Frame).Keys (l_toFrame a0.Frame).Authorities (l_toFrame a0.Frame).Methods (l_toFrame a0.Frame).Liars (l_toFrame a0.Frame).Now) (l_toCertS a0.Certs) (l_toIntS a0.Ended) (l_toArchiveS a0.Archives) (l_toIntS a0.Seqs) (l_toIntS a0.Lying) a0.Next (l_toIntS a0.Forged))
def s_FindItem_1 (a0 : TArchive) (a1 : Int) : Nat → Nat → Sum Int Unit
  | 0, _ => .inr ()
  | n1 + 1, v1_0 => (bif (decide ((↑v1_0 : Int) < (↑a0.Items.length : Int))) then (bif ((nth a0.Items v1_0).Id == a1) then (.inl (↑v1_0 : Int)) else s_FindItem_1 a0 a1 n1 (v1_0 + 1)) else (.inr ()))
def s_FindItem (a0 : TArchive) (a1 : Int) : Int := (match s_FindItem_1 a0 a1 (a0.Items.length + 1) 0 with | .inl r1 => r1 | .inr _ => (-1))
def s_FindIn_1 (a0 : TWorld) (a1 : Int) : Nat → Nat → Sum (Int × Int) Unit
  | 0, _ => .inr ()
  | n1 + 1, v1_0 => (bif (decide ((↑v1_0 : Int) < (↑a0.Archives.length : Int))) then (bif (decide ((s_FindItem (nth a0.Archives v1_0) a1) ≥ 0)) then (.inl ((↑v1_0 : Int), (s_FindItem (nth a0.Archives v1_0) a1))) else s_FindIn_1 a0 a1 n1 (v1_0 + 1)) else (.inr ()))
def s_FindIn (a0 : TWorld) (a1 : Int) : Int × Int := (match s_FindIn_1 a0 a1 (a0.Archives.length + 1) 0 with | .inl r1 => r1 | .inr _ => ((-1), (-1)))
def i_FindItem_1 (a0 : TArchive) (a1 : Int) : Nat → Nat → Sum Int Unit
  | 0, _ => .inr ()
  | n1 + 1, v1_0 => (bif (decide ((↑v1_0 : Int) < (↑a0.Items.length : Int))) then (bif ((nth a0.Items v1_0).Id == a1) then (.inl (↑v1_0 : Int)) else i_FindItem_1 a0 a1 n1 (v1_0 + 1)) else (.inr ()))
def i_FindItem (a0 : TArchive) (a1 : Int) : Int := (match i_FindItem_1 a0 a1 (a0.Items.length + 1) 0 with | .inl r1 => r1 | .inr _ => (-1))
def i_FindIn_1 (a0 : TWorld) (a1 : Int) : Nat → Nat → Sum (Int × Int) Unit
  | 0, _ => .inr ()
  | n1 + 1, v1_0 => (bif (decide ((↑v1_0 : Int) < (↑a0.Archives.length : Int))) then (bif (decide ((i_FindItem (nth a0.Archives v1_0) a1) ≥ 0)) then (.inl ((↑v1_0 : Int), (i_FindItem (nth a0.Archives v1_0) a1))) else i_FindIn_1 a0 a1 n1 (v1_0 + 1)) else (.inr ()))
def i_FindIn (a0 : TWorld) (a1 : Int) : Int × Int := (match i_FindIn_1 a0 a1 (a0.Archives.length + 1) 0 with | .inl r1 => r1 | .inr _ => ((-1), (-1)))
def l_eqCert (a0 : TCert) (a1 : TCert) : Bool := (bif (a0.Serial != a1.Serial) then false else (bif (a0.Key != a1.Key) then false else (bif (a0.Owner != a1.Owner) then false else (bif (a0.From != a1.From) then false else (bif (a0.To != a1.To) then false else (bif (a0.Issuer != a1.Issuer) then false else (bif (a0.Mark != a1.Mark) then false else true)))))))
def l_eqCertS_1 (a0 : List TCert) (a1 : List TCert) : Nat → Nat → Sum Bool Unit
  | 0, _ => .inr ()
  | n1 + 1, v1_0 => (bif (decide ((↑v1_0 : Int) < (↑a0.length : Int))) then (bif (!(l_eqCert (nth a0 v1_0) (nth a1 v1_0))) then (.inl false) else l_eqCertS_1 a0 a1 n1 (v1_0 + 1)) else (.inr ()))
def l_eqCertS (a0 : List TCert) (a1 : List TCert) : Bool := (bif ((↑a0.length : Int) != (↑a1.length : Int)) then false else (match l_eqCertS_1 a0 a1 (a0.length + 1) 0 with | .inl r1 => r1 | .inr _ => true))
def l_eqArchiveS_1 (a0 : List TArchive) (a1 : List TArchive) : Nat → Nat → Sum Bool Unit
  | 0, _ => .inr ()
  | n1 + 1, v1_0 => (bif (decide ((↑v1_0 : Int) < (↑a0.length : Int))) then (bif (!(l_eqArchive (nth a0 v1_0) (nth a1 v1_0))) then (.inl false) else l_eqArchiveS_1 a0 a1 n1 (v1_0 + 1)) else (.inr ()))
def l_eqArchiveS (a0 : List TArchive) (a1 : List TArchive) : Bool := (bif ((↑a0.length : Int) != (↑a1.length : Int)) then false else (match l_eqArchiveS_1 a0 a1 (a0.length + 1) 0 with | .inl r1 => r1 | .inr _ => true))
def l_eqWorld (a0 : TWorld) (a1 : TWorld) : Bool := (bif (!(l_eqFrame a0.Frame a1.Frame)) then false else (bif (!(l_eqCertS a0.Certs a1.Certs)) then false else (bif (!(l_eqIntS a0.Ended a1.Ended)) then false else (bif (!(l_eqArchiveS a0.Archives a1.Archives)) then false else (bif (!(l_eqIntS a0.Seqs a1.Seqs)) then false else (bif (!(l_eqIntS a0.Lying a1.Lying)) then false else (bif (a0.Next != a1.Next) then false else (bif (!(l_eqIntS a0.Forged a1.Forged)) then false else true))))))))
def l_FnExactFindIn (a0 : TWorld) (a1 : Int) : Bool := (bif (decide ((l_szWorld a0 1048576) < 0)) then true else (bif (((i_FindIn (l_toWorld a0) a1).1 != (s_FindIn (l_toWorld a0) a1).1) || ((i_FindIn (l_toWorld a0) a1).2 != (s_FindIn (l_toWorld a0) a1).2)) then false else (bif (!(l_eqWorld (l_toWorld a0) (l_toWorld a0))) then false else true)))
def s_ItemsDue_1 (a0 : TFrame) (a1 : TArchive) (a2 : Int) : Nat → List Int → Nat → (List Int)
  | 0, _, _ => default
  | n1 + 1, v1_0, v1_1 => (bif (decide ((↑v1_1 : Int) < (↑a1.Items.length : Int))) then (bif (s_NeedsRenewal a0 (nth a1.Items v1_1) a2) then s_ItemsDue_1 a0 a1 a2 n1 (v1_0 ++ ([(nth a1.Items v1_1).Id] : List Int)) (v1_1 + 1) else s_ItemsDue_1 a0 a1 a2 n1 v1_0 (v1_1 + 1)) else (v1_0))
def s_ItemsDue (a0 : TFrame) (a1 : TArchive) (a2 : Int) : List Int := (match s_ItemsDue_1 a0 a1 a2 (a1.Items.length + 1) ([] : List Int) 0 with | z1_0 => z1_0)
def i_ItemsDue_1 (a0 : TFrame) (a1 : TArchive) (a2 : Int) : Nat → List Int → Nat → (List Int)
  | 0, _, _ => default
  | n1 + 1, v1_0, v1_1 => (bif (decide ((↑v1_1 : Int) < (↑a1.Items.length : Int))) then (bif (i_NeedsRenewal a0 (nth a1.Items v1_1) a2) then i_ItemsDue_1 a0 a1 a2 n1 (v1_0 ++ ([(nth a1.Items v1_1).Id] : List Int)) (v1_1 + 1) else i_ItemsDue_1 a0 a1 a2 n1 v1_0 (v1_1 + 1)) else (v1_0))
def i_ItemsDue (a0 : TFrame) (a1 : TArchive) (a2 : Int) : List Int := (match i_ItemsDue_1 a0 a1 a2 (a1.Items.length + 1) ([] : List Int) 0 with | z1_0 => z1_0)
def l_heldIntS_1 (a0 : List Int) : Nat → Int → Nat → Sum Int Int
  | 0, _, _ => .inr default
  | n1 + 1, v1_0, v1_1 => (bif (decide ((↑v1_1 : Int) < (↑a0.length : Int))) then (bif ((nth a0 v1_1) != v1_0) then (.inl (-1)) else l_heldIntS_1 a0 n1 (W (v1_0 + 1)) (v1_1 + 1)) else (.inr v1_0))
def l_heldIntS (a0 : List Int) (a1 : Int) : Int := (match l_heldIntS_1 a0 (a0.length + 1) a1 0 with | .inl r1 => r1 | .inr z1_0 => z1_0)
def s_EqualInts_1 (a0 : List Int) (a1 : List Int) : Nat → Nat → Sum Bool Unit
  | 0, _ => .inr ()
  | n1 + 1, v1_0 => (bif (decide ((↑v1_0 : Int) < (↑a0.length : Int))) then (bif ((nth a0 v1_0) != (nth a1 v1_0)) then (.inl false) else s_EqualInts_1 a0 a1 n1 (v1_0 + 1)) else (.inr ()))
def s_EqualInts (a0 : List Int) (a1 : List Int) : Bool := (bif ((↑a0.length : Int) != (↑a1.length : Int)) then false else (match s_EqualInts_1 a0 a1 (a0.length + 1) 0 with | .inl r1 => r1 | .inr _ => true))
def s_EqualDocuments_1 (a0 : TDocument) (a1 : TDocument) : Nat → Nat → Sum Bool Unit
  | 0, _ => .inr ()
  | n1 + 1, v1_0 => (bif (decide ((↑v1_0 : Int) < (↑a0.Parts.length : Int))) then (bif (!decide ((nth a0.Parts v1_0) = (nth a1.Parts v1_0))) then (.inl false) else s_EqualDocuments_1 a0 a1 n1 (v1_0 + 1)) else (.inr ()))
def s_EqualDocuments (a0 : TDocument) (a1 : TDocument) : Bool := (bif (((a0.Title != a1.Title) || ((↑a0.Parts.length : Int) != (↑a1.Parts.length : Int))) || (!(s_EqualInts a0.Salts a1.Salts))) then false else (match s_EqualDocuments_1 a0 a1 (a0.Parts.length + 1) 0 with | .inl r1 => r1 | .inr _ => true))
def s_EqualPieces (a0 : TPiece) (a1 : TPiece) : Bool := (((a0.Key == a1.Key) && (a0.Mark == a1.Mark)) && (s_EqualInts a0.Ints a1.Ints))
def s_EqualRenewals_2 (a0 : TRenewal) (a1 : TRenewal) : Nat → Nat → Sum Bool Unit
  | 0, _ => .inr ()
  | n2 + 1, v2_0 => (bif (decide ((↑v2_0 : Int) < (↑a0.Stamps.length : Int))) then (bif (!(((nth a0.Stamps v2_0).Authority == (nth a1.Stamps v2_0).Authority) && (((nth a0.Stamps v2_0).Seq == (nth a1.Stamps v2_0).Seq) && (((nth a0.Stamps v2_0).Time == (nth a1.Stamps v2_0).Time) && (((nth a0.Stamps v2_0).Digest == (nth a1.Stamps v2_0).Digest) && ((nth a0.Stamps v2_0).Mark == (nth a1.Stamps v2_0).Mark)))))) then (.inl false) else s_EqualRenewals_2 a0 a1 n2 (v2_0 + 1)) else (.inr ()))
def s_EqualRenewals_1 (a0 : TRenewal) (a1 : TRenewal) : Nat → Nat → Sum Bool Unit
  | 0, _ => .inr ()
  | n1 + 1, v1_0 => (bif (decide ((↑v1_0 : Int) < (↑a0.Path.length : Int))) then (bif (!(((nth a0.Path v1_0).Digest == (nth a1.Path v1_0).Digest) && ((nth a0.Path v1_0).Left == (nth a1.Path v1_0).Left))) then (.inl false) else s_EqualRenewals_1 a0 a1 n1 (v1_0 + 1)) else (.inr ()))
def s_EqualRenewals (a0 : TRenewal) (a1 : TRenewal) : Bool := (bif (((((a0.Count != a1.Count) || (a0.Method != a1.Method)) || (a0.Root != a1.Root)) || ((↑a0.Path.length : Int) != (↑a1.Path.length : Int))) || ((↑a0.Stamps.length : Int) != (↑a1.Stamps.length : Int))) then false else (match s_EqualRenewals_1 a0 a1 (a0.Path.length + 1) 0 with | .inl r1 => r1 | .inr _ => (match s_EqualRenewals_2 a0 a1 (a0.Stamps.length + 1) 0 with | .inl r2 => r2 | .inr _ => true)))
def s_EqualStrands_2 (a0 : TStrand) (a1 : TStrand) : Nat → Nat → Sum Bool Unit
  | 0, _ => .inr ()
  | n2 + 1, v2_0 => (bif (decide ((↑v2_0 : Int) < (↑a0.Chain.length : Int))) then (bif (!(s_EqualRenewals (nth a0.Chain v2_0) (nth a1.Chain v2_0))) then (.inl false) else s_EqualStrands_2 a0 a1 n2 (v2_0 + 1)) else (.inr ()))
def s_EqualStrands_1 (a0 : TStrand) (a1 : TStrand) : Nat → Nat → Sum Bool Unit
  | 0, _ => .inr ()
  | n1 + 1, v1_0 => (bif (decide ((↑v1_0 : Int) < (↑a0.Pieces.length : Int))) then (bif (!(s_EqualPieces (nth a0.Pieces v1_0) (nth a1.Pieces v1_0))) then (.inl false) else s_EqualStrands_1 a0 a1 n1 (v1_0 + 1)) else (.inr ()))
def s_EqualStrands (a0 : TStrand) (a1 : TStrand) : Bool := (bif (((↑a0.Pieces.length : Int) != (↑a1.Pieces.length : Int)) || ((↑a0.Chain.length : Int) != (↑a1.Chain.length : Int))) then false else (match s_EqualStrands_1 a0 a1 (a0.Pieces.length + 1) 0 with | .inl r1 => r1 | .inr _ => (match s_EqualStrands_2 a0 a1 (a0.Chain.length + 1) 0 with | .inl r2 => r2 | .inr _ => true)))
def s_EqualArchives_1 (a0 : TArchive) (a1 : TArchive) : Nat → Nat → Sum Bool Unit
  | 0, _ => .inr ()
  | n1 + 1, v1_0 => (bif (decide ((↑v1_0 : Int) < (↑a0.Items.length : Int))) then (bif ((((((nth a0.Items v1_0).Id != (nth a1.Items v1_0).Id) || ((nth a0.Items v1_0).Keep != (nth a1.Items v1_0).Keep)) || (!(((nth a0.Items v1_0).Sig.Key == (nth a1.Items v1_0).Sig.Key) && (((nth a0.Items v1_0).Sig.Serial == (nth a1.Items v1_0).Sig.Serial) && (((nth a0.Items v1_0).Sig.Method == (nth a1.Items v1_0).Sig.Method) && (((nth a0.Items v1_0).Sig.Digest == (nth a1.Items v1_0).Sig.Digest) && (((nth a0.Items v1_0).Sig.Commit == (nth a1.Items v1_0).Sig.Commit) && (((nth a0.Items v1_0).Sig.Org == (nth a1.Items v1_0).Sig.Org) && (((nth a0.Items v1_0).Sig.Before == (nth a1.Items v1_0).Sig.Before) && (((nth a0.Items v1_0).Sig.After == (nth a1.Items v1_0).Sig.After) && ((nth a0.Items v1_0).Sig.Mark == (nth a1.Items v1_0).Sig.Mark))))))))))) || (!(s_EqualDocuments (nth a0.Items v1_0).Doc (nth a1.Items v1_0).Doc))) || (!(s_EqualStrands (nth a0.Items v1_0).Strand (nth a1.Items v1_0).Strand))) then (.inl false) else s_EqualArchives_1 a0 a1 n1 (v1_0 + 1)) else (.inr ()))
def s_EqualArchives (a0 : TArchive) (a1 : TArchive) : Bool := (bif ((a0.Id != a1.Id) || ((↑a0.Items.length : Int) != (↑a1.Items.length : Int))) then false else (match s_EqualArchives_1 a0 a1 (a0.Items.length + 1) 0 with | .inl r1 => r1 | .inr _ => true))
def s_l33Frames_3 (a0 : TFrame) (a1 : TFrame) : Nat → Nat → Sum Bool Unit
  | 0, _ => .inr ()
  | n3 + 1, v3_0 => (bif (decide ((↑v3_0 : Int) < (↑a0.Methods.length : Int))) then (bif (!(((nth a0.Methods v3_0).Id == (nth a1.Methods v3_0).Id) && (((nth a0.Methods v3_0).Known == (nth a1.Methods v3_0).Known) && (((nth a0.Methods v3_0).Ends == (nth a1.Methods v3_0).Ends) && ((nth a0.Methods v3_0).Broken == (nth a1.Methods v3_0).Broken))))) then (.inl false) else s_l33Frames_3 a0 a1 n3 (v3_0 + 1)) else (.inr ()))
def s_l33Frames_2 (a0 : TFrame) (a1 : TFrame) : Nat → Nat → Sum Bool Unit
  | 0, _ => .inr ()
  | n2 + 1, v2_0 => (bif (decide ((↑v2_0 : Int) < (↑a0.Authorities.length : Int))) then (bif (!(((nth a0.Authorities v2_0).Id == (nth a1.Authorities v2_0).Id) && (((nth a0.Authorities v2_0).Key == (nth a1.Authorities v2_0).Key) && ((nth a0.Authorities v2_0).Error == (nth a1.Authorities v2_0).Error)))) then (.inl false) else s_l33Frames_2 a0 a1 n2 (v2_0 + 1)) else (.inr ()))
def s_l33Frames_1 (a0 : TFrame) (a1 : TFrame) : Nat → Nat → Sum Bool Unit
  | 0, _ => .inr ()
  | n1 + 1, v1_0 => (bif (decide ((↑v1_0 : Int) < (↑a0.Keys.length : Int))) then (bif (!(((nth a0.Keys v1_0).Number == (nth a1.Keys v1_0).Number) && (((nth a0.Keys v1_0).Owner == (nth a1.Keys v1_0).Owner) && (((nth a0.Keys v1_0).Method == (nth a1.Keys v1_0).Method) && (((nth a0.Keys v1_0).Born == (nth a1.Keys v1_0).Born) && ((nth a0.Keys v1_0).Secret == (nth a1.Keys v1_0).Secret)))))) then (.inl false) else s_l33Frames_1 a0 a1 n1 (v1_0 + 1)) else (.inr ()))
def s_l33Frames (a0 : TFrame) (a1 : TFrame) : Bool := (bif ((((((↑a0.Keys.length : Int) != (↑a1.Keys.length : Int)) || ((↑a0.Authorities.length : Int) != (↑a1.Authorities.length : Int))) || ((↑a0.Methods.length : Int) != (↑a1.Methods.length : Int))) || (a0.Liars != a1.Liars)) || (a0.Now != a1.Now)) then false else (match s_l33Frames_1 a0 a1 (a0.Keys.length + 1) 0 with | .inl r1 => r1 | .inr _ => (match s_l33Frames_2 a0 a1 (a0.Authorities.length + 1) 0 with | .inl r2 => r2 | .inr _ => (match s_l33Frames_3 a0 a1 (a0.Methods.length + 1) 0 with | .inl r3 => r3 | .inr _ => true))))
def s_EqualWorlds_2 (a0 : TWorld) (a1 : TWorld) : Nat → Nat → Sum Bool Unit
  | 0, _ => .inr ()
  | n2 + 1, v2_0 => (bif (decide ((↑v2_0 : Int) < (↑a0.Archives.length : Int))) then (bif (!(s_EqualArchives (nth a0.Archives v2_0) (nth a1.Archives v2_0))) then (.inl false) else s_EqualWorlds_2 a0 a1 n2 (v2_0 + 1)) else (.inr ()))
def s_EqualWorlds_1 (a0 : TWorld) (a1 : TWorld) : Nat → Nat → Sum Bool Unit
  | 0, _ => .inr ()
  | n1 + 1, v1_0 => (bif (decide ((↑v1_0 : Int) < (↑a0.Certs.length : Int))) then (bif (!(((nth a0.Certs v1_0).Serial == (nth a1.Certs v1_0).Serial) && (((nth a0.Certs v1_0).Key == (nth a1.Certs v1_0).Key) && (((nth a0.Certs v1_0).Owner == (nth a1.Certs v1_0).Owner) && (((nth a0.Certs v1_0).From == (nth a1.Certs v1_0).From) && (((nth a0.Certs v1_0).To == (nth a1.Certs v1_0).To) && (((nth a0.Certs v1_0).Issuer == (nth a1.Certs v1_0).Issuer) && ((nth a0.Certs v1_0).Mark == (nth a1.Certs v1_0).Mark)))))))) then (.inl false) else s_EqualWorlds_1 a0 a1 n1 (v1_0 + 1)) else (.inr ()))
def s_EqualWorlds (a0 : TWorld) (a1 : TWorld) : Bool := (bif ((((↑a0.Certs.length : Int) != (↑a1.Certs.length : Int)) || ((↑a0.Archives.length : Int) != (↑a1.Archives.length : Int))) || (a0.Next != a1.Next)) then false else (match s_EqualWorlds_1 a0 a1 (a0.Certs.length + 1) 0 with | .inl r1 => r1 | .inr _ => (match s_EqualWorlds_2 a0 a1 (a0.Archives.length + 1) 0 with | .inl r2 => r2 | .inr _ => (((((s_l33Frames a0.Frame a1.Frame) && (s_EqualInts a0.Ended a1.Ended)) && (s_EqualInts a0.Seqs a1.Seqs)) && (s_EqualInts a0.Lying a1.Lying)) && (s_EqualInts a0.Forged a1.Forged)))))
def i_equalFrames_3 (a0 : TFrame) (a1 : TFrame) : Nat → Nat → Sum Bool Unit
  | 0, _ => .inr ()
  | n3 + 1, v3_0 => (bif (decide ((↑v3_0 : Int) < (↑a0.Methods.length : Int))) then (bif (!(((nth a0.Methods v3_0).Id == (nth a1.Methods v3_0).Id) && (((nth a0.Methods v3_0).Known == (nth a1.Methods v3_0).Known) && (((nth a0.Methods v3_0).Ends == (nth a1.Methods v3_0).Ends) && ((nth a0.Methods v3_0).Broken == (nth a1.Methods v3_0).Broken))))) then (.inl false) else i_equalFrames_3 a0 a1 n3 (v3_0 + 1)) else (.inr ()))
def i_equalFrames_2 (a0 : TFrame) (a1 : TFrame) : Nat → Nat → Sum Bool Unit
  | 0, _ => .inr ()
  | n2 + 1, v2_0 => (bif (decide ((↑v2_0 : Int) < (↑a0.Authorities.length : Int))) then (bif (!(((nth a0.Authorities v2_0).Id == (nth a1.Authorities v2_0).Id) && (((nth a0.Authorities v2_0).Key == (nth a1.Authorities v2_0).Key) && ((nth a0.Authorities v2_0).Error == (nth a1.Authorities v2_0).Error)))) then (.inl false) else i_equalFrames_2 a0 a1 n2 (v2_0 + 1)) else (.inr ()))
def i_equalFrames_1 (a0 : TFrame) (a1 : TFrame) : Nat → Nat → Sum Bool Unit
  | 0, _ => .inr ()
  | n1 + 1, v1_0 => (bif (decide ((↑v1_0 : Int) < (↑a0.Keys.length : Int))) then (bif (!(((nth a0.Keys v1_0).Number == (nth a1.Keys v1_0).Number) && (((nth a0.Keys v1_0).Owner == (nth a1.Keys v1_0).Owner) && (((nth a0.Keys v1_0).Method == (nth a1.Keys v1_0).Method) && (((nth a0.Keys v1_0).Born == (nth a1.Keys v1_0).Born) && ((nth a0.Keys v1_0).Secret == (nth a1.Keys v1_0).Secret)))))) then (.inl false) else i_equalFrames_1 a0 a1 n1 (v1_0 + 1)) else (.inr ()))
def i_equalFrames (a0 : TFrame) (a1 : TFrame) : Bool := (bif ((((((↑a0.Keys.length : Int) != (↑a1.Keys.length : Int)) || ((↑a0.Authorities.length : Int) != (↑a1.Authorities.length : Int))) || ((↑a0.Methods.length : Int) != (↑a1.Methods.length : Int))) || (a0.Liars != a1.Liars)) || (a0.Now != a1.Now)) then false else (match i_equalFrames_1 a0 a1 (a0.Keys.length + 1) 0 with | .inl r1 => r1 | .inr _ => (match i_equalFrames_2 a0 a1 (a0.Authorities.length + 1) 0 with | .inl r2 => r2 | .inr _ => (match i_equalFrames_3 a0 a1 (a0.Methods.length + 1) 0 with | .inl r3 => r3 | .inr _ => true))))
def i_EqualInts_1 (a0 : List Int) (a1 : List Int) : Nat → Nat → Sum Bool Unit
  | 0, _ => .inr ()
  | n1 + 1, v1_0 => (bif (decide ((↑v1_0 : Int) < (↑a0.length : Int))) then (bif ((nth a0 v1_0) != (nth a1 v1_0)) then (.inl false) else i_EqualInts_1 a0 a1 n1 (v1_0 + 1)) else (.inr ()))
def i_EqualInts (a0 : List Int) (a1 : List Int) : Bool := (bif ((↑a0.length : Int) != (↑a1.length : Int)) then false else (match i_EqualInts_1 a0 a1 (a0.length + 1) 0 with | .inl r1 => r1 | .inr _ => true))
def i_equalStrings_1 (a0 : List ByteArray) (a1 : List ByteArray) : Nat → Nat → Sum Bool Unit
  | 0, _ => .inr ()
  | n1 + 1, v1_0 => (bif (decide ((↑v1_0 : Int) < (↑a0.length : Int))) then (bif (!decide ((nth a0 v1_0) = (nth a1 v1_0))) then (.inl false) else i_equalStrings_1 a0 a1 n1 (v1_0 + 1)) else (.inr ()))
def i_equalStrings (a0 : List ByteArray) (a1 : List ByteArray) : Bool := (bif ((↑a0.length : Int) != (↑a1.length : Int)) then false else (match i_equalStrings_1 a0 a1 (a0.length + 1) 0 with | .inl r1 => r1 | .inr _ => true))
def i_EqualDocuments (a0 : TDocument) (a1 : TDocument) : Bool := (((a0.Title == a1.Title) && (i_equalStrings a0.Parts a1.Parts)) && (i_EqualInts a0.Salts a1.Salts))
def i_EqualPieces (a0 : TPiece) (a1 : TPiece) : Bool := (((a0.Key == a1.Key) && (a0.Mark == a1.Mark)) && (i_EqualInts a0.Ints a1.Ints))
def i_equalPieceLists_1 (a0 : List TPiece) (a1 : List TPiece) : Nat → Nat → Sum Bool Unit
  | 0, _ => .inr ()
  | n1 + 1, v1_0 => (bif (decide ((↑v1_0 : Int) < (↑a0.length : Int))) then (bif (!(i_EqualPieces (nth a0 v1_0) (nth a1 v1_0))) then (.inl false) else i_equalPieceLists_1 a0 a1 n1 (v1_0 + 1)) else (.inr ()))
def i_equalPieceLists (a0 : List TPiece) (a1 : List TPiece) : Bool := (bif ((↑a0.length : Int) != (↑a1.length : Int)) then false else (match i_equalPieceLists_1 a0 a1 (a0.length + 1) 0 with | .inl r1 => r1 | .inr _ => true))
def i_equalStamps_1 (a0 : List TStamp) (a1 : List TStamp) : Nat → Nat → Sum Bool Unit
  | 0, _ => .inr ()
  | n1 + 1, v1_0 => (bif (decide ((↑v1_0 : Int) < (↑a0.length : Int))) then (bif (!(((nth a0 v1_0).Authority == (nth a1 v1_0).Authority) && (((nth a0 v1_0).Seq == (nth a1 v1_0).Seq) && (((nth a0 v1_0).Time == (nth a1 v1_0).Time) && (((nth a0 v1_0).Digest == (nth a1 v1_0).Digest) && ((nth a0 v1_0).Mark == (nth a1 v1_0).Mark)))))) then (.inl false) else i_equalStamps_1 a0 a1 n1 (v1_0 + 1)) else (.inr ()))
def i_equalStamps (a0 : List TStamp) (a1 : List TStamp) : Bool := (bif ((↑a0.length : Int) != (↑a1.length : Int)) then false else (match i_equalStamps_1 a0 a1 (a0.length + 1) 0 with | .inl r1 => r1 | .inr _ => true))
def i_EqualRenewals_1 (a0 : TRenewal) (a1 : TRenewal) : Nat → Nat → Sum Bool Unit
  | 0, _ => .inr ()
  | n1 + 1, v1_0 => (bif (decide ((↑v1_0 : Int) < (↑a0.Path.length : Int))) then (bif (!(((nth a0.Path v1_0).Digest == (nth a1.Path v1_0).Digest) && ((nth a0.Path v1_0).Left == (nth a1.Path v1_0).Left))) then (.inl false) else i_EqualRenewals_1 a0 a1 n1 (v1_0 + 1)) else (.inr ()))
def i_EqualRenewals (a0 : TRenewal) (a1 : TRenewal) : Bool := (bif ((((a0.Count != a1.Count) || (a0.Method != a1.Method)) || (a0.Root != a1.Root)) || ((↑a0.Path.length : Int) != (↑a1.Path.length : Int))) then false else (match i_EqualRenewals_1 a0 a1 (a0.Path.length + 1) 0 with | .inl r1 => r1 | .inr _ => (i_equalStamps a0.Stamps a1.Stamps)))
def i_EqualStrands_1 (a0 : TStrand) (a1 : TStrand) : Nat → Nat → Sum Bool Unit
  | 0, _ => .inr ()
  | n1 + 1, v1_0 => (bif (decide ((↑v1_0 : Int) < (↑a0.Chain.length : Int))) then (bif (!(i_EqualRenewals (nth a0.Chain v1_0) (nth a1.Chain v1_0))) then (.inl false) else i_EqualStrands_1 a0 a1 n1 (v1_0 + 1)) else (.inr ()))
def i_EqualStrands (a0 : TStrand) (a1 : TStrand) : Bool := (bif ((!(i_equalPieceLists a0.Pieces a1.Pieces)) || ((↑a0.Chain.length : Int) != (↑a1.Chain.length : Int))) then false else (match i_EqualStrands_1 a0 a1 (a0.Chain.length + 1) 0 with | .inl r1 => r1 | .inr _ => true))
def i_equalItems (a0 : TItem) (a1 : TItem) : Bool := (((((a0.Id == a1.Id) && (a0.Keep == a1.Keep)) && (i_EqualDocuments a0.Doc a1.Doc)) && ((a0.Sig.Key == a1.Sig.Key) && ((a0.Sig.Serial == a1.Sig.Serial) && ((a0.Sig.Method == a1.Sig.Method) && ((a0.Sig.Digest == a1.Sig.Digest) && ((a0.Sig.Commit == a1.Sig.Commit) && ((a0.Sig.Org == a1.Sig.Org) && ((a0.Sig.Before == a1.Sig.Before) && ((a0.Sig.After == a1.Sig.After) && (a0.Sig.Mark == a1.Sig.Mark)))))))))) && (i_EqualStrands a0.Strand a1.Strand))
def i_EqualArchives_1 (a0 : TArchive) (a1 : TArchive) : Nat → Nat → Sum Bool Unit
  | 0, _ => .inr ()
  | n1 + 1, v1_0 => (bif (decide ((↑v1_0 : Int) < (↑a0.Items.length : Int))) then (bif (!(i_equalItems (nth a0.Items v1_0) (nth a1.Items v1_0))) then (.inl false) else i_EqualArchives_1 a0 a1 n1 (v1_0 + 1)) else (.inr ()))
def i_EqualArchives (a0 : TArchive) (a1 : TArchive) : Bool := (bif ((a0.Id != a1.Id) || ((↑a0.Items.length : Int) != (↑a1.Items.length : Int))) then false else (match i_EqualArchives_1 a0 a1 (a0.Items.length + 1) 0 with | .inl r1 => r1 | .inr _ => true))
def i_EqualWorlds_2 (a0 : TWorld) (a1 : TWorld) : Nat → Nat → Sum Bool Unit
  | 0, _ => .inr ()
  | n2 + 1, v2_0 => (bif (decide ((↑v2_0 : Int) < (↑a0.Archives.length : Int))) then (bif (!(i_EqualArchives (nth a0.Archives v2_0) (nth a1.Archives v2_0))) then (.inl false) else i_EqualWorlds_2 a0 a1 n2 (v2_0 + 1)) else (.inr ()))
def i_EqualWorlds_1 (a0 : TWorld) (a1 : TWorld) : Nat → Nat → Sum Bool Unit
  | 0, _ => .inr ()
  | n1 + 1, v1_0 => (bif (decide ((↑v1_0 : Int) < (↑a0.Certs.length : Int))) then (bif (!(((nth a0.Certs v1_0).Serial == (nth a1.Certs v1_0).Serial) && (((nth a0.Certs v1_0).Key == (nth a1.Certs v1_0).Key) && (((nth a0.Certs v1_0).Owner == (nth a1.Certs v1_0).Owner) && (((nth a0.Certs v1_0).From == (nth a1.Certs v1_0).From) && (((nth a0.Certs v1_0).To == (nth a1.Certs v1_0).To) && (((nth a0.Certs v1_0).Issuer == (nth a1.Certs v1_0).Issuer) && ((nth a0.Certs v1_0).Mark == (nth a1.Certs v1_0).Mark)))))))) then (.inl false) else i_EqualWorlds_1 a0 a1 n1 (v1_0 + 1)) else (.inr ()))
def i_EqualWorlds (a0 : TWorld) (a1 : TWorld) : Bool := (bif ((((((((!(i_equalFrames a0.Frame a1.Frame)) || ((↑a0.Certs.length : Int) != (↑a1.Certs.length : Int))) || ((↑a0.Archives.length : Int) != (↑a1.Archives.length : Int))) || (!(i_EqualInts a0.Ended a1.Ended))) || (!(i_EqualInts a0.Seqs a1.Seqs))) || (!(i_EqualInts a0.Lying a1.Lying))) || (a0.Next != a1.Next)) || (!(i_EqualInts a0.Forged a1.Forged))) then false else (match i_EqualWorlds_1 a0 a1 (a0.Certs.length + 1) 0 with | .inl r1 => r1 | .inr _ => (match i_EqualWorlds_2 a0 a1 (a0.Archives.length + 1) 0 with | .inl r2 => r2 | .inr _ => true)))
def l_FnExactEqualWorlds (a0 : TWorld) (a1 : TWorld) : Bool := (bif (decide ((l_szWorld a0 1048576) < 0)) then true else (bif (decide ((l_szWorld a1 (l_szWorld a0 1048576)) < 0)) then true else (bif (!((i_EqualWorlds (l_toWorld a0) (l_toWorld a1)) == (s_EqualWorlds (l_toWorld a0) (l_toWorld a1)))) then false else (bif (!(l_eqWorld (l_toWorld a0) (l_toWorld a0))) then false else (bif (!(l_eqWorld (l_toWorld a1) (l_toWorld a1))) then false else true)))))
end Go.Mo
