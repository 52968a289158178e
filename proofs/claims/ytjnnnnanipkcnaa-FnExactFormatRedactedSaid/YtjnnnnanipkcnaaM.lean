/- Models of the functions: what each computes, on typed data. No condition. -/
import Derived.Test.YtjnnnnanipkcnaaMo
namespace Go.Mo
open Go.Vm
def l_szIntS (a0 : List Int) (a1 : Int) : Int := (bif (decide ((W (a1 - (↑a0.length : Int))) < 0)) then (-1) else (W (a1 - (↑a0.length : Int))))
def l_szBoolS (a0 : List Bool) (a1 : Int) : Int := (bif (decide ((W (a1 - (↑a0.length : Int))) < 0)) then (-1) else (W (a1 - (↑a0.length : Int))))
def l_szStringS_1 (a0 : List ByteArray) : Nat → Int → Nat → Sum Int Int
  | 0, _, _ => .inr default
  | n1 + 1, v1_0, v1_1 => (bif (decide ((↑v1_1 : Int) < (↑a0.length : Int))) then (bif (decide ((W (v1_0 - (↑(nth a0 v1_1).size : Int))) < 0)) then (.inl (-1)) else l_szStringS_1 a0 n1 (W (v1_0 - (↑(nth a0 v1_1).size : Int))) (v1_1 + 1)) else (.inr v1_0))
def l_szStringS (a0 : List ByteArray) (a1 : Int) : Int := (bif (decide ((W (a1 - (↑a0.length : Int))) < 0)) then (-1) else (match l_szStringS_1 a0 (a0.length + 1) (W (a1 - (↑a0.length : Int))) 0 with | .inl r1 => r1 | .inr z1_0 => z1_0))
def l_szIntSS_1 (a0 : List (List Int)) : Nat → Int → Nat → Sum Int Int
  | 0, _, _ => .inr default
  | n1 + 1, v1_0, v1_1 => (bif (decide ((↑v1_1 : Int) < (↑a0.length : Int))) then (bif (decide ((l_szIntS (nth a0 v1_1) v1_0) < 0)) then (.inl (-1)) else l_szIntSS_1 a0 n1 (l_szIntS (nth a0 v1_1) v1_0) (v1_1 + 1)) else (.inr v1_0))
def l_szIntSS (a0 : List (List Int)) (a1 : Int) : Int := (bif (decide ((W (a1 - (↑a0.length : Int))) < 0)) then (-1) else (match l_szIntSS_1 a0 (a0.length + 1) (W (a1 - (↑a0.length : Int))) 0 with | .inl r1 => r1 | .inr z1_0 => z1_0))
def l_szRedacted (a0 : TRedacted) (a1 : Int) : Int := (bif (decide ((l_szIntS a0.Methods a1) < 0)) then (-1) else (bif (decide ((l_szBoolS a0.Shown (l_szIntS a0.Methods a1)) < 0)) then (-1) else (bif (decide ((l_szStringS a0.Parts (l_szBoolS a0.Shown (l_szIntS a0.Methods a1))) < 0)) then (-1) else (bif (decide ((l_szIntS a0.Salts (l_szStringS a0.Parts (l_szBoolS a0.Shown (l_szIntS a0.Methods a1)))) < 0)) then (-1) else (bif (decide ((l_szIntSS a0.Digests (l_szIntS a0.Salts (l_szStringS a0.Parts (l_szBoolS a0.Shown (l_szIntS a0.Methods a1))))) < 0)) then (-1) else (l_szIntSS a0.Digests (l_szIntS a0.Salts (l_szStringS a0.Parts (l_szBoolS a0.Shown (l_szIntS a0.Methods a1))))))))))
def l_toIntS_1 (a0 : List Int) : Nat → Nat → List Int → (List Int)
  | 0, _, _ => default
  | n1 + 1, v1_0, v1_1 => (bif (decide ((↑v1_0 : Int) < (↑a0.length : Int))) then l_toIntS_1 a0 n1 (v1_0 + 1) (v1_1.set v1_0 (nth a0 v1_0)) else (v1_1))
def l_toIntS (a0 : List Int) : List Int := (match l_toIntS_1 a0 (a0.length + 1) 0 (List.replicate a0.length 0) with | z1_0 => z1_0)
def l_toBoolS_1 (a0 : List Bool) : Nat → Nat → List Bool → (List Bool)
  | 0, _, _ => default
  | n1 + 1, v1_0, v1_1 => (bif (decide ((↑v1_0 : Int) < (↑a0.length : Int))) then l_toBoolS_1 a0 n1 (v1_0 + 1) (v1_1.set v1_0 (nth a0 v1_0)) else (v1_1))
def l_toBoolS (a0 : List Bool) : List Bool := (match l_toBoolS_1 a0 (a0.length + 1) 0 (List.replicate a0.length false) with | z1_0 => z1_0)
def l_toStringS_1 (a0 : List ByteArray) : Nat → Nat → List ByteArray → (List ByteArray)
  | 0, _, _ => default
  | n1 + 1, v1_0, v1_1 => (bif (decide ((↑v1_0 : Int) < (↑a0.length : Int))) then l_toStringS_1 a0 n1 (v1_0 + 1) (v1_1.set v1_0 (nth a0 v1_0)) else (v1_1))
def l_toStringS (a0 : List ByteArray) : List ByteArray := (match l_toStringS_1 a0 (a0.length + 1) 0 (List.replicate a0.length (⟨#[]⟩ : ByteArray)) with | z1_0 => z1_0)
def l_toIntSS_1 (a0 : List (List Int)) : Nat → Nat → List (List Int) → (List (List Int))
  | 0, _, _ => default
  | n1 + 1, v1_0, v1_1 => (bif (decide ((↑v1_0 : Int) < (↑a0.length : Int))) then l_toIntSS_1 a0 n1 (v1_0 + 1) (v1_1.set v1_0 (l_toIntS (nth a0 v1_0))) else (v1_1))
def l_toIntSS (a0 : List (List Int)) : List (List Int) := (match l_toIntSS_1 a0 (a0.length + 1) 0 (List.replicate a0.length ([] : List Int)) with | z1_0 => z1_0)
def l_toRedacted (a0 : TRedacted) : TRedacted := (TRedacted.mk a0.Title (l_toIntS a0.Methods) (l_toBoolS a0.Shown) (l_toStringS a0.Parts) (l_toIntS a0.Salts) (l_toIntSS a0.Digests))
def s_FormatInt_1 : Nat → ByteArray → Int → ByteArray
  | 0, _, _ => default
  | n1 + 1, v1_0, v1_1 => (bif (v1_1 != 0) then (bif (decide ((Int.tmod v1_1 10) < 0)) then s_FormatInt_1 n1 ((⟨([(UInt8.ofInt (W (48 + (W (-(Int.tmod v1_1 10))))))] : List UInt8).toArray⟩ : ByteArray) ++ v1_0) (W (Int.tdiv v1_1 10)) else s_FormatInt_1 n1 ((⟨([(UInt8.ofInt (W (48 + (Int.tmod v1_1 10))))] : List UInt8).toArray⟩ : ByteArray) ++ v1_0) (W (Int.tdiv v1_1 10))) else (v1_0))
def s_FormatInt (a0 : Int) : ByteArray := (bif (a0 == 0) then (⟨#[48]⟩ : ByteArray) else (match s_FormatInt_1 22 (⟨#[]⟩ : ByteArray) a0 with | z1_0 => (bif (decide (a0 < 0)) then ((⟨#[45]⟩ : ByteArray) ++ z1_0) else z1_0)))
def s_FormatRedacted_1 (a0 : TRedacted) : Nat → ByteArray → Nat → ByteArray
  | 0, _, _ => default
  | n1 + 1, v1_0, v1_1 => (bif (decide ((↑v1_1 : Int) < (↑a0.Shown.length : Int))) then (bif (!(nth a0.Shown v1_1)) then s_FormatRedacted_1 a0 n1 (v1_0 ++ (⟨#[32, 42]⟩ : ByteArray)) (v1_1 + 1) else (bif (decide ((↑v1_1 : Int) < (↑a0.Parts.length : Int))) then s_FormatRedacted_1 a0 n1 (((v1_0 ++ (⟨#[32, 91]⟩ : ByteArray)) ++ (nth a0.Parts v1_1)) ++ (⟨#[93]⟩ : ByteArray)) (v1_1 + 1) else s_FormatRedacted_1 a0 n1 (v1_0 ++ (⟨#[32, 91, 93]⟩ : ByteArray)) (v1_1 + 1))) else (v1_0))
def s_FormatRedacted (a0 : TRedacted) : ByteArray := (match s_FormatRedacted_1 a0 (a0.Shown.length + 1) (s_FormatInt a0.Title) 0 with | z1_0 => z1_0)
def i_FormatInt_1 : Nat → Int → List UInt8 → (List UInt8)
  | 0, _, _ => default
  | n1 + 1, v1_0, v1_1 => (bif (decide ((Int.tmod v1_0 10) < 0)) then (bif ((W (Int.tdiv v1_0 10)) == 0) then ((([(UInt8.ofInt (W (48 + (W (-(Int.tmod v1_0 10))))))] : List UInt8) ++ v1_1)) else i_FormatInt_1 n1 (W (Int.tdiv v1_0 10)) (([(UInt8.ofInt (W (48 + (W (-(Int.tmod v1_0 10))))))] : List UInt8) ++ v1_1)) else (bif ((W (Int.tdiv v1_0 10)) == 0) then ((([(UInt8.ofInt (W (48 + (Int.tmod v1_0 10))))] : List UInt8) ++ v1_1)) else i_FormatInt_1 n1 (W (Int.tdiv v1_0 10)) (([(UInt8.ofInt (W (48 + (Int.tmod v1_0 10))))] : List UInt8) ++ v1_1)))
def i_FormatInt (a0 : Int) : ByteArray := (match i_FormatInt_1 21 a0 ([] : List UInt8) with | z1_0 => (bif (decide (a0 < 0)) then ((⟨#[45]⟩ : ByteArray) ++ (⟨z1_0.toArray⟩ : ByteArray)) else (⟨z1_0.toArray⟩ : ByteArray)))
def i_FormatRedacted_1 (a0 : TRedacted) : Nat → ByteArray → Nat → ByteArray
  | 0, _, _ => default
  | n1 + 1, v1_0, v1_1 => (bif (decide ((↑v1_1 : Int) < (↑a0.Shown.length : Int))) then (bif (!(nth a0.Shown v1_1)) then i_FormatRedacted_1 a0 n1 (v1_0 ++ (⟨#[32, 42]⟩ : ByteArray)) (v1_1 + 1) else (bif (decide ((↑v1_1 : Int) < (↑a0.Parts.length : Int))) then i_FormatRedacted_1 a0 n1 (v1_0 ++ (((⟨#[32, 91]⟩ : ByteArray) ++ (nth a0.Parts v1_1)) ++ (⟨#[93]⟩ : ByteArray))) (v1_1 + 1) else i_FormatRedacted_1 a0 n1 (v1_0 ++ (⟨#[32, 91, 93]⟩ : ByteArray)) (v1_1 + 1))) else (v1_0))
def i_FormatRedacted (a0 : TRedacted) : ByteArray := (match i_FormatRedacted_1 a0 (a0.Shown.length + 1) (i_FormatInt a0.Title) 0 with | z1_0 => z1_0)
def l_eqIntS_1 (a0 : List Int) (a1 : List Int) : Nat → Nat → Sum Bool Unit
  | 0, _ => .inr ()
  | n1 + 1, v1_0 => (bif (decide ((↑v1_0 : Int) < (↑a0.length : Int))) then (bif ((nth a0 v1_0) != (nth a1 v1_0)) then (.inl false) else l_eqIntS_1 a0 a1 n1 (v1_0 + 1)) else (.inr ()))
def l_eqIntS (a0 : List Int) (a1 : List Int) : Bool := (bif ((↑a0.length : Int) != (↑a1.length : Int)) then false else (match l_eqIntS_1 a0 a1 (a0.length + 1) 0 with | .inl r1 => r1 | .inr _ => true))
def l_eqBoolS_1 (a0 : List Bool) (a1 : List Bool) : Nat → Nat → Sum Bool Unit
  | 0, _ => .inr ()
  | n1 + 1, v1_0 => (bif (decide ((↑v1_0 : Int) < (↑a0.length : Int))) then (bif (!((nth a0 v1_0) == (nth a1 v1_0))) then (.inl false) else l_eqBoolS_1 a0 a1 n1 (v1_0 + 1)) else (.inr ()))
def l_eqBoolS (a0 : List Bool) (a1 : List Bool) : Bool := (bif ((↑a0.length : Int) != (↑a1.length : Int)) then false else (match l_eqBoolS_1 a0 a1 (a0.length + 1) 0 with | .inl r1 => r1 | .inr _ => true))
def l_eqStringS_1 (a0 : List ByteArray) (a1 : List ByteArray) : Nat → Nat → Sum Bool Unit
  | 0, _ => .inr ()
  | n1 + 1, v1_0 => (bif (decide ((↑v1_0 : Int) < (↑a0.length : Int))) then (bif (!decide ((nth a0 v1_0) = (nth a1 v1_0))) then (.inl false) else l_eqStringS_1 a0 a1 n1 (v1_0 + 1)) else (.inr ()))
def l_eqStringS (a0 : List ByteArray) (a1 : List ByteArray) : Bool := (bif ((↑a0.length : Int) != (↑a1.length : Int)) then false else (match l_eqStringS_1 a0 a1 (a0.length + 1) 0 with | .inl r1 => r1 | .inr _ => true))
def l_eqIntSS_1 (a0 : List (List Int)) (a1 : List (List Int)) : Nat → Nat → Sum Bool Unit
  | 0, _ => .inr ()
  | n1 + 1, v1_0 => (bif (decide ((↑v1_0 : Int) < (↑a0.length : Int))) then (bif (!(l_eqIntS (nth a0 v1_0) (nth a1 v1_0))) then (.inl false) else l_eqIntSS_1 a0 a1 n1 (v1_0 + 1)) else (.inr ()))
def l_eqIntSS (a0 : List (List Int)) (a1 : List (List Int)) : Bool := (bif ((↑a0.length : Int) != (↑a1.length : Int)) then false else (match l_eqIntSS_1 a0 a1 (a0.length + 1) 0 with | .inl r1 => r1 | .inr _ => true))
def l_eqRedacted (a0 : TRedacted) (a1 : TRedacted) : Bool := (bif (a0.Title != a1.Title) then false else (bif (!(l_eqIntS a0.Methods a1.Methods)) then false else (bif (!(l_eqBoolS a0.Shown a1.Shown)) then false else (bif (!(l_eqStringS a0.Parts a1.Parts)) then false else (bif (!(l_eqIntS a0.Salts a1.Salts)) then false else (bif (!(l_eqIntSS a0.Digests a1.Digests)) then false else true))))))
def l_FnExactFormatRedacted (a0 : TRedacted) : Bool := (bif (decide ((l_szRedacted a0 1048576) < 0)) then true else (bif (!decide ((i_FormatRedacted (l_toRedacted a0)) = (s_FormatRedacted (l_toRedacted a0)))) then false else (bif (!(l_eqRedacted (l_toRedacted a0) (l_toRedacted a0))) then false else true)))
end Go.Mo
