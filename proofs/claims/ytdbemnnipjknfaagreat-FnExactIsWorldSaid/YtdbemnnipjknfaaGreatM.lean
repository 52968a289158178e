/- Models of the functions: what each computes, on typed data. No condition. -/
import Derived.Test.YtdbemnnipjknfaaGreatMo
namespace Go.Mo
open Go.Vm
def l_szKeyS (a0 : List TKey) (a1 : Int) : Int := (bif (decide ((W (a1 - (↑a0.length : Int))) < 0)) then (-1) else (W (a1 - (↑a0.length : Int))))
def l_szAuthorityS (a0 : List TAuthority) (a1 : Int) : Int := (bif (decide ((W (a1 - (↑a0.length : Int))) < 0)) then (-1) else (W (a1 - (↑a0.length : Int))))
def l_szMethodS (a0 : List TMethod) (a1 : Int) : Int := (bif (decide ((W (a1 - (↑a0.length : Int))) < 0)) then (-1) else (W (a1 - (↑a0.length : Int))))
def l_szFrame (a0 : TFrame) (a1 : Int) : Int := (bif (decide ((l_szKeyS a0.Keys a1) < 0)) then (-1) else (bif (decide ((l_szAuthorityS a0.Authorities (l_szKeyS a0.Keys a1)) < 0)) then (-1) else (bif (decide ((l_szMethodS a0.Methods (l_szAuthorityS a0.Authorities (l_szKeyS a0.Keys a1))) < 0)) then (-1) else (l_szMethodS a0.Methods (l_szAuthorityS a0.Authorities (l_szKeyS a0.Keys a1))))))
def l_szCertS (a0 : List TCert) (a1 : Int) : Int := (bif (decide ((W (a1 - (↑a0.length : Int))) < 0)) then (-1) else (W (a1 - (↑a0.length : Int))))
def l_szIntS (a0 : List Int) (a1 : Int) : Int := (bif (decide ((W (a1 - (↑a0.length : Int))) < 0)) then (-1) else (W (a1 - (↑a0.length : Int))))
def l_szStringS_1 (a0 : List ByteArray) : Nat → Int → Nat → Sum Int Int
  | 0, _, _ => .inr default
  | n1 + 1, v1_0, v1_1 => (bif (decide ((↑v1_1 : Int) < (↑a0.length : Int))) then (bif (decide ((W (v1_0 - (↑(nth a0 v1_1).size : Int))) < 0)) then (.inl (-1)) else l_szStringS_1 a0 n1 (W (v1_0 - (↑(nth a0 v1_1).size : Int))) (v1_1 + 1)) else (.inr v1_0))
def l_szStringS (a0 : List ByteArray) (a1 : Int) : Int := (bif (decide ((W (a1 - (↑a0.length : Int))) < 0)) then (-1) else (match l_szStringS_1 a0 (a0.length + 1) (W (a1 - (↑a0.length : Int))) 0 with | .inl r1 => r1 | .inr z1_0 => z1_0))
def l_szDocument (a0 : TDocument) (a1 : Int) : Int := (bif (decide ((l_szStringS a0.Parts a1) < 0)) then (-1) else (bif (decide ((l_szIntS a0.Salts (l_szStringS a0.Parts a1)) < 0)) then (-1) else (l_szIntS a0.Salts (l_szStringS a0.Parts a1))))
def l_szPiece (a0 : TPiece) (a1 : Int) : Int := (bif (decide ((l_szIntS a0.Ints a1) < 0)) then (-1) else (l_szIntS a0.Ints a1))
def l_szPieceS_1 (a0 : List TPiece) : Nat → Int → Nat → Sum Int Int
  | 0, _, _ => .inr default
  | n1 + 1, v1_0, v1_1 => (bif (decide ((↑v1_1 : Int) < (↑a0.length : Int))) then (bif (decide ((l_szPiece (nth a0 v1_1) v1_0) < 0)) then (.inl (-1)) else l_szPieceS_1 a0 n1 (l_szPiece (nth a0 v1_1) v1_0) (v1_1 + 1)) else (.inr v1_0))
def l_szPieceS (a0 : List TPiece) (a1 : Int) : Int := (bif (decide ((W (a1 - (↑a0.length : Int))) < 0)) then (-1) else (match l_szPieceS_1 a0 (a0.length + 1) (W (a1 - (↑a0.length : Int))) 0 with | .inl r1 => r1 | .inr z1_0 => z1_0))
def l_szStepS (a0 : List TStep) (a1 : Int) : Int := (bif (decide ((W (a1 - (↑a0.length : Int))) < 0)) then (-1) else (W (a1 - (↑a0.length : Int))))
def l_szStampS (a0 : List TStamp) (a1 : Int) : Int := (bif (decide ((W (a1 - (↑a0.length : Int))) < 0)) then (-1) else (W (a1 - (↑a0.length : Int))))
def l_szRenewal (a0 : TRenewal) (a1 : Int) : Int := (bif (decide ((l_szStepS a0.Path a1) < 0)) then (-1) else (bif (decide ((l_szStampS a0.Stamps (l_szStepS a0.Path a1)) < 0)) then (-1) else (l_szStampS a0.Stamps (l_szStepS a0.Path a1))))
def l_szRenewalS_1 (a0 : List TRenewal) : Nat → Int → Nat → Sum Int Int
  | 0, _, _ => .inr default
  | n1 + 1, v1_0, v1_1 => (bif (decide ((↑v1_1 : Int) < (↑a0.length : Int))) then (bif (decide ((l_szRenewal (nth a0 v1_1) v1_0) < 0)) then (.inl (-1)) else l_szRenewalS_1 a0 n1 (l_szRenewal (nth a0 v1_1) v1_0) (v1_1 + 1)) else (.inr v1_0))
def l_szRenewalS (a0 : List TRenewal) (a1 : Int) : Int := (bif (decide ((W (a1 - (↑a0.length : Int))) < 0)) then (-1) else (match l_szRenewalS_1 a0 (a0.length + 1) (W (a1 - (↑a0.length : Int))) 0 with | .inl r1 => r1 | .inr z1_0 => z1_0))
def l_szStrand (a0 : TStrand) (a1 : Int) : Int := (bif (decide ((l_szPieceS a0.Pieces a1) < 0)) then (-1) else (bif (decide ((l_szRenewalS a0.Chain (l_szPieceS a0.Pieces a1)) < 0)) then (-1) else (l_szRenewalS a0.Chain (l_szPieceS a0.Pieces a1))))
def l_szItem (a0 : TItem) (a1 : Int) : Int := (bif (decide ((l_szDocument a0.Doc a1) < 0)) then (-1) else (bif (decide ((l_szStrand a0.Strand (l_szDocument a0.Doc a1)) < 0)) then (-1) else (l_szStrand a0.Strand (l_szDocument a0.Doc a1))))
def l_szItemS_1 (a0 : List TItem) : Nat → Int → Nat → Sum Int Int
  | 0, _, _ => .inr default
  | n1 + 1, v1_0, v1_1 => (bif (decide ((↑v1_1 : Int) < (↑a0.length : Int))) then (bif (decide ((l_szItem (nth a0 v1_1) v1_0) < 0)) then (.inl (-1)) else l_szItemS_1 a0 n1 (l_szItem (nth a0 v1_1) v1_0) (v1_1 + 1)) else (.inr v1_0))
def l_szItemS (a0 : List TItem) (a1 : Int) : Int := (bif (decide ((W (a1 - (↑a0.length : Int))) < 0)) then (-1) else (match l_szItemS_1 a0 (a0.length + 1) (W (a1 - (↑a0.length : Int))) 0 with | .inl r1 => r1 | .inr z1_0 => z1_0))
def l_szArchive (a0 : TArchive) (a1 : Int) : Int := (bif (decide ((l_szItemS a0.Items a1) < 0)) then (-1) else (l_szItemS a0.Items a1))
def l_szArchiveS_1 (a0 : List TArchive) : Nat → Int → Nat → Sum Int Int
  | 0, _, _ => .inr default
  | n1 + 1, v1_0, v1_1 => (bif (decide ((↑v1_1 : Int) < (↑a0.length : Int))) then (bif (decide ((l_szArchive (nth a0 v1_1) v1_0) < 0)) then (.inl (-1)) else l_szArchiveS_1 a0 n1 (l_szArchive (nth a0 v1_1) v1_0) (v1_1 + 1)) else (.inr v1_0))
def l_szArchiveS (a0 : List TArchive) (a1 : Int) : Int := (bif (decide ((W (a1 - (↑a0.length : Int))) < 0)) then (-1) else (match l_szArchiveS_1 a0 (a0.length + 1) (W (a1 - (↑a0.length : Int))) 0 with | .inl r1 => r1 | .inr z1_0 => z1_0))
def l_szWorld (a0 : TWorld) (a1 : Int) : Int := (bif (decide ((l_szFrame a0.Frame a1) < 0)) then (-1) else (bif (decide ((l_szCertS a0.Certs (l_szFrame a0.Frame a1)) < 0)) then (-1) else (bif (decide ((l_szIntS a0.Ended (l_szCertS a0.Certs (l_szFrame a0.Frame a1))) < 0)) then (-1) else (bif (decide ((l_szArchiveS a0.Archives (l_szIntS a0.Ended (l_szCertS a0.Certs (l_szFrame a0.Frame a1)))) < 0)) then (-1) else (bif (decide ((l_szIntS a0.Seqs (l_szArchiveS a0.Archives (l_szIntS a0.Ended (l_szCertS a0.Certs (l_szFrame a0.Frame a1))))) < 0)) then (-1) else (bif (decide ((l_szIntS a0.Lying (l_szIntS a0.Seqs (l_szArchiveS a0.Archives (l_szIntS a0.Ended (l_szCertS a0.Certs (l_szFrame a0.Frame a1)))))) < 0)) then (-1) else (bif (decide ((l_szIntS a0.Forged (l_szIntS a0.Lying (l_szIntS a0.Seqs (l_szArchiveS a0.Archives (l_szIntS a0.Ended (l_szCertS a0.Certs (l_szFrame a0.Frame a1))))))) < 0)) then (-1) else (l_szIntS a0.Forged (l_szIntS a0.Lying (l_szIntS a0.Seqs (l_szArchiveS a0.Archives (l_szIntS a0.Ended (l_szCertS a0.Certs (l_szFrame a0.Frame a1))))))))))))))
def l_toKey (a0 : TKey) : TKey := a0
def l_toKeyS_1 (a0 : List TKey) : Nat → Nat → List TKey → (List TKey)
  | 0, _, _ => default
  | n1 + 1, v1_0, v1_1 => (bif (decide ((↑v1_0 : Int) < (↑a0.length : Int))) then l_toKeyS_1 a0 n1 (v1_0 + 1) (v1_1.set v1_0 (l_toKey (nth a0 v1_0))) else (v1_1))
def l_toKeyS (a0 : List TKey) : List TKey := (match l_toKeyS_1 a0 (a0.length + 1) 0 (List.replicate a0.length (TKey.mk 0 0 0 0 0)) with | z1_0 => z1_0)
def l_toAuthority (a0 : TAuthority) : TAuthority := a0
def l_toAuthorityS_1 (a0 : List TAuthority) : Nat → Nat → List TAuthority → (List TAuthority)
  | 0, _, _ => default
  | n1 + 1, v1_0, v1_1 => (bif (decide ((↑v1_0 : Int) < (↑a0.length : Int))) then l_toAuthorityS_1 a0 n1 (v1_0 + 1) (v1_1.set v1_0 (l_toAuthority (nth a0 v1_0))) else (v1_1))
def l_toAuthorityS (a0 : List TAuthority) : List TAuthority := (match l_toAuthorityS_1 a0 (a0.length + 1) 0 (List.replicate a0.length (TAuthority.mk 0 0 0)) with | z1_0 => z1_0)
def l_toMethod (a0 : TMethod) : TMethod := a0
def l_toMethodS_1 (a0 : List TMethod) : Nat → Nat → List TMethod → (List TMethod)
  | 0, _, _ => default
  | n1 + 1, v1_0, v1_1 => (bif (decide ((↑v1_0 : Int) < (↑a0.length : Int))) then l_toMethodS_1 a0 n1 (v1_0 + 1) (v1_1.set v1_0 (l_toMethod (nth a0 v1_0))) else (v1_1))
def l_toMethodS (a0 : List TMethod) : List TMethod := (match l_toMethodS_1 a0 (a0.length + 1) 0 (List.replicate a0.length (TMethod.mk 0 0 0 0)) with | z1_0 => z1_0)
def l_toFrame (a0 : TFrame) : TFrame := (TFrame.mk (l_toKeyS a0.Keys) (l_toAuthorityS a0.Authorities) (l_toMethodS a0.Methods) a0.Liars a0.Now)
def l_toCert (a0 : TCert) : TCert := a0
def l_toCertS_1 (a0 : List TCert) : Nat → Nat → List TCert → (List TCert)
  | 0, _, _ => default
  | n1 + 1, v1_0, v1_1 => (bif (decide ((↑v1_0 : Int) < (↑a0.length : Int))) then l_toCertS_1 a0 n1 (v1_0 + 1) (v1_1.set v1_0 (l_toCert (nth a0 v1_0))) else (v1_1))
def l_toCertS (a0 : List TCert) : List TCert := (match l_toCertS_1 a0 (a0.length + 1) 0 (List.replicate a0.length (TCert.mk 0 0 0 0 0 0 0)) with | z1_0 => z1_0)
def l_toIntS_1 (a0 : List Int) : Nat → Nat → List Int → (List Int)
  | 0, _, _ => default
  | n1 + 1, v1_0, v1_1 => (bif (decide ((↑v1_0 : Int) < (↑a0.length : Int))) then l_toIntS_1 a0 n1 (v1_0 + 1) (v1_1.set v1_0 (nth a0 v1_0)) else (v1_1))
def l_toIntS (a0 : List Int) : List Int := (match l_toIntS_1 a0 (a0.length + 1) 0 (List.replicate a0.length 0) with | z1_0 => z1_0)
def l_toStringS_1 (a0 : List ByteArray) : Nat → Nat → List ByteArray → (List ByteArray)
  | 0, _, _ => default
  | n1 + 1, v1_0, v1_1 => (bif (decide ((↑v1_0 : Int) < (↑a0.length : Int))) then l_toStringS_1 a0 n1 (v1_0 + 1) (v1_1.set v1_0 (nth a0 v1_0)) else (v1_1))
def l_toStringS (a0 : List ByteArray) : List ByteArray := (match l_toStringS_1 a0 (a0.length + 1) 0 (List.replicate a0.length (⟨#[]⟩ : ByteArray)) with | z1_0 => z1_0)
def l_toDocument (a0 : TDocument) : TDocument := (TDocument.mk a0.Title (l_toStringS a0.Parts) (l_toIntS a0.Salts))
def l_toSignature (a0 : TSignature) : TSignature := a0
def l_toPiece (a0 : TPiece) : TPiece := (TPiece.mk a0.Key (l_toIntS a0.Ints) a0.Mark)
def l_toPieceS_1 (a0 : List TPiece) : Nat → Nat → List TPiece → (List TPiece)
  | 0, _, _ => default
  | n1 + 1, v1_0, v1_1 => (bif (decide ((↑v1_0 : Int) < (↑a0.length : Int))) then l_toPieceS_1 a0 n1 (v1_0 + 1) (v1_1.set v1_0 (l_toPiece (nth a0 v1_0))) else (v1_1))
def l_toPieceS (a0 : List TPiece) : List TPiece := (match l_toPieceS_1 a0 (a0.length + 1) 0 (List.replicate a0.length (TPiece.mk 0 ([] : List Int) 0)) with | z1_0 => z1_0)
def l_toStep (a0 : TStep) : TStep := a0
def l_toStepS_1 (a0 : List TStep) : Nat → Nat → List TStep → (List TStep)
  | 0, _, _ => default
  | n1 + 1, v1_0, v1_1 => (bif (decide ((↑v1_0 : Int) < (↑a0.length : Int))) then l_toStepS_1 a0 n1 (v1_0 + 1) (v1_1.set v1_0 (l_toStep (nth a0 v1_0))) else (v1_1))
def l_toStepS (a0 : List TStep) : List TStep := (match l_toStepS_1 a0 (a0.length + 1) 0 (List.replicate a0.length (TStep.mk 0 false)) with | z1_0 => z1_0)
def l_toStamp (a0 : TStamp) : TStamp := a0
def l_toStampS_1 (a0 : List TStamp) : Nat → Nat → List TStamp → (List TStamp)
  | 0, _, _ => default
  | n1 + 1, v1_0, v1_1 => (bif (decide ((↑v1_0 : Int) < (↑a0.length : Int))) then l_toStampS_1 a0 n1 (v1_0 + 1) (v1_1.set v1_0 (l_toStamp (nth a0 v1_0))) else (v1_1))
def l_toStampS (a0 : List TStamp) : List TStamp := (match l_toStampS_1 a0 (a0.length + 1) 0 (List.replicate a0.length (TStamp.mk 0 0 0 0 0)) with | z1_0 => z1_0)
def l_toRenewal (a0 : TRenewal) : TRenewal := (TRenewal.mk a0.Count a0.Method a0.Root (l_toStepS a0.Path) (l_toStampS a0.Stamps))
def l_toRenewalS_1 (a0 : List TRenewal) : Nat → Nat → List TRenewal → (List TRenewal)
  | 0, _, _ => default
  | n1 + 1, v1_0, v1_1 => (bif (decide ((↑v1_0 : Int) < (↑a0.length : Int))) then l_toRenewalS_1 a0 n1 (v1_0 + 1) (v1_1.set v1_0 (l_toRenewal (nth a0 v1_0))) else (v1_1))
def l_toRenewalS (a0 : List TRenewal) : List TRenewal := (match l_toRenewalS_1 a0 (a0.length + 1) 0 (List.replicate a0.length (TRenewal.mk 0 0 0 ([] : List TStep) ([] : List TStamp))) with | z1_0 => z1_0)
def l_toStrand (a0 : TStrand) : TStrand := (TStrand.mk (l_toPieceS a0.Pieces) (l_toRenewalS a0.Chain))
def l_toItem (a0 : TItem) : TItem := (TItem.mk a0.Id a0.Keep (TDocument.mk (l_toDocument a0.Doc).Title (l_toDocument a0.Doc).Parts (l_toDocument a0.Doc).Salts) (l_toSignature a0.Sig) (TStrand.mk (l_toStrand a0.Strand).Pieces (l_toStrand a0.Strand).Chain))
def l_toItemS_1 (a0 : List TItem) : Nat → Nat → List TItem → (List TItem)
  | 0, _, _ => default
  | n1 + 1, v1_0, v1_1 => (bif (decide ((↑v1_0 : Int) < (↑a0.length : Int))) then l_toItemS_1 a0 n1 (v1_0 + 1) (v1_1.set v1_0 (l_toItem (nth a0 v1_0))) else (v1_1))
def l_toItemS (a0 : List TItem) : List TItem := (match l_toItemS_1 a0 (a0.length + 1) 0 (List.replicate a0.length (TItem.mk 0 0 (TDocument.mk 0 ([] : List ByteArray) ([] : List Int)) (TSignature.mk 0 0 0 0 0 0 0 0 0) (TStrand.mk ([] : List TPiece) ([] : List TRenewal)))) with | z1_0 => z1_0)
def l_toArchive (a0 : TArchive) : TArchive := (TArchive.mk a0.Id (l_toItemS a0.Items))
def l_toArchiveS_1 (a0 : List TArchive) : Nat → Nat → List TArchive → (List TArchive)
  | 0, _, _ => default
  | n1 + 1, v1_0, v1_1 => (bif (decide ((↑v1_0 : Int) < (↑a0.length : Int))) then l_toArchiveS_1 a0 n1 (v1_0 + 1) (v1_1.set v1_0 (l_toArchive (nth a0 v1_0))) else (v1_1))
def l_toArchiveS (a0 : List TArchive) : List TArchive := (match l_toArchiveS_1 a0 (a0.length + 1) 0 (List.replicate a0.length (TArchive.mk 0 ([] : List TItem))) with | z1_0 => z1_0)
def l_toWorld (a0 : TWorld) : TWorld := (TWorld.mk (TFrame.mk (l_toFrame a0.Frame).Keys (l_toFrame a0.Frame).Authorities (l_toFrame a0.Frame).Methods (l_toFrame a0.Frame).Liars (l_toFrame a0.Frame).Now) (l_toCertS a0.Certs) (l_toIntS a0.Ended) (l_toArchiveS a0.Archives) (l_toIntS a0.Seqs) (l_toIntS a0.Lying) a0.Next (l_toIntS a0.Forged))
def s_FindAuthority_1 (a0 : List TAuthority) (a1 : Int) : Nat → Nat → Sum Int Unit
  | 0, _ => .inr ()
  | n1 + 1, v1_0 => (bif (decide ((↑v1_0 : Int) < (↑a0.length : Int))) then (bif ((nth a0 v1_0).Id == a1) then (.inl (↑v1_0 : Int)) else s_FindAuthority_1 a0 a1 n1 (v1_0 + 1)) else (.inr ()))
def s_FindAuthority (a0 : List TAuthority) (a1 : Int) : Int := (match s_FindAuthority_1 a0 a1 (a0.length + 1) 0 with | .inl r1 => r1 | .inr _ => (-1))
def s_l1In (a0 : Int) (a1 : Int) (a2 : Int) : Bool := ((decide (a0 ≥ a1)) && (decide (a0 ≤ a2)))
def s_l4Time (a0 : Int) : Bool := (s_l1In a0 0 10000)
def s_IsValidKey (a0 : Int) : Bool := (s_l1In a0 1 2147483646)
def s_IsKey (a0 : TKey) : Bool := (((((s_l1In a0.Number 1 99) && (s_l1In a0.Owner 0 99)) && (s_l1In a0.Method 0 99)) && (s_l4Time a0.Born)) && (s_IsValidKey a0.Secret))
def s_AreKeys_1 (a0 : List TKey) : Nat → Nat → Sum Bool Unit
  | 0, _ => .inr ()
  | n1 + 1, v1_0 => (bif (decide ((↑v1_0 : Int) < (↑a0.length : Int))) then (bif ((!(s_IsKey (nth a0 v1_0))) || ((decide ((↑v1_0 : Int) > 0)) && (decide ((nth a0 (v1_0 - 1)).Number ≥ (nth a0 v1_0).Number)))) then (.inl false) else s_AreKeys_1 a0 n1 (v1_0 + 1)) else (.inr ()))
def s_AreKeys (a0 : List TKey) : Bool := (match s_AreKeys_1 a0 (a0.length + 1) 0 with | .inl r1 => r1 | .inr _ => (decide ((↑a0.length : Int) ≤ 12)))
def s_AreAuthorities_1 (a0 : List TAuthority) : Nat → Nat → Sum Bool Unit
  | 0, _ => .inr ()
  | n1 + 1, v1_0 => (bif (decide ((↑v1_0 : Int) < (↑a0.length : Int))) then (bif ((((!(s_l1In (nth a0 v1_0).Id 0 99)) || (!(s_l1In (nth a0 v1_0).Key 1 99))) || (!(s_l1In (nth a0 v1_0).Error 0 100))) || ((decide ((↑v1_0 : Int) > 0)) && (decide ((nth a0 (v1_0 - 1)).Id ≥ (nth a0 v1_0).Id)))) then (.inl false) else s_AreAuthorities_1 a0 n1 (v1_0 + 1)) else (.inr ()))
def s_AreAuthorities (a0 : List TAuthority) : Bool := (match s_AreAuthorities_1 a0 (a0.length + 1) 0 with | .inl r1 => r1 | .inr _ => (decide ((↑a0.length : Int) ≤ 6)))
def s_IsMethod (a0 : TMethod) : Bool := ((((((s_l1In a0.Id 0 99) && (s_l4Time a0.Known)) && (s_l1In a0.Ends 1 10001)) && (s_l1In a0.Broken 1 10001)) && (decide (a0.Known < a0.Ends))) && (decide (a0.Known < a0.Broken)))
def s_AreMethods_1 (a0 : List TMethod) : Nat → Nat → Sum Bool Unit
  | 0, _ => .inr ()
  | n1 + 1, v1_0 => (bif (decide ((↑v1_0 : Int) < (↑a0.length : Int))) then (bif ((!(s_IsMethod (nth a0 v1_0))) || ((decide ((↑v1_0 : Int) > 0)) && (decide ((nth a0 (v1_0 - 1)).Id ≥ (nth a0 v1_0).Id)))) then (.inl false) else s_AreMethods_1 a0 n1 (v1_0 + 1)) else (.inr ()))
def s_AreMethods (a0 : List TMethod) : Bool := (match s_AreMethods_1 a0 (a0.length + 1) 0 with | .inl r1 => r1 | .inr _ => (decide ((↑a0.length : Int) ≤ 8)))
def s_IsFrame (a0 : TFrame) : Bool := (((((s_AreKeys a0.Keys) && (s_AreAuthorities a0.Authorities)) && (s_AreMethods a0.Methods)) && (s_l1In a0.Liars 0 6)) && (s_l4Time a0.Now))
def s_CertSpan (a0 : TCert) : TSpan := (TSpan.mk a0.From a0.To)
def s_IsSpan (a0 : TSpan) : Bool := (((s_l4Time a0.From) && (s_l4Time a0.To)) && (decide (a0.From ≤ a0.To)))
def s_IsCert (a0 : TCert) : Bool := ((((((s_l1In a0.Serial 1 999) && (s_l1In a0.Key 1 99)) && (s_l1In a0.Issuer 1 99)) && (a0.Key != a0.Issuer)) && (s_l1In a0.Owner 0 99)) && (s_IsSpan (s_CertSpan a0)))
def s_CertInts (a0 : TCert) : List Int := ([101, a0.Serial, a0.Key, a0.Owner, a0.From, a0.To, a0.Issuer] : List Int)
def s_FindKey_1 (a0 : List TKey) (a1 : Int) : Nat → Nat → Sum Int Unit
  | 0, _ => .inr ()
  | n1 + 1, v1_0 => (bif (decide ((↑v1_0 : Int) < (↑a0.length : Int))) then (bif ((nth a0 v1_0).Number == a1) then (.inl (↑v1_0 : Int)) else s_FindKey_1 a0 a1 n1 (v1_0 + 1)) else (.inr ()))
def s_FindKey (a0 : List TKey) (a1 : Int) : Int := (match s_FindKey_1 a0 a1 (a0.length + 1) 0 with | .inl r1 => r1 | .inr _ => (-1))
def s_Mod (a0 : Int) (a1 : Int) : Int := (bif (!(s_l1In a1 1 1000000000000)) then 0 else (Int.tmod (W ((Int.tmod a0 a1) + a1)) a1))
def s_Hash_1 (a0 : List Int) : Nat → Int → Nat → Int
  | 0, _, _ => default
  | n1 + 1, v1_0, v1_1 => (bif (decide ((↑v1_1 : Int) < (↑a0.length : Int))) then s_Hash_1 a0 n1 (Int.tmod (W ((W ((W (v1_0 * 1000003)) + (s_Mod (nth a0 v1_1) 2147483647))) + 13)) 2147483647) (v1_1 + 1) else (v1_0))
def s_Hash (a0 : List Int) : Int := (match s_Hash_1 a0 (a0.length + 1) 11 0 with | z1_0 => z1_0)
def s_KeyedHash (a0 : Int) (a1 : List Int) : Int := (s_Hash ((([a0] : List Int) ++ a1) ++ ([a0] : List Int)))
def s_MarkWith (a0 : TKey) (a1 : List Int) : Int := (s_KeyedHash a0.Secret (([a0.Method] : List Int) ++ a1))
def s_CheckMark (a0 : List TKey) (a1 : Int) (a2 : List Int) (a3 : Int) : Bool := ((decide ((s_FindKey a0 a1) ≥ 0)) && ((s_MarkWith (nth a0 (s_FindKey a0 a1).toNat) a2) == a3))
def s_OwnerOf (a0 : List TKey) (a1 : Int) : Int := (bif (decide ((s_FindKey a0 a1) < 0)) then (-1) else (nth a0 (s_FindKey a0 a1).toNat).Owner)
def s_CheckCert (a0 : List TKey) (a1 : TCert) : Bool := (((s_IsCert a1) && (s_CheckMark a0 a1.Issuer (s_CertInts a1) a1.Mark)) && ((s_OwnerOf a0 a1.Key) == a1.Owner))
def s_FindCert_1 (a0 : List TCert) (a1 : Int) : Nat → Nat → Sum Int Unit
  | 0, _ => .inr ()
  | n1 + 1, v1_0 => (bif (decide ((↑v1_0 : Int) < (↑a0.length : Int))) then (bif ((nth a0 v1_0).Serial == a1) then (.inl (↑v1_0 : Int)) else s_FindCert_1 a0 a1 n1 (v1_0 + 1)) else (.inr ()))
def s_FindCert (a0 : List TCert) (a1 : Int) : Int := (match s_FindCert_1 a0 a1 (a0.length + 1) 0 with | .inl r1 => r1 | .inr _ => (-1))
def s_l33Certs_2 (a0 : TWorld) : Nat → Nat → Sum Bool Unit
  | 0, _ => .inr ()
  | n2 + 1, v2_0 => (bif (decide ((↑v2_0 : Int) < (↑a0.Ended.length : Int))) then (bif (!(s_l1In (nth a0.Ended v2_0) (-1) 10001)) then (.inl false) else s_l33Certs_2 a0 n2 (v2_0 + 1)) else (.inr ()))
def s_l33Certs_1 (a0 : TWorld) : Nat → Nat → Sum Bool Unit
  | 0, _ => .inr ()
  | n1 + 1, v1_0 => (bif (decide ((↑v1_0 : Int) < (↑a0.Certs.length : Int))) then (bif ((!(s_CheckCert a0.Frame.Keys (nth a0.Certs v1_0))) || (decide ((s_FindCert a0.Certs (nth a0.Certs v1_0).Serial) < (↑v1_0 : Int)))) then (.inl false) else s_l33Certs_1 a0 n1 (v1_0 + 1)) else (.inr ()))
def s_l33Certs (a0 : TWorld) : Bool := (match s_l33Certs_1 a0 (a0.Certs.length + 1) 0 with | .inl r1 => r1 | .inr _ => (match s_l33Certs_2 a0 (a0.Ended.length + 1) 0 with | .inl r2 => r2 | .inr _ => ((↑a0.Ended.length : Int) == (↑a0.Certs.length : Int))))
def s_IsDocument_2 (a0 : TDocument) : Nat → Nat → Sum Bool Unit
  | 0, _ => .inr ()
  | n2 + 1, v2_0 => (bif (decide ((↑v2_0 : Int) < (↑a0.Salts.length : Int))) then (bif (!(s_l1In (nth a0.Salts v2_0) 1 1000000000000)) then (.inl false) else s_IsDocument_2 a0 n2 (v2_0 + 1)) else (.inr ()))
def s_IsDocument_1 (a0 : TDocument) : Nat → Nat → Sum Bool Unit
  | 0, _ => .inr ()
  | n1 + 1, v1_0 => (bif (decide ((↑v1_0 : Int) < (↑a0.Parts.length : Int))) then (bif (decide ((↑(nth a0.Parts v1_0).size : Int) > 40)) then (.inl false) else s_IsDocument_1 a0 n1 (v1_0 + 1)) else (.inr ()))
def s_IsDocument (a0 : TDocument) : Bool := (match s_IsDocument_1 a0 (a0.Parts.length + 1) 0 with | .inl r1 => r1 | .inr _ => (match s_IsDocument_2 a0 (a0.Salts.length + 1) 0 with | .inl r2 => r2 | .inr _ => (((s_l1In a0.Title 0 999) && (s_l1In (↑a0.Parts.length : Int) 1 6)) && ((↑a0.Salts.length : Int) == (↑a0.Parts.length : Int)))))
def s_EqualInts_1 (a0 : List Int) (a1 : List Int) : Nat → Nat → Sum Bool Unit
  | 0, _ => .inr ()
  | n1 + 1, v1_0 => (bif (decide ((↑v1_0 : Int) < (↑a0.length : Int))) then (bif ((nth a0 v1_0) != (nth a1 v1_0)) then (.inl false) else s_EqualInts_1 a0 a1 n1 (v1_0 + 1)) else (.inr ()))
def s_EqualInts (a0 : List Int) (a1 : List Int) : Bool := (bif ((↑a0.length : Int) != (↑a1.length : Int)) then false else (match s_EqualInts_1 a0 a1 (a0.length + 1) 0 with | .inl r1 => r1 | .inr _ => true))
def s_EqualPieces (a0 : TPiece) (a1 : TPiece) : Bool := (((a0.Key == a1.Key) && (a0.Mark == a1.Mark)) && (s_EqualInts a0.Ints a1.Ints))
def s_FindPiece_1 (a0 : TStrand) (a1 : TPiece) : Nat → Nat → Sum Int Unit
  | 0, _ => .inr ()
  | n1 + 1, v1_0 => (bif (decide ((↑v1_0 : Int) < (↑a0.Pieces.length : Int))) then (bif (s_EqualPieces (nth a0.Pieces v1_0) a1) then (.inl (↑v1_0 : Int)) else s_FindPiece_1 a0 a1 n1 (v1_0 + 1)) else (.inr ()))
def s_FindPiece (a0 : TStrand) (a1 : TPiece) : Int := (match s_FindPiece_1 a0 a1 (a0.Pieces.length + 1) 0 with | .inl r1 => r1 | .inr _ => (-1))
def s_IsStrand_2 (a0 : TStrand) : Nat → Nat → Sum Bool Unit
  | 0, _ => .inr ()
  | n2 + 1, v2_0 => (bif (decide ((↑v2_0 : Int) < (↑a0.Chain.length : Int))) then (bif ((!(s_l1In (nth a0.Chain v2_0).Count 1 (↑a0.Pieces.length : Int))) || ((decide ((↑v2_0 : Int) > 0)) && (decide ((nth a0.Chain (v2_0 - 1)).Count > (nth a0.Chain v2_0).Count)))) then (.inl false) else s_IsStrand_2 a0 n2 (v2_0 + 1)) else (.inr ()))
def s_IsStrand_1 (a0 : TStrand) : Nat → Nat → Sum Bool Unit
  | 0, _ => .inr ()
  | n1 + 1, v1_0 => (bif (decide ((↑v1_0 : Int) < (↑a0.Pieces.length : Int))) then (bif (decide ((s_FindPiece a0 (nth a0.Pieces v1_0)) < (↑v1_0 : Int))) then (.inl false) else s_IsStrand_1 a0 n1 (v1_0 + 1)) else (.inr ()))
def s_IsStrand (a0 : TStrand) : Bool := (match s_IsStrand_1 a0 (a0.Pieces.length + 1) 0 with | .inl r1 => r1 | .inr _ => (match s_IsStrand_2 a0 (a0.Chain.length + 1) 0 with | .inl r2 => r2 | .inr _ => ((s_l1In (↑a0.Pieces.length : Int) 1 12) && (decide ((↑a0.Chain.length : Int) ≤ 8)))))
def s_SignatureInts (a0 : TSignature) : List Int := ([104, a0.Key, a0.Serial, a0.Method, a0.Digest, a0.Commit, a0.Org, a0.Before, a0.After] : List Int)
def s_SignPiece (a0 : TSignature) : TPiece := (TPiece.mk a0.Key (s_SignatureInts a0) a0.Mark)
def s_IsItem (a0 : TItem) : Bool := (((((s_l1In a0.Id 1 999) && (s_l4Time a0.Keep)) && (s_IsDocument a0.Doc)) && (s_IsStrand a0.Strand)) && (s_EqualPieces (nth a0.Strand.Pieces 0) (s_SignPiece a0.Sig)))
def s_IsArchive_1 (a0 : TArchive) : Nat → Nat → Sum Bool Unit
  | 0, _ => .inr ()
  | n1 + 1, v1_0 => (bif (decide ((↑v1_0 : Int) < (↑a0.Items.length : Int))) then (bif ((!(s_IsItem (nth a0.Items v1_0))) || ((decide ((↑v1_0 : Int) > 0)) && (decide ((nth a0.Items (v1_0 - 1)).Id ≥ (nth a0.Items v1_0).Id)))) then (.inl false) else s_IsArchive_1 a0 n1 (v1_0 + 1)) else (.inr ()))
def s_IsArchive (a0 : TArchive) : Bool := (match s_IsArchive_1 a0 (a0.Items.length + 1) 0 with | .inl r1 => r1 | .inr _ => ((s_l1In a0.Id 0 99) && (decide ((↑a0.Items.length : Int) ≤ 8))))
def s_l7Has_1 (a0 : List Int) (a1 : Int) : Nat → Nat → Sum Bool Unit
  | 0, _ => .inr ()
  | n1 + 1, v1_0 => (bif (decide ((↑v1_0 : Int) < (↑a0.length : Int))) then (bif ((nth a0 v1_0) == a1) then (.inl true) else s_l7Has_1 a0 a1 n1 (v1_0 + 1)) else (.inr ()))
def s_l7Has (a0 : List Int) (a1 : Int) : Bool := (match s_l7Has_1 a0 a1 (a0.length + 1) 0 with | .inl r1 => r1 | .inr _ => false)
def s_l33Items_2 (a0 : TWorld) (v1_1 : Nat) : Nat → List Int → Nat → Sum Bool (List Int)
  | 0, _, _ => .inr default
  | n2 + 1, v2_0, v2_1 => (bif (decide ((↑v2_1 : Int) < (↑(nth a0.Archives v1_1).Items.length : Int))) then (bif ((s_l7Has v2_0 (nth (nth a0.Archives v1_1).Items v2_1).Id) || (decide ((nth (nth a0.Archives v1_1).Items v2_1).Id ≥ a0.Next))) then (.inl false) else s_l33Items_2 a0 v1_1 n2 (v2_0 ++ ([(nth (nth a0.Archives v1_1).Items v2_1).Id] : List Int)) (v2_1 + 1)) else (.inr v2_0))
def s_l33Items_3 (a0 : TWorld) (v1_1 : Nat) : Nat → List Int → Nat → Sum Bool (List Int)
  | 0, _, _ => .inr default
  | n3 + 1, v3_0, v3_1 => (bif (decide ((↑v3_1 : Int) < (↑(nth a0.Archives v1_1).Items.length : Int))) then (bif ((s_l7Has v3_0 (nth (nth a0.Archives v1_1).Items v3_1).Id) || (decide ((nth (nth a0.Archives v1_1).Items v3_1).Id ≥ a0.Next))) then (.inl false) else s_l33Items_3 a0 v1_1 n3 (v3_0 ++ ([(nth (nth a0.Archives v1_1).Items v3_1).Id] : List Int)) (v3_1 + 1)) else (.inr v3_0))
def s_l33Items_1 (a0 : TWorld) : Nat → List Int → Nat → Sum Bool Unit
  | 0, _, _ => .inr ()
  | n1 + 1, v1_0, v1_1 => (bif (decide ((↑v1_1 : Int) < (↑a0.Archives.length : Int))) then (bif ((!(s_IsArchive (nth a0.Archives v1_1))) || ((nth a0.Archives v1_1).Id != (↑v1_1 : Int))) then (.inl false) else (match s_l33Items_2 a0 v1_1 ((nth a0.Archives v1_1).Items.length + 1) v1_0 0 with | .inl r2 => .inl r2 | .inr z2_0 => s_l33Items_1 a0 n1 z2_0 (v1_1 + 1))) else (.inr ()))
def s_l33Items (a0 : TWorld) : Bool := (match s_l33Items_1 a0 (a0.Archives.length + 1) ([] : List Int) 0 with | .inl r1 => r1 | .inr _ => ((s_l1In (↑a0.Archives.length : Int) 1 4) && (decide (a0.Next ≥ 1))))
def s_IsWorld_3 (a0 : TWorld) : Nat → Nat → Sum Bool Unit
  | 0, _ => .inr ()
  | n3 + 1, v3_0 => (bif (decide ((↑v3_0 : Int) < (↑a0.Forged.length : Int))) then (bif (decide ((nth a0.Forged (v3_0 - 1)) ≥ (nth a0.Forged v3_0))) then (.inl false) else s_IsWorld_3 a0 n3 (v3_0 + 1)) else (.inr ()))
def s_IsWorld_2 (a0 : TWorld) : Nat → Nat → Sum Bool Unit
  | 0, _ => .inr ()
  | n2 + 1, v2_0 => (bif (decide ((↑v2_0 : Int) < (↑a0.Lying.length : Int))) then (bif ((decide ((s_FindAuthority a0.Frame.Authorities (nth a0.Lying v2_0)) < 0)) || ((decide ((↑v2_0 : Int) > 0)) && (decide ((nth a0.Lying (v2_0 - 1)) ≥ (nth a0.Lying v2_0))))) then (.inl false) else s_IsWorld_2 a0 n2 (v2_0 + 1)) else (.inr ()))
def s_IsWorld_1 (a0 : TWorld) : Nat → Nat → Sum Bool Unit
  | 0, _ => .inr ()
  | n1 + 1, v1_0 => (bif (decide ((↑v1_0 : Int) < (↑a0.Seqs.length : Int))) then (bif (decide ((nth a0.Seqs v1_0) < 0)) then (.inl false) else s_IsWorld_1 a0 n1 (v1_0 + 1)) else (.inr ()))
def s_IsWorld (a0 : TWorld) : Bool := (match s_IsWorld_1 a0 (a0.Seqs.length + 1) 0 with | .inl r1 => r1 | .inr _ => (match s_IsWorld_2 a0 (a0.Lying.length + 1) 0 with | .inl r2 => r2 | .inr _ => (match s_IsWorld_3 a0 (a0.Forged.length + 1) 1 with | .inl r3 => r3 | .inr _ => (((((s_IsFrame a0.Frame) && (s_l33Certs a0)) && (s_l33Items a0)) && ((↑a0.Seqs.length : Int) == (↑a0.Frame.Authorities.length : Int))) && (decide ((↑a0.Lying.length : Int) ≤ a0.Frame.Liars))))))
def i_InRange (a0 : Int) (a1 : Int) (a2 : Int) : Bool := ((decide (a1 ≤ a0)) && (decide (a0 ≤ a2)))
def i_isTime (a0 : Int) : Bool := (i_InRange a0 0 10000)
def i_IsValidKey (a0 : Int) : Bool := (i_InRange a0 1 2147483646)
def i_IsKey (a0 : TKey) : Bool := (((((i_InRange a0.Number 1 99) && (i_InRange a0.Owner 0 99)) && (i_InRange a0.Method 0 99)) && (i_isTime a0.Born)) && (i_IsValidKey a0.Secret))
def i_AreKeys_1 (a0 : List TKey) : Nat → Nat → Sum Bool Unit
  | 0, _ => .inr ()
  | n1 + 1, v1_0 => (bif (decide ((↑v1_0 : Int) < (↑a0.length : Int))) then (bif ((!(i_IsKey (nth a0 v1_0))) || ((decide ((↑v1_0 : Int) > 0)) && (decide ((nth a0 (v1_0 - 1)).Number ≥ (nth a0 v1_0).Number)))) then (.inl false) else i_AreKeys_1 a0 n1 (v1_0 + 1)) else (.inr ()))
def i_AreKeys (a0 : List TKey) : Bool := (match i_AreKeys_1 a0 (a0.length + 1) 0 with | .inl r1 => r1 | .inr _ => (decide ((↑a0.length : Int) ≤ 12)))
def i_AreAuthorities_1 (a0 : List TAuthority) : Nat → Nat → Sum Bool Unit
  | 0, _ => .inr ()
  | n1 + 1, v1_0 => (bif (decide ((↑v1_0 : Int) < (↑a0.length : Int))) then (bif ((((!(i_InRange (nth a0 v1_0).Id 0 99)) || (!(i_InRange (nth a0 v1_0).Key 1 99))) || (!(i_InRange (nth a0 v1_0).Error 0 100))) || ((decide ((↑v1_0 : Int) > 0)) && (decide ((nth a0 (v1_0 - 1)).Id ≥ (nth a0 v1_0).Id)))) then (.inl false) else i_AreAuthorities_1 a0 n1 (v1_0 + 1)) else (.inr ()))
def i_AreAuthorities (a0 : List TAuthority) : Bool := (match i_AreAuthorities_1 a0 (a0.length + 1) 0 with | .inl r1 => r1 | .inr _ => (decide ((↑a0.length : Int) ≤ 6)))
def i_IsMethod (a0 : TMethod) : Bool := ((((((i_InRange a0.Id 0 99) && (i_isTime a0.Known)) && (i_InRange a0.Ends 1 10001)) && (i_InRange a0.Broken 1 10001)) && (decide (a0.Known < a0.Ends))) && (decide (a0.Known < a0.Broken)))
def i_AreMethods_1 (a0 : List TMethod) : Nat → Nat → Sum Bool Unit
  | 0, _ => .inr ()
  | n1 + 1, v1_0 => (bif (decide ((↑v1_0 : Int) < (↑a0.length : Int))) then (bif ((!(i_IsMethod (nth a0 v1_0))) || ((decide ((↑v1_0 : Int) > 0)) && (decide ((nth a0 (v1_0 - 1)).Id ≥ (nth a0 v1_0).Id)))) then (.inl false) else i_AreMethods_1 a0 n1 (v1_0 + 1)) else (.inr ()))
def i_AreMethods (a0 : List TMethod) : Bool := (match i_AreMethods_1 a0 (a0.length + 1) 0 with | .inl r1 => r1 | .inr _ => (decide ((↑a0.length : Int) ≤ 8)))
def i_IsFrame (a0 : TFrame) : Bool := (((((i_AreKeys a0.Keys) && (i_AreAuthorities a0.Authorities)) && (i_AreMethods a0.Methods)) && (i_InRange a0.Liars 0 6)) && (i_isTime a0.Now))
def i_areRising_1 (a0 : List Int) : Nat → Nat → Sum Bool Unit
  | 0, _ => .inr ()
  | n1 + 1, v1_0 => (bif (decide ((↑v1_0 : Int) < (↑a0.length : Int))) then (bif (decide ((nth a0 (v1_0 - 1)) ≥ (nth a0 v1_0))) then (.inl false) else i_areRising_1 a0 n1 (v1_0 + 1)) else (.inr ()))
def i_areRising (a0 : List Int) : Bool := (match i_areRising_1 a0 (a0.length + 1) 1 with | .inl r1 => r1 | .inr _ => true)
def i_CertSpan (a0 : TCert) : TSpan := (TSpan.mk a0.From a0.To)
def i_IsSpan (a0 : TSpan) : Bool := (((i_isTime a0.From) && (i_isTime a0.To)) && (decide (a0.From ≤ a0.To)))
def i_IsCert (a0 : TCert) : Bool := ((((((i_InRange a0.Serial 1 999) && (i_InRange a0.Key 1 99)) && (i_InRange a0.Issuer 1 99)) && (a0.Key != a0.Issuer)) && (i_InRange a0.Owner 0 99)) && (i_IsSpan (i_CertSpan a0)))
def i_CertInts (a0 : TCert) : List Int := ([101, a0.Serial, a0.Key, a0.Owner, a0.From, a0.To, a0.Issuer] : List Int)
def i_FindKey_1 (a0 : List TKey) (a1 : Int) : Nat → Nat → Sum Int Unit
  | 0, _ => .inr ()
  | n1 + 1, v1_0 => (bif (decide ((↑v1_0 : Int) < (↑a0.length : Int))) then (bif ((nth a0 v1_0).Number == a1) then (.inl (↑v1_0 : Int)) else i_FindKey_1 a0 a1 n1 (v1_0 + 1)) else (.inr ()))
def i_FindKey (a0 : List TKey) (a1 : Int) : Int := (match i_FindKey_1 a0 a1 (a0.length + 1) 0 with | .inl r1 => r1 | .inr _ => (-1))
def i_Mod (a0 : Int) (a1 : Int) : Int := (bif (!(i_InRange a1 1 1000000000000)) then 0 else (Int.tmod (W ((Int.tmod a0 a1) + a1)) a1))
def i_Hash_1 (a0 : List Int) : Nat → Int → Nat → Int
  | 0, _, _ => default
  | n1 + 1, v1_0, v1_1 => (bif (decide ((↑v1_1 : Int) < (↑a0.length : Int))) then i_Hash_1 a0 n1 (Int.tmod (W ((W ((W (v1_0 * 1000003)) + (i_Mod (nth a0 v1_1) 2147483647))) + 13)) 2147483647) (v1_1 + 1) else (v1_0))
def i_Hash (a0 : List Int) : Int := (match i_Hash_1 a0 (a0.length + 1) 11 0 with | z1_0 => z1_0)
def i_KeyedHash (a0 : Int) (a1 : List Int) : Int := (i_Hash ((([a0] : List Int) ++ a1) ++ ([a0] : List Int)))
def i_MarkWith (a0 : TKey) (a1 : List Int) : Int := (i_KeyedHash a0.Secret (([a0.Method] : List Int) ++ a1))
def i_markBy (a0 : List TKey) (a1 : Int) (a2 : List Int) : Int × Bool := (bif (decide ((i_FindKey a0 a1) < 0)) then (0, false) else ((i_MarkWith (nth a0 (i_FindKey a0 a1).toNat) a2), true))
def i_CheckMark (a0 : List TKey) (a1 : Int) (a2 : List Int) (a3 : Int) : Bool := ((i_markBy a0 a1 a2).2 && ((i_markBy a0 a1 a2).1 == a3))
def i_OwnerOf (a0 : List TKey) (a1 : Int) : Int := (bif (decide ((i_FindKey a0 a1) ≥ 0)) then (nth a0 (i_FindKey a0 a1).toNat).Owner else (-1))
def i_CheckCert (a0 : List TKey) (a1 : TCert) : Bool := (((i_IsCert a1) && (i_CheckMark a0 a1.Issuer (i_CertInts a1) a1.Mark)) && (a1.Owner == (i_OwnerOf a0 a1.Key)))
def i_FindCert_1 (a0 : List TCert) (a1 : Int) : Nat → Nat → Sum Int Unit
  | 0, _ => .inr ()
  | n1 + 1, v1_0 => (bif (decide ((↑v1_0 : Int) < (↑a0.length : Int))) then (bif ((nth a0 v1_0).Serial == a1) then (.inl (↑v1_0 : Int)) else i_FindCert_1 a0 a1 n1 (v1_0 + 1)) else (.inr ()))
def i_FindCert (a0 : List TCert) (a1 : Int) : Int := (match i_FindCert_1 a0 a1 (a0.length + 1) 0 with | .inl r1 => r1 | .inr _ => (-1))
def i_IsDocument_1 (a0 : TDocument) : Nat → Nat → Sum Bool Unit
  | 0, _ => .inr ()
  | n1 + 1, v1_0 => (bif (decide ((↑v1_0 : Int) < (↑a0.Parts.length : Int))) then (bif ((decide ((↑(nth a0.Parts v1_0).size : Int) > 40)) || (!(i_InRange (nth a0.Salts v1_0) 1 1000000000000))) then (.inl false) else i_IsDocument_1 a0 n1 (v1_0 + 1)) else (.inr ()))
def i_IsDocument (a0 : TDocument) : Bool := (bif (((!(i_InRange a0.Title 0 999)) || (!(i_InRange (↑a0.Parts.length : Int) 1 6))) || ((↑a0.Salts.length : Int) != (↑a0.Parts.length : Int))) then false else (match i_IsDocument_1 a0 (a0.Parts.length + 1) 0 with | .inl r1 => r1 | .inr _ => true))
def i_EqualInts_1 (a0 : List Int) (a1 : List Int) : Nat → Nat → Sum Bool Unit
  | 0, _ => .inr ()
  | n1 + 1, v1_0 => (bif (decide ((↑v1_0 : Int) < (↑a0.length : Int))) then (bif ((nth a0 v1_0) != (nth a1 v1_0)) then (.inl false) else i_EqualInts_1 a0 a1 n1 (v1_0 + 1)) else (.inr ()))
def i_EqualInts (a0 : List Int) (a1 : List Int) : Bool := (bif ((↑a0.length : Int) != (↑a1.length : Int)) then false else (match i_EqualInts_1 a0 a1 (a0.length + 1) 0 with | .inl r1 => r1 | .inr _ => true))
def i_EqualPieces (a0 : TPiece) (a1 : TPiece) : Bool := (((a0.Key == a1.Key) && (a0.Mark == a1.Mark)) && (i_EqualInts a0.Ints a1.Ints))
def i_hasPiece_1 (a0 : List TPiece) (a1 : TPiece) : Nat → Nat → Sum Bool Unit
  | 0, _ => .inr ()
  | n1 + 1, v1_0 => (bif (decide ((↑v1_0 : Int) < (↑a0.length : Int))) then (bif (i_EqualPieces (nth a0 v1_0) a1) then (.inl true) else i_hasPiece_1 a0 a1 n1 (v1_0 + 1)) else (.inr ()))
def i_hasPiece (a0 : List TPiece) (a1 : TPiece) : Bool := (match i_hasPiece_1 a0 a1 (a0.length + 1) 0 with | .inl r1 => r1 | .inr _ => false)
def i_IsStrand_2 (a0 : TStrand) : Nat → Nat → Sum Bool Unit
  | 0, _ => .inr ()
  | n2 + 1, v2_0 => (bif (decide ((↑v2_0 : Int) < (↑a0.Chain.length : Int))) then (bif ((!(i_InRange (nth a0.Chain v2_0).Count 1 (↑a0.Pieces.length : Int))) || ((decide ((↑v2_0 : Int) > 0)) && (decide ((nth a0.Chain v2_0).Count < (nth a0.Chain (v2_0 - 1)).Count)))) then (.inl false) else i_IsStrand_2 a0 n2 (v2_0 + 1)) else (.inr ()))
def i_IsStrand_1 (a0 : TStrand) : Nat → Nat → Sum Bool Unit
  | 0, _ => .inr ()
  | n1 + 1, v1_0 => (bif (decide ((↑v1_0 : Int) < (↑a0.Pieces.length : Int))) then (bif (i_hasPiece (a0.Pieces.take v1_0) (nth a0.Pieces v1_0)) then (.inl false) else i_IsStrand_1 a0 n1 (v1_0 + 1)) else (.inr ()))
def i_IsStrand (a0 : TStrand) : Bool := (bif ((!(i_InRange (↑a0.Pieces.length : Int) 1 12)) || (decide ((↑a0.Chain.length : Int) > 8))) then false else (match i_IsStrand_1 a0 (a0.Pieces.length + 1) 0 with | .inl r1 => r1 | .inr _ => (match i_IsStrand_2 a0 (a0.Chain.length + 1) 0 with | .inl r2 => r2 | .inr _ => true)))
def i_SignatureInts (a0 : TSignature) : List Int := ([104, a0.Key, a0.Serial, a0.Method, a0.Digest, a0.Commit, a0.Org, a0.Before, a0.After] : List Int)
def i_SignPiece (a0 : TSignature) : TPiece := (TPiece.mk a0.Key (i_SignatureInts a0) a0.Mark)
def i_IsItem (a0 : TItem) : Bool := (((((i_InRange a0.Id 1 999) && (i_isTime a0.Keep)) && (i_IsDocument a0.Doc)) && (i_IsStrand a0.Strand)) && (i_EqualPieces (nth a0.Strand.Pieces 0) (i_SignPiece a0.Sig)))
def i_IsArchive_1 (a0 : TArchive) : Nat → Nat → Sum Bool Unit
  | 0, _ => .inr ()
  | n1 + 1, v1_0 => (bif (decide ((↑v1_0 : Int) < (↑a0.Items.length : Int))) then (bif ((!(i_IsItem (nth a0.Items v1_0))) || ((decide ((↑v1_0 : Int) > 0)) && (decide ((nth a0.Items (v1_0 - 1)).Id ≥ (nth a0.Items v1_0).Id)))) then (.inl false) else i_IsArchive_1 a0 n1 (v1_0 + 1)) else (.inr ()))
def i_IsArchive (a0 : TArchive) : Bool := (match i_IsArchive_1 a0 (a0.Items.length + 1) 0 with | .inl r1 => r1 | .inr _ => ((i_InRange a0.Id 0 99) && (decide ((↑a0.Items.length : Int) ≤ 8))))
def i_indexOf_1 (a0 : List Int) (a1 : Int) : Nat → Nat → Sum Int Unit
  | 0, _ => .inr ()
  | n1 + 1, v1_0 => (bif (decide ((↑v1_0 : Int) < (↑a0.length : Int))) then (bif ((nth a0 v1_0) == a1) then (.inl (↑v1_0 : Int)) else i_indexOf_1 a0 a1 n1 (v1_0 + 1)) else (.inr ()))
def i_indexOf (a0 : List Int) (a1 : Int) : Int := (match i_indexOf_1 a0 a1 (a0.length + 1) 0 with | .inl r1 => r1 | .inr _ => (-1))
def i_hasInt (a0 : List Int) (a1 : Int) : Bool := (decide ((i_indexOf a0 a1) ≥ 0))
def i_FindAuthority_1 (a0 : List TAuthority) (a1 : Int) : Nat → Nat → Sum Int Unit
  | 0, _ => .inr ()
  | n1 + 1, v1_0 => (bif (decide ((↑v1_0 : Int) < (↑a0.length : Int))) then (bif ((nth a0 v1_0).Id == a1) then (.inl (↑v1_0 : Int)) else i_FindAuthority_1 a0 a1 n1 (v1_0 + 1)) else (.inr ()))
def i_FindAuthority (a0 : List TAuthority) (a1 : Int) : Int := (match i_FindAuthority_1 a0 a1 (a0.length + 1) 0 with | .inl r1 => r1 | .inr _ => (-1))
def i_IsWorld_3 (a0 : TWorld) (v2_1 : Nat) : Nat → List Int → Nat → Sum Bool (List Int)
  | 0, _, _ => .inr default
  | n3 + 1, v3_0, v3_1 => (bif (decide ((↑v3_1 : Int) < (↑(nth a0.Archives v2_1).Items.length : Int))) then (bif ((i_hasInt v3_0 (nth (nth a0.Archives v2_1).Items v3_1).Id) || (decide ((nth (nth a0.Archives v2_1).Items v3_1).Id ≥ a0.Next))) then (.inl false) else i_IsWorld_3 a0 v2_1 n3 (v3_0 ++ ([(nth (nth a0.Archives v2_1).Items v3_1).Id] : List Int)) (v3_1 + 1)) else (.inr v3_0))
def i_IsWorld_5 (a0 : TWorld) : Nat → Nat → Sum Bool Unit
  | 0, _ => .inr ()
  | n5 + 1, v5_0 => (bif (decide ((↑v5_0 : Int) < (↑a0.Lying.length : Int))) then (bif (decide ((i_FindAuthority a0.Frame.Authorities (nth a0.Lying v5_0)) < 0)) then (.inl false) else i_IsWorld_5 a0 n5 (v5_0 + 1)) else (.inr ()))
def i_IsWorld_4 (a0 : TWorld) : Nat → Nat → Sum Bool Unit
  | 0, _ => .inr ()
  | n4 + 1, v4_0 => (bif (decide ((↑v4_0 : Int) < (↑a0.Seqs.length : Int))) then (bif (decide ((nth a0.Seqs v4_0) < 0)) then (.inl false) else i_IsWorld_4 a0 n4 (v4_0 + 1)) else (.inr ()))
def i_IsWorld_2 (a0 : TWorld) : Nat → List Int → Nat → Sum Bool Unit
  | 0, _, _ => .inr ()
  | n2 + 1, v2_0, v2_1 => (bif (decide ((↑v2_1 : Int) < (↑a0.Archives.length : Int))) then (bif ((!(i_IsArchive (nth a0.Archives v2_1))) || ((nth a0.Archives v2_1).Id != (↑v2_1 : Int))) then (.inl false) else (match i_IsWorld_3 a0 v2_1 ((nth a0.Archives v2_1).Items.length + 1) v2_0 0 with | .inl r3 => .inl r3 | .inr z3_0 => i_IsWorld_2 a0 n2 z3_0 (v2_1 + 1))) else (.inr ()))
def i_IsWorld_1 (a0 : TWorld) : Nat → Nat → Sum Bool Unit
  | 0, _ => .inr ()
  | n1 + 1, v1_0 => (bif (decide ((↑v1_0 : Int) < (↑a0.Certs.length : Int))) then (bif (((!(i_CheckCert a0.Frame.Keys (nth a0.Certs v1_0))) || ((i_FindCert a0.Certs (nth a0.Certs v1_0).Serial) != (↑v1_0 : Int))) || (!(i_InRange (nth a0.Ended v1_0) (-1) 10001))) then (.inl false) else i_IsWorld_1 a0 n1 (v1_0 + 1)) else (.inr ()))
def i_IsWorld (a0 : TWorld) : Bool := (bif ((((((((!(i_IsFrame a0.Frame)) || ((↑a0.Ended.length : Int) != (↑a0.Certs.length : Int))) || (!(i_InRange (↑a0.Archives.length : Int) 1 4))) || ((↑a0.Seqs.length : Int) != (↑a0.Frame.Authorities.length : Int))) || (decide ((↑a0.Lying.length : Int) > a0.Frame.Liars))) || (decide (a0.Next < 1))) || (!(i_areRising a0.Lying))) || (!(i_areRising a0.Forged))) then false else (match i_IsWorld_1 a0 (a0.Certs.length + 1) 0 with | .inl r1 => r1 | .inr _ => (match i_IsWorld_2 a0 (a0.Archives.length + 1) ([] : List Int) 0 with | .inl r2 => r2 | .inr _ => (match i_IsWorld_4 a0 (a0.Seqs.length + 1) 0 with | .inl r4 => r4 | .inr _ => (match i_IsWorld_5 a0 (a0.Lying.length + 1) 0 with | .inl r5 => r5 | .inr _ => true)))))
def l_eqKey (a0 : TKey) (a1 : TKey) : Bool := (bif (a0.Number != a1.Number) then false else (bif (a0.Owner != a1.Owner) then false else (bif (a0.Method != a1.Method) then false else (bif (a0.Born != a1.Born) then false else (bif (a0.Secret != a1.Secret) then false else true)))))
def l_eqKeyS_1 (a0 : List TKey) (a1 : List TKey) : Nat → Nat → Sum Bool Unit
  | 0, _ => .inr ()
  | n1 + 1, v1_0 => (bif (decide ((↑v1_0 : Int) < (↑a0.length : Int))) then (bif (!(l_eqKey (nth a0 v1_0) (nth a1 v1_0))) then (.inl false) else l_eqKeyS_1 a0 a1 n1 (v1_0 + 1)) else (.inr ()))
def l_eqKeyS (a0 : List TKey) (a1 : List TKey) : Bool := (bif ((↑a0.length : Int) != (↑a1.length : Int)) then false else (match l_eqKeyS_1 a0 a1 (a0.length + 1) 0 with | .inl r1 => r1 | .inr _ => true))
def l_eqAuthority (a0 : TAuthority) (a1 : TAuthority) : Bool := (bif (a0.Id != a1.Id) then false else (bif (a0.Key != a1.Key) then false else (bif (a0.Error != a1.Error) then false else true)))
def l_eqAuthorityS_1 (a0 : List TAuthority) (a1 : List TAuthority) : Nat → Nat → Sum Bool Unit
  | 0, _ => .inr ()
  | n1 + 1, v1_0 => (bif (decide ((↑v1_0 : Int) < (↑a0.length : Int))) then (bif (!(l_eqAuthority (nth a0 v1_0) (nth a1 v1_0))) then (.inl false) else l_eqAuthorityS_1 a0 a1 n1 (v1_0 + 1)) else (.inr ()))
def l_eqAuthorityS (a0 : List TAuthority) (a1 : List TAuthority) : Bool := (bif ((↑a0.length : Int) != (↑a1.length : Int)) then false else (match l_eqAuthorityS_1 a0 a1 (a0.length + 1) 0 with | .inl r1 => r1 | .inr _ => true))
def l_eqMethod (a0 : TMethod) (a1 : TMethod) : Bool := (bif (a0.Id != a1.Id) then false else (bif (a0.Known != a1.Known) then false else (bif (a0.Ends != a1.Ends) then false else (bif (a0.Broken != a1.Broken) then false else true))))
def l_eqMethodS_1 (a0 : List TMethod) (a1 : List TMethod) : Nat → Nat → Sum Bool Unit
  | 0, _ => .inr ()
  | n1 + 1, v1_0 => (bif (decide ((↑v1_0 : Int) < (↑a0.length : Int))) then (bif (!(l_eqMethod (nth a0 v1_0) (nth a1 v1_0))) then (.inl false) else l_eqMethodS_1 a0 a1 n1 (v1_0 + 1)) else (.inr ()))
def l_eqMethodS (a0 : List TMethod) (a1 : List TMethod) : Bool := (bif ((↑a0.length : Int) != (↑a1.length : Int)) then false else (match l_eqMethodS_1 a0 a1 (a0.length + 1) 0 with | .inl r1 => r1 | .inr _ => true))
def l_eqFrame (a0 : TFrame) (a1 : TFrame) : Bool := (bif (!(l_eqKeyS a0.Keys a1.Keys)) then false else (bif (!(l_eqAuthorityS a0.Authorities a1.Authorities)) then false else (bif (!(l_eqMethodS a0.Methods a1.Methods)) then false else (bif (a0.Liars != a1.Liars) then false else (bif (a0.Now != a1.Now) then false else true)))))
def l_eqCert (a0 : TCert) (a1 : TCert) : Bool := (bif (a0.Serial != a1.Serial) then false else (bif (a0.Key != a1.Key) then false else (bif (a0.Owner != a1.Owner) then false else (bif (a0.From != a1.From) then false else (bif (a0.To != a1.To) then false else (bif (a0.Issuer != a1.Issuer) then false else (bif (a0.Mark != a1.Mark) then false else true)))))))
def l_eqCertS_1 (a0 : List TCert) (a1 : List TCert) : Nat → Nat → Sum Bool Unit
  | 0, _ => .inr ()
  | n1 + 1, v1_0 => (bif (decide ((↑v1_0 : Int) < (↑a0.length : Int))) then (bif (!(l_eqCert (nth a0 v1_0) (nth a1 v1_0))) then (.inl false) else l_eqCertS_1 a0 a1 n1 (v1_0 + 1)) else (.inr ()))
def l_eqCertS (a0 : List TCert) (a1 : List TCert) : Bool := (bif ((↑a0.length : Int) != (↑a1.length : Int)) then false else (match l_eqCertS_1 a0 a1 (a0.length + 1) 0 with | .inl r1 => r1 | .inr _ => true))
def l_eqIntS_1 (a0 : List Int) (a1 : List Int) : Nat → Nat → Sum Bool Unit
  | 0, _ => .inr ()
  | n1 + 1, v1_0 => (bif (decide ((↑v1_0 : Int) < (↑a0.length : Int))) then (bif ((nth a0 v1_0) != (nth a1 v1_0)) then (.inl false) else l_eqIntS_1 a0 a1 n1 (v1_0 + 1)) else (.inr ()))
def l_eqIntS (a0 : List Int) (a1 : List Int) : Bool := (bif ((↑a0.length : Int) != (↑a1.length : Int)) then false else (match l_eqIntS_1 a0 a1 (a0.length + 1) 0 with | .inl r1 => r1 | .inr _ => true))
def l_eqStringS_1 (a0 : List ByteArray) (a1 : List ByteArray) : Nat → Nat → Sum Bool Unit
  | 0, _ => .inr ()
  | n1 + 1, v1_0 => (bif (decide ((↑v1_0 : Int) < (↑a0.length : Int))) then (bif (!decide ((nth a0 v1_0) = (nth a1 v1_0))) then (.inl false) else l_eqStringS_1 a0 a1 n1 (v1_0 + 1)) else (.inr ()))
def l_eqStringS (a0 : List ByteArray) (a1 : List ByteArray) : Bool := (bif ((↑a0.length : Int) != (↑a1.length : Int)) then false else (match l_eqStringS_1 a0 a1 (a0.length + 1) 0 with | .inl r1 => r1 | .inr _ => true))
def l_eqDocument (a0 : TDocument) (a1 : TDocument) : Bool := (bif (a0.Title != a1.Title) then false else (bif (!(l_eqStringS a0.Parts a1.Parts)) then false else (bif (!(l_eqIntS a0.Salts a1.Salts)) then false else true)))
def l_eqSignature (a0 : TSignature) (a1 : TSignature) : Bool := (bif (a0.Key != a1.Key) then false else (bif (a0.Serial != a1.Serial) then false else (bif (a0.Method != a1.Method) then false else (bif (a0.Digest != a1.Digest) then false else (bif (a0.Commit != a1.Commit) then false else (bif (a0.Org != a1.Org) then false else (bif (a0.Before != a1.Before) then false else (bif (a0.After != a1.After) then false else (bif (a0.Mark != a1.Mark) then false else true)))))))))
def l_eqPiece (a0 : TPiece) (a1 : TPiece) : Bool := (bif (a0.Key != a1.Key) then false else (bif (!(l_eqIntS a0.Ints a1.Ints)) then false else (bif (a0.Mark != a1.Mark) then false else true)))
def l_eqPieceS_1 (a0 : List TPiece) (a1 : List TPiece) : Nat → Nat → Sum Bool Unit
  | 0, _ => .inr ()
  | n1 + 1, v1_0 => (bif (decide ((↑v1_0 : Int) < (↑a0.length : Int))) then (bif (!(l_eqPiece (nth a0 v1_0) (nth a1 v1_0))) then (.inl false) else l_eqPieceS_1 a0 a1 n1 (v1_0 + 1)) else (.inr ()))
def l_eqPieceS (a0 : List TPiece) (a1 : List TPiece) : Bool := (bif ((↑a0.length : Int) != (↑a1.length : Int)) then false else (match l_eqPieceS_1 a0 a1 (a0.length + 1) 0 with | .inl r1 => r1 | .inr _ => true))
def l_eqStep (a0 : TStep) (a1 : TStep) : Bool := (bif (a0.Digest != a1.Digest) then false else (bif (!(a0.Left == a1.Left)) then false else true))
def l_eqStepS_1 (a0 : List TStep) (a1 : List TStep) : Nat → Nat → Sum Bool Unit
  | 0, _ => .inr ()
  | n1 + 1, v1_0 => (bif (decide ((↑v1_0 : Int) < (↑a0.length : Int))) then (bif (!(l_eqStep (nth a0 v1_0) (nth a1 v1_0))) then (.inl false) else l_eqStepS_1 a0 a1 n1 (v1_0 + 1)) else (.inr ()))
def l_eqStepS (a0 : List TStep) (a1 : List TStep) : Bool := (bif ((↑a0.length : Int) != (↑a1.length : Int)) then false else (match l_eqStepS_1 a0 a1 (a0.length + 1) 0 with | .inl r1 => r1 | .inr _ => true))
def l_eqStamp (a0 : TStamp) (a1 : TStamp) : Bool := (bif (a0.Authority != a1.Authority) then false else (bif (a0.Seq != a1.Seq) then false else (bif (a0.Time != a1.Time) then false else (bif (a0.Digest != a1.Digest) then false else (bif (a0.Mark != a1.Mark) then false else true)))))
def l_eqStampS_1 (a0 : List TStamp) (a1 : List TStamp) : Nat → Nat → Sum Bool Unit
  | 0, _ => .inr ()
  | n1 + 1, v1_0 => (bif (decide ((↑v1_0 : Int) < (↑a0.length : Int))) then (bif (!(l_eqStamp (nth a0 v1_0) (nth a1 v1_0))) then (.inl false) else l_eqStampS_1 a0 a1 n1 (v1_0 + 1)) else (.inr ()))
def l_eqStampS (a0 : List TStamp) (a1 : List TStamp) : Bool := (bif ((↑a0.length : Int) != (↑a1.length : Int)) then false else (match l_eqStampS_1 a0 a1 (a0.length + 1) 0 with | .inl r1 => r1 | .inr _ => true))
def l_eqRenewal (a0 : TRenewal) (a1 : TRenewal) : Bool := (bif (a0.Count != a1.Count) then false else (bif (a0.Method != a1.Method) then false else (bif (a0.Root != a1.Root) then false else (bif (!(l_eqStepS a0.Path a1.Path)) then false else (bif (!(l_eqStampS a0.Stamps a1.Stamps)) then false else true)))))
def l_eqRenewalS_1 (a0 : List TRenewal) (a1 : List TRenewal) : Nat → Nat → Sum Bool Unit
  | 0, _ => .inr ()
  | n1 + 1, v1_0 => (bif (decide ((↑v1_0 : Int) < (↑a0.length : Int))) then (bif (!(l_eqRenewal (nth a0 v1_0) (nth a1 v1_0))) then (.inl false) else l_eqRenewalS_1 a0 a1 n1 (v1_0 + 1)) else (.inr ()))
def l_eqRenewalS (a0 : List TRenewal) (a1 : List TRenewal) : Bool := (bif ((↑a0.length : Int) != (↑a1.length : Int)) then false else (match l_eqRenewalS_1 a0 a1 (a0.length + 1) 0 with | .inl r1 => r1 | .inr _ => true))
def l_eqStrand (a0 : TStrand) (a1 : TStrand) : Bool := (bif (!(l_eqPieceS a0.Pieces a1.Pieces)) then false else (bif (!(l_eqRenewalS a0.Chain a1.Chain)) then false else true))
def l_eqItem (a0 : TItem) (a1 : TItem) : Bool := (bif (a0.Id != a1.Id) then false else (bif (a0.Keep != a1.Keep) then false else (bif (!(l_eqDocument a0.Doc a1.Doc)) then false else (bif (!(l_eqSignature a0.Sig a1.Sig)) then false else (bif (!(l_eqStrand a0.Strand a1.Strand)) then false else true)))))
def l_eqItemS_1 (a0 : List TItem) (a1 : List TItem) : Nat → Nat → Sum Bool Unit
  | 0, _ => .inr ()
  | n1 + 1, v1_0 => (bif (decide ((↑v1_0 : Int) < (↑a0.length : Int))) then (bif (!(l_eqItem (nth a0 v1_0) (nth a1 v1_0))) then (.inl false) else l_eqItemS_1 a0 a1 n1 (v1_0 + 1)) else (.inr ()))
def l_eqItemS (a0 : List TItem) (a1 : List TItem) : Bool := (bif ((↑a0.length : Int) != (↑a1.length : Int)) then false else (match l_eqItemS_1 a0 a1 (a0.length + 1) 0 with | .inl r1 => r1 | .inr _ => true))
def l_eqArchive (a0 : TArchive) (a1 : TArchive) : Bool := (bif (a0.Id != a1.Id) then false else (bif (!(l_eqItemS a0.Items a1.Items)) then false else true))
def l_eqArchiveS_1 (a0 : List TArchive) (a1 : List TArchive) : Nat → Nat → Sum Bool Unit
  | 0, _ => .inr ()
  | n1 + 1, v1_0 => (bif (decide ((↑v1_0 : Int) < (↑a0.length : Int))) then (bif (!(l_eqArchive (nth a0 v1_0) (nth a1 v1_0))) then (.inl false) else l_eqArchiveS_1 a0 a1 n1 (v1_0 + 1)) else (.inr ()))
def l_eqArchiveS (a0 : List TArchive) (a1 : List TArchive) : Bool := (bif ((↑a0.length : Int) != (↑a1.length : Int)) then false else (match l_eqArchiveS_1 a0 a1 (a0.length + 1) 0 with | .inl r1 => r1 | .inr _ => true))
def l_eqWorld (a0 : TWorld) (a1 : TWorld) : Bool := (bif (!(l_eqFrame a0.Frame a1.Frame)) then false else (bif (!(l_eqCertS a0.Certs a1.Certs)) then false else (bif (!(l_eqIntS a0.Ended a1.Ended)) then false else (bif (!(l_eqArchiveS a0.Archives a1.Archives)) then false else (bif (!(l_eqIntS a0.Seqs a1.Seqs)) then false else (bif (!(l_eqIntS a0.Lying a1.Lying)) then false else (bif (a0.Next != a1.Next) then false else (bif (!(l_eqIntS a0.Forged a1.Forged)) then false else true))))))))
def l_FnExactIsWorld (a0 : TWorld) : Bool := (bif (decide ((l_szWorld a0 1048576) < 0)) then true else (bif (!((i_IsWorld (l_toWorld a0)) == (s_IsWorld (l_toWorld a0)))) then false else (bif (!(l_eqWorld (l_toWorld a0) (l_toWorld a0))) then false else true)))
end Go.Mo
