/- Models of the functions: what each computes, on typed data. No condition. -/
import Derived.Test.YtdbglcndfmdlfaaGreatMo
namespace Go.Mo
open Go.Vm
def l_szKeyS (a0 : List TKey) (a1 : Int) : Int := (bif (decide ((W (a1 - (↑a0.length : Int))) < 0)) then (-1) else (W (a1 - (↑a0.length : Int))))
def l_szAuthorityS (a0 : List TAuthority) (a1 : Int) : Int := (bif (decide ((W (a1 - (↑a0.length : Int))) < 0)) then (-1) else (W (a1 - (↑a0.length : Int))))
def l_szMethodS (a0 : List TMethod) (a1 : Int) : Int := (bif (decide ((W (a1 - (↑a0.length : Int))) < 0)) then (-1) else (W (a1 - (↑a0.length : Int))))
def l_szFrame (a0 : TFrame) (a1 : Int) : Int := (bif (decide ((l_szKeyS a0.Keys a1) < 0)) then (-1) else (bif (decide ((l_szAuthorityS a0.Authorities (l_szKeyS a0.Keys a1)) < 0)) then (-1) else (bif (decide ((l_szMethodS a0.Methods (l_szAuthorityS a0.Authorities (l_szKeyS a0.Keys a1))) < 0)) then (-1) else (l_szMethodS a0.Methods (l_szAuthorityS a0.Authorities (l_szKeyS a0.Keys a1))))))
def l_szCertS (a0 : List TCert) (a1 : Int) : Int := (bif (decide ((W (a1 - (↑a0.length : Int))) < 0)) then (-1) else (W (a1 - (↑a0.length : Int))))
def l_szIntS (a0 : List Int) (a1 : Int) : Int := (bif (decide ((W (a1 - (↑a0.length : Int))) < 0)) then (-1) else (W (a1 - (↑a0.length : Int))))
def l_szStringS_1 (a0 : List ByteArray) : Nat → Int → Nat → Sum Int Int
  | 0, _, _ => .inr default
  | n1 + 1, v1_0, v1_1 => (bif (decide ((↑v1_1 : Int) < (↑a0.length : Int))) then (bif (decide ((W (v1_0 - (↑(nth a0 v1_1).size : Int))) < 0)) then (.inl (-1)) else l_szStringS_1 a0 n1 (W (v1_0 - (↑(nth a0 v1_1).size : Int))) (v1_1 + 1)) else (.inr v1_0))
def l_szStringS (a0 : List ByteArray) (a1 : Int) : Int := (bif (decide ((W (a1 - (↑a0.length : Int))) < 0)) then (-1) else (match l_szStringS_1 a0 (a0.length + 1) (W (a1 - (↑a0.length : Int))) 0 with | .inl r1 => r1 | .inr z1_0 => z1_0))
def l_szDocument (a0 : TDocument) (a1 : Int) : Int := (bif (decide ((l_szStringS a0.Parts a1) < 0)) then (-1) else (bif (decide ((l_szIntS a0.Salts (l_szStringS a0.Parts a1)) < 0)) then (-1) else (l_szIntS a0.Salts (l_szStringS a0.Parts a1))))
def l_szPiece (a0 : TPiece) (a1 : Int) : Int := (bif (decide ((l_szIntS a0.Ints a1) < 0)) then (-1) else (l_szIntS a0.Ints a1))
def l_szPieceS_1 (a0 : List TPiece) : Nat → Int → Nat → Sum Int Int
  | 0, _, _ => .inr default
  | n1 + 1, v1_0, v1_1 => (bif (decide ((↑v1_1 : Int) < (↑a0.length : Int))) then (bif (decide ((l_szPiece (nth a0 v1_1) v1_0) < 0)) then (.inl (-1)) else l_szPieceS_1 a0 n1 (l_szPiece (nth a0 v1_1) v1_0) (v1_1 + 1)) else (.inr v1_0))
def l_szPieceS (a0 : List TPiece) (a1 : Int) : Int := (bif (decide ((W (a1 - (↑a0.length : Int))) < 0)) then (-1) else (match l_szPieceS_1 a0 (a0.length + 1) (W (a1 - (↑a0.length : Int))) 0 with | .inl r1 => r1 | .inr z1_0 => z1_0))
def l_szStepS (a0 : List TStep) (a1 : Int) : Int := (bif (decide ((W (a1 - (↑a0.length : Int))) < 0)) then (-1) else (W (a1 - (↑a0.length : Int))))
def l_szStampS (a0 : List TStamp) (a1 : Int) : Int := (bif (decide ((W (a1 - (↑a0.length : Int))) < 0)) then (-1) else (W (a1 - (↑a0.length : Int))))
def l_szRenewal (a0 : TRenewal) (a1 : Int) : Int := (bif (decide ((l_szStepS a0.Path a1) < 0)) then (-1) else (bif (decide ((l_szStampS a0.Stamps (l_szStepS a0.Path a1)) < 0)) then (-1) else (l_szStampS a0.Stamps (l_szStepS a0.Path a1))))
def l_szRenewalS_1 (a0 : List TRenewal) : Nat → Int → Nat → Sum Int Int
  | 0, _, _ => .inr default
  | n1 + 1, v1_0, v1_1 => (bif (decide ((↑v1_1 : Int) < (↑a0.length : Int))) then (bif (decide ((l_szRenewal (nth a0 v1_1) v1_0) < 0)) then (.inl (-1)) else l_szRenewalS_1 a0 n1 (l_szRenewal (nth a0 v1_1) v1_0) (v1_1 + 1)) else (.inr v1_0))
def l_szRenewalS (a0 : List TRenewal) (a1 : Int) : Int := (bif (decide ((W (a1 - (↑a0.length : Int))) < 0)) then (-1) else (match l_szRenewalS_1 a0 (a0.length + 1) (W (a1 - (↑a0.length : Int))) 0 with | .inl r1 => r1 | .inr z1_0 => z1_0))
def l_szStrand (a0 : TStrand) (a1 : Int) : Int := (bif (decide ((l_szPieceS a0.Pieces a1) < 0)) then (-1) else (bif (decide ((l_szRenewalS a0.Chain (l_szPieceS a0.Pieces a1)) < 0)) then (-1) else (l_szRenewalS a0.Chain (l_szPieceS a0.Pieces a1))))
def l_szItem (a0 : TItem) (a1 : Int) : Int := (bif (decide ((l_szDocument a0.Doc a1) < 0)) then (-1) else (bif (decide ((l_szStrand a0.Strand (l_szDocument a0.Doc a1)) < 0)) then (-1) else (l_szStrand a0.Strand (l_szDocument a0.Doc a1))))
def l_szItemS_1 (a0 : List TItem) : Nat → Int → Nat → Sum Int Int
  | 0, _, _ => .inr default
  | n1 + 1, v1_0, v1_1 => (bif (decide ((↑v1_1 : Int) < (↑a0.length : Int))) then (bif (decide ((l_szItem (nth a0 v1_1) v1_0) < 0)) then (.inl (-1)) else l_szItemS_1 a0 n1 (l_szItem (nth a0 v1_1) v1_0) (v1_1 + 1)) else (.inr v1_0))
def l_szItemS (a0 : List TItem) (a1 : Int) : Int := (bif (decide ((W (a1 - (↑a0.length : Int))) < 0)) then (-1) else (match l_szItemS_1 a0 (a0.length + 1) (W (a1 - (↑a0.length : Int))) 0 with | .inl r1 => r1 | .inr z1_0 => z1_0))
def l_szArchive (a0 : TArchive) (a1 : Int) : Int := (bif (decide ((l_szItemS a0.Items a1) < 0)) then (-1) else (l_szItemS a0.Items a1))
def l_szArchiveS_1 (a0 : List TArchive) : Nat → Int → Nat → Sum Int Int
  | 0, _, _ => .inr default
  | n1 + 1, v1_0, v1_1 => (bif (decide ((↑v1_1 : Int) < (↑a0.length : Int))) then (bif (decide ((l_szArchive (nth a0 v1_1) v1_0) < 0)) then (.inl (-1)) else l_szArchiveS_1 a0 n1 (l_szArchive (nth a0 v1_1) v1_0) (v1_1 + 1)) else (.inr v1_0))
def l_szArchiveS (a0 : List TArchive) (a1 : Int) : Int := (bif (decide ((W (a1 - (↑a0.length : Int))) < 0)) then (-1) else (match l_szArchiveS_1 a0 (a0.length + 1) (W (a1 - (↑a0.length : Int))) 0 with | .inl r1 => r1 | .inr z1_0 => z1_0))
def l_szWorld (a0 : TWorld) (a1 : Int) : Int := (bif (decide ((l_szFrame a0.Frame a1) < 0)) then (-1) else (bif (decide ((l_szCertS a0.Certs (l_szFrame a0.Frame a1)) < 0)) then (-1) else (bif (decide ((l_szIntS a0.Ended (l_szCertS a0.Certs (l_szFrame a0.Frame a1))) < 0)) then (-1) else (bif (decide ((l_szArchiveS a0.Archives (l_szIntS a0.Ended (l_szCertS a0.Certs (l_szFrame a0.Frame a1)))) < 0)) then (-1) else (bif (decide ((l_szIntS a0.Seqs (l_szArchiveS a0.Archives (l_szIntS a0.Ended (l_szCertS a0.Certs (l_szFrame a0.Frame a1))))) < 0)) then (-1) else (bif (decide ((l_szIntS a0.Lying (l_szIntS a0.Seqs (l_szArchiveS a0.Archives (l_szIntS a0.Ended (l_szCertS a0.Certs (l_szFrame a0.Frame a1)))))) < 0)) then (-1) else (bif (decide ((l_szIntS a0.Forged (l_szIntS a0.Lying (l_szIntS a0.Seqs (l_szArchiveS a0.Archives (l_szIntS a0.Ended (l_szCertS a0.Certs (l_szFrame a0.Frame a1))))))) < 0)) then (-1) else (l_szIntS a0.Forged (l_szIntS a0.Lying (l_szIntS a0.Seqs (l_szArchiveS a0.Archives (l_szIntS a0.Ended (l_szCertS a0.Certs (l_szFrame a0.Frame a1))))))))))))))
def l_toKey (a0 : TKey) : TKey := a0
def l_toKeyS_1 (a0 : List TKey) : Nat → Nat → List TKey → (List TKey)
  | 0, _, _ => default
  | n1 + 1, v1_0, v1_1 => (bif (decide ((↑v1_0 : Int) < (↑a0.length : Int))) then l_toKeyS_1 a0 n1 (v1_0 + 1) (v1_1.set v1_0 (nth a0 v1_0)) else (v1_1))
def l_toKeyS (a0 : List TKey) : List TKey := (match l_toKeyS_1 a0 (a0.length + 1) 0 (List.replicate a0.length (TKey.mk 0 0 0 0 0)) with | z1_0 => z1_0)
def l_toAuthority (a0 : TAuthority) : TAuthority := a0
def l_toAuthorityS_1 (a0 : List TAuthority) : Nat → Nat → List TAuthority → (List TAuthority)
  | 0, _, _ => default
  | n1 + 1, v1_0, v1_1 => (bif (decide ((↑v1_0 : Int) < (↑a0.length : Int))) then l_toAuthorityS_1 a0 n1 (v1_0 + 1) (v1_1.set v1_0 (nth a0 v1_0)) else (v1_1))
def l_toAuthorityS (a0 : List TAuthority) : List TAuthority := (match l_toAuthorityS_1 a0 (a0.length + 1) 0 (List.replicate a0.length (TAuthority.mk 0 0 0)) with | z1_0 => z1_0)
def l_toMethod (a0 : TMethod) : TMethod := a0
def l_toMethodS_1 (a0 : List TMethod) : Nat → Nat → List TMethod → (List TMethod)
  | 0, _, _ => default
  | n1 + 1, v1_0, v1_1 => (bif (decide ((↑v1_0 : Int) < (↑a0.length : Int))) then l_toMethodS_1 a0 n1 (v1_0 + 1) (v1_1.set v1_0 (nth a0 v1_0)) else (v1_1))
def l_toMethodS (a0 : List TMethod) : List TMethod := (match l_toMethodS_1 a0 (a0.length + 1) 0 (List.replicate a0.length (TMethod.mk 0 0 0 0)) with | z1_0 => z1_0)
def l_toFrame (a0 : TFrame) : TFrame := a0
def l_toCert (a0 : TCert) : TCert := a0
def l_toCertS_1 (a0 : List TCert) : Nat → Nat → List TCert → (List TCert)
  | 0, _, _ => default
  | n1 + 1, v1_0, v1_1 => (bif (decide ((↑v1_0 : Int) < (↑a0.length : Int))) then l_toCertS_1 a0 n1 (v1_0 + 1) (v1_1.set v1_0 (nth a0 v1_0)) else (v1_1))
def l_toCertS (a0 : List TCert) : List TCert := (match l_toCertS_1 a0 (a0.length + 1) 0 (List.replicate a0.length (TCert.mk 0 0 0 0 0 0 0)) with | z1_0 => z1_0)
def l_toIntS_1 (a0 : List Int) : Nat → Nat → List Int → (List Int)
  | 0, _, _ => default
  | n1 + 1, v1_0, v1_1 => (bif (decide ((↑v1_0 : Int) < (↑a0.length : Int))) then l_toIntS_1 a0 n1 (v1_0 + 1) (v1_1.set v1_0 (nth a0 v1_0)) else (v1_1))
def l_toIntS (a0 : List Int) : List Int := (match l_toIntS_1 a0 (a0.length + 1) 0 (List.replicate a0.length 0) with | z1_0 => z1_0)
def l_toStringS_1 (a0 : List ByteArray) : Nat → Nat → List ByteArray → (List ByteArray)
  | 0, _, _ => default
  | n1 + 1, v1_0, v1_1 => (bif (decide ((↑v1_0 : Int) < (↑a0.length : Int))) then l_toStringS_1 a0 n1 (v1_0 + 1) (v1_1.set v1_0 (nth a0 v1_0)) else (v1_1))
def l_toStringS (a0 : List ByteArray) : List ByteArray := (match l_toStringS_1 a0 (a0.length + 1) 0 (List.replicate a0.length (⟨#[]⟩ : ByteArray)) with | z1_0 => z1_0)
def l_toDocument (a0 : TDocument) : TDocument := a0
def l_toSignature (a0 : TSignature) : TSignature := a0
def l_toPiece (a0 : TPiece) : TPiece := a0
def l_toPieceS_1 (a0 : List TPiece) : Nat → Nat → List TPiece → (List TPiece)
  | 0, _, _ => default
  | n1 + 1, v1_0, v1_1 => (bif (decide ((↑v1_0 : Int) < (↑a0.length : Int))) then l_toPieceS_1 a0 n1 (v1_0 + 1) (v1_1.set v1_0 (nth a0 v1_0)) else (v1_1))
def l_toPieceS (a0 : List TPiece) : List TPiece := (match l_toPieceS_1 a0 (a0.length + 1) 0 (List.replicate a0.length (TPiece.mk 0 ([] : List Int) 0)) with | z1_0 => z1_0)
def l_toStep (a0 : TStep) : TStep := a0
def l_toStepS_1 (a0 : List TStep) : Nat → Nat → List TStep → (List TStep)
  | 0, _, _ => default
  | n1 + 1, v1_0, v1_1 => (bif (decide ((↑v1_0 : Int) < (↑a0.length : Int))) then l_toStepS_1 a0 n1 (v1_0 + 1) (v1_1.set v1_0 (nth a0 v1_0)) else (v1_1))
def l_toStepS (a0 : List TStep) : List TStep := (match l_toStepS_1 a0 (a0.length + 1) 0 (List.replicate a0.length (TStep.mk 0 false)) with | z1_0 => z1_0)
def l_toStamp (a0 : TStamp) : TStamp := a0
def l_toStampS_1 (a0 : List TStamp) : Nat → Nat → List TStamp → (List TStamp)
  | 0, _, _ => default
  | n1 + 1, v1_0, v1_1 => (bif (decide ((↑v1_0 : Int) < (↑a0.length : Int))) then l_toStampS_1 a0 n1 (v1_0 + 1) (v1_1.set v1_0 (nth a0 v1_0)) else (v1_1))
def l_toStampS (a0 : List TStamp) : List TStamp := (match l_toStampS_1 a0 (a0.length + 1) 0 (List.replicate a0.length (TStamp.mk 0 0 0 0 0)) with | z1_0 => z1_0)
def l_toRenewal (a0 : TRenewal) : TRenewal := a0
def l_toRenewalS_1 (a0 : List TRenewal) : Nat → Nat → List TRenewal → (List TRenewal)
  | 0, _, _ => default
  | n1 + 1, v1_0, v1_1 => (bif (decide ((↑v1_0 : Int) < (↑a0.length : Int))) then l_toRenewalS_1 a0 n1 (v1_0 + 1) (v1_1.set v1_0 (nth a0 v1_0)) else (v1_1))
def l_toRenewalS (a0 : List TRenewal) : List TRenewal := (match l_toRenewalS_1 a0 (a0.length + 1) 0 (List.replicate a0.length (TRenewal.mk 0 0 0 ([] : List TStep) ([] : List TStamp))) with | z1_0 => z1_0)
def l_toStrand (a0 : TStrand) : TStrand := a0
def l_toItem (a0 : TItem) : TItem := a0
def l_toItemS_1 (a0 : List TItem) : Nat → Nat → List TItem → (List TItem)
  | 0, _, _ => default
  | n1 + 1, v1_0, v1_1 => (bif (decide ((↑v1_0 : Int) < (↑a0.length : Int))) then l_toItemS_1 a0 n1 (v1_0 + 1) (v1_1.set v1_0 (nth a0 v1_0)) else (v1_1))
def l_toItemS (a0 : List TItem) : List TItem := (match l_toItemS_1 a0 (a0.length + 1) 0 (List.replicate a0.length (TItem.mk 0 0 (TDocument.mk 0 ([] : List ByteArray) ([] : List Int)) (TSignature.mk 0 0 0 0 0 0 0 0 0) (TStrand.mk ([] : List TPiece) ([] : List TRenewal)))) with | z1_0 => z1_0)
def l_toArchive (a0 : TArchive) : TArchive := a0
def l_toArchiveS_1 (a0 : List TArchive) : Nat → Nat → List TArchive → (List TArchive)
  | 0, _, _ => default
  | n1 + 1, v1_0, v1_1 => (bif (decide ((↑v1_0 : Int) < (↑a0.length : Int))) then l_toArchiveS_1 a0 n1 (v1_0 + 1) (v1_1.set v1_0 (nth a0 v1_0)) else (v1_1))
def l_toArchiveS (a0 : List TArchive) : List TArchive := (match l_toArchiveS_1 a0 (a0.length + 1) 0 (List.replicate a0.length (TArchive.mk 0 ([] : List TItem))) with | z1_0 => z1_0)
def l_toWorld (a0 : TWorld) : TWorld := a0
def s_l18Copy (a0 : TPiece) : TPiece := a0
def s_l18All_1 (a0 : List TPiece) : Nat → List TPiece → Nat → (List TPiece)
  | 0, _, _ => default
  | n1 + 1, v1_0, v1_1 => (bif (decide ((↑v1_1 : Int) < (↑a0.length : Int))) then s_l18All_1 a0 n1 (v1_0 ++ ([(nth a0 v1_1)] : List TPiece)) (v1_1 + 1) else (v1_0))
def s_l18All (a0 : List TPiece) : List TPiece := (match s_l18All_1 a0 (a0.length + 1) ([] : List TPiece) 0 with | z1_0 => z1_0)
def s_l19Copy (a0 : TRenewal) : TRenewal := a0
def s_l20Copy_1 (a0 : TStrand) : Nat → Nat → List TRenewal → (List TRenewal)
  | 0, _, _ => default
  | n1 + 1, v1_0, v1_1 => (bif (decide ((↑v1_0 : Int) < (↑a0.Chain.length : Int))) then s_l20Copy_1 a0 n1 (v1_0 + 1) (v1_1 ++ ([(nth a0.Chain v1_0)] : List TRenewal)) else (v1_1))
def s_l20Copy (a0 : TStrand) : TStrand := (match s_l20Copy_1 a0 (a0.Chain.length + 1) 0 ([] : List TRenewal) with | z1_0 => (TStrand.mk a0.Pieces z1_0))
def s_l27Add_2 (a1 : List TStamp) (v1_0 : List TStamp) (v1_1 : Nat) : Nat → Bool → Nat → Bool
  | 0, _, _ => default
  | n2 + 1, v2_0, v2_1 => (bif (decide ((↑v2_1 : Int) < (↑v1_0.length : Int))) then s_l27Add_2 a1 v1_0 v1_1 n2 (v2_0 || (((nth v1_0 v2_1).Authority == (nth a1 v1_1).Authority) && (((nth v1_0 v2_1).Seq == (nth a1 v1_1).Seq) && (((nth v1_0 v2_1).Time == (nth a1 v1_1).Time) && (((nth v1_0 v2_1).Digest == (nth a1 v1_1).Digest) && ((nth v1_0 v2_1).Mark == (nth a1 v1_1).Mark)))))) (v2_1 + 1) else (v2_0))
def s_l27Add_1 (a1 : List TStamp) : Nat → List TStamp → Nat → (List TStamp)
  | 0, _, _ => default
  | n1 + 1, v1_0, v1_1 => (bif (decide ((↑v1_1 : Int) < (↑a1.length : Int))) then (match s_l27Add_2 a1 v1_0 v1_1 (v1_0.length + 1) false 0 with | z2_0 => (bif (!z2_0) then s_l27Add_1 a1 n1 (v1_0 ++ ([(nth a1 v1_1)] : List TStamp)) (v1_1 + 1) else s_l27Add_1 a1 n1 v1_0 (v1_1 + 1))) else (v1_0))
def s_l27Add (a0 : List TStamp) (a1 : List TStamp) : List TStamp := (match s_l27Add_1 a1 (a1.length + 1) a0 0 with | z1_0 => z1_0)
def s_StampsOf_2 (a0 : TEvidence) (v1_1 : Nat) : Nat → List TStamp → Nat → (List TStamp)
  | 0, _, _ => default
  | n2 + 1, v2_0, v2_1 => (bif (decide ((↑v2_1 : Int) < (↑(nth a0.Strands v1_1).Chain.length : Int))) then s_StampsOf_2 a0 v1_1 n2 (s_l27Add v2_0 (nth (nth a0.Strands v1_1).Chain v2_1).Stamps) (v2_1 + 1) else (v2_0))
def s_StampsOf_3 (a0 : TEvidence) : Nat → List TStamp → Nat → (List TStamp)
  | 0, _, _ => default
  | n3 + 1, v3_0, v3_1 => (bif (decide ((↑v3_1 : Int) < (↑a0.Fresh.length : Int))) then s_StampsOf_3 a0 n3 (s_l27Add v3_0 (nth a0.Fresh v3_1)) (v3_1 + 1) else (v3_0))
def s_StampsOf_1 (a0 : TEvidence) : Nat → List TStamp → Nat → (List TStamp)
  | 0, _, _ => default
  | n1 + 1, v1_0, v1_1 => (bif (decide ((↑v1_1 : Int) < (↑a0.Strands.length : Int))) then (match s_StampsOf_2 a0 v1_1 ((nth a0.Strands v1_1).Chain.length + 1) v1_0 0 with | z2_0 => s_StampsOf_1 a0 n1 z2_0 (v1_1 + 1)) else (v1_0))
def s_StampsOf (a0 : TEvidence) : List TStamp := (match s_StampsOf_1 a0 (a0.Strands.length + 1) ([] : List TStamp) 0 with | z1_0 => (match s_StampsOf_3 a0 (a0.Fresh.length + 1) z1_0 0 with | z3_0 => z3_0))
def s_AllStamps_2 (a0 : TWorld) (v1_0 : Nat) : Nat → Nat → List TStrand → (List TStrand)
  | 0, _, _ => default
  | n2 + 1, v2_0, v2_1 => (bif (decide ((↑v2_0 : Int) < (↑(nth a0.Archives v1_0).Items.length : Int))) then s_AllStamps_2 a0 v1_0 n2 (v2_0 + 1) (v2_1 ++ ([(nth (nth a0.Archives v1_0).Items v2_0).Strand] : List TStrand)) else (v2_1))
def s_AllStamps_1 (a0 : TWorld) : Nat → Nat → List TStrand → (List TStrand)
  | 0, _, _ => default
  | n1 + 1, v1_0, v1_1 => (bif (decide ((↑v1_0 : Int) < (↑a0.Archives.length : Int))) then (match s_AllStamps_2 a0 v1_0 ((nth a0.Archives v1_0).Items.length + 1) 0 v1_1 with | z2_0 => s_AllStamps_1 a0 n1 (v1_0 + 1) z2_0) else (v1_1))
def s_AllStamps (a0 : TWorld) : List TStamp := (match s_AllStamps_1 a0 (a0.Archives.length + 1) 0 ([] : List TStrand) with | z1_0 => (s_StampsOf (TEvidence.mk z1_0 ([] : List (List TStamp)))))
def i_itemsOf_1 (a0 : TWorld) : Nat → List TItem → Nat → (List TItem)
  | 0, _, _ => default
  | n1 + 1, v1_0, v1_1 => (bif (decide ((↑v1_1 : Int) < (↑a0.Archives.length : Int))) then i_itemsOf_1 a0 n1 (v1_0 ++ (nth a0.Archives v1_1).Items) (v1_1 + 1) else (v1_0))
def i_itemsOf (a0 : TWorld) : List TItem := (match i_itemsOf_1 a0 (a0.Archives.length + 1) ([] : List TItem) 0 with | z1_0 => z1_0)
def i_StampsOf_c1_2 (a0 : List TStamp) (v1_0 : Nat) (v1_1 : List TStamp) : Nat → Bool → Nat → Bool
  | 0, _, _ => default
  | n2 + 1, v2_0, v2_1 => (bif (decide ((↑v2_1 : Int) < (↑v1_1.length : Int))) then i_StampsOf_c1_2 a0 v1_0 v1_1 n2 (v2_0 || (((nth v1_1 v2_1).Authority == (nth a0 v1_0).Authority) && (((nth v1_1 v2_1).Seq == (nth a0 v1_0).Seq) && (((nth v1_1 v2_1).Time == (nth a0 v1_0).Time) && (((nth v1_1 v2_1).Digest == (nth a0 v1_0).Digest) && ((nth v1_1 v2_1).Mark == (nth a0 v1_0).Mark)))))) (v2_1 + 1) else (v2_0))
def i_StampsOf_c1_1 (a0 : List TStamp) : Nat → Nat → List TStamp → (List TStamp)
  | 0, _, _ => default
  | n1 + 1, v1_0, v1_1 => (bif (decide ((↑v1_0 : Int) < (↑a0.length : Int))) then (match i_StampsOf_c1_2 a0 v1_0 v1_1 (v1_1.length + 1) false 0 with | z2_0 => (bif (!z2_0) then i_StampsOf_c1_1 a0 n1 (v1_0 + 1) (v1_1 ++ ([(nth a0 v1_0)] : List TStamp)) else i_StampsOf_c1_1 a0 n1 (v1_0 + 1) v1_1)) else (v1_1))
def i_StampsOf_c1 (a0 : List TStamp) (a1 : List TStamp) : List TStamp := (match i_StampsOf_c1_1 a0 (a0.length + 1) 0 a1 with | z1_0 => z1_0)
def i_StampsOf_2 (a0 : TEvidence) (v1_0 : Nat) : Nat → Nat → List TStamp → (List TStamp)
  | 0, _, _ => default
  | n2 + 1, v2_0, v2_1 => (bif (decide ((↑v2_0 : Int) < (↑(nth a0.Strands v1_0).Chain.length : Int))) then i_StampsOf_2 a0 v1_0 n2 (v2_0 + 1) (i_StampsOf_c1 (nth (nth a0.Strands v1_0).Chain v2_0).Stamps v2_1) else (v2_1))
def i_StampsOf_3 (a0 : TEvidence) : Nat → Nat → List TStamp → (List TStamp)
  | 0, _, _ => default
  | n3 + 1, v3_0, v3_1 => (bif (decide ((↑v3_0 : Int) < (↑a0.Fresh.length : Int))) then i_StampsOf_3 a0 n3 (v3_0 + 1) (i_StampsOf_c1 (nth a0.Fresh v3_0) v3_1) else (v3_1))
def i_StampsOf_1 (a0 : TEvidence) : Nat → Nat → List TStamp → (List TStamp)
  | 0, _, _ => default
  | n1 + 1, v1_0, v1_1 => (bif (decide ((↑v1_0 : Int) < (↑a0.Strands.length : Int))) then (match i_StampsOf_2 a0 v1_0 ((nth a0.Strands v1_0).Chain.length + 1) 0 v1_1 with | z2_0 => i_StampsOf_1 a0 n1 (v1_0 + 1) z2_0) else (v1_1))
def i_StampsOf (a0 : TEvidence) : List TStamp := (match i_StampsOf_1 a0 (a0.Strands.length + 1) 0 ([] : List TStamp) with | z1_0 => (match i_StampsOf_3 a0 (a0.Fresh.length + 1) 0 z1_0 with | z3_0 => z3_0))
def i_AllStamps_1 (a0 : TWorld) : Nat → Nat → List TStrand → (List TStrand)
  | 0, _, _ => default
  | n1 + 1, v1_0, v1_1 => (bif (decide ((↑v1_0 : Int) < (↑(i_itemsOf a0).length : Int))) then i_AllStamps_1 a0 n1 (v1_0 + 1) (v1_1 ++ ([(nth (i_itemsOf a0) v1_0).Strand] : List TStrand)) else (v1_1))
def i_AllStamps (a0 : TWorld) : List TStamp := (match i_AllStamps_1 a0 ((i_itemsOf a0).length + 1) 0 ([] : List TStrand) with | z1_0 => (i_StampsOf (TEvidence.mk z1_0 ([] : List (List TStamp)))))
def l_eqStamp (a0 : TStamp) (a1 : TStamp) : Bool := (bif (a0.Authority != a1.Authority) then false else (bif (a0.Seq != a1.Seq) then false else (bif (a0.Time != a1.Time) then false else (bif (a0.Digest != a1.Digest) then false else (bif (a0.Mark != a1.Mark) then false else true)))))
def l_eqStampS_1 (a0 : List TStamp) (a1 : List TStamp) : Nat → Nat → Sum Bool Unit
  | 0, _ => .inr ()
  | n1 + 1, v1_0 => (bif (decide ((↑v1_0 : Int) < (↑a0.length : Int))) then (bif (!(l_eqStamp (nth a0 v1_0) (nth a1 v1_0))) then (.inl false) else l_eqStampS_1 a0 a1 n1 (v1_0 + 1)) else (.inr ()))
def l_eqStampS (a0 : List TStamp) (a1 : List TStamp) : Bool := (bif ((↑a0.length : Int) != (↑a1.length : Int)) then false else (match l_eqStampS_1 a0 a1 (a0.length + 1) 0 with | .inl r1 => r1 | .inr _ => true))
def l_eqKey (a0 : TKey) (a1 : TKey) : Bool := (bif (a0.Number != a1.Number) then false else (bif (a0.Owner != a1.Owner) then false else (bif (a0.Method != a1.Method) then false else (bif (a0.Born != a1.Born) then false else (bif (a0.Secret != a1.Secret) then false else true)))))
def l_eqKeyS_1 (a0 : List TKey) (a1 : List TKey) : Nat → Nat → Sum Bool Unit
  | 0, _ => .inr ()
  | n1 + 1, v1_0 => (bif (decide ((↑v1_0 : Int) < (↑a0.length : Int))) then (bif (!(l_eqKey (nth a0 v1_0) (nth a1 v1_0))) then (.inl false) else l_eqKeyS_1 a0 a1 n1 (v1_0 + 1)) else (.inr ()))
def l_eqKeyS (a0 : List TKey) (a1 : List TKey) : Bool := (bif ((↑a0.length : Int) != (↑a1.length : Int)) then false else (match l_eqKeyS_1 a0 a1 (a0.length + 1) 0 with | .inl r1 => r1 | .inr _ => true))
def l_eqAuthority (a0 : TAuthority) (a1 : TAuthority) : Bool := (bif (a0.Id != a1.Id) then false else (bif (a0.Key != a1.Key) then false else (bif (a0.Error != a1.Error) then false else true)))
def l_eqAuthorityS_1 (a0 : List TAuthority) (a1 : List TAuthority) : Nat → Nat → Sum Bool Unit
  | 0, _ => .inr ()
  | n1 + 1, v1_0 => (bif (decide ((↑v1_0 : Int) < (↑a0.length : Int))) then (bif (!(l_eqAuthority (nth a0 v1_0) (nth a1 v1_0))) then (.inl false) else l_eqAuthorityS_1 a0 a1 n1 (v1_0 + 1)) else (.inr ()))
def l_eqAuthorityS (a0 : List TAuthority) (a1 : List TAuthority) : Bool := (bif ((↑a0.length : Int) != (↑a1.length : Int)) then false else (match l_eqAuthorityS_1 a0 a1 (a0.length + 1) 0 with | .inl r1 => r1 | .inr _ => true))
def l_eqMethod (a0 : TMethod) (a1 : TMethod) : Bool := (bif (a0.Id != a1.Id) then false else (bif (a0.Known != a1.Known) then false else (bif (a0.Ends != a1.Ends) then false else (bif (a0.Broken != a1.Broken) then false else true))))
def l_eqMethodS_1 (a0 : List TMethod) (a1 : List TMethod) : Nat → Nat → Sum Bool Unit
  | 0, _ => .inr ()
  | n1 + 1, v1_0 => (bif (decide ((↑v1_0 : Int) < (↑a0.length : Int))) then (bif (!(l_eqMethod (nth a0 v1_0) (nth a1 v1_0))) then (.inl false) else l_eqMethodS_1 a0 a1 n1 (v1_0 + 1)) else (.inr ()))
def l_eqMethodS (a0 : List TMethod) (a1 : List TMethod) : Bool := (bif ((↑a0.length : Int) != (↑a1.length : Int)) then false else (match l_eqMethodS_1 a0 a1 (a0.length + 1) 0 with | .inl r1 => r1 | .inr _ => true))
def l_eqFrame (a0 : TFrame) (a1 : TFrame) : Bool := (bif (!(l_eqKeyS a0.Keys a1.Keys)) then false else (bif (!(l_eqAuthorityS a0.Authorities a1.Authorities)) then false else (bif (!(l_eqMethodS a0.Methods a1.Methods)) then false else (bif (a0.Liars != a1.Liars) then false else (bif (a0.Now != a1.Now) then false else true)))))
def l_eqCert (a0 : TCert) (a1 : TCert) : Bool := (bif (a0.Serial != a1.Serial) then false else (bif (a0.Key != a1.Key) then false else (bif (a0.Owner != a1.Owner) then false else (bif (a0.From != a1.From) then false else (bif (a0.To != a1.To) then false else (bif (a0.Issuer != a1.Issuer) then false else (bif (a0.Mark != a1.Mark) then false else true)))))))
def l_eqCertS_1 (a0 : List TCert) (a1 : List TCert) : Nat → Nat → Sum Bool Unit
  | 0, _ => .inr ()
  | n1 + 1, v1_0 => (bif (decide ((↑v1_0 : Int) < (↑a0.length : Int))) then (bif (!(l_eqCert (nth a0 v1_0) (nth a1 v1_0))) then (.inl false) else l_eqCertS_1 a0 a1 n1 (v1_0 + 1)) else (.inr ()))
def l_eqCertS (a0 : List TCert) (a1 : List TCert) : Bool := (bif ((↑a0.length : Int) != (↑a1.length : Int)) then false else (match l_eqCertS_1 a0 a1 (a0.length + 1) 0 with | .inl r1 => r1 | .inr _ => true))
def l_eqIntS_1 (a0 : List Int) (a1 : List Int) : Nat → Nat → Sum Bool Unit
  | 0, _ => .inr ()
  | n1 + 1, v1_0 => (bif (decide ((↑v1_0 : Int) < (↑a0.length : Int))) then (bif ((nth a0 v1_0) != (nth a1 v1_0)) then (.inl false) else l_eqIntS_1 a0 a1 n1 (v1_0 + 1)) else (.inr ()))
def l_eqIntS (a0 : List Int) (a1 : List Int) : Bool := (bif ((↑a0.length : Int) != (↑a1.length : Int)) then false else (match l_eqIntS_1 a0 a1 (a0.length + 1) 0 with | .inl r1 => r1 | .inr _ => true))
def l_eqStringS_1 (a0 : List ByteArray) (a1 : List ByteArray) : Nat → Nat → Sum Bool Unit
  | 0, _ => .inr ()
  | n1 + 1, v1_0 => (bif (decide ((↑v1_0 : Int) < (↑a0.length : Int))) then (bif (!decide ((nth a0 v1_0) = (nth a1 v1_0))) then (.inl false) else l_eqStringS_1 a0 a1 n1 (v1_0 + 1)) else (.inr ()))
def l_eqStringS (a0 : List ByteArray) (a1 : List ByteArray) : Bool := (bif ((↑a0.length : Int) != (↑a1.length : Int)) then false else (match l_eqStringS_1 a0 a1 (a0.length + 1) 0 with | .inl r1 => r1 | .inr _ => true))
def l_eqDocument (a0 : TDocument) (a1 : TDocument) : Bool := (bif (a0.Title != a1.Title) then false else (bif (!(l_eqStringS a0.Parts a1.Parts)) then false else (bif (!(l_eqIntS a0.Salts a1.Salts)) then false else true)))
def l_eqSignature (a0 : TSignature) (a1 : TSignature) : Bool := (bif (a0.Key != a1.Key) then false else (bif (a0.Serial != a1.Serial) then false else (bif (a0.Method != a1.Method) then false else (bif (a0.Digest != a1.Digest) then false else (bif (a0.Commit != a1.Commit) then false else (bif (a0.Org != a1.Org) then false else (bif (a0.Before != a1.Before) then false else (bif (a0.After != a1.After) then false else (bif (a0.Mark != a1.Mark) then false else true)))))))))
def l_eqPiece (a0 : TPiece) (a1 : TPiece) : Bool := (bif (a0.Key != a1.Key) then false else (bif (!(l_eqIntS a0.Ints a1.Ints)) then false else (bif (a0.Mark != a1.Mark) then false else true)))
def l_eqPieceS_1 (a0 : List TPiece) (a1 : List TPiece) : Nat → Nat → Sum Bool Unit
  | 0, _ => .inr ()
  | n1 + 1, v1_0 => (bif (decide ((↑v1_0 : Int) < (↑a0.length : Int))) then (bif (!(l_eqPiece (nth a0 v1_0) (nth a1 v1_0))) then (.inl false) else l_eqPieceS_1 a0 a1 n1 (v1_0 + 1)) else (.inr ()))
def l_eqPieceS (a0 : List TPiece) (a1 : List TPiece) : Bool := (bif ((↑a0.length : Int) != (↑a1.length : Int)) then false else (match l_eqPieceS_1 a0 a1 (a0.length + 1) 0 with | .inl r1 => r1 | .inr _ => true))
def l_eqStep (a0 : TStep) (a1 : TStep) : Bool := (bif (a0.Digest != a1.Digest) then false else (bif (!(a0.Left == a1.Left)) then false else true))
def l_eqStepS_1 (a0 : List TStep) (a1 : List TStep) : Nat → Nat → Sum Bool Unit
  | 0, _ => .inr ()
  | n1 + 1, v1_0 => (bif (decide ((↑v1_0 : Int) < (↑a0.length : Int))) then (bif (!(l_eqStep (nth a0 v1_0) (nth a1 v1_0))) then (.inl false) else l_eqStepS_1 a0 a1 n1 (v1_0 + 1)) else (.inr ()))
def l_eqStepS (a0 : List TStep) (a1 : List TStep) : Bool := (bif ((↑a0.length : Int) != (↑a1.length : Int)) then false else (match l_eqStepS_1 a0 a1 (a0.length + 1) 0 with | .inl r1 => r1 | .inr _ => true))
def l_eqRenewal (a0 : TRenewal) (a1 : TRenewal) : Bool := (bif (a0.Count != a1.Count) then false else (bif (a0.Method != a1.Method) then false else (bif (a0.Root != a1.Root) then false else (bif (!(l_eqStepS a0.Path a1.Path)) then false else (bif (!(l_eqStampS a0.Stamps a1.Stamps)) then false else true)))))
def l_eqRenewalS_1 (a0 : List TRenewal) (a1 : List TRenewal) : Nat → Nat → Sum Bool Unit
  | 0, _ => .inr ()
  | n1 + 1, v1_0 => (bif (decide ((↑v1_0 : Int) < (↑a0.length : Int))) then (bif (!(l_eqRenewal (nth a0 v1_0) (nth a1 v1_0))) then (.inl false) else l_eqRenewalS_1 a0 a1 n1 (v1_0 + 1)) else (.inr ()))
def l_eqRenewalS (a0 : List TRenewal) (a1 : List TRenewal) : Bool := (bif ((↑a0.length : Int) != (↑a1.length : Int)) then false else (match l_eqRenewalS_1 a0 a1 (a0.length + 1) 0 with | .inl r1 => r1 | .inr _ => true))
def l_eqStrand (a0 : TStrand) (a1 : TStrand) : Bool := (bif (!(l_eqPieceS a0.Pieces a1.Pieces)) then false else (bif (!(l_eqRenewalS a0.Chain a1.Chain)) then false else true))
def l_eqItem (a0 : TItem) (a1 : TItem) : Bool := (bif (a0.Id != a1.Id) then false else (bif (a0.Keep != a1.Keep) then false else (bif (!(l_eqDocument a0.Doc a1.Doc)) then false else (bif (!(l_eqSignature a0.Sig a1.Sig)) then false else (bif (!(l_eqStrand a0.Strand a1.Strand)) then false else true)))))
def l_eqItemS_1 (a0 : List TItem) (a1 : List TItem) : Nat → Nat → Sum Bool Unit
  | 0, _ => .inr ()
  | n1 + 1, v1_0 => (bif (decide ((↑v1_0 : Int) < (↑a0.length : Int))) then (bif (!(l_eqItem (nth a0 v1_0) (nth a1 v1_0))) then (.inl false) else l_eqItemS_1 a0 a1 n1 (v1_0 + 1)) else (.inr ()))
def l_eqItemS (a0 : List TItem) (a1 : List TItem) : Bool := (bif ((↑a0.length : Int) != (↑a1.length : Int)) then false else (match l_eqItemS_1 a0 a1 (a0.length + 1) 0 with | .inl r1 => r1 | .inr _ => true))
def l_eqArchive (a0 : TArchive) (a1 : TArchive) : Bool := (bif (a0.Id != a1.Id) then false else (bif (!(l_eqItemS a0.Items a1.Items)) then false else true))
def l_eqArchiveS_1 (a0 : List TArchive) (a1 : List TArchive) : Nat → Nat → Sum Bool Unit
  | 0, _ => .inr ()
  | n1 + 1, v1_0 => (bif (decide ((↑v1_0 : Int) < (↑a0.length : Int))) then (bif (!(l_eqArchive (nth a0 v1_0) (nth a1 v1_0))) then (.inl false) else l_eqArchiveS_1 a0 a1 n1 (v1_0 + 1)) else (.inr ()))
def l_eqArchiveS (a0 : List TArchive) (a1 : List TArchive) : Bool := (bif ((↑a0.length : Int) != (↑a1.length : Int)) then false else (match l_eqArchiveS_1 a0 a1 (a0.length + 1) 0 with | .inl r1 => r1 | .inr _ => true))
def l_eqWorld (a0 : TWorld) (a1 : TWorld) : Bool := (bif (!(l_eqFrame a0.Frame a1.Frame)) then false else (bif (!(l_eqCertS a0.Certs a1.Certs)) then false else (bif (!(l_eqIntS a0.Ended a1.Ended)) then false else (bif (!(l_eqArchiveS a0.Archives a1.Archives)) then false else (bif (!(l_eqIntS a0.Seqs a1.Seqs)) then false else (bif (!(l_eqIntS a0.Lying a1.Lying)) then false else (bif (a0.Next != a1.Next) then false else (bif (!(l_eqIntS a0.Forged a1.Forged)) then false else true))))))))
def l_markKeyS_1 : Nat → Int → Nat → List TKey → Int × (List TKey)
  | 0, _, _, _ => (default, default)
  | n1 + 1, v1_0, v1_1, v1_2 => (bif (decide ((↑v1_1 : Int) < (↑v1_2.length : Int))) then l_markKeyS_1 n1 (W ((W ((W ((W ((W (v1_0 + 1)) + 1)) + 1)) + 1)) + 1)) (v1_1 + 1) (v1_2.set v1_1 (TKey.mk v1_0 (W (v1_0 + 1)) (W ((W (v1_0 + 1)) + 1)) (W ((W ((W (v1_0 + 1)) + 1)) + 1)) (W ((W ((W ((W (v1_0 + 1)) + 1)) + 1)) + 1)))) else ((v1_0, v1_2)))
def l_markKeyS (a0 : List TKey) (a1 : Int) : (List TKey) × Int := (match l_markKeyS_1 (a0.length + 1) a1 0 a0 with | (z1_0, z1_1) => (z1_1, z1_0))
def l_markAuthorityS_1 : Nat → Int → Nat → List TAuthority → Int × (List TAuthority)
  | 0, _, _, _ => (default, default)
  | n1 + 1, v1_0, v1_1, v1_2 => (bif (decide ((↑v1_1 : Int) < (↑v1_2.length : Int))) then l_markAuthorityS_1 n1 (W ((W ((W (v1_0 + 1)) + 1)) + 1)) (v1_1 + 1) (v1_2.set v1_1 (TAuthority.mk v1_0 (W (v1_0 + 1)) (W ((W (v1_0 + 1)) + 1)))) else ((v1_0, v1_2)))
def l_markAuthorityS (a0 : List TAuthority) (a1 : Int) : (List TAuthority) × Int := (match l_markAuthorityS_1 (a0.length + 1) a1 0 a0 with | (z1_0, z1_1) => (z1_1, z1_0))
def l_markMethodS_1 : Nat → Int → Nat → List TMethod → Int × (List TMethod)
  | 0, _, _, _ => (default, default)
  | n1 + 1, v1_0, v1_1, v1_2 => (bif (decide ((↑v1_1 : Int) < (↑v1_2.length : Int))) then l_markMethodS_1 n1 (W ((W ((W ((W (v1_0 + 1)) + 1)) + 1)) + 1)) (v1_1 + 1) (v1_2.set v1_1 (TMethod.mk v1_0 (W (v1_0 + 1)) (W ((W (v1_0 + 1)) + 1)) (W ((W ((W (v1_0 + 1)) + 1)) + 1)))) else ((v1_0, v1_2)))
def l_markMethodS (a0 : List TMethod) (a1 : Int) : (List TMethod) × Int := (match l_markMethodS_1 (a0.length + 1) a1 0 a0 with | (z1_0, z1_1) => (z1_1, z1_0))
def l_markFrame (a0 : TFrame) (a1 : Int) : TFrame × Int := ((TFrame.mk (l_markKeyS a0.Keys a1).1 (l_markAuthorityS a0.Authorities (l_markKeyS a0.Keys a1).2).1 (l_markMethodS a0.Methods (l_markAuthorityS a0.Authorities (l_markKeyS a0.Keys a1).2).2).1 a0.Liars a0.Now), (l_markMethodS a0.Methods (l_markAuthorityS a0.Authorities (l_markKeyS a0.Keys a1).2).2).2)
def l_markCertS_1 : Nat → Int → Nat → List TCert → Int × (List TCert)
  | 0, _, _, _ => (default, default)
  | n1 + 1, v1_0, v1_1, v1_2 => (bif (decide ((↑v1_1 : Int) < (↑v1_2.length : Int))) then l_markCertS_1 n1 (W ((W ((W ((W ((W ((W ((W (v1_0 + 1)) + 1)) + 1)) + 1)) + 1)) + 1)) + 1)) (v1_1 + 1) (v1_2.set v1_1 (TCert.mk v1_0 (W (v1_0 + 1)) (W ((W (v1_0 + 1)) + 1)) (W ((W ((W (v1_0 + 1)) + 1)) + 1)) (W ((W ((W ((W (v1_0 + 1)) + 1)) + 1)) + 1)) (W ((W ((W ((W ((W (v1_0 + 1)) + 1)) + 1)) + 1)) + 1)) (W ((W ((W ((W ((W ((W (v1_0 + 1)) + 1)) + 1)) + 1)) + 1)) + 1)))) else ((v1_0, v1_2)))
def l_markCertS (a0 : List TCert) (a1 : Int) : (List TCert) × Int := (match l_markCertS_1 (a0.length + 1) a1 0 a0 with | (z1_0, z1_1) => (z1_1, z1_0))
def l_markIntS_1 : Nat → Int → Nat → List Int → Int × (List Int)
  | 0, _, _, _ => (default, default)
  | n1 + 1, v1_0, v1_1, v1_2 => (bif (decide ((↑v1_1 : Int) < (↑v1_2.length : Int))) then l_markIntS_1 n1 (W (v1_0 + 1)) (v1_1 + 1) (v1_2.set v1_1 v1_0) else ((v1_0, v1_2)))
def l_markIntS (a0 : List Int) (a1 : Int) : (List Int) × Int := (match l_markIntS_1 (a0.length + 1) a1 0 a0 with | (z1_0, z1_1) => (z1_1, z1_0))
def l_markText_1 : Nat → Int → ByteArray → ByteArray
  | 0, _, _ => default
  | n1 + 1, v1_0, v1_1 => (bif (decide (v1_0 > 0)) then l_markText_1 n1 (W (Int.tdiv v1_0 10)) ((⟨([(UInt8.ofInt (W (48 + (Int.tmod v1_0 10))))] : List UInt8).toArray⟩ : ByteArray) ++ v1_1) else (v1_1))
def l_markText (a0 : Int) : ByteArray := (bif (decide (a0 ≤ 0)) then (⟨#[109, 48]⟩ : ByteArray) else (match l_markText_1 22 a0 (⟨#[]⟩ : ByteArray) with | z1_0 => ((⟨#[109]⟩ : ByteArray) ++ z1_0)))
def l_markStringS_1 : Nat → Int → Nat → List ByteArray → Int × (List ByteArray)
  | 0, _, _, _ => (default, default)
  | n1 + 1, v1_0, v1_1, v1_2 => (bif (decide ((↑v1_1 : Int) < (↑v1_2.length : Int))) then l_markStringS_1 n1 (W (v1_0 + 1)) (v1_1 + 1) (v1_2.set v1_1 (l_markText v1_0)) else ((v1_0, v1_2)))
def l_markStringS (a0 : List ByteArray) (a1 : Int) : (List ByteArray) × Int := (match l_markStringS_1 (a0.length + 1) a1 0 a0 with | (z1_0, z1_1) => (z1_1, z1_0))
def l_markPieceS_1 : Nat → Int → Nat → List TPiece → Int × (List TPiece)
  | 0, _, _, _ => (default, default)
  | n1 + 1, v1_0, v1_1, v1_2 => (bif (decide ((↑v1_1 : Int) < (↑v1_2.length : Int))) then l_markPieceS_1 n1 (W ((l_markIntS (nth v1_2 v1_1).Ints (W (v1_0 + 1))).2 + 1)) (v1_1 + 1) (v1_2.set v1_1 (TPiece.mk v1_0 (l_markIntS (nth v1_2 v1_1).Ints (W (v1_0 + 1))).1 (l_markIntS (nth v1_2 v1_1).Ints (W (v1_0 + 1))).2)) else ((v1_0, v1_2)))
def l_markPieceS (a0 : List TPiece) (a1 : Int) : (List TPiece) × Int := (match l_markPieceS_1 (a0.length + 1) a1 0 a0 with | (z1_0, z1_1) => (z1_1, z1_0))
def l_markStepS_1 : Nat → Int → Nat → List TStep → Int × (List TStep)
  | 0, _, _, _ => (default, default)
  | n1 + 1, v1_0, v1_1, v1_2 => (bif (decide ((↑v1_1 : Int) < (↑v1_2.length : Int))) then l_markStepS_1 n1 (W ((W (v1_0 + 1)) + 1)) (v1_1 + 1) (v1_2.set v1_1 (TStep.mk v1_0 ((Int.tmod (W (v1_0 + 1)) 3) == 0))) else ((v1_0, v1_2)))
def l_markStepS (a0 : List TStep) (a1 : Int) : (List TStep) × Int := (match l_markStepS_1 (a0.length + 1) a1 0 a0 with | (z1_0, z1_1) => (z1_1, z1_0))
def l_markStampS_1 : Nat → Int → Nat → List TStamp → Int × (List TStamp)
  | 0, _, _, _ => (default, default)
  | n1 + 1, v1_0, v1_1, v1_2 => (bif (decide ((↑v1_1 : Int) < (↑v1_2.length : Int))) then l_markStampS_1 n1 (W ((W ((W ((W ((W (v1_0 + 1)) + 1)) + 1)) + 1)) + 1)) (v1_1 + 1) (v1_2.set v1_1 (TStamp.mk v1_0 (W (v1_0 + 1)) (W ((W (v1_0 + 1)) + 1)) (W ((W ((W (v1_0 + 1)) + 1)) + 1)) (W ((W ((W ((W (v1_0 + 1)) + 1)) + 1)) + 1)))) else ((v1_0, v1_2)))
def l_markStampS (a0 : List TStamp) (a1 : Int) : (List TStamp) × Int := (match l_markStampS_1 (a0.length + 1) a1 0 a0 with | (z1_0, z1_1) => (z1_1, z1_0))
def l_markRenewalS_1 : Nat → Int → Nat → List TRenewal → Int × (List TRenewal)
  | 0, _, _, _ => (default, default)
  | n1 + 1, v1_0, v1_1, v1_2 => (bif (decide ((↑v1_1 : Int) < (↑v1_2.length : Int))) then l_markRenewalS_1 n1 (l_markStampS (nth v1_2 v1_1).Stamps (l_markStepS (nth v1_2 v1_1).Path (W ((W ((W (v1_0 + 1)) + 1)) + 1))).2).2 (v1_1 + 1) (v1_2.set v1_1 (TRenewal.mk v1_0 (W (v1_0 + 1)) (W ((W (v1_0 + 1)) + 1)) (l_markStepS (nth v1_2 v1_1).Path (W ((W ((W (v1_0 + 1)) + 1)) + 1))).1 (l_markStampS (nth v1_2 v1_1).Stamps (l_markStepS (nth v1_2 v1_1).Path (W ((W ((W (v1_0 + 1)) + 1)) + 1))).2).1)) else ((v1_0, v1_2)))
def l_markRenewalS (a0 : List TRenewal) (a1 : Int) : (List TRenewal) × Int := (match l_markRenewalS_1 (a0.length + 1) a1 0 a0 with | (z1_0, z1_1) => (z1_1, z1_0))
def l_markItemS_1 : Nat → Int → Nat → List TItem → Int × (List TItem)
  | 0, _, _, _ => (default, default)
  | n1 + 1, v1_0, v1_1, v1_2 => (bif (decide ((↑v1_1 : Int) < (↑v1_2.length : Int))) then l_markItemS_1 n1 (l_markRenewalS (nth v1_2 v1_1).Strand.Chain (l_markPieceS (nth v1_2 v1_1).Strand.Pieces (W ((W ((W ((W ((W ((W ((W ((W ((W ((l_markIntS (nth v1_2 v1_1).Doc.Salts (l_markStringS (nth v1_2 v1_1).Doc.Parts (W ((W ((W (v1_0 + 1)) + 1)) + 1))).2).2 + 1)) + 1)) + 1)) + 1)) + 1)) + 1)) + 1)) + 1)) + 1))).2).2 (v1_1 + 1) (v1_2.set v1_1 (TItem.mk v1_0 (W (v1_0 + 1)) (TDocument.mk (W ((W (v1_0 + 1)) + 1)) (l_markStringS (nth v1_2 v1_1).Doc.Parts (W ((W ((W (v1_0 + 1)) + 1)) + 1))).1 (l_markIntS (nth v1_2 v1_1).Doc.Salts (l_markStringS (nth v1_2 v1_1).Doc.Parts (W ((W ((W (v1_0 + 1)) + 1)) + 1))).2).1) (TSignature.mk (l_markIntS (nth v1_2 v1_1).Doc.Salts (l_markStringS (nth v1_2 v1_1).Doc.Parts (W ((W ((W (v1_0 + 1)) + 1)) + 1))).2).2 (W ((l_markIntS (nth v1_2 v1_1).Doc.Salts (l_markStringS (nth v1_2 v1_1).Doc.Parts (W ((W ((W (v1_0 + 1)) + 1)) + 1))).2).2 + 1)) (W ((W ((l_markIntS (nth v1_2 v1_1).Doc.Salts (l_markStringS (nth v1_2 v1_1).Doc.Parts (W ((W ((W (v1_0 + 1)) + 1)) + 1))).2).2 + 1)) + 1)) (W ((W ((W ((l_markIntS (nth v1_2 v1_1).Doc.Salts (l_markStringS (nth v1_2 v1_1).Doc.Parts (W ((W ((W (v1_0 + 1)) + 1)) + 1))).2).2 + 1)) + 1)) + 1)) (W ((W ((W ((W ((l_markIntS (nth v1_2 v1_1).Doc.Salts (l_markStringS (nth v1_2 v1_1).Doc.Parts (W ((W ((W (v1_0 + 1)) + 1)) + 1))).2).2 + 1)) + 1)) + 1)) + 1)) (W ((W ((W ((W ((W ((l_markIntS (nth v1_2 v1_1).Doc.Salts (l_markStringS (nth v1_2 v1_1).Doc.Parts (W ((W ((W (v1_0 + 1)) + 1)) + 1))).2).2 + 1)) + 1)) + 1)) + 1)) + 1)) (W ((W ((W ((W ((W ((W ((l_markIntS (nth v1_2 v1_1).Doc.Salts (l_markStringS (nth v1_2 v1_1).Doc.Parts (W ((W ((W (v1_0 + 1)) + 1)) + 1))).2).2 + 1)) + 1)) + 1)) + 1)) + 1)) + 1)) (W ((W ((W ((W ((W ((W ((W ((l_markIntS (nth v1_2 v1_1).Doc.Salts (l_markStringS (nth v1_2 v1_1).Doc.Parts (W ((W ((W (v1_0 + 1)) + 1)) + 1))).2).2 + 1)) + 1)) + 1)) + 1)) + 1)) + 1)) + 1)) (W ((W ((W ((W ((W ((W ((W ((W ((l_markIntS (nth v1_2 v1_1).Doc.Salts (l_markStringS (nth v1_2 v1_1).Doc.Parts (W ((W ((W (v1_0 + 1)) + 1)) + 1))).2).2 + 1)) + 1)) + 1)) + 1)) + 1)) + 1)) + 1)) + 1))) (TStrand.mk (l_markPieceS (nth v1_2 v1_1).Strand.Pieces (W ((W ((W ((W ((W ((W ((W ((W ((W ((l_markIntS (nth v1_2 v1_1).Doc.Salts (l_markStringS (nth v1_2 v1_1).Doc.Parts (W ((W ((W (v1_0 + 1)) + 1)) + 1))).2).2 + 1)) + 1)) + 1)) + 1)) + 1)) + 1)) + 1)) + 1)) + 1))).1 (l_markRenewalS (nth v1_2 v1_1).Strand.Chain (l_markPieceS (nth v1_2 v1_1).Strand.Pieces (W ((W ((W ((W ((W ((W ((W ((W ((W ((l_markIntS (nth v1_2 v1_1).Doc.Salts (l_markStringS (nth v1_2 v1_1).Doc.Parts (W ((W ((W (v1_0 + 1)) + 1)) + 1))).2).2 + 1)) + 1)) + 1)) + 1)) + 1)) + 1)) + 1)) + 1)) + 1))).2).1))) else ((v1_0, v1_2)))
def l_markItemS (a0 : List TItem) (a1 : Int) : (List TItem) × Int := (match l_markItemS_1 (a0.length + 1) a1 0 a0 with | (z1_0, z1_1) => (z1_1, z1_0))
def l_markArchiveS_1 : Nat → Int → Nat → List TArchive → Int × (List TArchive)
  | 0, _, _, _ => (default, default)
  | n1 + 1, v1_0, v1_1, v1_2 => (bif (decide ((↑v1_1 : Int) < (↑v1_2.length : Int))) then l_markArchiveS_1 n1 (l_markItemS (nth v1_2 v1_1).Items (W (v1_0 + 1))).2 (v1_1 + 1) (v1_2.set v1_1 (TArchive.mk v1_0 (l_markItemS (nth v1_2 v1_1).Items (W (v1_0 + 1))).1)) else ((v1_0, v1_2)))
def l_markArchiveS (a0 : List TArchive) (a1 : Int) : (List TArchive) × Int := (match l_markArchiveS_1 (a0.length + 1) a1 0 a0 with | (z1_0, z1_1) => (z1_1, z1_0))
def l_markWorld (a0 : TWorld) (a1 : Int) : TWorld × Int := ((TWorld.mk (l_markFrame a0.Frame a1).1 (l_markCertS a0.Certs (l_markFrame a0.Frame a1).2).1 (l_markIntS a0.Ended (l_markCertS a0.Certs (l_markFrame a0.Frame a1).2).2).1 (l_markArchiveS a0.Archives (l_markIntS a0.Ended (l_markCertS a0.Certs (l_markFrame a0.Frame a1).2).2).2).1 (l_markIntS a0.Seqs (l_markArchiveS a0.Archives (l_markIntS a0.Ended (l_markCertS a0.Certs (l_markFrame a0.Frame a1).2).2).2).2).1 (l_markIntS a0.Lying (l_markIntS a0.Seqs (l_markArchiveS a0.Archives (l_markIntS a0.Ended (l_markCertS a0.Certs (l_markFrame a0.Frame a1).2).2).2).2).2).1 a0.Next (l_markIntS a0.Forged (l_markIntS a0.Lying (l_markIntS a0.Seqs (l_markArchiveS a0.Archives (l_markIntS a0.Ended (l_markCertS a0.Certs (l_markFrame a0.Frame a1).2).2).2).2).2).2).1), (l_markIntS a0.Forged (l_markIntS a0.Lying (l_markIntS a0.Seqs (l_markArchiveS a0.Archives (l_markIntS a0.Ended (l_markCertS a0.Certs (l_markFrame a0.Frame a1).2).2).2).2).2).2).2)
def l_heldStampS_1 (a0 : List TStamp) : Nat → Int → Nat → Sum Int Int
  | 0, _, _ => .inr default
  | n1 + 1, v1_0, v1_1 => (bif (decide ((↑v1_1 : Int) < (↑a0.length : Int))) then (bif ((nth a0 v1_1).Authority != v1_0) then (.inl (-1)) else (bif ((nth a0 v1_1).Seq != (W (v1_0 + 1))) then (.inl (-1)) else (bif ((nth a0 v1_1).Time != (W ((W (v1_0 + 1)) + 1))) then (.inl (-1)) else (bif ((nth a0 v1_1).Digest != (W ((W ((W (v1_0 + 1)) + 1)) + 1))) then (.inl (-1)) else (bif ((nth a0 v1_1).Mark != (W ((W ((W ((W (v1_0 + 1)) + 1)) + 1)) + 1))) then (.inl (-1)) else l_heldStampS_1 a0 n1 (W ((W ((W ((W ((W (v1_0 + 1)) + 1)) + 1)) + 1)) + 1)) (v1_1 + 1)))))) else (.inr v1_0))
def l_heldStampS (a0 : List TStamp) (a1 : Int) : Int := (match l_heldStampS_1 a0 (a0.length + 1) a1 0 with | .inl r1 => r1 | .inr z1_0 => z1_0)
def l_FnExactAllStamps (a0 : TWorld) : Bool := (bif (decide ((l_szWorld a0 1048576) < 0)) then true else (bif (!(l_eqStampS (i_AllStamps a0) (s_AllStamps a0))) then false else (bif (!(l_eqWorld a0 a0)) then false else (bif ((decide ((l_markWorld a0 1).2 < 0)) || (!(l_eqStampS (i_AllStamps a0) (s_AllStamps a0)))) then false else (bif (decide ((l_heldStampS (l_markStampS (i_AllStamps a0) 1).1 1) < 0)) then false else (bif ((l_heldStampS (l_markStampS (i_AllStamps a0) 1).1 1) != (l_markStampS (i_AllStamps a0) 1).2) then false else (bif (!(l_eqStampS (i_AllStamps a0) (s_AllStamps a0))) then false else (bif (decide ((l_heldStampS (l_markStampS (i_AllStamps a0) 1).1 1) < 0)) then false else (bif ((l_heldStampS (l_markStampS (i_AllStamps a0) 1).1 1) != (l_markStampS (i_AllStamps a0) 1).2) then false else true)))))))))
end Go.Mo
