/- Models of the functions: what each computes, on typed data. No condition. -/
import Derived.Test.YtllfgbhplfhdkaaGreatMo
namespace Go.Mo
open Go.Vm
def l_szKeyS (a0 : List TKey) (a1 : Int) : Int := (bif (decide ((W (a1 - (↑a0.length : Int))) < 0)) then (-1) else (W (a1 - (↑a0.length : Int))))
def l_szAuthorityS (a0 : List TAuthority) (a1 : Int) : Int := (bif (decide ((W (a1 - (↑a0.length : Int))) < 0)) then (-1) else (W (a1 - (↑a0.length : Int))))
def l_szMethodS (a0 : List TMethod) (a1 : Int) : Int := (bif (decide ((W (a1 - (↑a0.length : Int))) < 0)) then (-1) else (W (a1 - (↑a0.length : Int))))
def l_szFrame (a0 : TFrame) (a1 : Int) : Int := (bif (decide ((l_szKeyS a0.Keys a1) < 0)) then (-1) else (bif (decide ((l_szAuthorityS a0.Authorities (l_szKeyS a0.Keys a1)) < 0)) then (-1) else (bif (decide ((l_szMethodS a0.Methods (l_szAuthorityS a0.Authorities (l_szKeyS a0.Keys a1))) < 0)) then (-1) else (l_szMethodS a0.Methods (l_szAuthorityS a0.Authorities (l_szKeyS a0.Keys a1))))))
def l_szCertS (a0 : List TCert) (a1 : Int) : Int := (bif (decide ((W (a1 - (↑a0.length : Int))) < 0)) then (-1) else (W (a1 - (↑a0.length : Int))))
def l_szIntS (a0 : List Int) (a1 : Int) : Int := (bif (decide ((W (a1 - (↑a0.length : Int))) < 0)) then (-1) else (W (a1 - (↑a0.length : Int))))
def l_szStringS_1 (a0 : List ByteArray) : Nat → Int → Nat → Sum Int Int
  | 0, _, _ => .inr default
  | n1 + 1, v1_0, v1_1 => (bif (decide ((↑v1_1 : Int) < (↑a0.length : Int))) then (bif (decide ((W (v1_0 - (↑(nth a0 v1_1).size : Int))) < 0)) then (.inl (-1)) else l_szStringS_1 a0 n1 (W (v1_0 - (↑(nth a0 v1_1).size : Int))) (v1_1 + 1)) else (.inr v1_0))
def l_szStringS (a0 : List ByteArray) (a1 : Int) : Int := (bif (decide ((W (a1 - (↑a0.length : Int))) < 0)) then (-1) else (match l_szStringS_1 a0 (a0.length + 1) (W (a1 - (↑a0.length : Int))) 0 with | .inl r1 => r1 | .inr z1_0 => z1_0))
def l_szDocument (a0 : TDocument) (a1 : Int) : Int := (bif (decide ((l_szStringS a0.Parts a1) < 0)) then (-1) else (bif (decide ((l_szIntS a0.Salts (l_szStringS a0.Parts a1)) < 0)) then (-1) else (l_szIntS a0.Salts (l_szStringS a0.Parts a1))))
def l_szPiece (a0 : TPiece) (a1 : Int) : Int := (bif (decide ((l_szIntS a0.Ints a1) < 0)) then (-1) else (l_szIntS a0.Ints a1))
def l_szPieceS_1 (a0 : List TPiece) : Nat → Int → Nat → Sum Int Int
  | 0, _, _ => .inr default
  | n1 + 1, v1_0, v1_1 => (bif (decide ((↑v1_1 : Int) < (↑a0.length : Int))) then (bif (decide ((l_szPiece (nth a0 v1_1) v1_0) < 0)) then (.inl (-1)) else l_szPieceS_1 a0 n1 (l_szPiece (nth a0 v1_1) v1_0) (v1_1 + 1)) else (.inr v1_0))
def l_szPieceS (a0 : List TPiece) (a1 : Int) : Int := (bif (decide ((W (a1 - (↑a0.length : Int))) < 0)) then (-1) else (match l_szPieceS_1 a0 (a0.length + 1) (W (a1 - (↑a0.length : Int))) 0 with | .inl r1 => r1 | .inr z1_0 => z1_0))
def l_szStepS (a0 : List TStep) (a1 : Int) : Int := (bif (decide ((W (a1 - (↑a0.length : Int))) < 0)) then (-1) else (W (a1 - (↑a0.length : Int))))
def l_szStampS (a0 : List TStamp) (a1 : Int) : Int := (bif (decide ((W (a1 - (↑a0.length : Int))) < 0)) then (-1) else (W (a1 - (↑a0.length : Int))))
def l_szRenewal (a0 : TRenewal) (a1 : Int) : Int := (bif (decide ((l_szStepS a0.Path a1) < 0)) then (-1) else (bif (decide ((l_szStampS a0.Stamps (l_szStepS a0.Path a1)) < 0)) then (-1) else (l_szStampS a0.Stamps (l_szStepS a0.Path a1))))
def l_szRenewalS_1 (a0 : List TRenewal) : Nat → Int → Nat → Sum Int Int
  | 0, _, _ => .inr default
  | n1 + 1, v1_0, v1_1 => (bif (decide ((↑v1_1 : Int) < (↑a0.length : Int))) then (bif (decide ((l_szRenewal (nth a0 v1_1) v1_0) < 0)) then (.inl (-1)) else l_szRenewalS_1 a0 n1 (l_szRenewal (nth a0 v1_1) v1_0) (v1_1 + 1)) else (.inr v1_0))
def l_szRenewalS (a0 : List TRenewal) (a1 : Int) : Int := (bif (decide ((W (a1 - (↑a0.length : Int))) < 0)) then (-1) else (match l_szRenewalS_1 a0 (a0.length + 1) (W (a1 - (↑a0.length : Int))) 0 with | .inl r1 => r1 | .inr z1_0 => z1_0))
def l_szStrand (a0 : TStrand) (a1 : Int) : Int := (bif (decide ((l_szPieceS a0.Pieces a1) < 0)) then (-1) else (bif (decide ((l_szRenewalS a0.Chain (l_szPieceS a0.Pieces a1)) < 0)) then (-1) else (l_szRenewalS a0.Chain (l_szPieceS a0.Pieces a1))))
def l_szItem (a0 : TItem) (a1 : Int) : Int := (bif (decide ((l_szDocument a0.Doc a1) < 0)) then (-1) else (bif (decide ((l_szStrand a0.Strand (l_szDocument a0.Doc a1)) < 0)) then (-1) else (l_szStrand a0.Strand (l_szDocument a0.Doc a1))))
def l_szItemS_1 (a0 : List TItem) : Nat → Int → Nat → Sum Int Int
  | 0, _, _ => .inr default
  | n1 + 1, v1_0, v1_1 => (bif (decide ((↑v1_1 : Int) < (↑a0.length : Int))) then (bif (decide ((l_szItem (nth a0 v1_1) v1_0) < 0)) then (.inl (-1)) else l_szItemS_1 a0 n1 (l_szItem (nth a0 v1_1) v1_0) (v1_1 + 1)) else (.inr v1_0))
def l_szItemS (a0 : List TItem) (a1 : Int) : Int := (bif (decide ((W (a1 - (↑a0.length : Int))) < 0)) then (-1) else (match l_szItemS_1 a0 (a0.length + 1) (W (a1 - (↑a0.length : Int))) 0 with | .inl r1 => r1 | .inr z1_0 => z1_0))
def l_szArchive (a0 : TArchive) (a1 : Int) : Int := (bif (decide ((l_szItemS a0.Items a1) < 0)) then (-1) else (l_szItemS a0.Items a1))
def l_szArchiveS_1 (a0 : List TArchive) : Nat → Int → Nat → Sum Int Int
  | 0, _, _ => .inr default
  | n1 + 1, v1_0, v1_1 => (bif (decide ((↑v1_1 : Int) < (↑a0.length : Int))) then (bif (decide ((l_szArchive (nth a0 v1_1) v1_0) < 0)) then (.inl (-1)) else l_szArchiveS_1 a0 n1 (l_szArchive (nth a0 v1_1) v1_0) (v1_1 + 1)) else (.inr v1_0))
def l_szArchiveS (a0 : List TArchive) (a1 : Int) : Int := (bif (decide ((W (a1 - (↑a0.length : Int))) < 0)) then (-1) else (match l_szArchiveS_1 a0 (a0.length + 1) (W (a1 - (↑a0.length : Int))) 0 with | .inl r1 => r1 | .inr z1_0 => z1_0))
def l_szWorld (a0 : TWorld) (a1 : Int) : Int := (bif (decide ((l_szFrame a0.Frame a1) < 0)) then (-1) else (bif (decide ((l_szCertS a0.Certs (l_szFrame a0.Frame a1)) < 0)) then (-1) else (bif (decide ((l_szIntS a0.Ended (l_szCertS a0.Certs (l_szFrame a0.Frame a1))) < 0)) then (-1) else (bif (decide ((l_szArchiveS a0.Archives (l_szIntS a0.Ended (l_szCertS a0.Certs (l_szFrame a0.Frame a1)))) < 0)) then (-1) else (bif (decide ((l_szIntS a0.Seqs (l_szArchiveS a0.Archives (l_szIntS a0.Ended (l_szCertS a0.Certs (l_szFrame a0.Frame a1))))) < 0)) then (-1) else (bif (decide ((l_szIntS a0.Lying (l_szIntS a0.Seqs (l_szArchiveS a0.Archives (l_szIntS a0.Ended (l_szCertS a0.Certs (l_szFrame a0.Frame a1)))))) < 0)) then (-1) else (bif (decide ((l_szIntS a0.Forged (l_szIntS a0.Lying (l_szIntS a0.Seqs (l_szArchiveS a0.Archives (l_szIntS a0.Ended (l_szCertS a0.Certs (l_szFrame a0.Frame a1))))))) < 0)) then (-1) else (l_szIntS a0.Forged (l_szIntS a0.Lying (l_szIntS a0.Seqs (l_szArchiveS a0.Archives (l_szIntS a0.Ended (l_szCertS a0.Certs (l_szFrame a0.Frame a1))))))))))))))
def l_toKey (a0 : TKey) : TKey := a0
def l_toKeyS_1 (a0 : List TKey) : Nat → Nat → List TKey → (List TKey)
  | 0, _, _ => default
  | n1 + 1, v1_0, v1_1 => (bif (decide ((↑v1_0 : Int) < (↑a0.length : Int))) then l_toKeyS_1 a0 n1 (v1_0 + 1) (v1_1.set v1_0 (nth a0 v1_0)) else (v1_1))
def l_toKeyS (a0 : List TKey) : List TKey := (match l_toKeyS_1 a0 (a0.length + 1) 0 (List.replicate a0.length (TKey.mk 0 0 0 0 0)) with | z1_0 => z1_0)
def l_toAuthority (a0 : TAuthority) : TAuthority := a0
def l_toAuthorityS_1 (a0 : List TAuthority) : Nat → Nat → List TAuthority → (List TAuthority)
  | 0, _, _ => default
  | n1 + 1, v1_0, v1_1 => (bif (decide ((↑v1_0 : Int) < (↑a0.length : Int))) then l_toAuthorityS_1 a0 n1 (v1_0 + 1) (v1_1.set v1_0 (nth a0 v1_0)) else (v1_1))
def l_toAuthorityS (a0 : List TAuthority) : List TAuthority := (match l_toAuthorityS_1 a0 (a0.length + 1) 0 (List.replicate a0.length (TAuthority.mk 0 0 0)) with | z1_0 => z1_0)
def l_toMethod (a0 : TMethod) : TMethod := a0
def l_toMethodS_1 (a0 : List TMethod) : Nat → Nat → List TMethod → (List TMethod)
  | 0, _, _ => default
  | n1 + 1, v1_0, v1_1 => (bif (decide ((↑v1_0 : Int) < (↑a0.length : Int))) then l_toMethodS_1 a0 n1 (v1_0 + 1) (v1_1.set v1_0 (nth a0 v1_0)) else (v1_1))
def l_toMethodS (a0 : List TMethod) : List TMethod := (match l_toMethodS_1 a0 (a0.length + 1) 0 (List.replicate a0.length (TMethod.mk 0 0 0 0)) with | z1_0 => z1_0)
def l_toFrame (a0 : TFrame) : TFrame := a0
def l_toCert (a0 : TCert) : TCert := a0
def l_toCertS_1 (a0 : List TCert) : Nat → Nat → List TCert → (List TCert)
  | 0, _, _ => default
  | n1 + 1, v1_0, v1_1 => (bif (decide ((↑v1_0 : Int) < (↑a0.length : Int))) then l_toCertS_1 a0 n1 (v1_0 + 1) (v1_1.set v1_0 (nth a0 v1_0)) else (v1_1))
def l_toCertS (a0 : List TCert) : List TCert := (match l_toCertS_1 a0 (a0.length + 1) 0 (List.replicate a0.length (TCert.mk 0 0 0 0 0 0 0)) with | z1_0 => z1_0)
def l_toIntS_1 (a0 : List Int) : Nat → Nat → List Int → (List Int)
  | 0, _, _ => default
  | n1 + 1, v1_0, v1_1 => (bif (decide ((↑v1_0 : Int) < (↑a0.length : Int))) then l_toIntS_1 a0 n1 (v1_0 + 1) (v1_1.set v1_0 (nth a0 v1_0)) else (v1_1))
def l_toIntS (a0 : List Int) : List Int := (match l_toIntS_1 a0 (a0.length + 1) 0 (List.replicate a0.length 0) with | z1_0 => z1_0)
def l_toStringS_1 (a0 : List ByteArray) : Nat → Nat → List ByteArray → (List ByteArray)
  | 0, _, _ => default
  | n1 + 1, v1_0, v1_1 => (bif (decide ((↑v1_0 : Int) < (↑a0.length : Int))) then l_toStringS_1 a0 n1 (v1_0 + 1) (v1_1.set v1_0 (nth a0 v1_0)) else (v1_1))
def l_toStringS (a0 : List ByteArray) : List ByteArray := (match l_toStringS_1 a0 (a0.length + 1) 0 (List.replicate a0.length (⟨#[]⟩ : ByteArray)) with | z1_0 => z1_0)
def l_toDocument (a0 : TDocument) : TDocument := a0
def l_toSignature (a0 : TSignature) : TSignature := a0
def l_toPiece (a0 : TPiece) : TPiece := a0
def l_toPieceS_1 (a0 : List TPiece) : Nat → Nat → List TPiece → (List TPiece)
  | 0, _, _ => default
  | n1 + 1, v1_0, v1_1 => (bif (decide ((↑v1_0 : Int) < (↑a0.length : Int))) then l_toPieceS_1 a0 n1 (v1_0 + 1) (v1_1.set v1_0 (nth a0 v1_0)) else (v1_1))
def l_toPieceS (a0 : List TPiece) : List TPiece := (match l_toPieceS_1 a0 (a0.length + 1) 0 (List.replicate a0.length (TPiece.mk 0 ([] : List Int) 0)) with | z1_0 => z1_0)
def l_toStep (a0 : TStep) : TStep := a0
def l_toStepS_1 (a0 : List TStep) : Nat → Nat → List TStep → (List TStep)
  | 0, _, _ => default
  | n1 + 1, v1_0, v1_1 => (bif (decide ((↑v1_0 : Int) < (↑a0.length : Int))) then l_toStepS_1 a0 n1 (v1_0 + 1) (v1_1.set v1_0 (nth a0 v1_0)) else (v1_1))
def l_toStepS (a0 : List TStep) : List TStep := (match l_toStepS_1 a0 (a0.length + 1) 0 (List.replicate a0.length (TStep.mk 0 false)) with | z1_0 => z1_0)
def l_toStamp (a0 : TStamp) : TStamp := a0
def l_toStampS_1 (a0 : List TStamp) : Nat → Nat → List TStamp → (List TStamp)
  | 0, _, _ => default
  | n1 + 1, v1_0, v1_1 => (bif (decide ((↑v1_0 : Int) < (↑a0.length : Int))) then l_toStampS_1 a0 n1 (v1_0 + 1) (v1_1.set v1_0 (nth a0 v1_0)) else (v1_1))
def l_toStampS (a0 : List TStamp) : List TStamp := (match l_toStampS_1 a0 (a0.length + 1) 0 (List.replicate a0.length (TStamp.mk 0 0 0 0 0)) with | z1_0 => z1_0)
def l_toRenewal (a0 : TRenewal) : TRenewal := a0
def l_toRenewalS_1 (a0 : List TRenewal) : Nat → Nat → List TRenewal → (List TRenewal)
  | 0, _, _ => default
  | n1 + 1, v1_0, v1_1 => (bif (decide ((↑v1_0 : Int) < (↑a0.length : Int))) then l_toRenewalS_1 a0 n1 (v1_0 + 1) (v1_1.set v1_0 (nth a0 v1_0)) else (v1_1))
def l_toRenewalS (a0 : List TRenewal) : List TRenewal := (match l_toRenewalS_1 a0 (a0.length + 1) 0 (List.replicate a0.length (TRenewal.mk 0 0 0 ([] : List TStep) ([] : List TStamp))) with | z1_0 => z1_0)
def l_toStrand (a0 : TStrand) : TStrand := a0
def l_toItem (a0 : TItem) : TItem := a0
def l_toItemS_1 (a0 : List TItem) : Nat → Nat → List TItem → (List TItem)
  | 0, _, _ => default
  | n1 + 1, v1_0, v1_1 => (bif (decide ((↑v1_0 : Int) < (↑a0.length : Int))) then l_toItemS_1 a0 n1 (v1_0 + 1) (v1_1.set v1_0 (nth a0 v1_0)) else (v1_1))
def l_toItemS (a0 : List TItem) : List TItem := (match l_toItemS_1 a0 (a0.length + 1) 0 (List.replicate a0.length (TItem.mk 0 0 (TDocument.mk 0 ([] : List ByteArray) ([] : List Int)) (TSignature.mk 0 0 0 0 0 0 0 0 0) (TStrand.mk ([] : List TPiece) ([] : List TRenewal)))) with | z1_0 => z1_0)
def l_toArchive (a0 : TArchive) : TArchive := a0
def l_toArchiveS_1 (a0 : List TArchive) : Nat → Nat → List TArchive → (List TArchive)
  | 0, _, _ => default
  | n1 + 1, v1_0, v1_1 => (bif (decide ((↑v1_0 : Int) < (↑a0.length : Int))) then l_toArchiveS_1 a0 n1 (v1_0 + 1) (v1_1.set v1_0 (nth a0 v1_0)) else (v1_1))
def l_toArchiveS (a0 : List TArchive) : List TArchive := (match l_toArchiveS_1 a0 (a0.length + 1) 0 (List.replicate a0.length (TArchive.mk 0 ([] : List TItem))) with | z1_0 => z1_0)
def l_toWorld (a0 : TWorld) : TWorld := a0
def s_l33Frame (a0 : TFrame) : TFrame := a0
def s_l6Copy (a0 : TDocument) : TDocument := a0
def s_l18Copy (a0 : TPiece) : TPiece := a0
def s_l18All_1 (a0 : List TPiece) : Nat → List TPiece → Nat → (List TPiece)
  | 0, _, _ => default
  | n1 + 1, v1_0, v1_1 => (bif (decide ((↑v1_1 : Int) < (↑a0.length : Int))) then s_l18All_1 a0 n1 (v1_0 ++ ([(nth a0 v1_1)] : List TPiece)) (v1_1 + 1) else (v1_0))
def s_l18All (a0 : List TPiece) : List TPiece := (match s_l18All_1 a0 (a0.length + 1) ([] : List TPiece) 0 with | z1_0 => z1_0)
def s_l19Copy (a0 : TRenewal) : TRenewal := a0
def s_l20Copy_1 (a0 : TStrand) : Nat → Nat → List TRenewal → (List TRenewal)
  | 0, _, _ => default
  | n1 + 1, v1_0, v1_1 => (bif (decide ((↑v1_0 : Int) < (↑a0.Chain.length : Int))) then s_l20Copy_1 a0 n1 (v1_0 + 1) (v1_1 ++ ([(nth a0.Chain v1_0)] : List TRenewal)) else (v1_1))
def s_l20Copy (a0 : TStrand) : TStrand := (match s_l20Copy_1 a0 (a0.Chain.length + 1) 0 ([] : List TRenewal) with | z1_0 => (TStrand.mk a0.Pieces z1_0))
def s_l28Item (a0 : TItem) : TItem := a0
def s_l28Copy_1 (a0 : TArchive) : Nat → Nat → List TItem → (List TItem)
  | 0, _, _ => default
  | n1 + 1, v1_0, v1_1 => (bif (decide ((↑v1_0 : Int) < (↑a0.Items.length : Int))) then s_l28Copy_1 a0 n1 (v1_0 + 1) (v1_1 ++ ([(nth a0.Items v1_0)] : List TItem)) else (v1_1))
def s_l28Copy (a0 : TArchive) : TArchive := (match s_l28Copy_1 a0 (a0.Items.length + 1) 0 ([] : List TItem) with | z1_0 => (TArchive.mk a0.Id z1_0))
def s_l33Copy_1 (a0 : TWorld) : Nat → Nat → List TArchive → (List TArchive)
  | 0, _, _ => default
  | n1 + 1, v1_0, v1_1 => (bif (decide ((↑v1_0 : Int) < (↑a0.Archives.length : Int))) then s_l33Copy_1 a0 n1 (v1_0 + 1) (v1_1 ++ ([(nth a0.Archives v1_0)] : List TArchive)) else (v1_1))
def s_l33Copy (a0 : TWorld) : TWorld := (match s_l33Copy_1 a0 (a0.Archives.length + 1) 0 ([] : List TArchive) with | z1_0 => (TWorld.mk a0.Frame a0.Certs a0.Ended z1_0 a0.Seqs a0.Lying a0.Next a0.Forged))
def s_FindKey_1 (a0 : List TKey) (a1 : Int) : Nat → Nat → Sum Int Unit
  | 0, _ => .inr ()
  | n1 + 1, v1_0 => (bif (decide ((↑v1_0 : Int) < (↑a0.length : Int))) then (bif ((nth a0 v1_0).Number == a1) then (.inl (↑v1_0 : Int)) else s_FindKey_1 a0 a1 n1 (v1_0 + 1)) else (.inr ()))
def s_FindKey (a0 : List TKey) (a1 : Int) : Int := (match s_FindKey_1 a0 a1 (a0.length + 1) 0 with | .inl r1 => r1 | .inr _ => (-1))
def s_l1In (a0 : Int) (a1 : Int) (a2 : Int) : Bool := ((decide (a0 ≥ a1)) && (decide (a0 ≤ a2)))
def s_l34Has (a0 : TWorld) (a1 : Int) : Bool := (s_l1In a1 0 (W ((↑a0.Archives.length : Int) - 1)))
def s_BestMethod_1 (a0 : List TMethod) (a1 : Int) : Nat → Int → Nat → Int
  | 0, _, _ => default
  | n1 + 1, v1_0, v1_1 => (bif (decide ((↑v1_1 : Int) < (↑a0.length : Int))) then (bif (((decide (a1 ≥ (nth a0 v1_1).Known)) && (decide (a1 < (nth a0 v1_1).Ends))) && ((decide (v1_0 < 0)) || (decide ((nth a0 v1_1).Ends > (nth a0 v1_0.toNat).Ends)))) then s_BestMethod_1 a0 a1 n1 (↑v1_1 : Int) (v1_1 + 1) else s_BestMethod_1 a0 a1 n1 v1_0 (v1_1 + 1)) else (v1_0))
def s_BestMethod (a0 : List TMethod) (a1 : Int) : Int := (match s_BestMethod_1 a0 a1 (a0.length + 1) (-1) 0 with | z1_0 => (bif (decide (z1_0 < 0)) then (-1) else (nth a0 z1_0.toNat).Id))
def s_l34CertOf_1 (a0 : TWorld) (a1 : Int) : Nat → Nat → Sum Int Unit
  | 0, _ => .inr ()
  | n1 + 1, v1_0 => (bif (decide ((↑v1_0 : Int) < (↑a0.Certs.length : Int))) then (bif ((nth a0.Certs v1_0).Key == a1) then (.inl (↑v1_0 : Int)) else s_l34CertOf_1 a0 a1 n1 (v1_0 + 1)) else (.inr ()))
def s_l34CertOf (a0 : TWorld) (a1 : Int) : Int := (match s_l34CertOf_1 a0 a1 (a0.Certs.length + 1) 0 with | .inl r1 => r1 | .inr _ => (-1))
def s_IsDocument_2 (a0 : TDocument) : Nat → Nat → Sum Bool Unit
  | 0, _ => .inr ()
  | n2 + 1, v2_0 => (bif (decide ((↑v2_0 : Int) < (↑a0.Salts.length : Int))) then (bif (!(s_l1In (nth a0.Salts v2_0) 1 1000000000000)) then (.inl false) else s_IsDocument_2 a0 n2 (v2_0 + 1)) else (.inr ()))
def s_IsDocument_1 (a0 : TDocument) : Nat → Nat → Sum Bool Unit
  | 0, _ => .inr ()
  | n1 + 1, v1_0 => (bif (decide ((↑v1_0 : Int) < (↑a0.Parts.length : Int))) then (bif (decide ((↑(nth a0.Parts v1_0).size : Int) > 40)) then (.inl false) else s_IsDocument_1 a0 n1 (v1_0 + 1)) else (.inr ()))
def s_IsDocument (a0 : TDocument) : Bool := (match s_IsDocument_1 a0 (a0.Parts.length + 1) 0 with | .inl r1 => r1 | .inr _ => (match s_IsDocument_2 a0 (a0.Salts.length + 1) 0 with | .inl r2 => r2 | .inr _ => (((s_l1In a0.Title 0 999) && (s_l1In (↑a0.Parts.length : Int) 1 6)) && ((↑a0.Salts.length : Int) == (↑a0.Parts.length : Int)))))
def s_Mod (a0 : Int) (a1 : Int) : Int := (bif (!(s_l1In a1 1 1000000000000)) then 0 else (Int.tmod (W ((Int.tmod a0 a1) + a1)) a1))
def s_Hash_1 (a0 : List Int) : Nat → Int → Nat → Int
  | 0, _, _ => default
  | n1 + 1, v1_0, v1_1 => (bif (decide ((↑v1_1 : Int) < (↑a0.length : Int))) then s_Hash_1 a0 n1 (Int.tmod (W ((W ((W (v1_0 * 1000003)) + (s_Mod (nth a0 v1_1) 2147483647))) + 13)) 2147483647) (v1_1 + 1) else (v1_0))
def s_Hash (a0 : List Int) : Int := (match s_Hash_1 a0 (a0.length + 1) 11 0 with | z1_0 => z1_0)
def s_DigestOf (a0 : Int) (a1 : List Int) : Int := (s_Hash (([7, a0] : List Int) ++ a1))
def s_PartDigest_1 (a1 : ByteArray) : Nat → List Int → Nat → (List Int)
  | 0, _, _ => default
  | n1 + 1, v1_0, v1_1 => (bif (decide ((↑v1_1 : Int) < (↑a1.size : Int))) then s_PartDigest_1 a1 n1 (v1_0 ++ ([(W (↑(bAt a1 v1_1) : Int))] : List Int)) (v1_1 + 1) else (v1_0))
def s_PartDigest (a0 : Int) (a1 : ByteArray) (a2 : Int) : Int := (match s_PartDigest_1 a1 (a1.size + 1) ([a2] : List Int) 0 with | z1_0 => (s_DigestOf a0 z1_0))
def s_DocDigest_1 (a0 : Int) (a1 : TDocument) : Nat → List Int → Nat → (List Int)
  | 0, _, _ => default
  | n1 + 1, v1_0, v1_1 => (bif (decide ((↑v1_1 : Int) < (↑a1.Parts.length : Int))) then s_DocDigest_1 a0 a1 n1 (v1_0 ++ ([(s_PartDigest a0 (nth a1.Parts v1_1) (nth a1.Salts v1_1))] : List Int)) (v1_1 + 1) else (v1_0))
def s_DocDigest (a0 : Int) (a1 : TDocument) : Int := (bif (!(s_IsDocument a1)) then (-1) else (match s_DocDigest_1 a0 a1 (a1.Parts.length + 1) ([a1.Title] : List Int) 0 with | z1_0 => (s_DigestOf a0 z1_0)))
def s_IsSignature (a0 : TSignature) : Bool := ((((((((s_l1In a0.Key 1 99) && (s_l1In a0.Serial 1 999)) && (s_l1In a0.Method 0 99)) && (s_l1In a0.Org 0 99)) && (s_l1In a0.Commit 1 3)) && (s_l1In a0.Digest 0 1000000000000)) && (s_l1In a0.Before 0 1000000000000)) && (s_l1In a0.After 0 1000000000000))
def s_SignatureInts (a0 : TSignature) : List Int := ([104, a0.Key, a0.Serial, a0.Method, a0.Digest, a0.Commit, a0.Org, a0.Before, a0.After] : List Int)
def s_KeyedHash (a0 : Int) (a1 : List Int) : Int := (s_Hash ((([a0] : List Int) ++ a1) ++ ([a0] : List Int)))
def s_MarkWith (a0 : TKey) (a1 : List Int) : Int := (s_KeyedHash a0.Secret (([a0.Method] : List Int) ++ a1))
def s_SignDigest (a0 : List TKey) (a1 : TSignature) : TSignature × Bool := (bif ((!(s_IsSignature a1)) || (decide ((s_FindKey a0 a1.Key) < 0))) then ((TSignature.mk 0 0 0 0 0 0 0 0 0), false) else ((TSignature.mk a1.Key a1.Serial a1.Method a1.Digest a1.Commit a1.Org a1.Before a1.After (s_MarkWith (nth a0 (s_FindKey a0 a1.Key).toNat) (s_SignatureInts a1))), true))
def s_SignPiece (a0 : TSignature) : TPiece := (TPiece.mk a0.Key (s_SignatureInts a0) a0.Mark)
def s_CertInts (a0 : TCert) : List Int := ([101, a0.Serial, a0.Key, a0.Owner, a0.From, a0.To, a0.Issuer] : List Int)
def s_CertPiece (a0 : TCert) : TPiece := (TPiece.mk a0.Issuer (s_CertInts a0) a0.Mark)
def s_l34Item (a0 : TWorld) (a1 : Int) (a2 : TDocument) (a3 : Int) (a4 : Int) : TItem × Bool := (bif ((decide ((s_BestMethod a0.Frame.Methods a0.Frame.Now) < 0)) || (decide ((s_l34CertOf a0 a1) < 0))) then ((TItem.mk 0 0 (TDocument.mk 0 ([] : List ByteArray) ([] : List Int)) (TSignature.mk 0 0 0 0 0 0 0 0 0) (TStrand.mk ([] : List TPiece) ([] : List TRenewal))), false) else ((TItem.mk a0.Next a4 a2 (s_SignDigest a0.Frame.Keys (TSignature.mk a1 (nth a0.Certs (s_l34CertOf a0 a1).toNat).Serial (s_BestMethod a0.Frame.Methods a0.Frame.Now) (s_DocDigest (s_BestMethod a0.Frame.Methods a0.Frame.Now) a2) 1 a3 0 0 0)).1 (TStrand.mk ([(s_SignPiece (s_SignDigest a0.Frame.Keys (TSignature.mk a1 (nth a0.Certs (s_l34CertOf a0 a1).toNat).Serial (s_BestMethod a0.Frame.Methods a0.Frame.Now) (s_DocDigest (s_BestMethod a0.Frame.Methods a0.Frame.Now) a2) 1 a3 0 0 0)).1), (s_CertPiece (nth a0.Certs (s_l34CertOf a0 a1).toNat))] : List TPiece) ([] : List TRenewal))), (s_SignDigest a0.Frame.Keys (TSignature.mk a1 (nth a0.Certs (s_l34CertOf a0 a1).toNat).Serial (s_BestMethod a0.Frame.Methods a0.Frame.Now) (s_DocDigest (s_BestMethod a0.Frame.Methods a0.Frame.Now) a2) 1 a3 0 0 0)).2))
def s_l4Time (a0 : Int) : Bool := (s_l1In a0 0 10000)
def s_EqualInts_1 (a0 : List Int) (a1 : List Int) : Nat → Nat → Sum Bool Unit
  | 0, _ => .inr ()
  | n1 + 1, v1_0 => (bif (decide ((↑v1_0 : Int) < (↑a0.length : Int))) then (bif ((nth a0 v1_0) != (nth a1 v1_0)) then (.inl false) else s_EqualInts_1 a0 a1 n1 (v1_0 + 1)) else (.inr ()))
def s_EqualInts (a0 : List Int) (a1 : List Int) : Bool := (bif ((↑a0.length : Int) != (↑a1.length : Int)) then false else (match s_EqualInts_1 a0 a1 (a0.length + 1) 0 with | .inl r1 => r1 | .inr _ => true))
def s_EqualPieces (a0 : TPiece) (a1 : TPiece) : Bool := (((a0.Key == a1.Key) && (a0.Mark == a1.Mark)) && (s_EqualInts a0.Ints a1.Ints))
def s_FindPiece_1 (a0 : TStrand) (a1 : TPiece) : Nat → Nat → Sum Int Unit
  | 0, _ => .inr ()
  | n1 + 1, v1_0 => (bif (decide ((↑v1_0 : Int) < (↑a0.Pieces.length : Int))) then (bif (s_EqualPieces (nth a0.Pieces v1_0) a1) then (.inl (↑v1_0 : Int)) else s_FindPiece_1 a0 a1 n1 (v1_0 + 1)) else (.inr ()))
def s_FindPiece (a0 : TStrand) (a1 : TPiece) : Int := (match s_FindPiece_1 a0 a1 (a0.Pieces.length + 1) 0 with | .inl r1 => r1 | .inr _ => (-1))
def s_IsStrand_2 (a0 : TStrand) : Nat → Nat → Sum Bool Unit
  | 0, _ => .inr ()
  | n2 + 1, v2_0 => (bif (decide ((↑v2_0 : Int) < (↑a0.Chain.length : Int))) then (bif ((!(s_l1In (nth a0.Chain v2_0).Count 1 (↑a0.Pieces.length : Int))) || ((decide ((↑v2_0 : Int) > 0)) && (decide ((nth a0.Chain (v2_0 - 1)).Count > (nth a0.Chain v2_0).Count)))) then (.inl false) else s_IsStrand_2 a0 n2 (v2_0 + 1)) else (.inr ()))
def s_IsStrand_1 (a0 : TStrand) : Nat → Nat → Sum Bool Unit
  | 0, _ => .inr ()
  | n1 + 1, v1_0 => (bif (decide ((↑v1_0 : Int) < (↑a0.Pieces.length : Int))) then (bif (decide ((s_FindPiece a0 (nth a0.Pieces v1_0)) < (↑v1_0 : Int))) then (.inl false) else s_IsStrand_1 a0 n1 (v1_0 + 1)) else (.inr ()))
def s_IsStrand (a0 : TStrand) : Bool := (match s_IsStrand_1 a0 (a0.Pieces.length + 1) 0 with | .inl r1 => r1 | .inr _ => (match s_IsStrand_2 a0 (a0.Chain.length + 1) 0 with | .inl r2 => r2 | .inr _ => ((s_l1In (↑a0.Pieces.length : Int) 1 12) && (decide ((↑a0.Chain.length : Int) ≤ 8)))))
def s_IsItem (a0 : TItem) : Bool := (((((s_l1In a0.Id 1 999) && (s_l4Time a0.Keep)) && (s_IsDocument a0.Doc)) && (s_IsStrand a0.Strand)) && (s_EqualPieces (nth a0.Strand.Pieces 0) (s_SignPiece a0.Sig)))
def s_IsArchive_1 (a0 : TArchive) : Nat → Nat → Sum Bool Unit
  | 0, _ => .inr ()
  | n1 + 1, v1_0 => (bif (decide ((↑v1_0 : Int) < (↑a0.Items.length : Int))) then (bif ((!(s_IsItem (nth a0.Items v1_0))) || ((decide ((↑v1_0 : Int) > 0)) && (decide ((nth a0.Items (v1_0 - 1)).Id ≥ (nth a0.Items v1_0).Id)))) then (.inl false) else s_IsArchive_1 a0 n1 (v1_0 + 1)) else (.inr ()))
def s_IsArchive (a0 : TArchive) : Bool := (match s_IsArchive_1 a0 (a0.Items.length + 1) 0 with | .inl r1 => r1 | .inr _ => ((s_l1In a0.Id 0 99) && (decide ((↑a0.Items.length : Int) ≤ 8))))
def s_FindItem_1 (a0 : TArchive) (a1 : Int) : Nat → Nat → Sum Int Unit
  | 0, _ => .inr ()
  | n1 + 1, v1_0 => (bif (decide ((↑v1_0 : Int) < (↑a0.Items.length : Int))) then (bif ((nth a0.Items v1_0).Id == a1) then (.inl (↑v1_0 : Int)) else s_FindItem_1 a0 a1 n1 (v1_0 + 1)) else (.inr ()))
def s_FindItem (a0 : TArchive) (a1 : Int) : Int := (match s_FindItem_1 a0 a1 (a0.Items.length + 1) 0 with | .inl r1 => r1 | .inr _ => (-1))
def s_AddItem_1 (a0 : TArchive) (a1 : TItem) : Nat → Bool → Nat → List TItem → Bool × (List TItem)
  | 0, _, _, _ => (default, default)
  | n1 + 1, v1_0, v1_1, v1_2 => (bif (decide ((↑v1_1 : Int) < (↑a0.Items.length : Int))) then (bif ((!v1_0) && (decide (a1.Id < (nth a0.Items v1_1).Id))) then s_AddItem_1 a0 a1 n1 true (v1_1 + 1) ((v1_2 ++ ([a1] : List TItem)) ++ ([(nth a0.Items v1_1)] : List TItem)) else s_AddItem_1 a0 a1 n1 v1_0 (v1_1 + 1) (v1_2 ++ ([(nth a0.Items v1_1)] : List TItem))) else ((v1_0, v1_2)))
def s_AddItem (a0 : TArchive) (a1 : TItem) : TArchive × Bool := (bif ((!(s_IsArchive a0)) || (decide ((s_FindItem a0 a1.Id) ≥ 0))) then (a0, false) else (match s_AddItem_1 a0 a1 (a0.Items.length + 1) false 0 ([] : List TItem) with | (z1_0, z1_1) => (bif (!z1_0) then (bif (!(s_IsArchive (TArchive.mk a0.Id (z1_1 ++ ([a1] : List TItem))))) then (a0, false) else ((TArchive.mk a0.Id (z1_1 ++ ([a1] : List TItem))), true)) else (bif (!(s_IsArchive (TArchive.mk a0.Id z1_1))) then (a0, false) else ((TArchive.mk a0.Id z1_1), true)))))
def s_StepSign (a0 : TWorld) (a1 : Int) (a2 : Int) (a3 : TDocument) (a4 : Int) (a5 : Int) : TWorld × Bool := (bif (((!(s_l34Has a0 a1)) || (decide ((s_FindKey a0.Frame.Keys a2) < 0))) || (decide ((nth a0.Frame.Keys (s_FindKey a0.Frame.Keys a2).toNat).Born > a0.Frame.Now))) then (a0, false) else (bif (!(s_l34Item a0 a2 a3 a4 a5).2) then (a0, false) else (bif (!(s_AddItem (nth a0.Archives a1.toNat) (s_l34Item a0 a2 a3 a4 a5).1).2) then (a0, false) else ((TWorld.mk a0.Frame a0.Certs a0.Ended (a0.Archives.set a1.toNat (s_AddItem (nth a0.Archives a1.toNat) (s_l34Item a0 a2 a3 a4 a5).1).1) a0.Seqs a0.Lying (W (a0.Next + 1)) a0.Forged), true))))
def i_FindKey_1 (a0 : List TKey) (a1 : Int) : Nat → Nat → Sum Int Unit
  | 0, _ => .inr ()
  | n1 + 1, v1_0 => (bif (decide ((↑v1_0 : Int) < (↑a0.length : Int))) then (bif ((nth a0 v1_0).Number == a1) then (.inl (↑v1_0 : Int)) else i_FindKey_1 a0 a1 n1 (v1_0 + 1)) else (.inr ()))
def i_FindKey (a0 : List TKey) (a1 : Int) : Int := (match i_FindKey_1 a0 a1 (a0.length + 1) 0 with | .inl r1 => r1 | .inr _ => (-1))
def i_copyFrame (a0 : TFrame) : TFrame := a0
def i_copyInts (a0 : List Int) : List Int := a0
def i_copyDocument (a0 : TDocument) : TDocument := a0
def i_copyPiece (a0 : TPiece) : TPiece := a0
def i_copyPieces_1 (a0 : List TPiece) : Nat → List TPiece → Nat → (List TPiece)
  | 0, _, _ => default
  | n1 + 1, v1_0, v1_1 => (bif (decide ((↑v1_1 : Int) < (↑a0.length : Int))) then i_copyPieces_1 a0 n1 (v1_0 ++ ([(nth a0 v1_1)] : List TPiece)) (v1_1 + 1) else (v1_0))
def i_copyPieces (a0 : List TPiece) : List TPiece := (match i_copyPieces_1 a0 (a0.length + 1) ([] : List TPiece) 0 with | z1_0 => z1_0)
def i_copyStamps (a0 : List TStamp) : List TStamp := a0
def i_copyRenewal (a0 : TRenewal) : TRenewal := a0
def i_copyStrand_1 (a0 : TStrand) : Nat → Nat → List TRenewal → (List TRenewal)
  | 0, _, _ => default
  | n1 + 1, v1_0, v1_1 => (bif (decide ((↑v1_0 : Int) < (↑a0.Chain.length : Int))) then i_copyStrand_1 a0 n1 (v1_0 + 1) (v1_1 ++ ([(nth a0.Chain v1_0)] : List TRenewal)) else (v1_1))
def i_copyStrand (a0 : TStrand) : TStrand := (match i_copyStrand_1 a0 (a0.Chain.length + 1) 0 ([] : List TRenewal) with | z1_0 => (TStrand.mk a0.Pieces z1_0))
def i_copyItem (a0 : TItem) : TItem := a0
def i_copyArchive_1 (a0 : TArchive) : Nat → Nat → List TItem → (List TItem)
  | 0, _, _ => default
  | n1 + 1, v1_0, v1_1 => (bif (decide ((↑v1_0 : Int) < (↑a0.Items.length : Int))) then i_copyArchive_1 a0 n1 (v1_0 + 1) (v1_1 ++ ([(nth a0.Items v1_0)] : List TItem)) else (v1_1))
def i_copyArchive (a0 : TArchive) : TArchive := (match i_copyArchive_1 a0 (a0.Items.length + 1) 0 ([] : List TItem) with | z1_0 => (TArchive.mk a0.Id z1_0))
def i_copyWorld_1 (a0 : TWorld) : Nat → Nat → List TArchive → (List TArchive)
  | 0, _, _ => default
  | n1 + 1, v1_0, v1_1 => (bif (decide ((↑v1_0 : Int) < (↑a0.Archives.length : Int))) then i_copyWorld_1 a0 n1 (v1_0 + 1) (v1_1 ++ ([(nth a0.Archives v1_0)] : List TArchive)) else (v1_1))
def i_copyWorld (a0 : TWorld) : TWorld := (match i_copyWorld_1 a0 (a0.Archives.length + 1) 0 ([] : List TArchive) with | z1_0 => (TWorld.mk a0.Frame a0.Certs a0.Ended z1_0 a0.Seqs a0.Lying a0.Next a0.Forged))
def i_BestMethod_1 (a0 : List TMethod) (a1 : Int) : Nat → Int → Nat → Int
  | 0, _, _ => default
  | n1 + 1, v1_0, v1_1 => (bif (decide ((↑v1_1 : Int) < (↑a0.length : Int))) then (bif (((decide ((nth a0 v1_1).Known ≤ a1)) && (decide (a1 < (nth a0 v1_1).Ends))) && ((decide (v1_0 < 0)) || (decide ((nth a0 v1_1).Ends > (nth a0 v1_0.toNat).Ends)))) then i_BestMethod_1 a0 a1 n1 (↑v1_1 : Int) (v1_1 + 1) else i_BestMethod_1 a0 a1 n1 v1_0 (v1_1 + 1)) else (v1_0))
def i_BestMethod (a0 : List TMethod) (a1 : Int) : Int := (match i_BestMethod_1 a0 a1 (a0.length + 1) (-1) 0 with | z1_0 => (bif (decide (z1_0 < 0)) then (-1) else (nth a0 z1_0.toNat).Id))
def i_InRange (a0 : Int) (a1 : Int) (a2 : Int) : Bool := ((decide (a1 ≤ a0)) && (decide (a0 ≤ a2)))
def i_isArchiveOf (a0 : TWorld) (a1 : Int) : Bool := (i_InRange a1 0 (W ((↑a0.Archives.length : Int) - 1)))
def i_IsDocument_1 (a0 : TDocument) : Nat → Nat → Sum Bool Unit
  | 0, _ => .inr ()
  | n1 + 1, v1_0 => (bif (decide ((↑v1_0 : Int) < (↑a0.Parts.length : Int))) then (bif ((decide ((↑(nth a0.Parts v1_0).size : Int) > 40)) || (!(i_InRange (nth a0.Salts v1_0) 1 1000000000000))) then (.inl false) else i_IsDocument_1 a0 n1 (v1_0 + 1)) else (.inr ()))
def i_IsDocument (a0 : TDocument) : Bool := (bif (((!(i_InRange a0.Title 0 999)) || (!(i_InRange (↑a0.Parts.length : Int) 1 6))) || ((↑a0.Salts.length : Int) != (↑a0.Parts.length : Int))) then false else (match i_IsDocument_1 a0 (a0.Parts.length + 1) 0 with | .inl r1 => r1 | .inr _ => true))
def i_bytesOf_1 (a0 : List UInt8) : Nat → List Int → Nat → (List Int)
  | 0, _, _ => default
  | n1 + 1, v1_0, v1_1 => (bif (decide ((↑v1_1 : Int) < (↑a0.length : Int))) then i_bytesOf_1 a0 n1 (v1_0 ++ ([(W (↑(nth a0 v1_1).toNat : Int))] : List Int)) (v1_1 + 1) else (v1_0))
def i_bytesOf (a0 : List UInt8) : List Int := (match i_bytesOf_1 a0 (a0.length + 1) ([] : List Int) 0 with | z1_0 => z1_0)
def i_Mod (a0 : Int) (a1 : Int) : Int := (bif (!(i_InRange a1 1 1000000000000)) then 0 else (Int.tmod (W ((Int.tmod a0 a1) + a1)) a1))
def i_Hash_1 (a0 : List Int) : Nat → Int → Nat → Int
  | 0, _, _ => default
  | n1 + 1, v1_0, v1_1 => (bif (decide ((↑v1_1 : Int) < (↑a0.length : Int))) then i_Hash_1 a0 n1 (Int.tmod (W ((W ((W (v1_0 * 1000003)) + (i_Mod (nth a0 v1_1) 2147483647))) + 13)) 2147483647) (v1_1 + 1) else (v1_0))
def i_Hash (a0 : List Int) : Int := (match i_Hash_1 a0 (a0.length + 1) 11 0 with | z1_0 => z1_0)
def i_DigestOf (a0 : Int) (a1 : List Int) : Int := (i_Hash (([7, a0] : List Int) ++ a1))
def i_PartDigest (a0 : Int) (a1 : ByteArray) (a2 : Int) : Int := (i_DigestOf a0 (([a2] : List Int) ++ (i_bytesOf a1.data.toList)))
def i_DocDigest_1 (a0 : Int) (a1 : TDocument) : Nat → List Int → Nat → (List Int)
  | 0, _, _ => default
  | n1 + 1, v1_0, v1_1 => (bif (decide ((↑v1_1 : Int) < (↑a1.Parts.length : Int))) then i_DocDigest_1 a0 a1 n1 (v1_0 ++ ([(i_PartDigest a0 (nth a1.Parts v1_1) (nth a1.Salts v1_1))] : List Int)) (v1_1 + 1) else (v1_0))
def i_DocDigest (a0 : Int) (a1 : TDocument) : Int := (bif (!(i_IsDocument a1)) then (-1) else (match i_DocDigest_1 a0 a1 (a1.Parts.length + 1) ([a1.Title] : List Int) 0 with | z1_0 => (i_DigestOf a0 z1_0)))
def i_SignatureInts (a0 : TSignature) : List Int := ([104, a0.Key, a0.Serial, a0.Method, a0.Digest, a0.Commit, a0.Org, a0.Before, a0.After] : List Int)
def i_KeyedHash (a0 : Int) (a1 : List Int) : Int := (i_Hash ((([a0] : List Int) ++ a1) ++ ([a0] : List Int)))
def i_MarkWith (a0 : TKey) (a1 : List Int) : Int := (i_KeyedHash a0.Secret (([a0.Method] : List Int) ++ a1))
def i_markBy (a0 : List TKey) (a1 : Int) (a2 : List Int) : Int × Bool := (bif (decide ((i_FindKey a0 a1) < 0)) then (0, false) else ((i_MarkWith (nth a0 (i_FindKey a0 a1).toNat) a2), true))
def i_IsSignature (a0 : TSignature) : Bool := ((((((((i_InRange a0.Key 1 99) && (i_InRange a0.Serial 1 999)) && (i_InRange a0.Method 0 99)) && (i_InRange a0.Org 0 99)) && (i_InRange a0.Commit 1 3)) && (i_InRange a0.Digest 0 1000000000000)) && (i_InRange a0.Before 0 1000000000000)) && (i_InRange a0.After 0 1000000000000))
def i_SignDigest (a0 : List TKey) (a1 : TSignature) : TSignature × Bool := (bif ((!(i_IsSignature a1)) || (!(i_markBy a0 a1.Key (i_SignatureInts a1)).2)) then ((TSignature.mk 0 0 0 0 0 0 0 0 0), false) else ((TSignature.mk a1.Key a1.Serial a1.Method a1.Digest a1.Commit a1.Org a1.Before a1.After (i_markBy a0 a1.Key (i_SignatureInts a1)).1), true))
def i_SignPiece (a0 : TSignature) : TPiece := (TPiece.mk a0.Key (i_SignatureInts a0) a0.Mark)
def i_CertInts (a0 : TCert) : List Int := ([101, a0.Serial, a0.Key, a0.Owner, a0.From, a0.To, a0.Issuer] : List Int)
def i_CertPiece (a0 : TCert) : TPiece := (TPiece.mk a0.Issuer (i_CertInts a0) a0.Mark)
def i_FindItem_1 (a0 : TArchive) (a1 : Int) : Nat → Nat → Sum Int Unit
  | 0, _ => .inr ()
  | n1 + 1, v1_0 => (bif (decide ((↑v1_0 : Int) < (↑a0.Items.length : Int))) then (bif ((nth a0.Items v1_0).Id == a1) then (.inl (↑v1_0 : Int)) else i_FindItem_1 a0 a1 n1 (v1_0 + 1)) else (.inr ()))
def i_FindItem (a0 : TArchive) (a1 : Int) : Int := (match i_FindItem_1 a0 a1 (a0.Items.length + 1) 0 with | .inl r1 => r1 | .inr _ => (-1))
def i_isTime (a0 : Int) : Bool := (i_InRange a0 0 10000)
def i_EqualInts_1 (a0 : List Int) (a1 : List Int) : Nat → Nat → Sum Bool Unit
  | 0, _ => .inr ()
  | n1 + 1, v1_0 => (bif (decide ((↑v1_0 : Int) < (↑a0.length : Int))) then (bif ((nth a0 v1_0) != (nth a1 v1_0)) then (.inl false) else i_EqualInts_1 a0 a1 n1 (v1_0 + 1)) else (.inr ()))
def i_EqualInts (a0 : List Int) (a1 : List Int) : Bool := (bif ((↑a0.length : Int) != (↑a1.length : Int)) then false else (match i_EqualInts_1 a0 a1 (a0.length + 1) 0 with | .inl r1 => r1 | .inr _ => true))
def i_EqualPieces (a0 : TPiece) (a1 : TPiece) : Bool := (((a0.Key == a1.Key) && (a0.Mark == a1.Mark)) && (i_EqualInts a0.Ints a1.Ints))
def i_hasPiece_1 (a0 : List TPiece) (a1 : TPiece) : Nat → Nat → Sum Bool Unit
  | 0, _ => .inr ()
  | n1 + 1, v1_0 => (bif (decide ((↑v1_0 : Int) < (↑a0.length : Int))) then (bif (i_EqualPieces (nth a0 v1_0) a1) then (.inl true) else i_hasPiece_1 a0 a1 n1 (v1_0 + 1)) else (.inr ()))
def i_hasPiece (a0 : List TPiece) (a1 : TPiece) : Bool := (match i_hasPiece_1 a0 a1 (a0.length + 1) 0 with | .inl r1 => r1 | .inr _ => false)
def i_IsStrand_2 (a0 : TStrand) : Nat → Nat → Sum Bool Unit
  | 0, _ => .inr ()
  | n2 + 1, v2_0 => (bif (decide ((↑v2_0 : Int) < (↑a0.Chain.length : Int))) then (bif ((!(i_InRange (nth a0.Chain v2_0).Count 1 (↑a0.Pieces.length : Int))) || ((decide ((↑v2_0 : Int) > 0)) && (decide ((nth a0.Chain v2_0).Count < (nth a0.Chain (v2_0 - 1)).Count)))) then (.inl false) else i_IsStrand_2 a0 n2 (v2_0 + 1)) else (.inr ()))
def i_IsStrand_1 (a0 : TStrand) : Nat → Nat → Sum Bool Unit
  | 0, _ => .inr ()
  | n1 + 1, v1_0 => (bif (decide ((↑v1_0 : Int) < (↑a0.Pieces.length : Int))) then (bif (i_hasPiece (a0.Pieces.take v1_0) (nth a0.Pieces v1_0)) then (.inl false) else i_IsStrand_1 a0 n1 (v1_0 + 1)) else (.inr ()))
def i_IsStrand (a0 : TStrand) : Bool := (bif ((!(i_InRange (↑a0.Pieces.length : Int) 1 12)) || (decide ((↑a0.Chain.length : Int) > 8))) then false else (match i_IsStrand_1 a0 (a0.Pieces.length + 1) 0 with | .inl r1 => r1 | .inr _ => (match i_IsStrand_2 a0 (a0.Chain.length + 1) 0 with | .inl r2 => r2 | .inr _ => true)))
def i_IsItem (a0 : TItem) : Bool := (((((i_InRange a0.Id 1 999) && (i_isTime a0.Keep)) && (i_IsDocument a0.Doc)) && (i_IsStrand a0.Strand)) && (i_EqualPieces (nth a0.Strand.Pieces 0) (i_SignPiece a0.Sig)))
def i_IsArchive_1 (a0 : TArchive) : Nat → Nat → Sum Bool Unit
  | 0, _ => .inr ()
  | n1 + 1, v1_0 => (bif (decide ((↑v1_0 : Int) < (↑a0.Items.length : Int))) then (bif ((!(i_IsItem (nth a0.Items v1_0))) || ((decide ((↑v1_0 : Int) > 0)) && (decide ((nth a0.Items (v1_0 - 1)).Id ≥ (nth a0.Items v1_0).Id)))) then (.inl false) else i_IsArchive_1 a0 n1 (v1_0 + 1)) else (.inr ()))
def i_IsArchive (a0 : TArchive) : Bool := (match i_IsArchive_1 a0 (a0.Items.length + 1) 0 with | .inl r1 => r1 | .inr _ => ((i_InRange a0.Id 0 99) && (decide ((↑a0.Items.length : Int) ≤ 8))))
def i_AddItem_1 (a0 : TArchive) (a1 : TItem) : Nat → Nat → Nat
  | 0, _ => default
  | n1 + 1, v1_0 => (bif ((decide ((↑v1_0 : Int) < (↑a0.Items.length : Int))) && (decide ((nth a0.Items v1_0).Id < a1.Id))) then i_AddItem_1 a0 a1 n1 (v1_0 + 1) else (v1_0))
def i_AddItem (a0 : TArchive) (a1 : TItem) : TArchive × Bool := (bif ((decide ((i_FindItem a0 a1.Id) ≥ 0)) || (!(i_IsArchive a0))) then (a0, false) else (match i_AddItem_1 a0 a1 (a0.Items.length + 1) 0 with | z1_0 => (bif (!(i_IsArchive (TArchive.mk a0.Id (((a0.Items.take z1_0) ++ ([a1] : List TItem)) ++ (a0.Items.drop z1_0))))) then (a0, false) else ((TArchive.mk a0.Id (((a0.Items.take z1_0) ++ ([a1] : List TItem)) ++ (a0.Items.drop z1_0))), true))))
def i_signInto_1 (a0 : TWorld) (a1 : Int) (a2 : Int) (a3 : TDocument) (a4 : Int) (a5 : Int) : Nat → Nat → Sum (TWorld × Bool) Unit
  | 0, _ => .inr ()
  | n1 + 1, v1_0 => (bif (decide ((↑v1_0 : Int) < (↑a0.Certs.length : Int))) then (bif ((nth a0.Certs v1_0).Key != a2) then i_signInto_1 a0 a1 a2 a3 a4 a5 n1 (v1_0 + 1) else (bif ((!(i_SignDigest a0.Frame.Keys (TSignature.mk a2 (nth a0.Certs v1_0).Serial (i_BestMethod a0.Frame.Methods a0.Frame.Now) (i_DocDigest (i_BestMethod a0.Frame.Methods a0.Frame.Now) a3) 1 a4 0 0 0)).2) || (!(i_AddItem (nth a0.Archives a1.toNat) (TItem.mk a0.Next a5 a3 (i_SignDigest a0.Frame.Keys (TSignature.mk a2 (nth a0.Certs v1_0).Serial (i_BestMethod a0.Frame.Methods a0.Frame.Now) (i_DocDigest (i_BestMethod a0.Frame.Methods a0.Frame.Now) a3) 1 a4 0 0 0)).1 (TStrand.mk ([(i_SignPiece (i_SignDigest a0.Frame.Keys (TSignature.mk a2 (nth a0.Certs v1_0).Serial (i_BestMethod a0.Frame.Methods a0.Frame.Now) (i_DocDigest (i_BestMethod a0.Frame.Methods a0.Frame.Now) a3) 1 a4 0 0 0)).1), (i_CertPiece (nth a0.Certs v1_0))] : List TPiece) ([] : List TRenewal)))).2)) then (.inl (a0, false)) else (.inl ((TWorld.mk a0.Frame a0.Certs a0.Ended (a0.Archives.set a1.toNat (i_AddItem (nth a0.Archives a1.toNat) (TItem.mk a0.Next a5 a3 (i_SignDigest a0.Frame.Keys (TSignature.mk a2 (nth a0.Certs v1_0).Serial (i_BestMethod a0.Frame.Methods a0.Frame.Now) (i_DocDigest (i_BestMethod a0.Frame.Methods a0.Frame.Now) a3) 1 a4 0 0 0)).1 (TStrand.mk ([(i_SignPiece (i_SignDigest a0.Frame.Keys (TSignature.mk a2 (nth a0.Certs v1_0).Serial (i_BestMethod a0.Frame.Methods a0.Frame.Now) (i_DocDigest (i_BestMethod a0.Frame.Methods a0.Frame.Now) a3) 1 a4 0 0 0)).1), (i_CertPiece (nth a0.Certs v1_0))] : List TPiece) ([] : List TRenewal)))).1) a0.Seqs a0.Lying (W (a0.Next + 1)) a0.Forged), true)))) else (.inr ()))
def i_signInto (a0 : TWorld) (a1 : Int) (a2 : Int) (a3 : TDocument) (a4 : Int) (a5 : Int) : TWorld × Bool := (bif (((!(i_isArchiveOf a0 a1)) || (decide ((i_FindKey a0.Frame.Keys a2) < 0))) || (decide ((i_BestMethod a0.Frame.Methods a0.Frame.Now) < 0))) then (a0, false) else (match i_signInto_1 a0 a1 a2 a3 a4 a5 (a0.Certs.length + 1) 0 with | .inl r1 => r1 | .inr _ => (a0, false)))
def i_StepSign (a0 : TWorld) (a1 : Int) (a2 : Int) (a3 : TDocument) (a4 : Int) (a5 : Int) : TWorld × Bool := (bif ((decide ((i_FindKey a0.Frame.Keys a2) < 0)) || (decide ((nth a0.Frame.Keys (i_FindKey a0.Frame.Keys a2).toNat).Born > a0.Frame.Now))) then (a0, false) else ((i_signInto a0 a1 a2 a3 a4 a5).1, (i_signInto a0 a1 a2 a3 a4 a5).2))
def l_eqKey (a0 : TKey) (a1 : TKey) : Bool := (bif (a0.Number != a1.Number) then false else (bif (a0.Owner != a1.Owner) then false else (bif (a0.Method != a1.Method) then false else (bif (a0.Born != a1.Born) then false else (bif (a0.Secret != a1.Secret) then false else true)))))
def l_eqKeyS_1 (a0 : List TKey) (a1 : List TKey) : Nat → Nat → Sum Bool Unit
  | 0, _ => .inr ()
  | n1 + 1, v1_0 => (bif (decide ((↑v1_0 : Int) < (↑a0.length : Int))) then (bif (!(l_eqKey (nth a0 v1_0) (nth a1 v1_0))) then (.inl false) else l_eqKeyS_1 a0 a1 n1 (v1_0 + 1)) else (.inr ()))
def l_eqKeyS (a0 : List TKey) (a1 : List TKey) : Bool := (bif ((↑a0.length : Int) != (↑a1.length : Int)) then false else (match l_eqKeyS_1 a0 a1 (a0.length + 1) 0 with | .inl r1 => r1 | .inr _ => true))
def l_eqAuthority (a0 : TAuthority) (a1 : TAuthority) : Bool := (bif (a0.Id != a1.Id) then false else (bif (a0.Key != a1.Key) then false else (bif (a0.Error != a1.Error) then false else true)))
def l_eqAuthorityS_1 (a0 : List TAuthority) (a1 : List TAuthority) : Nat → Nat → Sum Bool Unit
  | 0, _ => .inr ()
  | n1 + 1, v1_0 => (bif (decide ((↑v1_0 : Int) < (↑a0.length : Int))) then (bif (!(l_eqAuthority (nth a0 v1_0) (nth a1 v1_0))) then (.inl false) else l_eqAuthorityS_1 a0 a1 n1 (v1_0 + 1)) else (.inr ()))
def l_eqAuthorityS (a0 : List TAuthority) (a1 : List TAuthority) : Bool := (bif ((↑a0.length : Int) != (↑a1.length : Int)) then false else (match l_eqAuthorityS_1 a0 a1 (a0.length + 1) 0 with | .inl r1 => r1 | .inr _ => true))
def l_eqMethod (a0 : TMethod) (a1 : TMethod) : Bool := (bif (a0.Id != a1.Id) then false else (bif (a0.Known != a1.Known) then false else (bif (a0.Ends != a1.Ends) then false else (bif (a0.Broken != a1.Broken) then false else true))))
def l_eqMethodS_1 (a0 : List TMethod) (a1 : List TMethod) : Nat → Nat → Sum Bool Unit
  | 0, _ => .inr ()
  | n1 + 1, v1_0 => (bif (decide ((↑v1_0 : Int) < (↑a0.length : Int))) then (bif (!(l_eqMethod (nth a0 v1_0) (nth a1 v1_0))) then (.inl false) else l_eqMethodS_1 a0 a1 n1 (v1_0 + 1)) else (.inr ()))
def l_eqMethodS (a0 : List TMethod) (a1 : List TMethod) : Bool := (bif ((↑a0.length : Int) != (↑a1.length : Int)) then false else (match l_eqMethodS_1 a0 a1 (a0.length + 1) 0 with | .inl r1 => r1 | .inr _ => true))
def l_eqFrame (a0 : TFrame) (a1 : TFrame) : Bool := (bif (!(l_eqKeyS a0.Keys a1.Keys)) then false else (bif (!(l_eqAuthorityS a0.Authorities a1.Authorities)) then false else (bif (!(l_eqMethodS a0.Methods a1.Methods)) then false else (bif (a0.Liars != a1.Liars) then false else (bif (a0.Now != a1.Now) then false else true)))))
def l_eqCert (a0 : TCert) (a1 : TCert) : Bool := (bif (a0.Serial != a1.Serial) then false else (bif (a0.Key != a1.Key) then false else (bif (a0.Owner != a1.Owner) then false else (bif (a0.From != a1.From) then false else (bif (a0.To != a1.To) then false else (bif (a0.Issuer != a1.Issuer) then false else (bif (a0.Mark != a1.Mark) then false else true)))))))
def l_eqCertS_1 (a0 : List TCert) (a1 : List TCert) : Nat → Nat → Sum Bool Unit
  | 0, _ => .inr ()
  | n1 + 1, v1_0 => (bif (decide ((↑v1_0 : Int) < (↑a0.length : Int))) then (bif (!(l_eqCert (nth a0 v1_0) (nth a1 v1_0))) then (.inl false) else l_eqCertS_1 a0 a1 n1 (v1_0 + 1)) else (.inr ()))
def l_eqCertS (a0 : List TCert) (a1 : List TCert) : Bool := (bif ((↑a0.length : Int) != (↑a1.length : Int)) then false else (match l_eqCertS_1 a0 a1 (a0.length + 1) 0 with | .inl r1 => r1 | .inr _ => true))
def l_eqIntS_1 (a0 : List Int) (a1 : List Int) : Nat → Nat → Sum Bool Unit
  | 0, _ => .inr ()
  | n1 + 1, v1_0 => (bif (decide ((↑v1_0 : Int) < (↑a0.length : Int))) then (bif ((nth a0 v1_0) != (nth a1 v1_0)) then (.inl false) else l_eqIntS_1 a0 a1 n1 (v1_0 + 1)) else (.inr ()))
def l_eqIntS (a0 : List Int) (a1 : List Int) : Bool := (bif ((↑a0.length : Int) != (↑a1.length : Int)) then false else (match l_eqIntS_1 a0 a1 (a0.length + 1) 0 with | .inl r1 => r1 | .inr _ => true))
def l_eqStringS_1 (a0 : List ByteArray) (a1 : List ByteArray) : Nat → Nat → Sum Bool Unit
  | 0, _ => .inr ()
  | n1 + 1, v1_0 => (bif (decide ((↑v1_0 : Int) < (↑a0.length : Int))) then (bif (!decide ((nth a0 v1_0) = (nth a1 v1_0))) then (.inl false) else l_eqStringS_1 a0 a1 n1 (v1_0 + 1)) else (.inr ()))
def l_eqStringS (a0 : List ByteArray) (a1 : List ByteArray) : Bool := (bif ((↑a0.length : Int) != (↑a1.length : Int)) then false else (match l_eqStringS_1 a0 a1 (a0.length + 1) 0 with | .inl r1 => r1 | .inr _ => true))
def l_eqDocument (a0 : TDocument) (a1 : TDocument) : Bool := (bif (a0.Title != a1.Title) then false else (bif (!(l_eqStringS a0.Parts a1.Parts)) then false else (bif (!(l_eqIntS a0.Salts a1.Salts)) then false else true)))
def l_eqSignature (a0 : TSignature) (a1 : TSignature) : Bool := (bif (a0.Key != a1.Key) then false else (bif (a0.Serial != a1.Serial) then false else (bif (a0.Method != a1.Method) then false else (bif (a0.Digest != a1.Digest) then false else (bif (a0.Commit != a1.Commit) then false else (bif (a0.Org != a1.Org) then false else (bif (a0.Before != a1.Before) then false else (bif (a0.After != a1.After) then false else (bif (a0.Mark != a1.Mark) then false else true)))))))))
def l_eqPiece (a0 : TPiece) (a1 : TPiece) : Bool := (bif (a0.Key != a1.Key) then false else (bif (!(l_eqIntS a0.Ints a1.Ints)) then false else (bif (a0.Mark != a1.Mark) then false else true)))
def l_eqPieceS_1 (a0 : List TPiece) (a1 : List TPiece) : Nat → Nat → Sum Bool Unit
  | 0, _ => .inr ()
  | n1 + 1, v1_0 => (bif (decide ((↑v1_0 : Int) < (↑a0.length : Int))) then (bif (!(l_eqPiece (nth a0 v1_0) (nth a1 v1_0))) then (.inl false) else l_eqPieceS_1 a0 a1 n1 (v1_0 + 1)) else (.inr ()))
def l_eqPieceS (a0 : List TPiece) (a1 : List TPiece) : Bool := (bif ((↑a0.length : Int) != (↑a1.length : Int)) then false else (match l_eqPieceS_1 a0 a1 (a0.length + 1) 0 with | .inl r1 => r1 | .inr _ => true))
def l_eqStep (a0 : TStep) (a1 : TStep) : Bool := (bif (a0.Digest != a1.Digest) then false else (bif (!(a0.Left == a1.Left)) then false else true))
def l_eqStepS_1 (a0 : List TStep) (a1 : List TStep) : Nat → Nat → Sum Bool Unit
  | 0, _ => .inr ()
  | n1 + 1, v1_0 => (bif (decide ((↑v1_0 : Int) < (↑a0.length : Int))) then (bif (!(l_eqStep (nth a0 v1_0) (nth a1 v1_0))) then (.inl false) else l_eqStepS_1 a0 a1 n1 (v1_0 + 1)) else (.inr ()))
def l_eqStepS (a0 : List TStep) (a1 : List TStep) : Bool := (bif ((↑a0.length : Int) != (↑a1.length : Int)) then false else (match l_eqStepS_1 a0 a1 (a0.length + 1) 0 with | .inl r1 => r1 | .inr _ => true))
def l_eqStamp (a0 : TStamp) (a1 : TStamp) : Bool := (bif (a0.Authority != a1.Authority) then false else (bif (a0.Seq != a1.Seq) then false else (bif (a0.Time != a1.Time) then false else (bif (a0.Digest != a1.Digest) then false else (bif (a0.Mark != a1.Mark) then false else true)))))
def l_eqStampS_1 (a0 : List TStamp) (a1 : List TStamp) : Nat → Nat → Sum Bool Unit
  | 0, _ => .inr ()
  | n1 + 1, v1_0 => (bif (decide ((↑v1_0 : Int) < (↑a0.length : Int))) then (bif (!(l_eqStamp (nth a0 v1_0) (nth a1 v1_0))) then (.inl false) else l_eqStampS_1 a0 a1 n1 (v1_0 + 1)) else (.inr ()))
def l_eqStampS (a0 : List TStamp) (a1 : List TStamp) : Bool := (bif ((↑a0.length : Int) != (↑a1.length : Int)) then false else (match l_eqStampS_1 a0 a1 (a0.length + 1) 0 with | .inl r1 => r1 | .inr _ => true))
def l_eqRenewal (a0 : TRenewal) (a1 : TRenewal) : Bool := (bif (a0.Count != a1.Count) then false else (bif (a0.Method != a1.Method) then false else (bif (a0.Root != a1.Root) then false else (bif (!(l_eqStepS a0.Path a1.Path)) then false else (bif (!(l_eqStampS a0.Stamps a1.Stamps)) then false else true)))))
def l_eqRenewalS_1 (a0 : List TRenewal) (a1 : List TRenewal) : Nat → Nat → Sum Bool Unit
  | 0, _ => .inr ()
  | n1 + 1, v1_0 => (bif (decide ((↑v1_0 : Int) < (↑a0.length : Int))) then (bif (!(l_eqRenewal (nth a0 v1_0) (nth a1 v1_0))) then (.inl false) else l_eqRenewalS_1 a0 a1 n1 (v1_0 + 1)) else (.inr ()))
def l_eqRenewalS (a0 : List TRenewal) (a1 : List TRenewal) : Bool := (bif ((↑a0.length : Int) != (↑a1.length : Int)) then false else (match l_eqRenewalS_1 a0 a1 (a0.length + 1) 0 with | .inl r1 => r1 | .inr _ => true))
def l_eqStrand (a0 : TStrand) (a1 : TStrand) : Bool := (bif (!(l_eqPieceS a0.Pieces a1.Pieces)) then false else (bif (!(l_eqRenewalS a0.Chain a1.Chain)) then false else true))
def l_eqItem (a0 : TItem) (a1 : TItem) : Bool := (bif (a0.Id != a1.Id) then false else (bif (a0.Keep != a1.Keep) then false else (bif (!(l_eqDocument a0.Doc a1.Doc)) then false else (bif (!(l_eqSignature a0.Sig a1.Sig)) then false else (bif (!(l_eqStrand a0.Strand a1.Strand)) then false else true)))))
def l_eqItemS_1 (a0 : List TItem) (a1 : List TItem) : Nat → Nat → Sum Bool Unit
  | 0, _ => .inr ()
  | n1 + 1, v1_0 => (bif (decide ((↑v1_0 : Int) < (↑a0.length : Int))) then (bif (!(l_eqItem (nth a0 v1_0) (nth a1 v1_0))) then (.inl false) else l_eqItemS_1 a0 a1 n1 (v1_0 + 1)) else (.inr ()))
def l_eqItemS (a0 : List TItem) (a1 : List TItem) : Bool := (bif ((↑a0.length : Int) != (↑a1.length : Int)) then false else (match l_eqItemS_1 a0 a1 (a0.length + 1) 0 with | .inl r1 => r1 | .inr _ => true))
def l_eqArchive (a0 : TArchive) (a1 : TArchive) : Bool := (bif (a0.Id != a1.Id) then false else (bif (!(l_eqItemS a0.Items a1.Items)) then false else true))
def l_eqArchiveS_1 (a0 : List TArchive) (a1 : List TArchive) : Nat → Nat → Sum Bool Unit
  | 0, _ => .inr ()
  | n1 + 1, v1_0 => (bif (decide ((↑v1_0 : Int) < (↑a0.length : Int))) then (bif (!(l_eqArchive (nth a0 v1_0) (nth a1 v1_0))) then (.inl false) else l_eqArchiveS_1 a0 a1 n1 (v1_0 + 1)) else (.inr ()))
def l_eqArchiveS (a0 : List TArchive) (a1 : List TArchive) : Bool := (bif ((↑a0.length : Int) != (↑a1.length : Int)) then false else (match l_eqArchiveS_1 a0 a1 (a0.length + 1) 0 with | .inl r1 => r1 | .inr _ => true))
def l_eqWorld (a0 : TWorld) (a1 : TWorld) : Bool := (bif (!(l_eqFrame a0.Frame a1.Frame)) then false else (bif (!(l_eqCertS a0.Certs a1.Certs)) then false else (bif (!(l_eqIntS a0.Ended a1.Ended)) then false else (bif (!(l_eqArchiveS a0.Archives a1.Archives)) then false else (bif (!(l_eqIntS a0.Seqs a1.Seqs)) then false else (bif (!(l_eqIntS a0.Lying a1.Lying)) then false else (bif (a0.Next != a1.Next) then false else (bif (!(l_eqIntS a0.Forged a1.Forged)) then false else true))))))))
def l_markKeyS_1 : Nat → Int → Nat → List TKey → Int × (List TKey)
  | 0, _, _, _ => (default, default)
  | n1 + 1, v1_0, v1_1, v1_2 => (bif (decide ((↑v1_1 : Int) < (↑v1_2.length : Int))) then l_markKeyS_1 n1 (W ((W ((W ((W ((W (v1_0 + 1)) + 1)) + 1)) + 1)) + 1)) (v1_1 + 1) (v1_2.set v1_1 (TKey.mk v1_0 (W (v1_0 + 1)) (W ((W (v1_0 + 1)) + 1)) (W ((W ((W (v1_0 + 1)) + 1)) + 1)) (W ((W ((W ((W (v1_0 + 1)) + 1)) + 1)) + 1)))) else ((v1_0, v1_2)))
def l_markKeyS (a0 : List TKey) (a1 : Int) : (List TKey) × Int := (match l_markKeyS_1 (a0.length + 1) a1 0 a0 with | (z1_0, z1_1) => (z1_1, z1_0))
def l_markAuthorityS_1 : Nat → Int → Nat → List TAuthority → Int × (List TAuthority)
  | 0, _, _, _ => (default, default)
  | n1 + 1, v1_0, v1_1, v1_2 => (bif (decide ((↑v1_1 : Int) < (↑v1_2.length : Int))) then l_markAuthorityS_1 n1 (W ((W ((W (v1_0 + 1)) + 1)) + 1)) (v1_1 + 1) (v1_2.set v1_1 (TAuthority.mk v1_0 (W (v1_0 + 1)) (W ((W (v1_0 + 1)) + 1)))) else ((v1_0, v1_2)))
def l_markAuthorityS (a0 : List TAuthority) (a1 : Int) : (List TAuthority) × Int := (match l_markAuthorityS_1 (a0.length + 1) a1 0 a0 with | (z1_0, z1_1) => (z1_1, z1_0))
def l_markMethodS_1 : Nat → Int → Nat → List TMethod → Int × (List TMethod)
  | 0, _, _, _ => (default, default)
  | n1 + 1, v1_0, v1_1, v1_2 => (bif (decide ((↑v1_1 : Int) < (↑v1_2.length : Int))) then l_markMethodS_1 n1 (W ((W ((W ((W (v1_0 + 1)) + 1)) + 1)) + 1)) (v1_1 + 1) (v1_2.set v1_1 (TMethod.mk v1_0 (W (v1_0 + 1)) (W ((W (v1_0 + 1)) + 1)) (W ((W ((W (v1_0 + 1)) + 1)) + 1)))) else ((v1_0, v1_2)))
def l_markMethodS (a0 : List TMethod) (a1 : Int) : (List TMethod) × Int := (match l_markMethodS_1 (a0.length + 1) a1 0 a0 with | (z1_0, z1_1) => (z1_1, z1_0))
def l_markFrame (a0 : TFrame) (a1 : Int) : TFrame × Int := ((TFrame.mk (l_markKeyS a0.Keys a1).1 (l_markAuthorityS a0.Authorities (l_markKeyS a0.Keys a1).2).1 (l_markMethodS a0.Methods (l_markAuthorityS a0.Authorities (l_markKeyS a0.Keys a1).2).2).1 a0.Liars a0.Now), (l_markMethodS a0.Methods (l_markAuthorityS a0.Authorities (l_markKeyS a0.Keys a1).2).2).2)
def l_markCertS_1 : Nat → Int → Nat → List TCert → Int × (List TCert)
  | 0, _, _, _ => (default, default)
  | n1 + 1, v1_0, v1_1, v1_2 => (bif (decide ((↑v1_1 : Int) < (↑v1_2.length : Int))) then l_markCertS_1 n1 (W ((W ((W ((W ((W ((W ((W (v1_0 + 1)) + 1)) + 1)) + 1)) + 1)) + 1)) + 1)) (v1_1 + 1) (v1_2.set v1_1 (TCert.mk v1_0 (W (v1_0 + 1)) (W ((W (v1_0 + 1)) + 1)) (W ((W ((W (v1_0 + 1)) + 1)) + 1)) (W ((W ((W ((W (v1_0 + 1)) + 1)) + 1)) + 1)) (W ((W ((W ((W ((W (v1_0 + 1)) + 1)) + 1)) + 1)) + 1)) (W ((W ((W ((W ((W ((W (v1_0 + 1)) + 1)) + 1)) + 1)) + 1)) + 1)))) else ((v1_0, v1_2)))
def l_markCertS (a0 : List TCert) (a1 : Int) : (List TCert) × Int := (match l_markCertS_1 (a0.length + 1) a1 0 a0 with | (z1_0, z1_1) => (z1_1, z1_0))
def l_markIntS_1 : Nat → Int → Nat → List Int → Int × (List Int)
  | 0, _, _, _ => (default, default)
  | n1 + 1, v1_0, v1_1, v1_2 => (bif (decide ((↑v1_1 : Int) < (↑v1_2.length : Int))) then l_markIntS_1 n1 (W (v1_0 + 1)) (v1_1 + 1) (v1_2.set v1_1 v1_0) else ((v1_0, v1_2)))
def l_markIntS (a0 : List Int) (a1 : Int) : (List Int) × Int := (match l_markIntS_1 (a0.length + 1) a1 0 a0 with | (z1_0, z1_1) => (z1_1, z1_0))
def l_markText_1 : Nat → Int → ByteArray → ByteArray
  | 0, _, _ => default
  | n1 + 1, v1_0, v1_1 => (bif (decide (v1_0 > 0)) then l_markText_1 n1 (W (Int.tdiv v1_0 10)) ((⟨([(UInt8.ofInt (W (48 + (Int.tmod v1_0 10))))] : List UInt8).toArray⟩ : ByteArray) ++ v1_1) else (v1_1))
def l_markText (a0 : Int) : ByteArray := (bif (decide (a0 ≤ 0)) then (⟨#[109, 48]⟩ : ByteArray) else (match l_markText_1 22 a0 (⟨#[]⟩ : ByteArray) with | z1_0 => ((⟨#[109]⟩ : ByteArray) ++ z1_0)))
def l_markStringS_1 : Nat → Int → Nat → List ByteArray → Int × (List ByteArray)
  | 0, _, _, _ => (default, default)
  | n1 + 1, v1_0, v1_1, v1_2 => (bif (decide ((↑v1_1 : Int) < (↑v1_2.length : Int))) then l_markStringS_1 n1 (W (v1_0 + 1)) (v1_1 + 1) (v1_2.set v1_1 (l_markText v1_0)) else ((v1_0, v1_2)))
def l_markStringS (a0 : List ByteArray) (a1 : Int) : (List ByteArray) × Int := (match l_markStringS_1 (a0.length + 1) a1 0 a0 with | (z1_0, z1_1) => (z1_1, z1_0))
def l_markPieceS_1 : Nat → Int → Nat → List TPiece → Int × (List TPiece)
  | 0, _, _, _ => (default, default)
  | n1 + 1, v1_0, v1_1, v1_2 => (bif (decide ((↑v1_1 : Int) < (↑v1_2.length : Int))) then l_markPieceS_1 n1 (W ((l_markIntS (nth v1_2 v1_1).Ints (W (v1_0 + 1))).2 + 1)) (v1_1 + 1) (v1_2.set v1_1 (TPiece.mk v1_0 (l_markIntS (nth v1_2 v1_1).Ints (W (v1_0 + 1))).1 (l_markIntS (nth v1_2 v1_1).Ints (W (v1_0 + 1))).2)) else ((v1_0, v1_2)))
def l_markPieceS (a0 : List TPiece) (a1 : Int) : (List TPiece) × Int := (match l_markPieceS_1 (a0.length + 1) a1 0 a0 with | (z1_0, z1_1) => (z1_1, z1_0))
def l_markStepS_1 : Nat → Int → Nat → List TStep → Int × (List TStep)
  | 0, _, _, _ => (default, default)
  | n1 + 1, v1_0, v1_1, v1_2 => (bif (decide ((↑v1_1 : Int) < (↑v1_2.length : Int))) then l_markStepS_1 n1 (W ((W (v1_0 + 1)) + 1)) (v1_1 + 1) (v1_2.set v1_1 (TStep.mk v1_0 ((Int.tmod (W (v1_0 + 1)) 3) == 0))) else ((v1_0, v1_2)))
def l_markStepS (a0 : List TStep) (a1 : Int) : (List TStep) × Int := (match l_markStepS_1 (a0.length + 1) a1 0 a0 with | (z1_0, z1_1) => (z1_1, z1_0))
def l_markStampS_1 : Nat → Int → Nat → List TStamp → Int × (List TStamp)
  | 0, _, _, _ => (default, default)
  | n1 + 1, v1_0, v1_1, v1_2 => (bif (decide ((↑v1_1 : Int) < (↑v1_2.length : Int))) then l_markStampS_1 n1 (W ((W ((W ((W ((W (v1_0 + 1)) + 1)) + 1)) + 1)) + 1)) (v1_1 + 1) (v1_2.set v1_1 (TStamp.mk v1_0 (W (v1_0 + 1)) (W ((W (v1_0 + 1)) + 1)) (W ((W ((W (v1_0 + 1)) + 1)) + 1)) (W ((W ((W ((W (v1_0 + 1)) + 1)) + 1)) + 1)))) else ((v1_0, v1_2)))
def l_markStampS (a0 : List TStamp) (a1 : Int) : (List TStamp) × Int := (match l_markStampS_1 (a0.length + 1) a1 0 a0 with | (z1_0, z1_1) => (z1_1, z1_0))
def l_markRenewalS_1 : Nat → Int → Nat → List TRenewal → Int × (List TRenewal)
  | 0, _, _, _ => (default, default)
  | n1 + 1, v1_0, v1_1, v1_2 => (bif (decide ((↑v1_1 : Int) < (↑v1_2.length : Int))) then l_markRenewalS_1 n1 (l_markStampS (nth v1_2 v1_1).Stamps (l_markStepS (nth v1_2 v1_1).Path (W ((W ((W (v1_0 + 1)) + 1)) + 1))).2).2 (v1_1 + 1) (v1_2.set v1_1 (TRenewal.mk v1_0 (W (v1_0 + 1)) (W ((W (v1_0 + 1)) + 1)) (l_markStepS (nth v1_2 v1_1).Path (W ((W ((W (v1_0 + 1)) + 1)) + 1))).1 (l_markStampS (nth v1_2 v1_1).Stamps (l_markStepS (nth v1_2 v1_1).Path (W ((W ((W (v1_0 + 1)) + 1)) + 1))).2).1)) else ((v1_0, v1_2)))
def l_markRenewalS (a0 : List TRenewal) (a1 : Int) : (List TRenewal) × Int := (match l_markRenewalS_1 (a0.length + 1) a1 0 a0 with | (z1_0, z1_1) => (z1_1, z1_0))
def l_markItemS_1 : Nat → Int → Nat → List TItem → Int × (List TItem)
  | 0, _, _, _ => (default, default)
  | n1 + 1, v1_0, v1_1, v1_2 => (bif (decide ((↑v1_1 : Int) < (↑v1_2.length : Int))) then l_markItemS_1 n1 (l_markRenewalS (nth v1_2 v1_1).Strand.Chain (l_markPieceS (nth v1_2 v1_1).Strand.Pieces (W ((W ((W ((W ((W ((W ((W ((W ((W ((l_markIntS (nth v1_2 v1_1).Doc.Salts (l_markStringS (nth v1_2 v1_1).Doc.Parts (W ((W ((W (v1_0 + 1)) + 1)) + 1))).2).2 + 1)) + 1)) + 1)) + 1)) + 1)) + 1)) + 1)) + 1)) + 1))).2).2 (v1_1 + 1) (v1_2.set v1_1 (TItem.mk v1_0 (W (v1_0 + 1)) (TDocument.mk (W ((W (v1_0 + 1)) + 1)) (l_markStringS (nth v1_2 v1_1).Doc.Parts (W ((W ((W (v1_0 + 1)) + 1)) + 1))).1 (l_markIntS (nth v1_2 v1_1).Doc.Salts (l_markStringS (nth v1_2 v1_1).Doc.Parts (W ((W ((W (v1_0 + 1)) + 1)) + 1))).2).1) (TSignature.mk (l_markIntS (nth v1_2 v1_1).Doc.Salts (l_markStringS (nth v1_2 v1_1).Doc.Parts (W ((W ((W (v1_0 + 1)) + 1)) + 1))).2).2 (W ((l_markIntS (nth v1_2 v1_1).Doc.Salts (l_markStringS (nth v1_2 v1_1).Doc.Parts (W ((W ((W (v1_0 + 1)) + 1)) + 1))).2).2 + 1)) (W ((W ((l_markIntS (nth v1_2 v1_1).Doc.Salts (l_markStringS (nth v1_2 v1_1).Doc.Parts (W ((W ((W (v1_0 + 1)) + 1)) + 1))).2).2 + 1)) + 1)) (W ((W ((W ((l_markIntS (nth v1_2 v1_1).Doc.Salts (l_markStringS (nth v1_2 v1_1).Doc.Parts (W ((W ((W (v1_0 + 1)) + 1)) + 1))).2).2 + 1)) + 1)) + 1)) (W ((W ((W ((W ((l_markIntS (nth v1_2 v1_1).Doc.Salts (l_markStringS (nth v1_2 v1_1).Doc.Parts (W ((W ((W (v1_0 + 1)) + 1)) + 1))).2).2 + 1)) + 1)) + 1)) + 1)) (W ((W ((W ((W ((W ((l_markIntS (nth v1_2 v1_1).Doc.Salts (l_markStringS (nth v1_2 v1_1).Doc.Parts (W ((W ((W (v1_0 + 1)) + 1)) + 1))).2).2 + 1)) + 1)) + 1)) + 1)) + 1)) (W ((W ((W ((W ((W ((W ((l_markIntS (nth v1_2 v1_1).Doc.Salts (l_markStringS (nth v1_2 v1_1).Doc.Parts (W ((W ((W (v1_0 + 1)) + 1)) + 1))).2).2 + 1)) + 1)) + 1)) + 1)) + 1)) + 1)) (W ((W ((W ((W ((W ((W ((W ((l_markIntS (nth v1_2 v1_1).Doc.Salts (l_markStringS (nth v1_2 v1_1).Doc.Parts (W ((W ((W (v1_0 + 1)) + 1)) + 1))).2).2 + 1)) + 1)) + 1)) + 1)) + 1)) + 1)) + 1)) (W ((W ((W ((W ((W ((W ((W ((W ((l_markIntS (nth v1_2 v1_1).Doc.Salts (l_markStringS (nth v1_2 v1_1).Doc.Parts (W ((W ((W (v1_0 + 1)) + 1)) + 1))).2).2 + 1)) + 1)) + 1)) + 1)) + 1)) + 1)) + 1)) + 1))) (TStrand.mk (l_markPieceS (nth v1_2 v1_1).Strand.Pieces (W ((W ((W ((W ((W ((W ((W ((W ((W ((l_markIntS (nth v1_2 v1_1).Doc.Salts (l_markStringS (nth v1_2 v1_1).Doc.Parts (W ((W ((W (v1_0 + 1)) + 1)) + 1))).2).2 + 1)) + 1)) + 1)) + 1)) + 1)) + 1)) + 1)) + 1)) + 1))).1 (l_markRenewalS (nth v1_2 v1_1).Strand.Chain (l_markPieceS (nth v1_2 v1_1).Strand.Pieces (W ((W ((W ((W ((W ((W ((W ((W ((W ((l_markIntS (nth v1_2 v1_1).Doc.Salts (l_markStringS (nth v1_2 v1_1).Doc.Parts (W ((W ((W (v1_0 + 1)) + 1)) + 1))).2).2 + 1)) + 1)) + 1)) + 1)) + 1)) + 1)) + 1)) + 1)) + 1))).2).1))) else ((v1_0, v1_2)))
def l_markItemS (a0 : List TItem) (a1 : Int) : (List TItem) × Int := (match l_markItemS_1 (a0.length + 1) a1 0 a0 with | (z1_0, z1_1) => (z1_1, z1_0))
def l_markArchiveS_1 : Nat → Int → Nat → List TArchive → Int × (List TArchive)
  | 0, _, _, _ => (default, default)
  | n1 + 1, v1_0, v1_1, v1_2 => (bif (decide ((↑v1_1 : Int) < (↑v1_2.length : Int))) then l_markArchiveS_1 n1 (l_markItemS (nth v1_2 v1_1).Items (W (v1_0 + 1))).2 (v1_1 + 1) (v1_2.set v1_1 (TArchive.mk v1_0 (l_markItemS (nth v1_2 v1_1).Items (W (v1_0 + 1))).1)) else ((v1_0, v1_2)))
def l_markArchiveS (a0 : List TArchive) (a1 : Int) : (List TArchive) × Int := (match l_markArchiveS_1 (a0.length + 1) a1 0 a0 with | (z1_0, z1_1) => (z1_1, z1_0))
def l_markWorld (a0 : TWorld) (a1 : Int) : TWorld × Int := ((TWorld.mk (l_markFrame a0.Frame a1).1 (l_markCertS a0.Certs (l_markFrame a0.Frame a1).2).1 (l_markIntS a0.Ended (l_markCertS a0.Certs (l_markFrame a0.Frame a1).2).2).1 (l_markArchiveS a0.Archives (l_markIntS a0.Ended (l_markCertS a0.Certs (l_markFrame a0.Frame a1).2).2).2).1 (l_markIntS a0.Seqs (l_markArchiveS a0.Archives (l_markIntS a0.Ended (l_markCertS a0.Certs (l_markFrame a0.Frame a1).2).2).2).2).1 (l_markIntS a0.Lying (l_markIntS a0.Seqs (l_markArchiveS a0.Archives (l_markIntS a0.Ended (l_markCertS a0.Certs (l_markFrame a0.Frame a1).2).2).2).2).2).1 a0.Next (l_markIntS a0.Forged (l_markIntS a0.Lying (l_markIntS a0.Seqs (l_markArchiveS a0.Archives (l_markIntS a0.Ended (l_markCertS a0.Certs (l_markFrame a0.Frame a1).2).2).2).2).2).2).1), (l_markIntS a0.Forged (l_markIntS a0.Lying (l_markIntS a0.Seqs (l_markArchiveS a0.Archives (l_markIntS a0.Ended (l_markCertS a0.Certs (l_markFrame a0.Frame a1).2).2).2).2).2).2).2)
def l_markDocument (a0 : TDocument) (a1 : Int) : TDocument × Int := ((TDocument.mk a0.Title (l_markStringS a0.Parts a1).1 (l_markIntS a0.Salts (l_markStringS a0.Parts a1).2).1), (l_markIntS a0.Salts (l_markStringS a0.Parts a1).2).2)
def l_heldKeyS_1 (a0 : List TKey) : Nat → Int → Nat → Sum Int Int
  | 0, _, _ => .inr default
  | n1 + 1, v1_0, v1_1 => (bif (decide ((↑v1_1 : Int) < (↑a0.length : Int))) then (bif ((nth a0 v1_1).Number != v1_0) then (.inl (-1)) else (bif ((nth a0 v1_1).Owner != (W (v1_0 + 1))) then (.inl (-1)) else (bif ((nth a0 v1_1).Method != (W ((W (v1_0 + 1)) + 1))) then (.inl (-1)) else (bif ((nth a0 v1_1).Born != (W ((W ((W (v1_0 + 1)) + 1)) + 1))) then (.inl (-1)) else (bif ((nth a0 v1_1).Secret != (W ((W ((W ((W (v1_0 + 1)) + 1)) + 1)) + 1))) then (.inl (-1)) else l_heldKeyS_1 a0 n1 (W ((W ((W ((W ((W (v1_0 + 1)) + 1)) + 1)) + 1)) + 1)) (v1_1 + 1)))))) else (.inr v1_0))
def l_heldKeyS (a0 : List TKey) (a1 : Int) : Int := (match l_heldKeyS_1 a0 (a0.length + 1) a1 0 with | .inl r1 => r1 | .inr z1_0 => z1_0)
def l_heldAuthorityS_1 (a0 : List TAuthority) : Nat → Int → Nat → Sum Int Int
  | 0, _, _ => .inr default
  | n1 + 1, v1_0, v1_1 => (bif (decide ((↑v1_1 : Int) < (↑a0.length : Int))) then (bif ((nth a0 v1_1).Id != v1_0) then (.inl (-1)) else (bif ((nth a0 v1_1).Key != (W (v1_0 + 1))) then (.inl (-1)) else (bif ((nth a0 v1_1).Error != (W ((W (v1_0 + 1)) + 1))) then (.inl (-1)) else l_heldAuthorityS_1 a0 n1 (W ((W ((W (v1_0 + 1)) + 1)) + 1)) (v1_1 + 1)))) else (.inr v1_0))
def l_heldAuthorityS (a0 : List TAuthority) (a1 : Int) : Int := (match l_heldAuthorityS_1 a0 (a0.length + 1) a1 0 with | .inl r1 => r1 | .inr z1_0 => z1_0)
def l_heldMethodS_1 (a0 : List TMethod) : Nat → Int → Nat → Sum Int Int
  | 0, _, _ => .inr default
  | n1 + 1, v1_0, v1_1 => (bif (decide ((↑v1_1 : Int) < (↑a0.length : Int))) then (bif ((nth a0 v1_1).Id != v1_0) then (.inl (-1)) else (bif ((nth a0 v1_1).Known != (W (v1_0 + 1))) then (.inl (-1)) else (bif ((nth a0 v1_1).Ends != (W ((W (v1_0 + 1)) + 1))) then (.inl (-1)) else (bif ((nth a0 v1_1).Broken != (W ((W ((W (v1_0 + 1)) + 1)) + 1))) then (.inl (-1)) else l_heldMethodS_1 a0 n1 (W ((W ((W ((W (v1_0 + 1)) + 1)) + 1)) + 1)) (v1_1 + 1))))) else (.inr v1_0))
def l_heldMethodS (a0 : List TMethod) (a1 : Int) : Int := (match l_heldMethodS_1 a0 (a0.length + 1) a1 0 with | .inl r1 => r1 | .inr z1_0 => z1_0)
def l_heldFrame (a0 : TFrame) (a1 : Int) : Int := (bif (decide ((l_heldKeyS a0.Keys a1) < 0)) then (-1) else (bif (decide ((l_heldAuthorityS a0.Authorities (l_heldKeyS a0.Keys a1)) < 0)) then (-1) else (bif (decide ((l_heldMethodS a0.Methods (l_heldAuthorityS a0.Authorities (l_heldKeyS a0.Keys a1))) < 0)) then (-1) else (l_heldMethodS a0.Methods (l_heldAuthorityS a0.Authorities (l_heldKeyS a0.Keys a1))))))
def l_heldCertS_1 (a0 : List TCert) : Nat → Int → Nat → Sum Int Int
  | 0, _, _ => .inr default
  | n1 + 1, v1_0, v1_1 => (bif (decide ((↑v1_1 : Int) < (↑a0.length : Int))) then (bif ((nth a0 v1_1).Serial != v1_0) then (.inl (-1)) else (bif ((nth a0 v1_1).Key != (W (v1_0 + 1))) then (.inl (-1)) else (bif ((nth a0 v1_1).Owner != (W ((W (v1_0 + 1)) + 1))) then (.inl (-1)) else (bif ((nth a0 v1_1).From != (W ((W ((W (v1_0 + 1)) + 1)) + 1))) then (.inl (-1)) else (bif ((nth a0 v1_1).To != (W ((W ((W ((W (v1_0 + 1)) + 1)) + 1)) + 1))) then (.inl (-1)) else (bif ((nth a0 v1_1).Issuer != (W ((W ((W ((W ((W (v1_0 + 1)) + 1)) + 1)) + 1)) + 1))) then (.inl (-1)) else (bif ((nth a0 v1_1).Mark != (W ((W ((W ((W ((W ((W (v1_0 + 1)) + 1)) + 1)) + 1)) + 1)) + 1))) then (.inl (-1)) else l_heldCertS_1 a0 n1 (W ((W ((W ((W ((W ((W ((W (v1_0 + 1)) + 1)) + 1)) + 1)) + 1)) + 1)) + 1)) (v1_1 + 1)))))))) else (.inr v1_0))
def l_heldCertS (a0 : List TCert) (a1 : Int) : Int := (match l_heldCertS_1 a0 (a0.length + 1) a1 0 with | .inl r1 => r1 | .inr z1_0 => z1_0)
def l_heldIntS_1 (a0 : List Int) : Nat → Int → Nat → Sum Int Int
  | 0, _, _ => .inr default
  | n1 + 1, v1_0, v1_1 => (bif (decide ((↑v1_1 : Int) < (↑a0.length : Int))) then (bif ((nth a0 v1_1) != v1_0) then (.inl (-1)) else l_heldIntS_1 a0 n1 (W (v1_0 + 1)) (v1_1 + 1)) else (.inr v1_0))
def l_heldIntS (a0 : List Int) (a1 : Int) : Int := (match l_heldIntS_1 a0 (a0.length + 1) a1 0 with | .inl r1 => r1 | .inr z1_0 => z1_0)
def l_heldStringS_1 (a0 : List ByteArray) : Nat → Int → Nat → Sum Int Int
  | 0, _, _ => .inr default
  | n1 + 1, v1_0, v1_1 => (bif (decide ((↑v1_1 : Int) < (↑a0.length : Int))) then (bif (!decide ((nth a0 v1_1) = (l_markText v1_0))) then (.inl (-1)) else l_heldStringS_1 a0 n1 (W (v1_0 + 1)) (v1_1 + 1)) else (.inr v1_0))
def l_heldStringS (a0 : List ByteArray) (a1 : Int) : Int := (match l_heldStringS_1 a0 (a0.length + 1) a1 0 with | .inl r1 => r1 | .inr z1_0 => z1_0)
def l_heldPieceS_1 (a0 : List TPiece) : Nat → Int → Nat → Sum Int Int
  | 0, _, _ => .inr default
  | n1 + 1, v1_0, v1_1 => (bif (decide ((↑v1_1 : Int) < (↑a0.length : Int))) then (bif ((nth a0 v1_1).Key != v1_0) then (.inl (-1)) else (bif (decide ((l_heldIntS (nth a0 v1_1).Ints (W (v1_0 + 1))) < 0)) then (.inl (-1)) else (bif ((nth a0 v1_1).Mark != (l_heldIntS (nth a0 v1_1).Ints (W (v1_0 + 1)))) then (.inl (-1)) else l_heldPieceS_1 a0 n1 (W ((l_heldIntS (nth a0 v1_1).Ints (W (v1_0 + 1))) + 1)) (v1_1 + 1)))) else (.inr v1_0))
def l_heldPieceS (a0 : List TPiece) (a1 : Int) : Int := (match l_heldPieceS_1 a0 (a0.length + 1) a1 0 with | .inl r1 => r1 | .inr z1_0 => z1_0)
def l_heldStepS_1 (a0 : List TStep) : Nat → Int → Nat → Sum Int Int
  | 0, _, _ => .inr default
  | n1 + 1, v1_0, v1_1 => (bif (decide ((↑v1_1 : Int) < (↑a0.length : Int))) then (bif ((nth a0 v1_1).Digest != v1_0) then (.inl (-1)) else (bif (!((nth a0 v1_1).Left == ((Int.tmod (W (v1_0 + 1)) 3) == 0))) then (.inl (-1)) else l_heldStepS_1 a0 n1 (W ((W (v1_0 + 1)) + 1)) (v1_1 + 1))) else (.inr v1_0))
def l_heldStepS (a0 : List TStep) (a1 : Int) : Int := (match l_heldStepS_1 a0 (a0.length + 1) a1 0 with | .inl r1 => r1 | .inr z1_0 => z1_0)
def l_heldStampS_1 (a0 : List TStamp) : Nat → Int → Nat → Sum Int Int
  | 0, _, _ => .inr default
  | n1 + 1, v1_0, v1_1 => (bif (decide ((↑v1_1 : Int) < (↑a0.length : Int))) then (bif ((nth a0 v1_1).Authority != v1_0) then (.inl (-1)) else (bif ((nth a0 v1_1).Seq != (W (v1_0 + 1))) then (.inl (-1)) else (bif ((nth a0 v1_1).Time != (W ((W (v1_0 + 1)) + 1))) then (.inl (-1)) else (bif ((nth a0 v1_1).Digest != (W ((W ((W (v1_0 + 1)) + 1)) + 1))) then (.inl (-1)) else (bif ((nth a0 v1_1).Mark != (W ((W ((W ((W (v1_0 + 1)) + 1)) + 1)) + 1))) then (.inl (-1)) else l_heldStampS_1 a0 n1 (W ((W ((W ((W ((W (v1_0 + 1)) + 1)) + 1)) + 1)) + 1)) (v1_1 + 1)))))) else (.inr v1_0))
def l_heldStampS (a0 : List TStamp) (a1 : Int) : Int := (match l_heldStampS_1 a0 (a0.length + 1) a1 0 with | .inl r1 => r1 | .inr z1_0 => z1_0)
def l_heldRenewalS_1 (a0 : List TRenewal) : Nat → Int → Nat → Sum Int Int
  | 0, _, _ => .inr default
  | n1 + 1, v1_0, v1_1 => (bif (decide ((↑v1_1 : Int) < (↑a0.length : Int))) then (bif ((nth a0 v1_1).Count != v1_0) then (.inl (-1)) else (bif ((nth a0 v1_1).Method != (W (v1_0 + 1))) then (.inl (-1)) else (bif ((nth a0 v1_1).Root != (W ((W (v1_0 + 1)) + 1))) then (.inl (-1)) else (bif (decide ((l_heldStepS (nth a0 v1_1).Path (W ((W ((W (v1_0 + 1)) + 1)) + 1))) < 0)) then (.inl (-1)) else (bif (decide ((l_heldStampS (nth a0 v1_1).Stamps (l_heldStepS (nth a0 v1_1).Path (W ((W ((W (v1_0 + 1)) + 1)) + 1)))) < 0)) then (.inl (-1)) else l_heldRenewalS_1 a0 n1 (l_heldStampS (nth a0 v1_1).Stamps (l_heldStepS (nth a0 v1_1).Path (W ((W ((W (v1_0 + 1)) + 1)) + 1)))) (v1_1 + 1)))))) else (.inr v1_0))
def l_heldRenewalS (a0 : List TRenewal) (a1 : Int) : Int := (match l_heldRenewalS_1 a0 (a0.length + 1) a1 0 with | .inl r1 => r1 | .inr z1_0 => z1_0)
def l_heldItemS_1 (a0 : List TItem) : Nat → Int → Nat → Sum Int Int
  | 0, _, _ => .inr default
  | n1 + 1, v1_0, v1_1 => (bif (decide ((↑v1_1 : Int) < (↑a0.length : Int))) then (bif ((nth a0 v1_1).Id != v1_0) then (.inl (-1)) else (bif ((nth a0 v1_1).Keep != (W (v1_0 + 1))) then (.inl (-1)) else (bif ((nth a0 v1_1).Doc.Title != (W ((W (v1_0 + 1)) + 1))) then (.inl (-1)) else (bif (decide ((l_heldStringS (nth a0 v1_1).Doc.Parts (W ((W ((W (v1_0 + 1)) + 1)) + 1))) < 0)) then (.inl (-1)) else (bif (decide ((l_heldIntS (nth a0 v1_1).Doc.Salts (l_heldStringS (nth a0 v1_1).Doc.Parts (W ((W ((W (v1_0 + 1)) + 1)) + 1)))) < 0)) then (.inl (-1)) else (bif ((nth a0 v1_1).Sig.Key != (l_heldIntS (nth a0 v1_1).Doc.Salts (l_heldStringS (nth a0 v1_1).Doc.Parts (W ((W ((W (v1_0 + 1)) + 1)) + 1))))) then (.inl (-1)) else (bif ((nth a0 v1_1).Sig.Serial != (W ((l_heldIntS (nth a0 v1_1).Doc.Salts (l_heldStringS (nth a0 v1_1).Doc.Parts (W ((W ((W (v1_0 + 1)) + 1)) + 1)))) + 1))) then (.inl (-1)) else (bif ((nth a0 v1_1).Sig.Method != (W ((W ((l_heldIntS (nth a0 v1_1).Doc.Salts (l_heldStringS (nth a0 v1_1).Doc.Parts (W ((W ((W (v1_0 + 1)) + 1)) + 1)))) + 1)) + 1))) then (.inl (-1)) else (bif ((nth a0 v1_1).Sig.Digest != (W ((W ((W ((l_heldIntS (nth a0 v1_1).Doc.Salts (l_heldStringS (nth a0 v1_1).Doc.Parts (W ((W ((W (v1_0 + 1)) + 1)) + 1)))) + 1)) + 1)) + 1))) then (.inl (-1)) else (bif ((nth a0 v1_1).Sig.Commit != (W ((W ((W ((W ((l_heldIntS (nth a0 v1_1).Doc.Salts (l_heldStringS (nth a0 v1_1).Doc.Parts (W ((W ((W (v1_0 + 1)) + 1)) + 1)))) + 1)) + 1)) + 1)) + 1))) then (.inl (-1)) else (bif ((nth a0 v1_1).Sig.Org != (W ((W ((W ((W ((W ((l_heldIntS (nth a0 v1_1).Doc.Salts (l_heldStringS (nth a0 v1_1).Doc.Parts (W ((W ((W (v1_0 + 1)) + 1)) + 1)))) + 1)) + 1)) + 1)) + 1)) + 1))) then (.inl (-1)) else (bif ((nth a0 v1_1).Sig.Before != (W ((W ((W ((W ((W ((W ((l_heldIntS (nth a0 v1_1).Doc.Salts (l_heldStringS (nth a0 v1_1).Doc.Parts (W ((W ((W (v1_0 + 1)) + 1)) + 1)))) + 1)) + 1)) + 1)) + 1)) + 1)) + 1))) then (.inl (-1)) else (bif ((nth a0 v1_1).Sig.After != (W ((W ((W ((W ((W ((W ((W ((l_heldIntS (nth a0 v1_1).Doc.Salts (l_heldStringS (nth a0 v1_1).Doc.Parts (W ((W ((W (v1_0 + 1)) + 1)) + 1)))) + 1)) + 1)) + 1)) + 1)) + 1)) + 1)) + 1))) then (.inl (-1)) else (bif ((nth a0 v1_1).Sig.Mark != (W ((W ((W ((W ((W ((W ((W ((W ((l_heldIntS (nth a0 v1_1).Doc.Salts (l_heldStringS (nth a0 v1_1).Doc.Parts (W ((W ((W (v1_0 + 1)) + 1)) + 1)))) + 1)) + 1)) + 1)) + 1)) + 1)) + 1)) + 1)) + 1))) then (.inl (-1)) else (bif (decide ((l_heldPieceS (nth a0 v1_1).Strand.Pieces (W ((W ((W ((W ((W ((W ((W ((W ((W ((l_heldIntS (nth a0 v1_1).Doc.Salts (l_heldStringS (nth a0 v1_1).Doc.Parts (W ((W ((W (v1_0 + 1)) + 1)) + 1)))) + 1)) + 1)) + 1)) + 1)) + 1)) + 1)) + 1)) + 1)) + 1))) < 0)) then (.inl (-1)) else (bif (decide ((l_heldRenewalS (nth a0 v1_1).Strand.Chain (l_heldPieceS (nth a0 v1_1).Strand.Pieces (W ((W ((W ((W ((W ((W ((W ((W ((W ((l_heldIntS (nth a0 v1_1).Doc.Salts (l_heldStringS (nth a0 v1_1).Doc.Parts (W ((W ((W (v1_0 + 1)) + 1)) + 1)))) + 1)) + 1)) + 1)) + 1)) + 1)) + 1)) + 1)) + 1)) + 1)))) < 0)) then (.inl (-1)) else l_heldItemS_1 a0 n1 (l_heldRenewalS (nth a0 v1_1).Strand.Chain (l_heldPieceS (nth a0 v1_1).Strand.Pieces (W ((W ((W ((W ((W ((W ((W ((W ((W ((l_heldIntS (nth a0 v1_1).Doc.Salts (l_heldStringS (nth a0 v1_1).Doc.Parts (W ((W ((W (v1_0 + 1)) + 1)) + 1)))) + 1)) + 1)) + 1)) + 1)) + 1)) + 1)) + 1)) + 1)) + 1)))) (v1_1 + 1))))))))))))))))) else (.inr v1_0))
def l_heldItemS (a0 : List TItem) (a1 : Int) : Int := (match l_heldItemS_1 a0 (a0.length + 1) a1 0 with | .inl r1 => r1 | .inr z1_0 => z1_0)
def l_heldArchiveS_1 (a0 : List TArchive) : Nat → Int → Nat → Sum Int Int
  | 0, _, _ => .inr default
  | n1 + 1, v1_0, v1_1 => (bif (decide ((↑v1_1 : Int) < (↑a0.length : Int))) then (bif ((nth a0 v1_1).Id != v1_0) then (.inl (-1)) else (bif (decide ((l_heldItemS (nth a0 v1_1).Items (W (v1_0 + 1))) < 0)) then (.inl (-1)) else l_heldArchiveS_1 a0 n1 (l_heldItemS (nth a0 v1_1).Items (W (v1_0 + 1))) (v1_1 + 1))) else (.inr v1_0))
def l_heldArchiveS (a0 : List TArchive) (a1 : Int) : Int := (match l_heldArchiveS_1 a0 (a0.length + 1) a1 0 with | .inl r1 => r1 | .inr z1_0 => z1_0)
def l_heldWorld (a0 : TWorld) (a1 : Int) : Int := (bif (decide ((l_heldFrame a0.Frame a1) < 0)) then (-1) else (bif (decide ((l_heldCertS a0.Certs (l_heldFrame a0.Frame a1)) < 0)) then (-1) else (bif (decide ((l_heldIntS a0.Ended (l_heldCertS a0.Certs (l_heldFrame a0.Frame a1))) < 0)) then (-1) else (bif (decide ((l_heldArchiveS a0.Archives (l_heldIntS a0.Ended (l_heldCertS a0.Certs (l_heldFrame a0.Frame a1)))) < 0)) then (-1) else (bif (decide ((l_heldIntS a0.Seqs (l_heldArchiveS a0.Archives (l_heldIntS a0.Ended (l_heldCertS a0.Certs (l_heldFrame a0.Frame a1))))) < 0)) then (-1) else (bif (decide ((l_heldIntS a0.Lying (l_heldIntS a0.Seqs (l_heldArchiveS a0.Archives (l_heldIntS a0.Ended (l_heldCertS a0.Certs (l_heldFrame a0.Frame a1)))))) < 0)) then (-1) else (bif (decide ((l_heldIntS a0.Forged (l_heldIntS a0.Lying (l_heldIntS a0.Seqs (l_heldArchiveS a0.Archives (l_heldIntS a0.Ended (l_heldCertS a0.Certs (l_heldFrame a0.Frame a1))))))) < 0)) then (-1) else (l_heldIntS a0.Forged (l_heldIntS a0.Lying (l_heldIntS a0.Seqs (l_heldArchiveS a0.Archives (l_heldIntS a0.Ended (l_heldCertS a0.Certs (l_heldFrame a0.Frame a1))))))))))))))
def l_FnExactStepSign (a0 : TWorld) (a1 : Int) (a2 : Int) (a3 : TDocument) (a4 : Int) (a5 : Int) : Bool := (bif (decide ((l_szWorld a0 1048576) < 0)) then true else (bif (decide ((l_szDocument a3 (l_szWorld a0 1048576)) < 0)) then true else (bif ((!(l_eqWorld (i_StepSign a0 a1 a2 a3 a4 a5).1 (s_StepSign a0 a1 a2 a3 a4 a5).1)) || (!((i_StepSign a0 a1 a2 a3 a4 a5).2 == (s_StepSign a0 a1 a2 a3 a4 a5).2))) then false else (bif (!(l_eqWorld a0 a0)) then false else (bif (!(l_eqDocument a3 a3)) then false else (bif (((decide ((l_markDocument a3 (l_markWorld a0 1).2).2 < 0)) || (!(l_eqWorld (i_StepSign a0 a1 a2 a3 a4 a5).1 (s_StepSign a0 a1 a2 a3 a4 a5).1))) || (!((i_StepSign a0 a1 a2 a3 a4 a5).2 == (s_StepSign a0 a1 a2 a3 a4 a5).2))) then false else (bif (decide ((l_heldWorld (l_markWorld (i_StepSign a0 a1 a2 a3 a4 a5).1 1).1 1) < 0)) then false else (bif ((l_heldWorld (l_markWorld (i_StepSign a0 a1 a2 a3 a4 a5).1 1).1 1) != (l_markWorld (i_StepSign a0 a1 a2 a3 a4 a5).1 1).2) then false else (bif ((!(l_eqWorld (i_StepSign a0 a1 a2 a3 a4 a5).1 (s_StepSign a0 a1 a2 a3 a4 a5).1)) || (!((i_StepSign a0 a1 a2 a3 a4 a5).2 == (s_StepSign a0 a1 a2 a3 a4 a5).2))) then false else (bif (decide ((l_heldWorld (l_markWorld (i_StepSign a0 a1 a2 a3 a4 a5).1 1).1 1) < 0)) then false else (bif ((l_heldWorld (l_markWorld (i_StepSign a0 a1 a2 a3 a4 a5).1 1).1 1) != (l_markWorld (i_StepSign a0 a1 a2 a3 a4 a5).1 1).2) then false else true)))))))))))
def s_FindMethod_1 (a0 : List TMethod) (a1 : Int) : Nat → Nat → Sum Int Unit
  | 0, _ => .inr ()
  | n1 + 1, v1_0 => (bif (decide ((↑v1_0 : Int) < (↑a0.length : Int))) then (bif ((nth a0 v1_0).Id == a1) then (.inl (↑v1_0 : Int)) else s_FindMethod_1 a0 a1 n1 (v1_0 + 1)) else (.inr ()))
def s_FindMethod (a0 : List TMethod) (a1 : Int) : Int := (match s_FindMethod_1 a0 a1 (a0.length + 1) 0 with | .inl r1 => r1 | .inr _ => (-1))
def s_BreakOf (a0 : List TMethod) (a1 : Int) : Int := (bif (decide ((s_FindMethod a0 a1) < 0)) then 0 else (nth a0 (s_FindMethod a0 a1).toNat).Broken)
def s_IsStolen (a0 : TFrame) (a1 : Int) : Bool := ((decide ((s_FindKey a0.Keys a1) ≥ 0)) && (decide (a0.Now ≥ (s_BreakOf a0.Methods (nth a0.Keys (s_FindKey a0.Keys a1).toNat).Method))))
def s_StepForge (a0 : TWorld) (a1 : Int) (a2 : Int) (a3 : TDocument) : TWorld × Bool := (bif ((!(s_l34Has a0 a1)) || (!(s_IsStolen a0.Frame a2))) then (a0, false) else (bif (!(s_l34Item a0 a2 a3 0 10000).2) then (a0, false) else (bif (!(s_AddItem (nth a0.Archives a1.toNat) (s_l34Item a0 a2 a3 0 10000).1).2) then (a0, false) else ((TWorld.mk a0.Frame a0.Certs a0.Ended (a0.Archives.set a1.toNat (s_AddItem (nth a0.Archives a1.toNat) (s_l34Item a0 a2 a3 0 10000).1).1) a0.Seqs a0.Lying (W (a0.Next + 1)) (a0.Forged ++ ([a0.Next] : List Int))), true))))
def i_FindMethod_1 (a0 : List TMethod) (a1 : Int) : Nat → Nat → Sum Int Unit
  | 0, _ => .inr ()
  | n1 + 1, v1_0 => (bif (decide ((↑v1_0 : Int) < (↑a0.length : Int))) then (bif ((nth a0 v1_0).Id == a1) then (.inl (↑v1_0 : Int)) else i_FindMethod_1 a0 a1 n1 (v1_0 + 1)) else (.inr ()))
def i_FindMethod (a0 : List TMethod) (a1 : Int) : Int := (match i_FindMethod_1 a0 a1 (a0.length + 1) 0 with | .inl r1 => r1 | .inr _ => (-1))
def i_BreakOf (a0 : List TMethod) (a1 : Int) : Int := (bif (decide ((i_FindMethod a0 a1) ≥ 0)) then (nth a0 (i_FindMethod a0 a1).toNat).Broken else 0)
def i_breakOfKey (a0 : TFrame) (a1 : Int) : Int := (bif (decide ((i_FindKey a0.Keys a1) < 0)) then 0 else (i_BreakOf a0.Methods (nth a0.Keys (i_FindKey a0.Keys a1).toNat).Method))
def i_IsStolen (a0 : TFrame) (a1 : Int) : Bool := ((decide ((i_FindKey a0.Keys a1) ≥ 0)) && (decide (a0.Now ≥ (i_breakOfKey a0 a1))))
def i_StepForge (a0 : TWorld) (a1 : Int) (a2 : Int) (a3 : TDocument) : TWorld × Bool := (bif (!(i_IsStolen a0.Frame a2)) then (a0, false) else (bif (i_signInto a0 a1 a2 a3 0 10000).2 then ((TWorld.mk (i_signInto a0 a1 a2 a3 0 10000).1.Frame (i_signInto a0 a1 a2 a3 0 10000).1.Certs (i_signInto a0 a1 a2 a3 0 10000).1.Ended (i_signInto a0 a1 a2 a3 0 10000).1.Archives (i_signInto a0 a1 a2 a3 0 10000).1.Seqs (i_signInto a0 a1 a2 a3 0 10000).1.Lying (i_signInto a0 a1 a2 a3 0 10000).1.Next ((i_signInto a0 a1 a2 a3 0 10000).1.Forged ++ ([a0.Next] : List Int))), (i_signInto a0 a1 a2 a3 0 10000).2) else ((i_signInto a0 a1 a2 a3 0 10000).1, (i_signInto a0 a1 a2 a3 0 10000).2)))
def l_FnExactStepForge (a0 : TWorld) (a1 : Int) (a2 : Int) (a3 : TDocument) : Bool := (bif (decide ((l_szWorld a0 1048576) < 0)) then true else (bif (decide ((l_szDocument a3 (l_szWorld a0 1048576)) < 0)) then true else (bif ((!(l_eqWorld (i_StepForge a0 a1 a2 a3).1 (s_StepForge a0 a1 a2 a3).1)) || (!((i_StepForge a0 a1 a2 a3).2 == (s_StepForge a0 a1 a2 a3).2))) then false else (bif (!(l_eqWorld a0 a0)) then false else (bif (!(l_eqDocument a3 a3)) then false else (bif (((decide ((l_markDocument a3 (l_markWorld a0 1).2).2 < 0)) || (!(l_eqWorld (i_StepForge a0 a1 a2 a3).1 (s_StepForge a0 a1 a2 a3).1))) || (!((i_StepForge a0 a1 a2 a3).2 == (s_StepForge a0 a1 a2 a3).2))) then false else (bif (decide ((l_heldWorld (l_markWorld (i_StepForge a0 a1 a2 a3).1 1).1 1) < 0)) then false else (bif ((l_heldWorld (l_markWorld (i_StepForge a0 a1 a2 a3).1 1).1 1) != (l_markWorld (i_StepForge a0 a1 a2 a3).1 1).2) then false else (bif ((!(l_eqWorld (i_StepForge a0 a1 a2 a3).1 (s_StepForge a0 a1 a2 a3).1)) || (!((i_StepForge a0 a1 a2 a3).2 == (s_StepForge a0 a1 a2 a3).2))) then false else (bif (decide ((l_heldWorld (l_markWorld (i_StepForge a0 a1 a2 a3).1 1).1 1) < 0)) then false else (bif ((l_heldWorld (l_markWorld (i_StepForge a0 a1 a2 a3).1 1).1 1) != (l_markWorld (i_StepForge a0 a1 a2 a3).1 1).2) then false else true)))))))))))
end Go.Mo
