/- Models of the functions: what each computes, on typed data. No condition. -/
import Derived.Test.YtdbglcndfmdlfaaGreatMo
namespace Go.Mo
open Go.Vm
def l_szKeyS (a0 : List TKey) (a1 : Int) : Int := (bif (decide ((W (a1 - (↑a0.length : Int))) < 0)) then (-1) else (W (a1 - (↑a0.length : Int))))
def l_szAuthorityS (a0 : List TAuthority) (a1 : Int) : Int := (bif (decide ((W (a1 - (↑a0.length : Int))) < 0)) then (-1) else (W (a1 - (↑a0.length : Int))))
def l_szMethodS (a0 : List TMethod) (a1 : Int) : Int := (bif (decide ((W (a1 - (↑a0.length : Int))) < 0)) then (-1) else (W (a1 - (↑a0.length : Int))))
def l_szFrame (a0 : TFrame) (a1 : Int) : Int := (bif (decide ((l_szKeyS a0.Keys a1) < 0)) then (-1) else (bif (decide ((l_szAuthorityS a0.Authorities (l_szKeyS a0.Keys a1)) < 0)) then (-1) else (bif (decide ((l_szMethodS a0.Methods (l_szAuthorityS a0.Authorities (l_szKeyS a0.Keys a1))) < 0)) then (-1) else (l_szMethodS a0.Methods (l_szAuthorityS a0.Authorities (l_szKeyS a0.Keys a1))))))
def l_szCertS (a0 : List TCert) (a1 : Int) : Int := (bif (decide ((W (a1 - (↑a0.length : Int))) < 0)) then (-1) else (W (a1 - (↑a0.length : Int))))
def l_szIntS (a0 : List Int) (a1 : Int) : Int := (bif (decide ((W (a1 - (↑a0.length : Int))) < 0)) then (-1) else (W (a1 - (↑a0.length : Int))))
def l_szStringS_1 (a0 : List ByteArray) : Nat → Int → Nat → Sum Int Int
  | 0, _, _ => .inr default
  | n1 + 1, v1_0, v1_1 => (bif (decide ((↑v1_1 : Int) < (↑a0.length : Int))) then (bif (decide ((W (v1_0 - (↑(nth a0 v1_1).size : Int))) < 0)) then (.inl (-1)) else l_szStringS_1 a0 n1 (W (v1_0 - (↑(nth a0 v1_1).size : Int))) (v1_1 + 1)) else (.inr v1_0))
def l_szStringS (a0 : List ByteArray) (a1 : Int) : Int := (bif (decide ((W (a1 - (↑a0.length : Int))) < 0)) then (-1) else (match l_szStringS_1 a0 (a0.length + 1) (W (a1 - (↑a0.length : Int))) 0 with | .inl r1 => r1 | .inr z1_0 => z1_0))
def l_szDocument (a0 : TDocument) (a1 : Int) : Int := (bif (decide ((l_szStringS a0.Parts a1) < 0)) then (-1) else (bif (decide ((l_szIntS a0.Salts (l_szStringS a0.Parts a1)) < 0)) then (-1) else (l_szIntS a0.Salts (l_szStringS a0.Parts a1))))
def l_szPiece (a0 : TPiece) (a1 : Int) : Int := (bif (decide ((l_szIntS a0.Ints a1) < 0)) then (-1) else (l_szIntS a0.Ints a1))
def l_szPieceS_1 (a0 : List TPiece) : Nat → Int → Nat → Sum Int Int
  | 0, _, _ => .inr default
  | n1 + 1, v1_0, v1_1 => (bif (decide ((↑v1_1 : Int) < (↑a0.length : Int))) then (bif (decide ((l_szPiece (nth a0 v1_1) v1_0) < 0)) then (.inl (-1)) else l_szPieceS_1 a0 n1 (l_szPiece (nth a0 v1_1) v1_0) (v1_1 + 1)) else (.inr v1_0))
def l_szPieceS (a0 : List TPiece) (a1 : Int) : Int := (bif (decide ((W (a1 - (↑a0.length : Int))) < 0)) then (-1) else (match l_szPieceS_1 a0 (a0.length + 1) (W (a1 - (↑a0.length : Int))) 0 with | .inl r1 => r1 | .inr z1_0 => z1_0))
def l_szStepS (a0 : List TStep) (a1 : Int) : Int := (bif (decide ((W (a1 - (↑a0.length : Int))) < 0)) then (-1) else (W (a1 - (↑a0.length : Int))))
def l_szStampS (a0 : List TStamp) (a1 : Int) : Int := (bif (decide ((W (a1 - (↑a0.length : Int))) < 0)) then (-1) else (W (a1 - (↑a0.length : Int))))
def l_szRenewal (a0 : TRenewal) (a1 : Int) : Int := (bif (decide ((l_szStepS a0.Path a1) < 0)) then (-1) else (bif (decide ((l_szStampS a0.Stamps (l_szStepS a0.Path a1)) < 0)) then (-1) else (l_szStampS a0.Stamps (l_szStepS a0.Path a1))))
def l_szRenewalS_1 (a0 : List TRenewal) : Nat → Int → Nat → Sum Int Int
  | 0, _, _ => .inr default
  | n1 + 1, v1_0, v1_1 => (bif (decide ((↑v1_1 : Int) < (↑a0.length : Int))) then (bif (decide ((l_szRenewal (nth a0 v1_1) v1_0) < 0)) then (.inl (-1)) else l_szRenewalS_1 a0 n1 (l_szRenewal (nth a0 v1_1) v1_0) (v1_1 + 1)) else (.inr v1_0))
def l_szRenewalS (a0 : List TRenewal) (a1 : Int) : Int := (bif (decide ((W (a1 - (↑a0.length : Int))) < 0)) then (-1) else (match l_szRenewalS_1 a0 (a0.length + 1) (W (a1 - (↑a0.length : Int))) 0 with | .inl r1 => r1 | .inr z1_0 => z1_0))
def l_szStrand (a0 : TStrand) (a1 : Int) : Int := (bif (decide ((l_szPieceS a0.Pieces a1) < 0)) then (-1) else (bif (decide ((l_szRenewalS a0.Chain (l_szPieceS a0.Pieces a1)) < 0)) then (-1) else (l_szRenewalS a0.Chain (l_szPieceS a0.Pieces a1))))
def l_szItem (a0 : TItem) (a1 : Int) : Int := (bif (decide ((l_szDocument a0.Doc a1) < 0)) then (-1) else (bif (decide ((l_szStrand a0.Strand (l_szDocument a0.Doc a1)) < 0)) then (-1) else (l_szStrand a0.Strand (l_szDocument a0.Doc a1))))
def l_szItemS_1 (a0 : List TItem) : Nat → Int → Nat → Sum Int Int
  | 0, _, _ => .inr default
  | n1 + 1, v1_0, v1_1 => (bif (decide ((↑v1_1 : Int) < (↑a0.length : Int))) then (bif (decide ((l_szItem (nth a0 v1_1) v1_0) < 0)) then (.inl (-1)) else l_szItemS_1 a0 n1 (l_szItem (nth a0 v1_1) v1_0) (v1_1 + 1)) else (.inr v1_0))
def l_szItemS (a0 : List TItem) (a1 : Int) : Int := (bif (decide ((W (a1 - (↑a0.length : Int))) < 0)) then (-1) else (match l_szItemS_1 a0 (a0.length + 1) (W (a1 - (↑a0.length : Int))) 0 with | .inl r1 => r1 | .inr z1_0 => z1_0))
def l_szArchive (a0 : TArchive) (a1 : Int) : Int := (bif (decide ((l_szItemS a0.Items a1) < 0)) then (-1) else (l_szItemS a0.Items a1))
def l_szArchiveS_1 (a0 : List TArchive) : Nat → Int → Nat → Sum Int Int
  | 0, _, _ => .inr default
  | n1 + 1, v1_0, v1_1 => (bif (decide ((↑v1_1 : Int) < (↑a0.length : Int))) then (bif (decide ((l_szArchive (nth a0 v1_1) v1_0) < 0)) then (.inl (-1)) else l_szArchiveS_1 a0 n1 (l_szArchive (nth a0 v1_1) v1_0) (v1_1 + 1)) else (.inr v1_0))
def l_szArchiveS (a0 : List TArchive) (a1 : Int) : Int := (bif (decide ((W (a1 - (↑a0.length : Int))) < 0)) then (-1) else (match l_szArchiveS_1 a0 (a0.length + 1) (W (a1 - (↑a0.length : Int))) 0 with | .inl r1 => r1 | .inr z1_0 => z1_0))
def l_szWorld (a0 : TWorld) (a1 : Int) : Int := (bif (decide ((l_szFrame a0.Frame a1) < 0)) then (-1) else (bif (decide ((l_szCertS a0.Certs (l_szFrame a0.Frame a1)) < 0)) then (-1) else (bif (decide ((l_szIntS a0.Ended (l_szCertS a0.Certs (l_szFrame a0.Frame a1))) < 0)) then (-1) else (bif (decide ((l_szArchiveS a0.Archives (l_szIntS a0.Ended (l_szCertS a0.Certs (l_szFrame a0.Frame a1)))) < 0)) then (-1) else (bif (decide ((l_szIntS a0.Seqs (l_szArchiveS a0.Archives (l_szIntS a0.Ended (l_szCertS a0.Certs (l_szFrame a0.Frame a1))))) < 0)) then (-1) else (bif (decide ((l_szIntS a0.Lying (l_szIntS a0.Seqs (l_szArchiveS a0.Archives (l_szIntS a0.Ended (l_szCertS a0.Certs (l_szFrame a0.Frame a1)))))) < 0)) then (-1) else (bif (decide ((l_szIntS a0.Forged (l_szIntS a0.Lying (l_szIntS a0.Seqs (l_szArchiveS a0.Archives (l_szIntS a0.Ended (l_szCertS a0.Certs (l_szFrame a0.Frame a1))))))) < 0)) then (-1) else (l_szIntS a0.Forged (l_szIntS a0.Lying (l_szIntS a0.Seqs (l_szArchiveS a0.Archives (l_szIntS a0.Ended (l_szCertS a0.Certs (l_szFrame a0.Frame a1))))))))))))))
def l_toKey (a0 : TKey) : TKey := a0
def l_toKeyS_1 (a0 : List TKey) : Nat → Nat → List TKey → (List TKey)
  | 0, _, _ => default
  | n1 + 1, v1_0, v1_1 => (bif (decide ((↑v1_0 : Int) < (↑a0.length : Int))) then l_toKeyS_1 a0 n1 (v1_0 + 1) (v1_1.set v1_0 (nth a0 v1_0)) else (v1_1))
def l_toKeyS (a0 : List TKey) : List TKey := (match l_toKeyS_1 a0 (a0.length + 1) 0 (List.replicate a0.length (TKey.mk 0 0 0 0 0)) with | z1_0 => z1_0)
def l_toAuthority (a0 : TAuthority) : TAuthority := a0
def l_toAuthorityS_1 (a0 : List TAuthority) : Nat → Nat → List TAuthority → (List TAuthority)
  | 0, _, _ => default
  | n1 + 1, v1_0, v1_1 => (bif (decide ((↑v1_0 : Int) < (↑a0.length : Int))) then l_toAuthorityS_1 a0 n1 (v1_0 + 1) (v1_1.set v1_0 (nth a0 v1_0)) else (v1_1))
def l_toAuthorityS (a0 : List TAuthority) : List TAuthority := (match l_toAuthorityS_1 a0 (a0.length + 1) 0 (List.replicate a0.length (TAuthority.mk 0 0 0)) with | z1_0 => z1_0)
def l_toMethod (a0 : TMethod) : TMethod := a0
def l_toMethodS_1 (a0 : List TMethod) : Nat → Nat → List TMethod → (List TMethod)
  | 0, _, _ => default
  | n1 + 1, v1_0, v1_1 => (bif (decide ((↑v1_0 : Int) < (↑a0.length : Int))) then l_toMethodS_1 a0 n1 (v1_0 + 1) (v1_1.set v1_0 (nth a0 v1_0)) else (v1_1))
def l_toMethodS (a0 : List TMethod) : List TMethod := (match l_toMethodS_1 a0 (a0.length + 1) 0 (List.replicate a0.length (TMethod.mk 0 0 0 0)) with | z1_0 => z1_0)
def l_toFrame (a0 : TFrame) : TFrame := a0
def l_toCert (a0 : TCert) : TCert := a0
def l_toCertS_1 (a0 : List TCert) : Nat → Nat → List TCert → (List TCert)
  | 0, _, _ => default
  | n1 + 1, v1_0, v1_1 => (bif (decide ((↑v1_0 : Int) < (↑a0.length : Int))) then l_toCertS_1 a0 n1 (v1_0 + 1) (v1_1.set v1_0 (nth a0 v1_0)) else (v1_1))
def l_toCertS (a0 : List TCert) : List TCert := (match l_toCertS_1 a0 (a0.length + 1) 0 (List.replicate a0.length (TCert.mk 0 0 0 0 0 0 0)) with | z1_0 => z1_0)
def l_toIntS_1 (a0 : List Int) : Nat → Nat → List Int → (List Int)
  | 0, _, _ => default
  | n1 + 1, v1_0, v1_1 => (bif (decide ((↑v1_0 : Int) < (↑a0.length : Int))) then l_toIntS_1 a0 n1 (v1_0 + 1) (v1_1.set v1_0 (nth a0 v1_0)) else (v1_1))
def l_toIntS (a0 : List Int) : List Int := (match l_toIntS_1 a0 (a0.length + 1) 0 (List.replicate a0.length 0) with | z1_0 => z1_0)
def l_toStringS_1 (a0 : List ByteArray) : Nat → Nat → List ByteArray → (List ByteArray)
  | 0, _, _ => default
  | n1 + 1, v1_0, v1_1 => (bif (decide ((↑v1_0 : Int) < (↑a0.length : Int))) then l_toStringS_1 a0 n1 (v1_0 + 1) (v1_1.set v1_0 (nth a0 v1_0)) else (v1_1))
def l_toStringS (a0 : List ByteArray) : List ByteArray := (match l_toStringS_1 a0 (a0.length + 1) 0 (List.replicate a0.length (⟨#[]⟩ : ByteArray)) with | z1_0 => z1_0)
def l_toDocument (a0 : TDocument) : TDocument := a0
def l_toSignature (a0 : TSignature) : TSignature := a0
def l_toPiece (a0 : TPiece) : TPiece := a0
def l_toPieceS_1 (a0 : List TPiece) : Nat → Nat → List TPiece → (List TPiece)
  | 0, _, _ => default
  | n1 + 1, v1_0, v1_1 => (bif (decide ((↑v1_0 : Int) < (↑a0.length : Int))) then l_toPieceS_1 a0 n1 (v1_0 + 1) (v1_1.set v1_0 (nth a0 v1_0)) else (v1_1))
def l_toPieceS (a0 : List TPiece) : List TPiece := (match l_toPieceS_1 a0 (a0.length + 1) 0 (List.replicate a0.length (TPiece.mk 0 ([] : List Int) 0)) with | z1_0 => z1_0)
def l_toStep (a0 : TStep) : TStep := a0
def l_toStepS_1 (a0 : List TStep) : Nat → Nat → List TStep → (List TStep)
  | 0, _, _ => default
  | n1 + 1, v1_0, v1_1 => (bif (decide ((↑v1_0 : Int) < (↑a0.length : Int))) then l_toStepS_1 a0 n1 (v1_0 + 1) (v1_1.set v1_0 (nth a0 v1_0)) else (v1_1))
def l_toStepS (a0 : List TStep) : List TStep := (match l_toStepS_1 a0 (a0.length + 1) 0 (List.replicate a0.length (TStep.mk 0 false)) with | z1_0 => z1_0)
def l_toStamp (a0 : TStamp) : TStamp := a0
def l_toStampS_1 (a0 : List TStamp) : Nat → Nat → List TStamp → (List TStamp)
  | 0, _, _ => default
  | n1 + 1, v1_0, v1_1 => (bif (decide ((↑v1_0 : Int) < (↑a0.length : Int))) then l_toStampS_1 a0 n1 (v1_0 + 1) (v1_1.set v1_0 (nth a0 v1_0)) else (v1_1))
def l_toStampS (a0 : List TStamp) : List TStamp := (match l_toStampS_1 a0 (a0.length + 1) 0 (List.replicate a0.length (TStamp.mk 0 0 0 0 0)) with | z1_0 => z1_0)
def l_toRenewal (a0 : TRenewal) : TRenewal := a0
def l_toRenewalS_1 (a0 : List TRenewal) : Nat → Nat → List TRenewal → (List TRenewal)
  | 0, _, _ => default
  | n1 + 1, v1_0, v1_1 => (bif (decide ((↑v1_0 : Int) < (↑a0.length : Int))) then l_toRenewalS_1 a0 n1 (v1_0 + 1) (v1_1.set v1_0 (nth a0 v1_0)) else (v1_1))
def l_toRenewalS (a0 : List TRenewal) : List TRenewal := (match l_toRenewalS_1 a0 (a0.length + 1) 0 (List.replicate a0.length (TRenewal.mk 0 0 0 ([] : List TStep) ([] : List TStamp))) with | z1_0 => z1_0)
def l_toStrand (a0 : TStrand) : TStrand := a0
def l_toItem (a0 : TItem) : TItem := a0
def l_toItemS_1 (a0 : List TItem) : Nat → Nat → List TItem → (List TItem)
  | 0, _, _ => default
  | n1 + 1, v1_0, v1_1 => (bif (decide ((↑v1_0 : Int) < (↑a0.length : Int))) then l_toItemS_1 a0 n1 (v1_0 + 1) (v1_1.set v1_0 (nth a0 v1_0)) else (v1_1))
def l_toItemS (a0 : List TItem) : List TItem := (match l_toItemS_1 a0 (a0.length + 1) 0 (List.replicate a0.length (TItem.mk 0 0 (TDocument.mk 0 ([] : List ByteArray) ([] : List Int)) (TSignature.mk 0 0 0 0 0 0 0 0 0) (TStrand.mk ([] : List TPiece) ([] : List TRenewal)))) with | z1_0 => z1_0)
def l_toArchive (a0 : TArchive) : TArchive := a0
def l_toArchiveS_1 (a0 : List TArchive) : Nat → Nat → List TArchive → (List TArchive)
  | 0, _, _ => default
  | n1 + 1, v1_0, v1_1 => (bif (decide ((↑v1_0 : Int) < (↑a0.length : Int))) then l_toArchiveS_1 a0 n1 (v1_0 + 1) (v1_1.set v1_0 (nth a0 v1_0)) else (v1_1))
def l_toArchiveS (a0 : List TArchive) : List TArchive := (match l_toArchiveS_1 a0 (a0.length + 1) 0 (List.replicate a0.length (TArchive.mk 0 ([] : List TItem))) with | z1_0 => z1_0)
def l_toWorld (a0 : TWorld) : TWorld := a0
def s_FindItem_1 (a0 : TArchive) (a1 : Int) : Nat → Nat → Sum Int Unit
  | 0, _ => .inr ()
  | n1 + 1, v1_0 => (bif (decide ((↑v1_0 : Int) < (↑a0.Items.length : Int))) then (bif ((nth a0.Items v1_0).Id == a1) then (.inl (↑v1_0 : Int)) else s_FindItem_1 a0 a1 n1 (v1_0 + 1)) else (.inr ()))
def s_FindItem (a0 : TArchive) (a1 : Int) : Int := (match s_FindItem_1 a0 a1 (a0.Items.length + 1) 0 with | .inl r1 => r1 | .inr _ => (-1))
def s_FindIn_1 (a0 : TWorld) (a1 : Int) : Nat → Nat → Sum (Int × Int) Unit
  | 0, _ => .inr ()
  | n1 + 1, v1_0 => (bif (decide ((↑v1_0 : Int) < (↑a0.Archives.length : Int))) then (bif (decide ((s_FindItem (nth a0.Archives v1_0) a1) ≥ 0)) then (.inl ((↑v1_0 : Int), (s_FindItem (nth a0.Archives v1_0) a1))) else s_FindIn_1 a0 a1 n1 (v1_0 + 1)) else (.inr ()))
def s_FindIn (a0 : TWorld) (a1 : Int) : Int × Int := (match s_FindIn_1 a0 a1 (a0.Archives.length + 1) 0 with | .inl r1 => r1 | .inr _ => ((-1), (-1)))
def s_l1In (a0 : Int) (a1 : Int) (a2 : Int) : Bool := ((decide (a0 ≥ a1)) && (decide (a0 ≤ a2)))
def s_IsDocument_2 (a0 : TDocument) : Nat → Nat → Sum Bool Unit
  | 0, _ => .inr ()
  | n2 + 1, v2_0 => (bif (decide ((↑v2_0 : Int) < (↑a0.Salts.length : Int))) then (bif (!(s_l1In (nth a0.Salts v2_0) 1 1000000000000)) then (.inl false) else s_IsDocument_2 a0 n2 (v2_0 + 1)) else (.inr ()))
def s_IsDocument_1 (a0 : TDocument) : Nat → Nat → Sum Bool Unit
  | 0, _ => .inr ()
  | n1 + 1, v1_0 => (bif (decide ((↑v1_0 : Int) < (↑a0.Parts.length : Int))) then (bif (decide ((↑(nth a0.Parts v1_0).size : Int) > 40)) then (.inl false) else s_IsDocument_1 a0 n1 (v1_0 + 1)) else (.inr ()))
def s_IsDocument (a0 : TDocument) : Bool := (match s_IsDocument_1 a0 (a0.Parts.length + 1) 0 with | .inl r1 => r1 | .inr _ => (match s_IsDocument_2 a0 (a0.Salts.length + 1) 0 with | .inl r2 => r2 | .inr _ => (((s_l1In a0.Title 0 999) && (s_l1In (↑a0.Parts.length : Int) 1 6)) && ((↑a0.Salts.length : Int) == (↑a0.Parts.length : Int)))))
def s_Mod (a0 : Int) (a1 : Int) : Int := (bif (!(s_l1In a1 1 1000000000000)) then 0 else (Int.tmod (W ((Int.tmod a0 a1) + a1)) a1))
def s_Hash_1 (a0 : List Int) : Nat → Int → Nat → Int
  | 0, _, _ => default
  | n1 + 1, v1_0, v1_1 => (bif (decide ((↑v1_1 : Int) < (↑a0.length : Int))) then s_Hash_1 a0 n1 (Int.tmod (W ((W ((W (v1_0 * 1000003)) + (s_Mod (nth a0 v1_1) 2147483647))) + 13)) 2147483647) (v1_1 + 1) else (v1_0))
def s_Hash (a0 : List Int) : Int := (match s_Hash_1 a0 (a0.length + 1) 11 0 with | z1_0 => z1_0)
def s_DigestOf (a0 : Int) (a1 : List Int) : Int := (s_Hash (([7, a0] : List Int) ++ a1))
def s_PartDigest_1 (a1 : ByteArray) : Nat → List Int → Nat → (List Int)
  | 0, _, _ => default
  | n1 + 1, v1_0, v1_1 => (bif (decide ((↑v1_1 : Int) < (↑a1.size : Int))) then s_PartDigest_1 a1 n1 (v1_0 ++ ([(W (↑(bAt a1 v1_1) : Int))] : List Int)) (v1_1 + 1) else (v1_0))
def s_PartDigest (a0 : Int) (a1 : ByteArray) (a2 : Int) : Int := (match s_PartDigest_1 a1 (a1.size + 1) ([a2] : List Int) 0 with | z1_0 => (s_DigestOf a0 z1_0))
def s_DocDigest_1 (a0 : Int) (a1 : TDocument) : Nat → List Int → Nat → (List Int)
  | 0, _, _ => default
  | n1 + 1, v1_0, v1_1 => (bif (decide ((↑v1_1 : Int) < (↑a1.Parts.length : Int))) then s_DocDigest_1 a0 a1 n1 (v1_0 ++ ([(s_PartDigest a0 (nth a1.Parts v1_1) (nth a1.Salts v1_1))] : List Int)) (v1_1 + 1) else (v1_0))
def s_DocDigest (a0 : Int) (a1 : TDocument) : Int := (bif (!(s_IsDocument a1)) then (-1) else (match s_DocDigest_1 a0 a1 (a1.Parts.length + 1) ([a1.Title] : List Int) 0 with | z1_0 => (s_DigestOf a0 z1_0)))
def s_DocDigests_1 (a0 : TStrand) (a1 : TDocument) : Nat → List Int → Nat → (List Int)
  | 0, _, _ => default
  | n1 + 1, v1_0, v1_1 => (bif (decide ((↑v1_1 : Int) < (↑a0.Chain.length : Int))) then s_DocDigests_1 a0 a1 n1 (v1_0 ++ ([(s_DocDigest (nth a0.Chain v1_1).Method a1)] : List Int)) (v1_1 + 1) else (v1_0))
def s_DocDigests (a0 : TStrand) (a1 : TDocument) : List Int := (match s_DocDigests_1 a0 a1 (a0.Chain.length + 1) ([] : List Int) 0 with | z1_0 => z1_0)
def s_FindAuthority_1 (a0 : List TAuthority) (a1 : Int) : Nat → Nat → Sum Int Unit
  | 0, _ => .inr ()
  | n1 + 1, v1_0 => (bif (decide ((↑v1_0 : Int) < (↑a0.length : Int))) then (bif ((nth a0 v1_0).Id == a1) then (.inl (↑v1_0 : Int)) else s_FindAuthority_1 a0 a1 n1 (v1_0 + 1)) else (.inr ()))
def s_FindAuthority (a0 : List TAuthority) (a1 : Int) : Int := (match s_FindAuthority_1 a0 a1 (a0.length + 1) 0 with | .inl r1 => r1 | .inr _ => (-1))
def s_l4Time (a0 : Int) : Bool := (s_l1In a0 0 10000)
def s_Max (a0 : Int) (a1 : Int) : Int := (bif (decide (a1 > a0)) then a1 else a0)
def s_Min (a0 : Int) (a1 : Int) : Int := (bif (decide (a1 < a0)) then a1 else a0)
def s_MakeSpan (a0 : Int) (a1 : Int) : TSpan × Bool := (bif (decide ((s_Max 0 a0) > (s_Min 10000 a1))) then ((TSpan.mk 0 0), false) else ((TSpan.mk (s_Max 0 a0) (s_Min 10000 a1)), true))
def s_StampSpan (a0 : List TAuthority) (a1 : TStamp) : TSpan × Bool := (bif (((decide ((s_FindAuthority a0 a1.Authority) < 0)) || (decide ((nth a0 (s_FindAuthority a0 a1.Authority).toNat).Error < 0))) || (!(s_l4Time a1.Time))) then ((TSpan.mk 0 0), false) else ((s_MakeSpan (W (a1.Time - (nth a0 (s_FindAuthority a0 a1.Authority).toNat).Error)) (W (a1.Time + (nth a0 (s_FindAuthority a0 a1.Authority).toNat).Error))).1, (s_MakeSpan (W (a1.Time - (nth a0 (s_FindAuthority a0 a1.Authority).toNat).Error)) (W (a1.Time + (nth a0 (s_FindAuthority a0 a1.Authority).toNat).Error))).2))
def s_IsSpan (a0 : TSpan) : Bool := (((s_l4Time a0.From) && (s_l4Time a0.To)) && (decide (a0.From ≤ a0.To)))
def s_CountAt_1 (a0 : List TSpan) (a1 : Int) : Nat → Int → Nat → Int
  | 0, _, _ => default
  | n1 + 1, v1_0, v1_1 => (bif (decide ((↑v1_1 : Int) < (↑a0.length : Int))) then (bif (((s_IsSpan (nth a0 v1_1)) && (decide ((nth a0 v1_1).From ≤ a1))) && (decide (a1 ≤ (nth a0 v1_1).To))) then s_CountAt_1 a0 a1 n1 (W (v1_0 + 1)) (v1_1 + 1) else s_CountAt_1 a0 a1 n1 v1_0 (v1_1 + 1)) else (v1_0))
def s_CountAt (a0 : List TSpan) (a1 : Int) : Int := (match s_CountAt_1 a0 a1 (a0.length + 1) 0 0 with | z1_0 => z1_0)
def s_IsSupported (a0 : List TSpan) (a1 : Int) (a2 : Int) : Bool := ((s_l1In a2 0 (W ((↑a0.length : Int) - 1))) && (decide ((s_CountAt a0 a1) ≥ (W ((↑a0.length : Int) - a2)))))
def s_AgreedSpan_1 (a0 : List TSpan) (a1 : Int) : Nat → Int → Int → Nat → Int × Int
  | 0, _, _, _ => (default, default)
  | n1 + 1, v1_0, v1_1, v1_2 => (bif (decide ((↑v1_2 : Int) < (↑a0.length : Int))) then (bif (((s_IsSpan (nth a0 v1_2)) && (s_IsSupported a0 (nth a0 v1_2).From a1)) && ((decide (v1_0 < 0)) || (decide ((nth a0 v1_2).From < v1_0)))) then (bif ((s_IsSpan (nth a0 v1_2)) && (s_IsSupported a0 (nth a0 v1_2).To a1)) then s_AgreedSpan_1 a0 a1 n1 (nth a0 v1_2).From (s_Max v1_1 (nth a0 v1_2).To) (v1_2 + 1) else s_AgreedSpan_1 a0 a1 n1 (nth a0 v1_2).From v1_1 (v1_2 + 1)) else (bif ((s_IsSpan (nth a0 v1_2)) && (s_IsSupported a0 (nth a0 v1_2).To a1)) then s_AgreedSpan_1 a0 a1 n1 v1_0 (s_Max v1_1 (nth a0 v1_2).To) (v1_2 + 1) else s_AgreedSpan_1 a0 a1 n1 v1_0 v1_1 (v1_2 + 1))) else ((v1_0, v1_1)))
def s_AgreedSpan (a0 : List TSpan) (a1 : Int) : TSpan × Bool := (bif (!(s_l1In a1 0 (W ((↑a0.length : Int) - 1)))) then ((TSpan.mk 0 0), false) else (match s_AgreedSpan_1 a0 a1 (a0.length + 1) (-1) (-1) 0 with | (z1_0, z1_1) => (bif (decide (z1_0 < 0)) then ((TSpan.mk 0 0), false) else ((TSpan.mk z1_0 z1_1), true))))
def s_RenewalSpan_1 (a0 : List TAuthority) (a1 : TRenewal) : Nat → List TSpan → Nat → Sum (TSpan × Bool) (List TSpan)
  | 0, _, _ => .inr default
  | n1 + 1, v1_0, v1_1 => (bif (decide ((↑v1_1 : Int) < (↑a1.Stamps.length : Int))) then (bif (!(s_StampSpan a0 (nth a1.Stamps v1_1)).2) then (.inl ((TSpan.mk 0 0), false)) else s_RenewalSpan_1 a0 a1 n1 (v1_0 ++ ([(s_StampSpan a0 (nth a1.Stamps v1_1)).1] : List TSpan)) (v1_1 + 1)) else (.inr v1_0))
def s_RenewalSpan (a0 : List TAuthority) (a1 : TRenewal) (a2 : Int) : TSpan × Bool := (match s_RenewalSpan_1 a0 a1 (a1.Stamps.length + 1) ([] : List TSpan) 0 with | .inl r1 => r1 | .inr z1_0 => ((s_AgreedSpan z1_0 a2).1, (s_AgreedSpan z1_0 a2).2))
def s_FindMethod_1 (a0 : List TMethod) (a1 : Int) : Nat → Nat → Sum Int Unit
  | 0, _ => .inr ()
  | n1 + 1, v1_0 => (bif (decide ((↑v1_0 : Int) < (↑a0.length : Int))) then (bif ((nth a0 v1_0).Id == a1) then (.inl (↑v1_0 : Int)) else s_FindMethod_1 a0 a1 n1 (v1_0 + 1)) else (.inr ()))
def s_FindMethod (a0 : List TMethod) (a1 : Int) : Int := (match s_FindMethod_1 a0 a1 (a0.length + 1) 0 with | .inl r1 => r1 | .inr _ => (-1))
def s_BreakOf (a0 : List TMethod) (a1 : Int) : Int := (bif (decide ((s_FindMethod a0 a1) < 0)) then 0 else (nth a0 (s_FindMethod a0 a1).toNat).Broken)
def s_StampKey (a0 : List TAuthority) (a1 : TStamp) : Int := (bif (decide ((s_FindAuthority a0 a1.Authority) < 0)) then 0 else (nth a0 (s_FindAuthority a0 a1.Authority).toNat).Key)
def s_FindKey_1 (a0 : List TKey) (a1 : Int) : Nat → Nat → Sum Int Unit
  | 0, _ => .inr ()
  | n1 + 1, v1_0 => (bif (decide ((↑v1_0 : Int) < (↑a0.length : Int))) then (bif ((nth a0 v1_0).Number == a1) then (.inl (↑v1_0 : Int)) else s_FindKey_1 a0 a1 n1 (v1_0 + 1)) else (.inr ()))
def s_FindKey (a0 : List TKey) (a1 : Int) : Int := (match s_FindKey_1 a0 a1 (a0.length + 1) 0 with | .inl r1 => r1 | .inr _ => (-1))
def s_RenewalBreak_1 (a0 : List TKey) (a1 : List TAuthority) (a2 : List TMethod) (a3 : TRenewal) : Nat → Int → Nat → Sum Int Int
  | 0, _, _ => .inr default
  | n1 + 1, v1_0, v1_1 => (bif (decide ((↑v1_1 : Int) < (↑a3.Stamps.length : Int))) then (bif (decide ((s_FindKey a0 (s_StampKey a1 (nth a3.Stamps v1_1))) < 0)) then (.inl 0) else s_RenewalBreak_1 a0 a1 a2 a3 n1 (s_Min v1_0 (s_BreakOf a2 (nth a0 (s_FindKey a0 (s_StampKey a1 (nth a3.Stamps v1_1))).toNat).Method)) (v1_1 + 1)) else (.inr v1_0))
def s_RenewalBreak (a0 : List TKey) (a1 : List TAuthority) (a2 : List TMethod) (a3 : TRenewal) : Int := (match s_RenewalBreak_1 a0 a1 a2 a3 (a3.Stamps.length + 1) (s_BreakOf a2 a3.Method) 0 with | .inl r1 => r1 | .inr z1_0 => z1_0)
def s_LinkHolds (a0 : TFrame) (a1 : TStrand) (a2 : Int) : Bool := (bif (!(s_l1In a2 0 (W ((↑a1.Chain.length : Int) - 1)))) then false else (bif (a2 == (W ((↑a1.Chain.length : Int) - 1))) then (decide (a0.Now < (s_RenewalBreak a0.Keys a0.Authorities a0.Methods (nth a1.Chain a2.toNat)))) else ((s_RenewalSpan a0.Authorities (nth a1.Chain (W (a2 + 1)).toNat) a0.Liars).2 && (decide ((s_RenewalSpan a0.Authorities (nth a1.Chain (W (a2 + 1)).toNat) a0.Liars).1.To < (s_RenewalBreak a0.Keys a0.Authorities a0.Methods (nth a1.Chain a2.toNat)))))))
def s_StampInts (a0 : TStamp) : List Int := ([103, a0.Authority, a0.Seq, a0.Time, a0.Digest] : List Int)
def s_RenewalDigest_2 (a1 : TRenewal) : Nat → List Int → Nat → (List Int)
  | 0, _, _ => default
  | n2 + 1, v2_0, v2_1 => (bif (decide ((↑v2_1 : Int) < (↑a1.Stamps.length : Int))) then s_RenewalDigest_2 a1 n2 ((v2_0 ++ (s_StampInts (nth a1.Stamps v2_1))) ++ ([(nth a1.Stamps v2_1).Mark] : List Int)) (v2_1 + 1) else (v2_0))
def s_RenewalDigest_1 (a1 : TRenewal) : Nat → List Int → Nat → (List Int)
  | 0, _, _ => default
  | n1 + 1, v1_0, v1_1 => (bif (decide ((↑v1_1 : Int) < (↑a1.Path.length : Int))) then (bif (nth a1.Path v1_1).Left then s_RenewalDigest_1 a1 n1 ((v1_0 ++ ([(nth a1.Path v1_1).Digest] : List Int)) ++ ([1] : List Int)) (v1_1 + 1) else s_RenewalDigest_1 a1 n1 ((v1_0 ++ ([(nth a1.Path v1_1).Digest] : List Int)) ++ ([0] : List Int)) (v1_1 + 1)) else (v1_0))
def s_RenewalDigest (a0 : Int) (a1 : TRenewal) : Int := (match s_RenewalDigest_1 a1 (a1.Path.length + 1) ([4, a1.Count, a1.Method, a1.Root] : List Int) 0 with | z1_0 => (match s_RenewalDigest_2 a1 (a1.Stamps.length + 1) (z1_0 ++ ([(↑a1.Stamps.length : Int)] : List Int)) 0 with | z2_0 => (s_DigestOf a0 z2_0)))
def s_PiecesDigest_1 (a0 : Int) (a1 : List TPiece) : Nat → List Int → Nat → (List Int)
  | 0, _, _ => default
  | n1 + 1, v1_0, v1_1 => (bif (decide ((↑v1_1 : Int) < (↑a1.length : Int))) then s_PiecesDigest_1 a0 a1 n1 (v1_0 ++ ([(s_DigestOf a0 (([(nth a1 v1_1).Key, (nth a1 v1_1).Mark] : List Int) ++ (nth a1 v1_1).Ints))] : List Int)) (v1_1 + 1) else (v1_0))
def s_PiecesDigest (a0 : Int) (a1 : List TPiece) : Int := (match s_PiecesDigest_1 a0 a1 (a1.length + 1) ([2] : List Int) 0 with | z1_0 => (s_DigestOf a0 z1_0))
def s_LeafOf (a0 : Int) (a1 : Int) (a2 : List TPiece) (a3 : Int) : Int := (s_DigestOf a0 ([3, a1, (s_PiecesDigest a0 a2), a3] : List Int))
def s_LeafAt (a0 : TStrand) (a1 : List Int) (a2 : Int) : Int := (bif (((!(s_l1In a2 0 (W ((↑a0.Chain.length : Int) - 1)))) || ((↑a1.length : Int) != (↑a0.Chain.length : Int))) || (!(s_l1In (nth a0.Chain a2.toNat).Count 0 (↑a0.Pieces.length : Int)))) then (-1) else (bif (decide (a2 > 0)) then (s_LeafOf (nth a0.Chain a2.toNat).Method (nth a1 a2.toNat) (a0.Pieces.take (nth a0.Chain a2.toNat).Count.toNat) (s_RenewalDigest (nth a0.Chain a2.toNat).Method (nth a0.Chain (W (a2 - 1)).toNat))) else (s_LeafOf (nth a0.Chain a2.toNat).Method (nth a1 a2.toNat) (a0.Pieces.take (nth a0.Chain a2.toNat).Count.toNat) 0)))
def s_PairDigest (a0 : Int) (a1 : Int) (a2 : Int) : Int := (s_DigestOf a0 ([1, a1, a2] : List Int))
def s_FollowPath_1 (a0 : Int) (a2 : List TStep) : Nat → Int → Nat → Int
  | 0, _, _ => default
  | n1 + 1, v1_0, v1_1 => (bif (decide ((↑v1_1 : Int) < (↑a2.length : Int))) then (bif (nth a2 v1_1).Left then s_FollowPath_1 a0 a2 n1 (s_PairDigest a0 (nth a2 v1_1).Digest v1_0) (v1_1 + 1) else s_FollowPath_1 a0 a2 n1 (s_PairDigest a0 v1_0 (nth a2 v1_1).Digest) (v1_1 + 1)) else (v1_0))
def s_FollowPath (a0 : Int) (a1 : Int) (a2 : List TStep) : Int := (match s_FollowPath_1 a0 a2 (a2.length + 1) a1 0 with | z1_0 => z1_0)
def s_KeyedHash (a0 : Int) (a1 : List Int) : Int := (s_Hash ((([a0] : List Int) ++ a1) ++ ([a0] : List Int)))
def s_MarkWith (a0 : TKey) (a1 : List Int) : Int := (s_KeyedHash a0.Secret (([a0.Method] : List Int) ++ a1))
def s_MakeStamp (a0 : List TKey) (a1 : List TAuthority) (a2 : TStamp) : TStamp × Bool := (bif (((decide ((s_FindAuthority a1 a2.Authority) < 0)) || (decide (a2.Seq < 0))) || (!(s_l4Time a2.Time))) then ((TStamp.mk 0 0 0 0 0), false) else (bif (decide ((s_FindKey a0 (nth a1 (s_FindAuthority a1 a2.Authority).toNat).Key) < 0)) then ((TStamp.mk 0 0 0 0 0), false) else ((TStamp.mk a2.Authority a2.Seq a2.Time a2.Digest (s_MarkWith (nth a0 (s_FindKey a0 (nth a1 (s_FindAuthority a1 a2.Authority).toNat).Key).toNat) (s_StampInts a2))), true)))
def s_CheckStamp (a0 : List TKey) (a1 : List TAuthority) (a2 : TStamp) : Bool := ((s_MakeStamp a0 a1 a2).2 && (((s_MakeStamp a0 a1 a2).1.Authority == a2.Authority) && (((s_MakeStamp a0 a1 a2).1.Seq == a2.Seq) && (((s_MakeStamp a0 a1 a2).1.Time == a2.Time) && (((s_MakeStamp a0 a1 a2).1.Digest == a2.Digest) && ((s_MakeStamp a0 a1 a2).1.Mark == a2.Mark))))))
def s_CheckRenewal_1 (a0 : List TKey) (a1 : List TAuthority) (a2 : TRenewal) : Nat → Nat → Sum Bool Unit
  | 0, _ => .inr ()
  | n1 + 1, v1_0 => (bif (decide ((↑v1_0 : Int) < (↑a2.Stamps.length : Int))) then (bif ((((nth a2.Stamps v1_0).Digest != a2.Root) || ((decide ((↑v1_0 : Int) > 0)) && (decide ((nth a2.Stamps (v1_0 - 1)).Authority ≥ (nth a2.Stamps v1_0).Authority)))) || (!(s_CheckStamp a0 a1 (nth a2.Stamps v1_0)))) then (.inl false) else s_CheckRenewal_1 a0 a1 a2 n1 (v1_0 + 1)) else (.inr ()))
def s_CheckRenewal (a0 : List TKey) (a1 : List TAuthority) (a2 : TRenewal) (a3 : Int) : Bool := (bif (((decide ((↑a2.Path.length : Int) > 4)) || ((s_FollowPath a2.Method a3 a2.Path) != a2.Root)) || (!(s_l1In (↑a2.Stamps.length : Int) 1 6))) then false else (match s_CheckRenewal_1 a0 a1 a2 (a2.Stamps.length + 1) 0 with | .inl r1 => r1 | .inr _ => true))
def s_l21Kept (a0 : TFrame) (a1 : TStrand) (a2 : List Int) (a3 : Int) : Bool := (((s_RenewalSpan a0.Authorities (nth a1.Chain a3.toNat) a0.Liars).2 && (s_LinkHolds a0 a1 a3)) && (s_CheckRenewal a0.Keys a0.Authorities (nth a1.Chain a3.toNat) (s_LeafAt a1 a2 a3)))
def s_FirstKept_1 (a0 : TFrame) (a1 : TStrand) (a2 : List Int) : Nat → Nat → Nat
  | 0, _ => default
  | n1 + 1, v1_0 => (bif ((decide ((↑v1_0 : Int) > 0)) && (s_l21Kept a0 a1 a2 (W ((↑v1_0 : Int) - 1)))) then s_FirstKept_1 a0 a1 a2 n1 (v1_0 - 1) else (v1_0))
def s_FirstKept (a0 : TFrame) (a1 : TStrand) (a2 : List Int) : Int := (match s_FirstKept_1 a0 a1 a2 (a1.Chain.length + 1) a1.Chain.length with | z1_0 => (↑z1_0 : Int))
def s_IsUnbroken (a0 : TFrame) (a1 : TStrand) (a2 : List Int) : Bool := ((decide ((↑a1.Chain.length : Int) > 0)) && ((s_FirstKept a0 a1 a2) == 0))
def s_IsUnbrokenItem (a0 : TWorld) (a1 : Int) : Bool := (bif (decide ((s_FindIn a0 a1).1 < 0)) then false else (s_IsUnbroken a0.Frame (nth (nth a0.Archives (s_FindIn a0 a1).1.toNat).Items (s_FindIn a0 a1).2.toNat).Strand (s_DocDigests (nth (nth a0.Archives (s_FindIn a0 a1).1.toNat).Items (s_FindIn a0 a1).2.toNat).Strand (nth (nth a0.Archives (s_FindIn a0 a1).1.toNat).Items (s_FindIn a0 a1).2.toNat).Doc)))
def i_FindItem_1 (a0 : TArchive) (a1 : Int) : Nat → Nat → Sum Int Unit
  | 0, _ => .inr ()
  | n1 + 1, v1_0 => (bif (decide ((↑v1_0 : Int) < (↑a0.Items.length : Int))) then (bif ((nth a0.Items v1_0).Id == a1) then (.inl (↑v1_0 : Int)) else i_FindItem_1 a0 a1 n1 (v1_0 + 1)) else (.inr ()))
def i_FindItem (a0 : TArchive) (a1 : Int) : Int := (match i_FindItem_1 a0 a1 (a0.Items.length + 1) 0 with | .inl r1 => r1 | .inr _ => (-1))
def i_FindIn_1 (a0 : TWorld) (a1 : Int) : Nat → Nat → Sum (Int × Int) Unit
  | 0, _ => .inr ()
  | n1 + 1, v1_0 => (bif (decide ((↑v1_0 : Int) < (↑a0.Archives.length : Int))) then (bif (decide ((i_FindItem (nth a0.Archives v1_0) a1) ≥ 0)) then (.inl ((↑v1_0 : Int), (i_FindItem (nth a0.Archives v1_0) a1))) else i_FindIn_1 a0 a1 n1 (v1_0 + 1)) else (.inr ()))
def i_FindIn (a0 : TWorld) (a1 : Int) : Int × Int := (match i_FindIn_1 a0 a1 (a0.Archives.length + 1) 0 with | .inl r1 => r1 | .inr _ => ((-1), (-1)))
def i_InRange (a0 : Int) (a1 : Int) (a2 : Int) : Bool := ((decide (a1 ≤ a0)) && (decide (a0 ≤ a2)))
def i_IsDocument_1 (a0 : TDocument) : Nat → Nat → Sum Bool Unit
  | 0, _ => .inr ()
  | n1 + 1, v1_0 => (bif (decide ((↑v1_0 : Int) < (↑a0.Parts.length : Int))) then (bif ((decide ((↑(nth a0.Parts v1_0).size : Int) > 40)) || (!(i_InRange (nth a0.Salts v1_0) 1 1000000000000))) then (.inl false) else i_IsDocument_1 a0 n1 (v1_0 + 1)) else (.inr ()))
def i_IsDocument (a0 : TDocument) : Bool := (bif (((!(i_InRange a0.Title 0 999)) || (!(i_InRange (↑a0.Parts.length : Int) 1 6))) || ((↑a0.Salts.length : Int) != (↑a0.Parts.length : Int))) then false else (match i_IsDocument_1 a0 (a0.Parts.length + 1) 0 with | .inl r1 => r1 | .inr _ => true))
def i_bytesOf_1 (a0 : List UInt8) : Nat → List Int → Nat → (List Int)
  | 0, _, _ => default
  | n1 + 1, v1_0, v1_1 => (bif (decide ((↑v1_1 : Int) < (↑a0.length : Int))) then i_bytesOf_1 a0 n1 (v1_0 ++ ([(W (↑(nth a0 v1_1).toNat : Int))] : List Int)) (v1_1 + 1) else (v1_0))
def i_bytesOf (a0 : List UInt8) : List Int := (match i_bytesOf_1 a0 (a0.length + 1) ([] : List Int) 0 with | z1_0 => z1_0)
def i_Mod (a0 : Int) (a1 : Int) : Int := (bif (!(i_InRange a1 1 1000000000000)) then 0 else (Int.tmod (W ((Int.tmod a0 a1) + a1)) a1))
def i_Hash_1 (a0 : List Int) : Nat → Int → Nat → Int
  | 0, _, _ => default
  | n1 + 1, v1_0, v1_1 => (bif (decide ((↑v1_1 : Int) < (↑a0.length : Int))) then i_Hash_1 a0 n1 (Int.tmod (W ((W ((W (v1_0 * 1000003)) + (i_Mod (nth a0 v1_1) 2147483647))) + 13)) 2147483647) (v1_1 + 1) else (v1_0))
def i_Hash (a0 : List Int) : Int := (match i_Hash_1 a0 (a0.length + 1) 11 0 with | z1_0 => z1_0)
def i_DigestOf (a0 : Int) (a1 : List Int) : Int := (i_Hash (([7, a0] : List Int) ++ a1))
def i_PartDigest (a0 : Int) (a1 : ByteArray) (a2 : Int) : Int := (i_DigestOf a0 (([a2] : List Int) ++ (i_bytesOf a1.data.toList)))
def i_DocDigest_1 (a0 : Int) (a1 : TDocument) : Nat → List Int → Nat → (List Int)
  | 0, _, _ => default
  | n1 + 1, v1_0, v1_1 => (bif (decide ((↑v1_1 : Int) < (↑a1.Parts.length : Int))) then i_DocDigest_1 a0 a1 n1 (v1_0 ++ ([(i_PartDigest a0 (nth a1.Parts v1_1) (nth a1.Salts v1_1))] : List Int)) (v1_1 + 1) else (v1_0))
def i_DocDigest (a0 : Int) (a1 : TDocument) : Int := (bif (!(i_IsDocument a1)) then (-1) else (match i_DocDigest_1 a0 a1 (a1.Parts.length + 1) ([a1.Title] : List Int) 0 with | z1_0 => (i_DigestOf a0 z1_0)))
def i_DocDigests_1 (a0 : TStrand) (a1 : TDocument) : Nat → List Int → Nat → (List Int)
  | 0, _, _ => default
  | n1 + 1, v1_0, v1_1 => (bif (decide ((↑v1_1 : Int) < (↑a0.Chain.length : Int))) then i_DocDigests_1 a0 a1 n1 (v1_0 ++ ([(i_DocDigest (nth a0.Chain v1_1).Method a1)] : List Int)) (v1_1 + 1) else (v1_0))
def i_DocDigests (a0 : TStrand) (a1 : TDocument) : List Int := (match i_DocDigests_1 a0 a1 (a0.Chain.length + 1) ([] : List Int) 0 with | z1_0 => z1_0)
def i_FindAuthority_1 (a0 : List TAuthority) (a1 : Int) : Nat → Nat → Sum Int Unit
  | 0, _ => .inr ()
  | n1 + 1, v1_0 => (bif (decide ((↑v1_0 : Int) < (↑a0.length : Int))) then (bif ((nth a0 v1_0).Id == a1) then (.inl (↑v1_0 : Int)) else i_FindAuthority_1 a0 a1 n1 (v1_0 + 1)) else (.inr ()))
def i_FindAuthority (a0 : List TAuthority) (a1 : Int) : Int := (match i_FindAuthority_1 a0 a1 (a0.length + 1) 0 with | .inl r1 => r1 | .inr _ => (-1))
def i_isTime (a0 : Int) : Bool := (i_InRange a0 0 10000)
def i_IsSpan (a0 : TSpan) : Bool := (((i_isTime a0.From) && (i_isTime a0.To)) && (decide (a0.From ≤ a0.To)))
def i_MakeSpan (a0 : Int) (a1 : Int) : TSpan × Bool := (bif ((decide (a0 > a1)) || (!(i_IsSpan (TSpan.mk (if 0 > a0 then 0 else a0) (if 10000 < a1 then 10000 else a1))))) then ((TSpan.mk 0 0), false) else ((TSpan.mk (if 0 > a0 then 0 else a0) (if 10000 < a1 then 10000 else a1)), true))
def i_StampSpan (a0 : List TAuthority) (a1 : TStamp) : TSpan × Bool := (bif (((decide ((i_FindAuthority a0 a1.Authority) < 0)) || (decide ((nth a0 (i_FindAuthority a0 a1.Authority).toNat).Error < 0))) || (!(i_isTime a1.Time))) then ((TSpan.mk 0 0), false) else ((i_MakeSpan (W (a1.Time - (nth a0 (i_FindAuthority a0 a1.Authority).toNat).Error)) (W (a1.Time + (nth a0 (i_FindAuthority a0 a1.Authority).toNat).Error))).1, (i_MakeSpan (W (a1.Time - (nth a0 (i_FindAuthority a0 a1.Authority).toNat).Error)) (W (a1.Time + (nth a0 (i_FindAuthority a0 a1.Authority).toNat).Error))).2))
def i_CountAt_1 (a0 : List TSpan) (a1 : Int) : Nat → Int → Nat → Int
  | 0, _, _ => default
  | n1 + 1, v1_0, v1_1 => (bif (decide ((↑v1_1 : Int) < (↑a0.length : Int))) then (bif ((i_IsSpan (nth a0 v1_1)) && (i_InRange a1 (nth a0 v1_1).From (nth a0 v1_1).To)) then i_CountAt_1 a0 a1 n1 (W (v1_0 + 1)) (v1_1 + 1) else i_CountAt_1 a0 a1 n1 v1_0 (v1_1 + 1)) else (v1_0))
def i_CountAt (a0 : List TSpan) (a1 : Int) : Int := (match i_CountAt_1 a0 a1 (a0.length + 1) 0 0 with | z1_0 => z1_0)
def i_IsSupported (a0 : List TSpan) (a1 : Int) (a2 : Int) : Bool := ((i_InRange a2 0 (W ((↑a0.length : Int) - 1))) && (decide ((i_CountAt a0 a1) ≥ (W ((↑a0.length : Int) - a2)))))
def i_AgreedSpan_1 (a0 : List TSpan) (a1 : Int) : Nat → Bool → Nat → Int → Int → Bool × Int × Int
  | 0, _, _, _, _ => (default, default, default)
  | n1 + 1, v1_0, v1_1, v1_2, v1_3 => (bif (decide ((↑v1_1 : Int) ≤ 10000)) then (bif (i_IsSupported a0 (↑v1_1 : Int) a1) then (bif (!v1_0) then i_AgreedSpan_1 a0 a1 n1 true (v1_1 + 1) (↑v1_1 : Int) (↑v1_1 : Int) else i_AgreedSpan_1 a0 a1 n1 true (v1_1 + 1) v1_2 (↑v1_1 : Int)) else i_AgreedSpan_1 a0 a1 n1 v1_0 (v1_1 + 1) v1_2 v1_3) else ((v1_0, v1_2, v1_3)))
def i_AgreedSpan (a0 : List TSpan) (a1 : Int) : TSpan × Bool := (match i_AgreedSpan_1 a0 a1 10002 false 0 0 0 with | (z1_0, z1_1, z1_2) => ((TSpan.mk z1_1 z1_2), z1_0))
def i_agreedOn_1 (a0 : List TAuthority) (a1 : List TStamp) : Nat → List TSpan → Nat → Sum (TSpan × Bool) (List TSpan)
  | 0, _, _ => .inr default
  | n1 + 1, v1_0, v1_1 => (bif (decide ((↑v1_1 : Int) < (↑a1.length : Int))) then (bif (!(i_StampSpan a0 (nth a1 v1_1)).2) then (.inl ((TSpan.mk 0 0), false)) else i_agreedOn_1 a0 a1 n1 (v1_0 ++ ([(i_StampSpan a0 (nth a1 v1_1)).1] : List TSpan)) (v1_1 + 1)) else (.inr v1_0))
def i_agreedOn (a0 : List TAuthority) (a1 : List TStamp) (a2 : Int) : TSpan × Bool := (match i_agreedOn_1 a0 a1 (a1.length + 1) ([] : List TSpan) 0 with | .inl r1 => r1 | .inr z1_0 => ((i_AgreedSpan z1_0 a2).1, (i_AgreedSpan z1_0 a2).2))
def i_RenewalSpan (a0 : List TAuthority) (a1 : TRenewal) (a2 : Int) : TSpan × Bool := ((i_agreedOn a0 a1.Stamps a2).1, (i_agreedOn a0 a1.Stamps a2).2)
def i_Frame_spanOf (a0 : TFrame) (a1 : TRenewal) : TSpan × Bool := ((i_RenewalSpan a0.Authorities a1 a0.Liars).1, (i_RenewalSpan a0.Authorities a1 a0.Liars).2)
def i_StampInts (a0 : TStamp) : List Int := ([103, a0.Authority, a0.Seq, a0.Time, a0.Digest] : List Int)
def i_RenewalDigest_2 (a1 : TRenewal) : Nat → List Int → Nat → (List Int)
  | 0, _, _ => default
  | n2 + 1, v2_0, v2_1 => (bif (decide ((↑v2_1 : Int) < (↑a1.Stamps.length : Int))) then i_RenewalDigest_2 a1 n2 ((v2_0 ++ (i_StampInts (nth a1.Stamps v2_1))) ++ ([(nth a1.Stamps v2_1).Mark] : List Int)) (v2_1 + 1) else (v2_0))
def i_RenewalDigest_1 (a1 : TRenewal) : Nat → List Int → Nat → (List Int)
  | 0, _, _ => default
  | n1 + 1, v1_0, v1_1 => (bif (decide ((↑v1_1 : Int) < (↑a1.Path.length : Int))) then (bif (nth a1.Path v1_1).Left then i_RenewalDigest_1 a1 n1 (v1_0 ++ ([(nth a1.Path v1_1).Digest, 1] : List Int)) (v1_1 + 1) else i_RenewalDigest_1 a1 n1 (v1_0 ++ ([(nth a1.Path v1_1).Digest, 0] : List Int)) (v1_1 + 1)) else (v1_0))
def i_RenewalDigest (a0 : Int) (a1 : TRenewal) : Int := (match i_RenewalDigest_1 a1 (a1.Path.length + 1) ([4, a1.Count, a1.Method, a1.Root] : List Int) 0 with | z1_0 => (match i_RenewalDigest_2 a1 (a1.Stamps.length + 1) (z1_0 ++ ([(↑a1.Stamps.length : Int)] : List Int)) 0 with | z2_0 => (i_DigestOf a0 z2_0)))
def i_PiecesDigest_1 (a0 : Int) (a1 : List TPiece) : Nat → List Int → Nat → (List Int)
  | 0, _, _ => default
  | n1 + 1, v1_0, v1_1 => (bif (decide ((↑v1_1 : Int) < (↑a1.length : Int))) then i_PiecesDigest_1 a0 a1 n1 (v1_0 ++ ([(i_DigestOf a0 (([(nth a1 v1_1).Key, (nth a1 v1_1).Mark] : List Int) ++ (nth a1 v1_1).Ints))] : List Int)) (v1_1 + 1) else (v1_0))
def i_PiecesDigest (a0 : Int) (a1 : List TPiece) : Int := (match i_PiecesDigest_1 a0 a1 (a1.length + 1) ([2] : List Int) 0 with | z1_0 => (i_DigestOf a0 z1_0))
def i_LeafOf (a0 : Int) (a1 : Int) (a2 : List TPiece) (a3 : Int) : Int := (i_DigestOf a0 ([3, a1, (i_PiecesDigest a0 a2), a3] : List Int))
def i_LeafAt (a0 : TStrand) (a1 : List Int) (a2 : Int) : Int := (bif (((!(i_InRange a2 0 (W ((↑a0.Chain.length : Int) - 1)))) || ((↑a1.length : Int) != (↑a0.Chain.length : Int))) || (!(i_InRange (nth a0.Chain a2.toNat).Count 0 (↑a0.Pieces.length : Int)))) then (-1) else (bif (decide (a2 > 0)) then (i_LeafOf (nth a0.Chain a2.toNat).Method (nth a1 a2.toNat) (a0.Pieces.take (nth a0.Chain a2.toNat).Count.toNat) (i_RenewalDigest (nth a0.Chain a2.toNat).Method (nth a0.Chain (W (a2 - 1)).toNat))) else (i_LeafOf (nth a0.Chain a2.toNat).Method (nth a1 a2.toNat) (a0.Pieces.take (nth a0.Chain a2.toNat).Count.toNat) 0)))
def i_PairDigest (a0 : Int) (a1 : Int) (a2 : Int) : Int := (i_DigestOf a0 ([1, a1, a2] : List Int))
def i_FollowPath_1 (a0 : Int) (a2 : List TStep) : Nat → Int → Nat → Int
  | 0, _, _ => default
  | n1 + 1, v1_0, v1_1 => (bif (decide ((↑v1_1 : Int) < (↑a2.length : Int))) then (bif (nth a2 v1_1).Left then i_FollowPath_1 a0 a2 n1 (i_PairDigest a0 (nth a2 v1_1).Digest v1_0) (v1_1 + 1) else i_FollowPath_1 a0 a2 n1 (i_PairDigest a0 v1_0 (nth a2 v1_1).Digest) (v1_1 + 1)) else (v1_0))
def i_FollowPath (a0 : Int) (a1 : Int) (a2 : List TStep) : Int := (match i_FollowPath_1 a0 a2 (a2.length + 1) a1 0 with | z1_0 => z1_0)
def i_risingAuthorities_1 (a0 : List TStamp) : Nat → Nat → Sum Bool Unit
  | 0, _ => .inr ()
  | n1 + 1, v1_0 => (bif (decide ((↑v1_0 : Int) < (↑a0.length : Int))) then (bif (decide ((nth a0 (v1_0 - 1)).Authority ≥ (nth a0 v1_0).Authority)) then (.inl false) else i_risingAuthorities_1 a0 n1 (v1_0 + 1)) else (.inr ()))
def i_risingAuthorities (a0 : List TStamp) : Bool := (match i_risingAuthorities_1 a0 (a0.length + 1) 1 with | .inl r1 => r1 | .inr _ => true)
def i_FindKey_1 (a0 : List TKey) (a1 : Int) : Nat → Nat → Sum Int Unit
  | 0, _ => .inr ()
  | n1 + 1, v1_0 => (bif (decide ((↑v1_0 : Int) < (↑a0.length : Int))) then (bif ((nth a0 v1_0).Number == a1) then (.inl (↑v1_0 : Int)) else i_FindKey_1 a0 a1 n1 (v1_0 + 1)) else (.inr ()))
def i_FindKey (a0 : List TKey) (a1 : Int) : Int := (match i_FindKey_1 a0 a1 (a0.length + 1) 0 with | .inl r1 => r1 | .inr _ => (-1))
def i_KeyedHash (a0 : Int) (a1 : List Int) : Int := (i_Hash ((([a0] : List Int) ++ a1) ++ ([a0] : List Int)))
def i_MarkWith (a0 : TKey) (a1 : List Int) : Int := (i_KeyedHash a0.Secret (([a0.Method] : List Int) ++ a1))
def i_markBy (a0 : List TKey) (a1 : Int) (a2 : List Int) : Int × Bool := (bif (decide ((i_FindKey a0 a1) < 0)) then (0, false) else ((i_MarkWith (nth a0 (i_FindKey a0 a1).toNat) a2), true))
def i_MakeStamp (a0 : List TKey) (a1 : List TAuthority) (a2 : TStamp) : TStamp × Bool := (bif (((decide ((i_FindAuthority a1 a2.Authority) < 0)) || (decide (a2.Seq < 0))) || (!(i_isTime a2.Time))) then ((TStamp.mk 0 0 0 0 0), false) else (bif (!(i_markBy a0 (nth a1 (i_FindAuthority a1 a2.Authority).toNat).Key (i_StampInts a2)).2) then ((TStamp.mk 0 0 0 0 0), false) else ((TStamp.mk a2.Authority a2.Seq a2.Time a2.Digest (i_markBy a0 (nth a1 (i_FindAuthority a1 a2.Authority).toNat).Key (i_StampInts a2)).1), true)))
def i_CheckStamp (a0 : List TKey) (a1 : List TAuthority) (a2 : TStamp) : Bool := ((i_MakeStamp a0 a1 a2).2 && (((i_MakeStamp a0 a1 a2).1.Authority == a2.Authority) && (((i_MakeStamp a0 a1 a2).1.Seq == a2.Seq) && (((i_MakeStamp a0 a1 a2).1.Time == a2.Time) && (((i_MakeStamp a0 a1 a2).1.Digest == a2.Digest) && ((i_MakeStamp a0 a1 a2).1.Mark == a2.Mark))))))
def i_CheckRenewal_1 (a0 : List TKey) (a1 : List TAuthority) (a2 : TRenewal) : Nat → Nat → Sum Bool Unit
  | 0, _ => .inr ()
  | n1 + 1, v1_0 => (bif (decide ((↑v1_0 : Int) < (↑a2.Stamps.length : Int))) then (bif (((nth a2.Stamps v1_0).Digest != a2.Root) || (!(i_CheckStamp a0 a1 (nth a2.Stamps v1_0)))) then (.inl false) else i_CheckRenewal_1 a0 a1 a2 n1 (v1_0 + 1)) else (.inr ()))
def i_CheckRenewal (a0 : List TKey) (a1 : List TAuthority) (a2 : TRenewal) (a3 : Int) : Bool := (bif ((((decide ((↑a2.Path.length : Int) > 4)) || ((i_FollowPath a2.Method a3 a2.Path) != a2.Root)) || (!(i_InRange (↑a2.Stamps.length : Int) 1 6))) || (!(i_risingAuthorities a2.Stamps))) then false else (match i_CheckRenewal_1 a0 a1 a2 (a2.Stamps.length + 1) 0 with | .inl r1 => r1 | .inr _ => true))
def i_FindMethod_1 (a0 : List TMethod) (a1 : Int) : Nat → Nat → Sum Int Unit
  | 0, _ => .inr ()
  | n1 + 1, v1_0 => (bif (decide ((↑v1_0 : Int) < (↑a0.length : Int))) then (bif ((nth a0 v1_0).Id == a1) then (.inl (↑v1_0 : Int)) else i_FindMethod_1 a0 a1 n1 (v1_0 + 1)) else (.inr ()))
def i_FindMethod (a0 : List TMethod) (a1 : Int) : Int := (match i_FindMethod_1 a0 a1 (a0.length + 1) 0 with | .inl r1 => r1 | .inr _ => (-1))
def i_BreakOf (a0 : List TMethod) (a1 : Int) : Int := (bif (decide ((i_FindMethod a0 a1) ≥ 0)) then (nth a0 (i_FindMethod a0 a1).toNat).Broken else 0)
def i_StampKey (a0 : List TAuthority) (a1 : TStamp) : Int := (bif (decide ((i_FindAuthority a0 a1.Authority) ≥ 0)) then (nth a0 (i_FindAuthority a0 a1.Authority).toNat).Key else 0)
def i_RenewalBreak_1 (a0 : List TKey) (a1 : List TAuthority) (a2 : List TMethod) (a3 : TRenewal) : Nat → Int → Nat → Sum Int Int
  | 0, _, _ => .inr default
  | n1 + 1, v1_0, v1_1 => (bif (decide ((↑v1_1 : Int) < (↑a3.Stamps.length : Int))) then (bif (decide ((i_FindKey a0 (i_StampKey a1 (nth a3.Stamps v1_1))) < 0)) then (.inl 0) else i_RenewalBreak_1 a0 a1 a2 a3 n1 (if (i_BreakOf a2 (nth a0 (i_FindKey a0 (i_StampKey a1 (nth a3.Stamps v1_1))).toNat).Method) < v1_0 then (i_BreakOf a2 (nth a0 (i_FindKey a0 (i_StampKey a1 (nth a3.Stamps v1_1))).toNat).Method) else v1_0) (v1_1 + 1)) else (.inr v1_0))
def i_RenewalBreak (a0 : List TKey) (a1 : List TAuthority) (a2 : List TMethod) (a3 : TRenewal) : Int := (match i_RenewalBreak_1 a0 a1 a2 a3 (a3.Stamps.length + 1) (i_BreakOf a2 a3.Method) 0 with | .inl r1 => r1 | .inr z1_0 => z1_0)
def i_LinkHolds (a0 : TFrame) (a1 : TStrand) (a2 : Int) : Bool := (bif (!(i_InRange a2 0 (W ((↑a1.Chain.length : Int) - 1)))) then false else (bif (a2 == (W ((↑a1.Chain.length : Int) - 1))) then (decide (a0.Now < (i_RenewalBreak a0.Keys a0.Authorities a0.Methods (nth a1.Chain a2.toNat)))) else ((i_Frame_spanOf a0 (nth a1.Chain (W (a2 + 1)).toNat)).2 && (decide ((i_Frame_spanOf a0 (nth a1.Chain (W (a2 + 1)).toNat)).1.To < (i_RenewalBreak a0.Keys a0.Authorities a0.Methods (nth a1.Chain a2.toNat)))))))
def i_FirstKept_1 (a0 : TFrame) (a1 : TStrand) (a2 : List Int) : Nat → Nat → Nat
  | 0, _ => default
  | n1 + 1, v1_0 => (bif (decide ((↑v1_0 : Int) > 0)) then (bif (((!(i_Frame_spanOf a0 (nth a1.Chain (v1_0 - 1))).2) || (!(i_CheckRenewal a0.Keys a0.Authorities (nth a1.Chain (v1_0 - 1)) (i_LeafAt a1 a2 (W ((↑v1_0 : Int) - 1)))))) || (!(i_LinkHolds a0 a1 (W ((↑v1_0 : Int) - 1))))) then (v1_0) else i_FirstKept_1 a0 a1 a2 n1 (v1_0 - 1)) else (v1_0))
def i_FirstKept (a0 : TFrame) (a1 : TStrand) (a2 : List Int) : Int := (match i_FirstKept_1 a0 a1 a2 (a1.Chain.length + 1) a1.Chain.length with | z1_0 => (↑z1_0 : Int))
def i_IsUnbroken (a0 : TFrame) (a1 : TStrand) (a2 : List Int) : Bool := ((decide ((↑a1.Chain.length : Int) > 0)) && ((i_FirstKept a0 a1 a2) == 0))
def i_IsUnbrokenItem (a0 : TWorld) (a1 : Int) : Bool := (bif (decide ((i_FindIn a0 a1).1 < 0)) then false else (i_IsUnbroken a0.Frame (nth (nth a0.Archives (i_FindIn a0 a1).1.toNat).Items (i_FindIn a0 a1).2.toNat).Strand (i_DocDigests (nth (nth a0.Archives (i_FindIn a0 a1).1.toNat).Items (i_FindIn a0 a1).2.toNat).Strand (nth (nth a0.Archives (i_FindIn a0 a1).1.toNat).Items (i_FindIn a0 a1).2.toNat).Doc)))
def l_eqKey (a0 : TKey) (a1 : TKey) : Bool := (bif (a0.Number != a1.Number) then false else (bif (a0.Owner != a1.Owner) then false else (bif (a0.Method != a1.Method) then false else (bif (a0.Born != a1.Born) then false else (bif (a0.Secret != a1.Secret) then false else true)))))
def l_eqKeyS_1 (a0 : List TKey) (a1 : List TKey) : Nat → Nat → Sum Bool Unit
  | 0, _ => .inr ()
  | n1 + 1, v1_0 => (bif (decide ((↑v1_0 : Int) < (↑a0.length : Int))) then (bif (!(l_eqKey (nth a0 v1_0) (nth a1 v1_0))) then (.inl false) else l_eqKeyS_1 a0 a1 n1 (v1_0 + 1)) else (.inr ()))
def l_eqKeyS (a0 : List TKey) (a1 : List TKey) : Bool := (bif ((↑a0.length : Int) != (↑a1.length : Int)) then false else (match l_eqKeyS_1 a0 a1 (a0.length + 1) 0 with | .inl r1 => r1 | .inr _ => true))
def l_eqAuthority (a0 : TAuthority) (a1 : TAuthority) : Bool := (bif (a0.Id != a1.Id) then false else (bif (a0.Key != a1.Key) then false else (bif (a0.Error != a1.Error) then false else true)))
def l_eqAuthorityS_1 (a0 : List TAuthority) (a1 : List TAuthority) : Nat → Nat → Sum Bool Unit
  | 0, _ => .inr ()
  | n1 + 1, v1_0 => (bif (decide ((↑v1_0 : Int) < (↑a0.length : Int))) then (bif (!(l_eqAuthority (nth a0 v1_0) (nth a1 v1_0))) then (.inl false) else l_eqAuthorityS_1 a0 a1 n1 (v1_0 + 1)) else (.inr ()))
def l_eqAuthorityS (a0 : List TAuthority) (a1 : List TAuthority) : Bool := (bif ((↑a0.length : Int) != (↑a1.length : Int)) then false else (match l_eqAuthorityS_1 a0 a1 (a0.length + 1) 0 with | .inl r1 => r1 | .inr _ => true))
def l_eqMethod (a0 : TMethod) (a1 : TMethod) : Bool := (bif (a0.Id != a1.Id) then false else (bif (a0.Known != a1.Known) then false else (bif (a0.Ends != a1.Ends) then false else (bif (a0.Broken != a1.Broken) then false else true))))
def l_eqMethodS_1 (a0 : List TMethod) (a1 : List TMethod) : Nat → Nat → Sum Bool Unit
  | 0, _ => .inr ()
  | n1 + 1, v1_0 => (bif (decide ((↑v1_0 : Int) < (↑a0.length : Int))) then (bif (!(l_eqMethod (nth a0 v1_0) (nth a1 v1_0))) then (.inl false) else l_eqMethodS_1 a0 a1 n1 (v1_0 + 1)) else (.inr ()))
def l_eqMethodS (a0 : List TMethod) (a1 : List TMethod) : Bool := (bif ((↑a0.length : Int) != (↑a1.length : Int)) then false else (match l_eqMethodS_1 a0 a1 (a0.length + 1) 0 with | .inl r1 => r1 | .inr _ => true))
def l_eqFrame (a0 : TFrame) (a1 : TFrame) : Bool := (bif (!(l_eqKeyS a0.Keys a1.Keys)) then false else (bif (!(l_eqAuthorityS a0.Authorities a1.Authorities)) then false else (bif (!(l_eqMethodS a0.Methods a1.Methods)) then false else (bif (a0.Liars != a1.Liars) then false else (bif (a0.Now != a1.Now) then false else true)))))
def l_eqCert (a0 : TCert) (a1 : TCert) : Bool := (bif (a0.Serial != a1.Serial) then false else (bif (a0.Key != a1.Key) then false else (bif (a0.Owner != a1.Owner) then false else (bif (a0.From != a1.From) then false else (bif (a0.To != a1.To) then false else (bif (a0.Issuer != a1.Issuer) then false else (bif (a0.Mark != a1.Mark) then false else true)))))))
def l_eqCertS_1 (a0 : List TCert) (a1 : List TCert) : Nat → Nat → Sum Bool Unit
  | 0, _ => .inr ()
  | n1 + 1, v1_0 => (bif (decide ((↑v1_0 : Int) < (↑a0.length : Int))) then (bif (!(l_eqCert (nth a0 v1_0) (nth a1 v1_0))) then (.inl false) else l_eqCertS_1 a0 a1 n1 (v1_0 + 1)) else (.inr ()))
def l_eqCertS (a0 : List TCert) (a1 : List TCert) : Bool := (bif ((↑a0.length : Int) != (↑a1.length : Int)) then false else (match l_eqCertS_1 a0 a1 (a0.length + 1) 0 with | .inl r1 => r1 | .inr _ => true))
def l_eqIntS_1 (a0 : List Int) (a1 : List Int) : Nat → Nat → Sum Bool Unit
  | 0, _ => .inr ()
  | n1 + 1, v1_0 => (bif (decide ((↑v1_0 : Int) < (↑a0.length : Int))) then (bif ((nth a0 v1_0) != (nth a1 v1_0)) then (.inl false) else l_eqIntS_1 a0 a1 n1 (v1_0 + 1)) else (.inr ()))
def l_eqIntS (a0 : List Int) (a1 : List Int) : Bool := (bif ((↑a0.length : Int) != (↑a1.length : Int)) then false else (match l_eqIntS_1 a0 a1 (a0.length + 1) 0 with | .inl r1 => r1 | .inr _ => true))
def l_eqStringS_1 (a0 : List ByteArray) (a1 : List ByteArray) : Nat → Nat → Sum Bool Unit
  | 0, _ => .inr ()
  | n1 + 1, v1_0 => (bif (decide ((↑v1_0 : Int) < (↑a0.length : Int))) then (bif (!decide ((nth a0 v1_0) = (nth a1 v1_0))) then (.inl false) else l_eqStringS_1 a0 a1 n1 (v1_0 + 1)) else (.inr ()))
def l_eqStringS (a0 : List ByteArray) (a1 : List ByteArray) : Bool := (bif ((↑a0.length : Int) != (↑a1.length : Int)) then false else (match l_eqStringS_1 a0 a1 (a0.length + 1) 0 with | .inl r1 => r1 | .inr _ => true))
def l_eqDocument (a0 : TDocument) (a1 : TDocument) : Bool := (bif (a0.Title != a1.Title) then false else (bif (!(l_eqStringS a0.Parts a1.Parts)) then false else (bif (!(l_eqIntS a0.Salts a1.Salts)) then false else true)))
def l_eqSignature (a0 : TSignature) (a1 : TSignature) : Bool := (bif (a0.Key != a1.Key) then false else (bif (a0.Serial != a1.Serial) then false else (bif (a0.Method != a1.Method) then false else (bif (a0.Digest != a1.Digest) then false else (bif (a0.Commit != a1.Commit) then false else (bif (a0.Org != a1.Org) then false else (bif (a0.Before != a1.Before) then false else (bif (a0.After != a1.After) then false else (bif (a0.Mark != a1.Mark) then false else true)))))))))
def l_eqPiece (a0 : TPiece) (a1 : TPiece) : Bool := (bif (a0.Key != a1.Key) then false else (bif (!(l_eqIntS a0.Ints a1.Ints)) then false else (bif (a0.Mark != a1.Mark) then false else true)))
def l_eqPieceS_1 (a0 : List TPiece) (a1 : List TPiece) : Nat → Nat → Sum Bool Unit
  | 0, _ => .inr ()
  | n1 + 1, v1_0 => (bif (decide ((↑v1_0 : Int) < (↑a0.length : Int))) then (bif (!(l_eqPiece (nth a0 v1_0) (nth a1 v1_0))) then (.inl false) else l_eqPieceS_1 a0 a1 n1 (v1_0 + 1)) else (.inr ()))
def l_eqPieceS (a0 : List TPiece) (a1 : List TPiece) : Bool := (bif ((↑a0.length : Int) != (↑a1.length : Int)) then false else (match l_eqPieceS_1 a0 a1 (a0.length + 1) 0 with | .inl r1 => r1 | .inr _ => true))
def l_eqStep (a0 : TStep) (a1 : TStep) : Bool := (bif (a0.Digest != a1.Digest) then false else (bif (!(a0.Left == a1.Left)) then false else true))
def l_eqStepS_1 (a0 : List TStep) (a1 : List TStep) : Nat → Nat → Sum Bool Unit
  | 0, _ => .inr ()
  | n1 + 1, v1_0 => (bif (decide ((↑v1_0 : Int) < (↑a0.length : Int))) then (bif (!(l_eqStep (nth a0 v1_0) (nth a1 v1_0))) then (.inl false) else l_eqStepS_1 a0 a1 n1 (v1_0 + 1)) else (.inr ()))
def l_eqStepS (a0 : List TStep) (a1 : List TStep) : Bool := (bif ((↑a0.length : Int) != (↑a1.length : Int)) then false else (match l_eqStepS_1 a0 a1 (a0.length + 1) 0 with | .inl r1 => r1 | .inr _ => true))
def l_eqStamp (a0 : TStamp) (a1 : TStamp) : Bool := (bif (a0.Authority != a1.Authority) then false else (bif (a0.Seq != a1.Seq) then false else (bif (a0.Time != a1.Time) then false else (bif (a0.Digest != a1.Digest) then false else (bif (a0.Mark != a1.Mark) then false else true)))))
def l_eqStampS_1 (a0 : List TStamp) (a1 : List TStamp) : Nat → Nat → Sum Bool Unit
  | 0, _ => .inr ()
  | n1 + 1, v1_0 => (bif (decide ((↑v1_0 : Int) < (↑a0.length : Int))) then (bif (!(l_eqStamp (nth a0 v1_0) (nth a1 v1_0))) then (.inl false) else l_eqStampS_1 a0 a1 n1 (v1_0 + 1)) else (.inr ()))
def l_eqStampS (a0 : List TStamp) (a1 : List TStamp) : Bool := (bif ((↑a0.length : Int) != (↑a1.length : Int)) then false else (match l_eqStampS_1 a0 a1 (a0.length + 1) 0 with | .inl r1 => r1 | .inr _ => true))
def l_eqRenewal (a0 : TRenewal) (a1 : TRenewal) : Bool := (bif (a0.Count != a1.Count) then false else (bif (a0.Method != a1.Method) then false else (bif (a0.Root != a1.Root) then false else (bif (!(l_eqStepS a0.Path a1.Path)) then false else (bif (!(l_eqStampS a0.Stamps a1.Stamps)) then false else true)))))
def l_eqRenewalS_1 (a0 : List TRenewal) (a1 : List TRenewal) : Nat → Nat → Sum Bool Unit
  | 0, _ => .inr ()
  | n1 + 1, v1_0 => (bif (decide ((↑v1_0 : Int) < (↑a0.length : Int))) then (bif (!(l_eqRenewal (nth a0 v1_0) (nth a1 v1_0))) then (.inl false) else l_eqRenewalS_1 a0 a1 n1 (v1_0 + 1)) else (.inr ()))
def l_eqRenewalS (a0 : List TRenewal) (a1 : List TRenewal) : Bool := (bif ((↑a0.length : Int) != (↑a1.length : Int)) then false else (match l_eqRenewalS_1 a0 a1 (a0.length + 1) 0 with | .inl r1 => r1 | .inr _ => true))
def l_eqStrand (a0 : TStrand) (a1 : TStrand) : Bool := (bif (!(l_eqPieceS a0.Pieces a1.Pieces)) then false else (bif (!(l_eqRenewalS a0.Chain a1.Chain)) then false else true))
def l_eqItem (a0 : TItem) (a1 : TItem) : Bool := (bif (a0.Id != a1.Id) then false else (bif (a0.Keep != a1.Keep) then false else (bif (!(l_eqDocument a0.Doc a1.Doc)) then false else (bif (!(l_eqSignature a0.Sig a1.Sig)) then false else (bif (!(l_eqStrand a0.Strand a1.Strand)) then false else true)))))
def l_eqItemS_1 (a0 : List TItem) (a1 : List TItem) : Nat → Nat → Sum Bool Unit
  | 0, _ => .inr ()
  | n1 + 1, v1_0 => (bif (decide ((↑v1_0 : Int) < (↑a0.length : Int))) then (bif (!(l_eqItem (nth a0 v1_0) (nth a1 v1_0))) then (.inl false) else l_eqItemS_1 a0 a1 n1 (v1_0 + 1)) else (.inr ()))
def l_eqItemS (a0 : List TItem) (a1 : List TItem) : Bool := (bif ((↑a0.length : Int) != (↑a1.length : Int)) then false else (match l_eqItemS_1 a0 a1 (a0.length + 1) 0 with | .inl r1 => r1 | .inr _ => true))
def l_eqArchive (a0 : TArchive) (a1 : TArchive) : Bool := (bif (a0.Id != a1.Id) then false else (bif (!(l_eqItemS a0.Items a1.Items)) then false else true))
def l_eqArchiveS_1 (a0 : List TArchive) (a1 : List TArchive) : Nat → Nat → Sum Bool Unit
  | 0, _ => .inr ()
  | n1 + 1, v1_0 => (bif (decide ((↑v1_0 : Int) < (↑a0.length : Int))) then (bif (!(l_eqArchive (nth a0 v1_0) (nth a1 v1_0))) then (.inl false) else l_eqArchiveS_1 a0 a1 n1 (v1_0 + 1)) else (.inr ()))
def l_eqArchiveS (a0 : List TArchive) (a1 : List TArchive) : Bool := (bif ((↑a0.length : Int) != (↑a1.length : Int)) then false else (match l_eqArchiveS_1 a0 a1 (a0.length + 1) 0 with | .inl r1 => r1 | .inr _ => true))
def l_eqWorld (a0 : TWorld) (a1 : TWorld) : Bool := (bif (!(l_eqFrame a0.Frame a1.Frame)) then false else (bif (!(l_eqCertS a0.Certs a1.Certs)) then false else (bif (!(l_eqIntS a0.Ended a1.Ended)) then false else (bif (!(l_eqArchiveS a0.Archives a1.Archives)) then false else (bif (!(l_eqIntS a0.Seqs a1.Seqs)) then false else (bif (!(l_eqIntS a0.Lying a1.Lying)) then false else (bif (a0.Next != a1.Next) then false else (bif (!(l_eqIntS a0.Forged a1.Forged)) then false else true))))))))
def l_FnExactIsUnbrokenItem (a0 : TWorld) (a1 : Int) : Bool := (bif (decide ((l_szWorld a0 1048576) < 0)) then true else (bif (!((i_IsUnbrokenItem a0 a1) == (s_IsUnbrokenItem a0 a1))) then false else (bif (!(l_eqWorld a0 a0)) then false else true)))
end Go.Mo
