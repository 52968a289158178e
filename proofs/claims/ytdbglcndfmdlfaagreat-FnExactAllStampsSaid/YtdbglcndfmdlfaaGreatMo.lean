/- The plain data of the program, typed, and how they read as rows of the abstract machine. No condition. -/
import Derived.Test.YtdbglcndfmdlfaaGreatVe
import Derived.Laws.BitsLemmas
namespace Go.Mo
open Go.Vm
@[simp] def iR (n : Int) : List Vm.D := [.int .i64 n]
@[simp] def bR (b : UInt8) : List Vm.D := [.int .u8 (b.toNat : Int)]
@[simp] def lR (b : Bool) : List Vm.D := [.bool b]
@[simp] def sR (s : ByteArray) : List Vm.D := [.str s]
@[simp] def slR {α : Type} (n : Nat) (f : α → List D) (m : List α) : List Vm.D := [.sl n (m.map f)]
/-- everything in it is at most so long -/
class Sz (α : Type) [Inhabited α] where
  sm : Nat → α → Prop
  zero : ∀ n, sm n default
  mono : ∀ {n m : Nat} {x : α}, n ≤ m → sm n x → sm m x
/-- how many marks it takes -/
class Cn (α : Type) where
  cn : α → Nat
abbrev cn {α : Type} [Cn α] (x : α) : Nat := Cn.cn x
def cnL {α : Type} (c : α → Nat) : List α → Nat
  | [] => 0
  | x :: l => c x + cnL c l
instance : Cn Int := ⟨fun _ => 1⟩
instance : Cn Bool := ⟨fun _ => 1⟩
instance : Cn UInt8 := ⟨fun _ => 1⟩
instance : Cn ByteArray := ⟨fun _ => 1⟩
instance {α : Type} [Cn α] : Cn (List α) := ⟨cnL Cn.cn⟩
theorem cn_int (x : Int) : cn x = 1 := rfl
theorem cn_bool (x : Bool) : cn x = 1 := rfl
theorem cn_u8 (x : UInt8) : cn x = 1 := rfl
theorem cn_str (x : ByteArray) : cn x = 1 := rfl
theorem cn_list {α : Type} [Cn α] (x : List α) : cn x = cnL cn x := rfl
abbrev Sm {α : Type} [Inhabited α] [Sz α] (n : Nat) (x : α) : Prop := Sz.sm n x
instance : Sz Int := ⟨fun _ _ => True, fun _ => trivial, fun _ h => h⟩
instance : Sz Bool := ⟨fun _ _ => True, fun _ => trivial, fun _ h => h⟩
instance : Sz UInt8 := ⟨fun _ _ => True, fun _ => trivial, fun _ h => h⟩
instance : Sz ByteArray := ⟨fun n s => s.size ≤ n, fun _ => Nat.zero_le _, fun h k => Nat.le_trans k h⟩
instance {α : Type} [Inhabited α] [Sz α] : Sz (List α) := ⟨fun n l => l.length ≤ n ∧ ∀ x ∈ l, Sz.sm n x, fun _ => ⟨Nat.zero_le _, fun _ h => by cases h⟩, fun h k => ⟨Nat.le_trans k.1 h, fun x hx => Sz.mono h (k.2 x hx)⟩⟩
theorem sm_list {α : Type} [Inhabited α] [Sz α] {n : Nat} {l : List α} : Sm n l = (l.length ≤ n ∧ ∀ x ∈ l, Sm n x) := rfl
theorem sm_len {α : Type} [Inhabited α] [Sz α] {n : Nat} {l : List α} (h : Sm n l) : l.length ≤ n := h.1
theorem sm_size {n : Nat} {s : ByteArray} (h : Sm n s) : s.size ≤ n := h
@[simp] theorem sm_int {n : Nat} {x : Int} : Sm n x := trivial
@[simp] theorem sm_bool {n : Nat} {x : Bool} : Sm n x := trivial
@[simp] theorem sm_u8 {n : Nat} {x : UInt8} : Sm n x := trivial
@[simp] theorem sm_nil {α : Type} [Inhabited α] [Sz α] {n : Nat} : Sm n ([] : List α) := ⟨Nat.zero_le _, fun _ h => by cases h⟩
@[simp] theorem sm_nth {α : Type} [Inhabited α] [Sz α] {n i : Nat} {l : List α} (h : Sm n l) : Sm n (nth l i) := by
  unfold nth
  rw [List.getD_eq_getElem?_getD]
  cases hh : l[i]? with
  | none => exact Sz.zero n
  | some x => exact h.2 x (List.mem_of_getElem? hh)
@[simp] theorem sm_take {α : Type} [Inhabited α] [Sz α] {n i : Nat} {l : List α} (h : Sm n l) : Sm n (l.take i) := ⟨Nat.le_trans (by simp; omega) h.1, fun x hx => h.2 x (List.mem_of_mem_take hx)⟩
@[simp] theorem sm_drop {α : Type} [Inhabited α] [Sz α] {n i : Nat} {l : List α} (h : Sm n l) : Sm n (l.drop i) := ⟨Nat.le_trans (by simp) h.1, fun x hx => h.2 x (List.mem_of_mem_drop hx)⟩
theorem sm_append {α : Type} [Inhabited α] [Sz α] {n : Nat} {l m : List α} : Sm n (l ++ m) = (l.length + m.length ≤ n ∧ (∀ x ∈ l, Sm n x) ∧ ∀ x ∈ m, Sm n x) := by
  rw [sm_list]; simp [or_imp, forall_and]
theorem sm_mono {α : Type} [Inhabited α] [Sz α] {n m : Nat} {x : α} (h : n ≤ m) (k : Sm n x) : Sm m x := Sz.mono h k
structure TStamp where
  Authority : Int
  Seq : Int
  Time : Int
  Digest : Int
  Mark : Int
  deriving Inhabited, DecidableEq
@[simp] def TStamp.row (x : TStamp) : List Vm.D := [.int .i64 x.Authority, .int .i64 x.Seq, .int .i64 x.Time, .int .i64 x.Digest, .int .i64 x.Mark]
instance : Cn TStamp := ⟨fun x => cn x.Authority + cn x.Seq + cn x.Time + cn x.Digest + cn x.Mark⟩
theorem TStamp.cn_eq (x : TStamp) : cn x = cn x.Authority + cn x.Seq + cn x.Time + cn x.Digest + cn x.Mark := rfl
instance : Sz TStamp := ⟨fun _ _ => True, fun _ => trivial, fun _ h => h⟩
@[simp] theorem TStamp.sm_all {n : Nat} {x : TStamp} : Sm n x := trivial
structure TStep where
  Digest : Int
  Left : Bool
  deriving Inhabited, DecidableEq
@[simp] def TStep.row (x : TStep) : List Vm.D := [.int .i64 x.Digest, .bool x.Left]
instance : Cn TStep := ⟨fun x => cn x.Digest + cn x.Left⟩
theorem TStep.cn_eq (x : TStep) : cn x = cn x.Digest + cn x.Left := rfl
instance : Sz TStep := ⟨fun _ _ => True, fun _ => trivial, fun _ h => h⟩
@[simp] theorem TStep.sm_all {n : Nat} {x : TStep} : Sm n x := trivial
structure TRenewal where
  Count : Int
  Method : Int
  Root : Int
  Path : List TStep
  Stamps : List TStamp
  deriving Inhabited, DecidableEq
@[simp] def TRenewal.row (x : TRenewal) : List Vm.D := [.int .i64 x.Count, .int .i64 x.Method, .int .i64 x.Root, .sl 2 (x.Path.map TStep.row), .sl 5 (x.Stamps.map TStamp.row)]
instance : Cn TRenewal := ⟨fun x => cn x.Count + cn x.Method + cn x.Root + cn x.Path + cn x.Stamps⟩
theorem TRenewal.cn_eq (x : TRenewal) : cn x = cn x.Count + cn x.Method + cn x.Root + cn x.Path + cn x.Stamps := rfl
instance : Sz TRenewal := ⟨fun n x => Sm n x.Path ∧ Sm n x.Stamps, fun n => ⟨Sz.zero n, Sz.zero n⟩, fun h k => ⟨Sz.mono h k.1, Sz.mono h k.2⟩⟩
@[simp] theorem TRenewal.sm_Path {n : Nat} {x : TRenewal} (h : Sm n x) : Sm n x.Path := h.1
@[simp] theorem TRenewal.sm_Stamps {n : Nat} {x : TRenewal} (h : Sm n x) : Sm n x.Stamps := h.2
@[simp] theorem TRenewal.sm_mk {n : Nat} {Count' : Int} {Method' : Int} {Root' : Int} {Path' : List TStep} {Stamps' : List TStamp} : Sm n (TRenewal.mk Count' Method' Root' Path' Stamps') = (Sm n Path' ∧ Sm n Stamps') := rfl
structure TKey where
  Number : Int
  Owner : Int
  Method : Int
  Born : Int
  Secret : Int
  deriving Inhabited, DecidableEq
@[simp] def TKey.row (x : TKey) : List Vm.D := [.int .i64 x.Number, .int .i64 x.Owner, .int .i64 x.Method, .int .i64 x.Born, .int .i64 x.Secret]
instance : Cn TKey := ⟨fun x => cn x.Number + cn x.Owner + cn x.Method + cn x.Born + cn x.Secret⟩
theorem TKey.cn_eq (x : TKey) : cn x = cn x.Number + cn x.Owner + cn x.Method + cn x.Born + cn x.Secret := rfl
instance : Sz TKey := ⟨fun _ _ => True, fun _ => trivial, fun _ h => h⟩
@[simp] theorem TKey.sm_all {n : Nat} {x : TKey} : Sm n x := trivial
structure TAuthority where
  Id : Int
  Key : Int
  Error : Int
  deriving Inhabited, DecidableEq
@[simp] def TAuthority.row (x : TAuthority) : List Vm.D := [.int .i64 x.Id, .int .i64 x.Key, .int .i64 x.Error]
instance : Cn TAuthority := ⟨fun x => cn x.Id + cn x.Key + cn x.Error⟩
theorem TAuthority.cn_eq (x : TAuthority) : cn x = cn x.Id + cn x.Key + cn x.Error := rfl
instance : Sz TAuthority := ⟨fun _ _ => True, fun _ => trivial, fun _ h => h⟩
@[simp] theorem TAuthority.sm_all {n : Nat} {x : TAuthority} : Sm n x := trivial
structure TMethod where
  Id : Int
  Known : Int
  Ends : Int
  Broken : Int
  deriving Inhabited, DecidableEq
@[simp] def TMethod.row (x : TMethod) : List Vm.D := [.int .i64 x.Id, .int .i64 x.Known, .int .i64 x.Ends, .int .i64 x.Broken]
instance : Cn TMethod := ⟨fun x => cn x.Id + cn x.Known + cn x.Ends + cn x.Broken⟩
theorem TMethod.cn_eq (x : TMethod) : cn x = cn x.Id + cn x.Known + cn x.Ends + cn x.Broken := rfl
instance : Sz TMethod := ⟨fun _ _ => True, fun _ => trivial, fun _ h => h⟩
@[simp] theorem TMethod.sm_all {n : Nat} {x : TMethod} : Sm n x := trivial
structure TFrame where
  Keys : List TKey
  Authorities : List TAuthority
  Methods : List TMethod
  Liars : Int
  Now : Int
  deriving Inhabited, DecidableEq
@[simp] def TFrame.row (x : TFrame) : List Vm.D := [.sl 5 (x.Keys.map TKey.row), .sl 3 (x.Authorities.map TAuthority.row), .sl 4 (x.Methods.map TMethod.row), .int .i64 x.Liars, .int .i64 x.Now]
instance : Cn TFrame := ⟨fun x => cn x.Keys + cn x.Authorities + cn x.Methods + cn x.Liars + cn x.Now⟩
theorem TFrame.cn_eq (x : TFrame) : cn x = cn x.Keys + cn x.Authorities + cn x.Methods + cn x.Liars + cn x.Now := rfl
instance : Sz TFrame := ⟨fun n x => Sm n x.Keys ∧ Sm n x.Authorities ∧ Sm n x.Methods, fun n => ⟨Sz.zero n, Sz.zero n, Sz.zero n⟩, fun h k => ⟨Sz.mono h k.1, Sz.mono h k.2.1, Sz.mono h k.2.2⟩⟩
@[simp] theorem TFrame.sm_Keys {n : Nat} {x : TFrame} (h : Sm n x) : Sm n x.Keys := h.1
@[simp] theorem TFrame.sm_Authorities {n : Nat} {x : TFrame} (h : Sm n x) : Sm n x.Authorities := h.2.1
@[simp] theorem TFrame.sm_Methods {n : Nat} {x : TFrame} (h : Sm n x) : Sm n x.Methods := h.2.2
@[simp] theorem TFrame.sm_mk {n : Nat} {Keys' : List TKey} {Authorities' : List TAuthority} {Methods' : List TMethod} {Liars' : Int} {Now' : Int} : Sm n (TFrame.mk Keys' Authorities' Methods' Liars' Now') = (Sm n Keys' ∧ Sm n Authorities' ∧ Sm n Methods') := rfl
structure TCert where
  Serial : Int
  Key : Int
  Owner : Int
  From : Int
  To : Int
  Issuer : Int
  Mark : Int
  deriving Inhabited, DecidableEq
@[simp] def TCert.row (x : TCert) : List Vm.D := [.int .i64 x.Serial, .int .i64 x.Key, .int .i64 x.Owner, .int .i64 x.From, .int .i64 x.To, .int .i64 x.Issuer, .int .i64 x.Mark]
instance : Cn TCert := ⟨fun x => cn x.Serial + cn x.Key + cn x.Owner + cn x.From + cn x.To + cn x.Issuer + cn x.Mark⟩
theorem TCert.cn_eq (x : TCert) : cn x = cn x.Serial + cn x.Key + cn x.Owner + cn x.From + cn x.To + cn x.Issuer + cn x.Mark := rfl
instance : Sz TCert := ⟨fun _ _ => True, fun _ => trivial, fun _ h => h⟩
@[simp] theorem TCert.sm_all {n : Nat} {x : TCert} : Sm n x := trivial
structure TDocument where
  Title : Int
  Parts : List ByteArray
  Salts : List Int
  deriving Inhabited, DecidableEq
@[simp] def TDocument.row (x : TDocument) : List Vm.D := [.int .i64 x.Title, .sl 1 (x.Parts.map sR), .sl 1 (x.Salts.map iR)]
instance : Cn TDocument := ⟨fun x => cn x.Title + cn x.Parts + cn x.Salts⟩
theorem TDocument.cn_eq (x : TDocument) : cn x = cn x.Title + cn x.Parts + cn x.Salts := rfl
instance : Sz TDocument := ⟨fun n x => Sm n x.Parts ∧ Sm n x.Salts, fun n => ⟨Sz.zero n, Sz.zero n⟩, fun h k => ⟨Sz.mono h k.1, Sz.mono h k.2⟩⟩
@[simp] theorem TDocument.sm_Parts {n : Nat} {x : TDocument} (h : Sm n x) : Sm n x.Parts := h.1
@[simp] theorem TDocument.sm_Salts {n : Nat} {x : TDocument} (h : Sm n x) : Sm n x.Salts := h.2
@[simp] theorem TDocument.sm_mk {n : Nat} {Title' : Int} {Parts' : List ByteArray} {Salts' : List Int} : Sm n (TDocument.mk Title' Parts' Salts') = (Sm n Parts' ∧ Sm n Salts') := rfl
structure TSignature where
  Key : Int
  Serial : Int
  Method : Int
  Digest : Int
  Commit : Int
  Org : Int
  Before : Int
  After : Int
  Mark : Int
  deriving Inhabited, DecidableEq
@[simp] def TSignature.row (x : TSignature) : List Vm.D := [.int .i64 x.Key, .int .i64 x.Serial, .int .i64 x.Method, .int .i64 x.Digest, .int .i64 x.Commit, .int .i64 x.Org, .int .i64 x.Before, .int .i64 x.After, .int .i64 x.Mark]
instance : Cn TSignature := ⟨fun x => cn x.Key + cn x.Serial + cn x.Method + cn x.Digest + cn x.Commit + cn x.Org + cn x.Before + cn x.After + cn x.Mark⟩
theorem TSignature.cn_eq (x : TSignature) : cn x = cn x.Key + cn x.Serial + cn x.Method + cn x.Digest + cn x.Commit + cn x.Org + cn x.Before + cn x.After + cn x.Mark := rfl
instance : Sz TSignature := ⟨fun _ _ => True, fun _ => trivial, fun _ h => h⟩
@[simp] theorem TSignature.sm_all {n : Nat} {x : TSignature} : Sm n x := trivial
structure TPiece where
  Key : Int
  Ints : List Int
  Mark : Int
  deriving Inhabited, DecidableEq
@[simp] def TPiece.row (x : TPiece) : List Vm.D := [.int .i64 x.Key, .sl 1 (x.Ints.map iR), .int .i64 x.Mark]
instance : Cn TPiece := ⟨fun x => cn x.Key + cn x.Ints + cn x.Mark⟩
theorem TPiece.cn_eq (x : TPiece) : cn x = cn x.Key + cn x.Ints + cn x.Mark := rfl
instance : Sz TPiece := ⟨fun n x => Sm n x.Ints, fun n => Sz.zero n, fun h k => Sz.mono h k⟩
@[simp] theorem TPiece.sm_Ints {n : Nat} {x : TPiece} (h : Sm n x) : Sm n x.Ints := h
@[simp] theorem TPiece.sm_mk {n : Nat} {Key' : Int} {Ints' : List Int} {Mark' : Int} : Sm n (TPiece.mk Key' Ints' Mark') = (Sm n Ints') := rfl
structure TStrand where
  Pieces : List TPiece
  Chain : List TRenewal
  deriving Inhabited, DecidableEq
@[simp] def TStrand.row (x : TStrand) : List Vm.D := [.sl 3 (x.Pieces.map TPiece.row), .sl 5 (x.Chain.map TRenewal.row)]
instance : Cn TStrand := ⟨fun x => cn x.Pieces + cn x.Chain⟩
theorem TStrand.cn_eq (x : TStrand) : cn x = cn x.Pieces + cn x.Chain := rfl
instance : Sz TStrand := ⟨fun n x => Sm n x.Pieces ∧ Sm n x.Chain, fun n => ⟨Sz.zero n, Sz.zero n⟩, fun h k => ⟨Sz.mono h k.1, Sz.mono h k.2⟩⟩
@[simp] theorem TStrand.sm_Pieces {n : Nat} {x : TStrand} (h : Sm n x) : Sm n x.Pieces := h.1
@[simp] theorem TStrand.sm_Chain {n : Nat} {x : TStrand} (h : Sm n x) : Sm n x.Chain := h.2
@[simp] theorem TStrand.sm_mk {n : Nat} {Pieces' : List TPiece} {Chain' : List TRenewal} : Sm n (TStrand.mk Pieces' Chain') = (Sm n Pieces' ∧ Sm n Chain') := rfl
structure TItem where
  Id : Int
  Keep : Int
  Doc : TDocument
  Sig : TSignature
  Strand : TStrand
  deriving Inhabited, DecidableEq
@[simp] def TItem.row (x : TItem) : List Vm.D := [.int .i64 x.Id, .int .i64 x.Keep, .int .i64 x.Doc.Title, .sl 1 (x.Doc.Parts.map sR), .sl 1 (x.Doc.Salts.map iR), .int .i64 x.Sig.Key, .int .i64 x.Sig.Serial, .int .i64 x.Sig.Method, .int .i64 x.Sig.Digest, .int .i64 x.Sig.Commit, .int .i64 x.Sig.Org, .int .i64 x.Sig.Before, .int .i64 x.Sig.After, .int .i64 x.Sig.Mark, .sl 3 (x.Strand.Pieces.map TPiece.row), .sl 5 (x.Strand.Chain.map TRenewal.row)]
instance : Cn TItem := ⟨fun x => cn x.Id + cn x.Keep + cn x.Doc + cn x.Sig + cn x.Strand⟩
theorem TItem.cn_eq (x : TItem) : cn x = cn x.Id + cn x.Keep + cn x.Doc + cn x.Sig + cn x.Strand := rfl
instance : Sz TItem := ⟨fun n x => Sm n x.Doc ∧ Sm n x.Strand, fun n => ⟨Sz.zero n, Sz.zero n⟩, fun h k => ⟨Sz.mono h k.1, Sz.mono h k.2⟩⟩
@[simp] theorem TItem.sm_Doc {n : Nat} {x : TItem} (h : Sm n x) : Sm n x.Doc := h.1
@[simp] theorem TItem.sm_Strand {n : Nat} {x : TItem} (h : Sm n x) : Sm n x.Strand := h.2
@[simp] theorem TItem.sm_mk {n : Nat} {Id' : Int} {Keep' : Int} {Doc' : TDocument} {Sig' : TSignature} {Strand' : TStrand} : Sm n (TItem.mk Id' Keep' Doc' Sig' Strand') = (Sm n Doc' ∧ Sm n Strand') := rfl
structure TArchive where
  Id : Int
  Items : List TItem
  deriving Inhabited, DecidableEq
@[simp] def TArchive.row (x : TArchive) : List Vm.D := [.int .i64 x.Id, .sl 16 (x.Items.map TItem.row)]
instance : Cn TArchive := ⟨fun x => cn x.Id + cn x.Items⟩
theorem TArchive.cn_eq (x : TArchive) : cn x = cn x.Id + cn x.Items := rfl
instance : Sz TArchive := ⟨fun n x => Sm n x.Items, fun n => Sz.zero n, fun h k => Sz.mono h k⟩
@[simp] theorem TArchive.sm_Items {n : Nat} {x : TArchive} (h : Sm n x) : Sm n x.Items := h
@[simp] theorem TArchive.sm_mk {n : Nat} {Id' : Int} {Items' : List TItem} : Sm n (TArchive.mk Id' Items') = (Sm n Items') := rfl
structure TWorld where
  Frame : TFrame
  Certs : List TCert
  Ended : List Int
  Archives : List TArchive
  Seqs : List Int
  Lying : List Int
  Next : Int
  Forged : List Int
  deriving Inhabited, DecidableEq
@[simp] def TWorld.row (x : TWorld) : List Vm.D := [.sl 5 (x.Frame.Keys.map TKey.row), .sl 3 (x.Frame.Authorities.map TAuthority.row), .sl 4 (x.Frame.Methods.map TMethod.row), .int .i64 x.Frame.Liars, .int .i64 x.Frame.Now, .sl 7 (x.Certs.map TCert.row), .sl 1 (x.Ended.map iR), .sl 2 (x.Archives.map TArchive.row), .sl 1 (x.Seqs.map iR), .sl 1 (x.Lying.map iR), .int .i64 x.Next, .sl 1 (x.Forged.map iR)]
instance : Cn TWorld := ⟨fun x => cn x.Frame + cn x.Certs + cn x.Ended + cn x.Archives + cn x.Seqs + cn x.Lying + cn x.Next + cn x.Forged⟩
theorem TWorld.cn_eq (x : TWorld) : cn x = cn x.Frame + cn x.Certs + cn x.Ended + cn x.Archives + cn x.Seqs + cn x.Lying + cn x.Next + cn x.Forged := rfl
instance : Sz TWorld := ⟨fun n x => Sm n x.Frame ∧ Sm n x.Certs ∧ Sm n x.Ended ∧ Sm n x.Archives ∧ Sm n x.Seqs ∧ Sm n x.Lying ∧ Sm n x.Forged, fun n => ⟨Sz.zero n, Sz.zero n, Sz.zero n, Sz.zero n, Sz.zero n, Sz.zero n, Sz.zero n⟩, fun h k => ⟨Sz.mono h k.1, Sz.mono h k.2.1, Sz.mono h k.2.2.1, Sz.mono h k.2.2.2.1, Sz.mono h k.2.2.2.2.1, Sz.mono h k.2.2.2.2.2.1, Sz.mono h k.2.2.2.2.2.2⟩⟩
@[simp] theorem TWorld.sm_Frame {n : Nat} {x : TWorld} (h : Sm n x) : Sm n x.Frame := h.1
@[simp] theorem TWorld.sm_Certs {n : Nat} {x : TWorld} (h : Sm n x) : Sm n x.Certs := h.2.1
@[simp] theorem TWorld.sm_Ended {n : Nat} {x : TWorld} (h : Sm n x) : Sm n x.Ended := h.2.2.1
@[simp] theorem TWorld.sm_Archives {n : Nat} {x : TWorld} (h : Sm n x) : Sm n x.Archives := h.2.2.2.1
@[simp] theorem TWorld.sm_Seqs {n : Nat} {x : TWorld} (h : Sm n x) : Sm n x.Seqs := h.2.2.2.2.1
@[simp] theorem TWorld.sm_Lying {n : Nat} {x : TWorld} (h : Sm n x) : Sm n x.Lying := h.2.2.2.2.2.1
@[simp] theorem TWorld.sm_Forged {n : Nat} {x : TWorld} (h : Sm n x) : Sm n x.Forged := h.2.2.2.2.2.2
@[simp] theorem TWorld.sm_mk {n : Nat} {Frame' : TFrame} {Certs' : List TCert} {Ended' : List Int} {Archives' : List TArchive} {Seqs' : List Int} {Lying' : List Int} {Next' : Int} {Forged' : List Int} : Sm n (TWorld.mk Frame' Certs' Ended' Archives' Seqs' Lying' Next' Forged') = (Sm n Frame' ∧ Sm n Certs' ∧ Sm n Ended' ∧ Sm n Archives' ∧ Sm n Seqs' ∧ Sm n Lying' ∧ Sm n Forged') := rfl
structure TEvent where
  Kind : Int
  A : Int
  B : Int
  C : Int
  D : Int
  Doc : TDocument
  Ids : List Int
  deriving Inhabited, DecidableEq
@[simp] def TEvent.row (x : TEvent) : List Vm.D := [.int .i64 x.Kind, .int .i64 x.A, .int .i64 x.B, .int .i64 x.C, .int .i64 x.D, .int .i64 x.Doc.Title, .sl 1 (x.Doc.Parts.map sR), .sl 1 (x.Doc.Salts.map iR), .sl 1 (x.Ids.map iR)]
instance : Cn TEvent := ⟨fun x => cn x.Kind + cn x.A + cn x.B + cn x.C + cn x.D + cn x.Doc + cn x.Ids⟩
theorem TEvent.cn_eq (x : TEvent) : cn x = cn x.Kind + cn x.A + cn x.B + cn x.C + cn x.D + cn x.Doc + cn x.Ids := rfl
instance : Sz TEvent := ⟨fun n x => Sm n x.Doc ∧ Sm n x.Ids, fun n => ⟨Sz.zero n, Sz.zero n⟩, fun h k => ⟨Sz.mono h k.1, Sz.mono h k.2⟩⟩
@[simp] theorem TEvent.sm_Doc {n : Nat} {x : TEvent} (h : Sm n x) : Sm n x.Doc := h.1
@[simp] theorem TEvent.sm_Ids {n : Nat} {x : TEvent} (h : Sm n x) : Sm n x.Ids := h.2
@[simp] theorem TEvent.sm_mk {n : Nat} {Kind' : Int} {A' : Int} {B' : Int} {C' : Int} {D' : Int} {Doc' : TDocument} {Ids' : List Int} : Sm n (TEvent.mk Kind' A' B' C' D' Doc' Ids') = (Sm n Doc' ∧ Sm n Ids') := rfl
structure TSpan where
  From : Int
  To : Int
  deriving Inhabited, DecidableEq
@[simp] def TSpan.row (x : TSpan) : List Vm.D := [.int .i64 x.From, .int .i64 x.To]
instance : Cn TSpan := ⟨fun x => cn x.From + cn x.To⟩
theorem TSpan.cn_eq (x : TSpan) : cn x = cn x.From + cn x.To := rfl
instance : Sz TSpan := ⟨fun _ _ => True, fun _ => trivial, fun _ h => h⟩
@[simp] theorem TSpan.sm_all {n : Nat} {x : TSpan} : Sm n x := trivial
structure TVerdict where
  Code : Int
  Reason : Int
  Span : TSpan
  deriving Inhabited, DecidableEq
@[simp] def TVerdict.row (x : TVerdict) : List Vm.D := [.int .i64 x.Code, .int .i64 x.Reason, .int .i64 x.Span.From, .int .i64 x.Span.To]
instance : Cn TVerdict := ⟨fun x => cn x.Code + cn x.Reason + cn x.Span⟩
theorem TVerdict.cn_eq (x : TVerdict) : cn x = cn x.Code + cn x.Reason + cn x.Span := rfl
instance : Sz TVerdict := ⟨fun _ _ => True, fun _ => trivial, fun _ h => h⟩
@[simp] theorem TVerdict.sm_all {n : Nat} {x : TVerdict} : Sm n x := trivial
structure TRedacted where
  Title : Int
  Methods : List Int
  Shown : List Bool
  Parts : List ByteArray
  Salts : List Int
  Digests : List (List Int)
  deriving Inhabited, DecidableEq
@[simp] def TRedacted.row (x : TRedacted) : List Vm.D := [.int .i64 x.Title, .sl 1 (x.Methods.map iR), .sl 1 (x.Shown.map lR), .sl 1 (x.Parts.map sR), .sl 1 (x.Salts.map iR), .sl 1 (x.Digests.map (slR 1 iR))]
instance : Cn TRedacted := ⟨fun x => cn x.Title + cn x.Methods + cn x.Shown + cn x.Parts + cn x.Salts + cn x.Digests⟩
theorem TRedacted.cn_eq (x : TRedacted) : cn x = cn x.Title + cn x.Methods + cn x.Shown + cn x.Parts + cn x.Salts + cn x.Digests := rfl
instance : Sz TRedacted := ⟨fun n x => Sm n x.Methods ∧ Sm n x.Shown ∧ Sm n x.Parts ∧ Sm n x.Salts ∧ Sm n x.Digests, fun n => ⟨Sz.zero n, Sz.zero n, Sz.zero n, Sz.zero n, Sz.zero n⟩, fun h k => ⟨Sz.mono h k.1, Sz.mono h k.2.1, Sz.mono h k.2.2.1, Sz.mono h k.2.2.2.1, Sz.mono h k.2.2.2.2⟩⟩
@[simp] theorem TRedacted.sm_Methods {n : Nat} {x : TRedacted} (h : Sm n x) : Sm n x.Methods := h.1
@[simp] theorem TRedacted.sm_Shown {n : Nat} {x : TRedacted} (h : Sm n x) : Sm n x.Shown := h.2.1
@[simp] theorem TRedacted.sm_Parts {n : Nat} {x : TRedacted} (h : Sm n x) : Sm n x.Parts := h.2.2.1
@[simp] theorem TRedacted.sm_Salts {n : Nat} {x : TRedacted} (h : Sm n x) : Sm n x.Salts := h.2.2.2.1
@[simp] theorem TRedacted.sm_Digests {n : Nat} {x : TRedacted} (h : Sm n x) : Sm n x.Digests := h.2.2.2.2
@[simp] theorem TRedacted.sm_mk {n : Nat} {Title' : Int} {Methods' : List Int} {Shown' : List Bool} {Parts' : List ByteArray} {Salts' : List Int} {Digests' : List (List Int)} : Sm n (TRedacted.mk Title' Methods' Shown' Parts' Salts' Digests') = (Sm n Methods' ∧ Sm n Shown' ∧ Sm n Parts' ∧ Sm n Salts' ∧ Sm n Digests') := rfl
structure TEvidence where
  Strands : List TStrand
  Fresh : List (List TStamp)
  deriving Inhabited, DecidableEq
@[simp] def TEvidence.row (x : TEvidence) : List Vm.D := [.sl 2 (x.Strands.map TStrand.row), .sl 1 (x.Fresh.map (slR 5 TStamp.row))]
instance : Cn TEvidence := ⟨fun x => cn x.Strands + cn x.Fresh⟩
theorem TEvidence.cn_eq (x : TEvidence) : cn x = cn x.Strands + cn x.Fresh := rfl
instance : Sz TEvidence := ⟨fun n x => Sm n x.Strands ∧ Sm n x.Fresh, fun n => ⟨Sz.zero n, Sz.zero n⟩, fun h k => ⟨Sz.mono h k.1, Sz.mono h k.2⟩⟩
@[simp] theorem TEvidence.sm_Strands {n : Nat} {x : TEvidence} (h : Sm n x) : Sm n x.Strands := h.1
@[simp] theorem TEvidence.sm_Fresh {n : Nat} {x : TEvidence} (h : Sm n x) : Sm n x.Fresh := h.2
@[simp] theorem TEvidence.sm_mk {n : Nat} {Strands' : List TStrand} {Fresh' : List (List TStamp)} : Sm n (TEvidence.mk Strands' Fresh') = (Sm n Strands' ∧ Sm n Fresh') := rfl
structure TStatus where
  Serial : Int
  AsOf : Int
  Ended : Int
  Issuer : Int
  Mark : Int
  deriving Inhabited, DecidableEq
@[simp] def TStatus.row (x : TStatus) : List Vm.D := [.int .i64 x.Serial, .int .i64 x.AsOf, .int .i64 x.Ended, .int .i64 x.Issuer, .int .i64 x.Mark]
instance : Cn TStatus := ⟨fun x => cn x.Serial + cn x.AsOf + cn x.Ended + cn x.Issuer + cn x.Mark⟩
theorem TStatus.cn_eq (x : TStatus) : cn x = cn x.Serial + cn x.AsOf + cn x.Ended + cn x.Issuer + cn x.Mark := rfl
instance : Sz TStatus := ⟨fun _ _ => True, fun _ => trivial, fun _ h => h⟩
@[simp] theorem TStatus.sm_all {n : Nat} {x : TStatus} : Sm n x := trivial
structure TParcel where
  From : Int
  To : Int
  Items : List TItem
  Digest : Int
  deriving Inhabited, DecidableEq
@[simp] def TParcel.row (x : TParcel) : List Vm.D := [.int .i64 x.From, .int .i64 x.To, .sl 16 (x.Items.map TItem.row), .int .i64 x.Digest]
instance : Cn TParcel := ⟨fun x => cn x.From + cn x.To + cn x.Items + cn x.Digest⟩
theorem TParcel.cn_eq (x : TParcel) : cn x = cn x.From + cn x.To + cn x.Items + cn x.Digest := rfl
instance : Sz TParcel := ⟨fun n x => Sm n x.Items, fun n => Sz.zero n, fun h k => Sz.mono h k⟩
@[simp] theorem TParcel.sm_Items {n : Nat} {x : TParcel} (h : Sm n x) : Sm n x.Items := h
@[simp] theorem TParcel.sm_mk {n : Nat} {From' : Int} {To' : Int} {Items' : List TItem} {Digest' : Int} : Sm n (TParcel.mk From' To' Items' Digest') = (Sm n Items') := rfl
structure TMandate where
  Org : Int
  Person : Int
  From : Int
  To : Int
  Key : Int
  Mark : Int
  deriving Inhabited, DecidableEq
@[simp] def TMandate.row (x : TMandate) : List Vm.D := [.int .i64 x.Org, .int .i64 x.Person, .int .i64 x.From, .int .i64 x.To, .int .i64 x.Key, .int .i64 x.Mark]
instance : Cn TMandate := ⟨fun x => cn x.Org + cn x.Person + cn x.From + cn x.To + cn x.Key + cn x.Mark⟩
theorem TMandate.cn_eq (x : TMandate) : cn x = cn x.Org + cn x.Person + cn x.From + cn x.To + cn x.Key + cn x.Mark := rfl
instance : Sz TMandate := ⟨fun _ _ => True, fun _ => trivial, fun _ h => h⟩
@[simp] theorem TMandate.sm_all {n : Nat} {x : TMandate} : Sm n x := trivial
end Go.Mo
namespace Go.Mo
open Go.Vm
theorem nth_lt {α : Type} [Inhabited α] {l : List α} {i : Nat} (h : i < l.length) : nth l i = l[i] := by simp [nth, h]
theorem nth_mem {α : Type} [Inhabited α] {l : List α} {i : Nat} (h : i < l.length) : nth l i ∈ l := by rw [nth_lt h]; exact List.getElem_mem h
theorem to_loop {α : Type} [Inhabited α] {F : Nat → Nat → List α → List α} {a : List α} {g : α → α} (hg : ∀ x, g x = x)
    (h1 : ∀ n i v, F (n + 1) i v = bif decide ((i : Int) < (a.length : Int)) then F n (i + 1) (v.set i (g (nth a i))) else v) :
    ∀ n i v, v.length = a.length → a.length < n + i → i ≤ a.length → (∀ j, j < i → v[j]? = a[j]?) → F n i v = a := by
  intro n
  induction n with
  | zero => intro i v _ h2 h3; omega
  | succ n ih =>
    intro i v hl h2 h3 hj
    rw [h1]
    by_cases hi : i < a.length
    · have : decide ((i : Int) < (a.length : Int)) = true := by simp [hi]
      rw [this, cond_true]
      refine ih _ _ (by simp [hl]) (by omega) hi (fun j hlt => ?_)
      rw [List.getElem?_set]
      by_cases hji : i = j
      · subst hji; simp [hl, hi, hg, nth_lt hi]
      · rw [if_neg hji]; exact hj j (by omega)
    · have : decide ((i : Int) < (a.length : Int)) = false := by simp; omega
      rw [this, cond_false]
      apply List.ext_getElem?
      intro j
      by_cases hji : j < i
      · exact hj j hji
      · rw [List.getElem?_eq_none (by omega), List.getElem?_eq_none (by omega)]
theorem copy_loop {α : Type} [Inhabited α] {F : Nat → List α → Nat → List α} {a : List α} {g : α → α} (hg : ∀ x, g x = x)
    (h1 : ∀ n v i, F (n + 1) v i = bif decide ((i : Int) < (a.length : Int)) then F n (v ++ [g (nth a i)]) (i + 1) else v) :
    ∀ n v i, a.length < n + i → i ≤ a.length → F n v i = v ++ a.drop i := by
  intro n
  induction n with
  | zero => intro v i h2 h3; omega
  | succ n ih =>
    intro v i h2 h3
    rw [h1]
    by_cases hi : i < a.length
    · rw [show decide ((i : Int) < (a.length : Int)) = true by simp [hi], cond_true, ih _ _ (by omega) hi, hg, nth_lt hi, List.append_assoc, List.singleton_append, ← List.drop_eq_getElem_cons hi]
    · rw [show decide ((i : Int) < (a.length : Int)) = false by simp; omega, cond_false, List.drop_eq_nil_of_le (by omega), List.append_nil]
theorem find_lt {F : Nat → Nat → Sum Int Unit} {L : Nat} {c : Nat → Bool} (h0 : ∀ i, F 0 i = .inr ())
    (h1 : ∀ n i, F (n + 1) i = bif decide ((i : Int) < (L : Int)) then (bif c i then .inl (i : Int) else F n (i + 1)) else .inr ()) :
    ∀ n i, (match F n i with | .inl r => r | .inr _ => -1) < (L : Int) := by
  intro n
  induction n with
  | zero => intro i; rw [h0]; show (-1 : Int) < _; omega
  | succ n ih =>
    intro i
    rw [h1]
    by_cases hi : (i : Int) < (L : Int)
    · rw [show decide ((i : Int) < (L : Int)) = true by simpa using hi, cond_true]
      cases hc : c i with
      | true => simpa using hi
      | false => exact ih (i + 1)
    · rw [show decide ((i : Int) < (L : Int)) = false by simpa using hi, cond_false]
      show (-1 : Int) < _; omega
theorem rowAt_set_self {rows : List (List Vm.D)} {i : Nat} {r : List Vm.D} (h : i < rows.length) : Vm.rowAt (rows.set i r) i = r := by simp [Vm.rowAt, h]
theorem forall_set {α : Type} {p : α → Prop} {l : List α} {i : Nat} {a : α} (h1 : ∀ x ∈ l, p x) (h2 : p a) : ∀ x ∈ l.set i a, p x := by
  intro x hx
  rcases List.mem_or_eq_of_mem_set hx with h | h
  · exact h1 x h
  · rw [h]; exact h2
theorem nth_set_self {α : Type} [Inhabited α] {l : List α} {i : Nat} {x : α} (h : i < l.length) : nth (l.set i x) i = x := by simp [nth, h]
/-- marks, from left to right -/
def mkL {α : Type} (f : α → Int → α × Int) : List α → Int → List α × Int
  | [], k => ([], k)
  | x :: l, k => ((f x k).1 :: (mkL f l (f x k).2).1, (mkL f l (f x k).2).2)
theorem mkL_len {α : Type} (f : α → Int → α × Int) : ∀ (l : List α) (k : Int), (mkL f l k).1.length = l.length
  | [], _ => rfl
  | x :: l, k => by simp [mkL, mkL_len f l]
theorem mark_loop {α : Type} [Inhabited α] {F : Nat → Int → Nat → List α → Int × List α} {f : α → Int → α × Int}
    (h1 : ∀ n k i v, F (n + 1) k i v = bif decide ((i : Int) < (v.length : Int)) then F n (f (nth v i) k).2 (i + 1) (v.set i (f (nth v i) k).1) else (k, v)) :
    ∀ (l pre : List α) (n : Nat) (k : Int), l.length < n → F n k pre.length (pre ++ l) = ((mkL f l k).2, pre ++ (mkL f l k).1) := by
  intro l
  induction l with
  | nil =>
    intro pre n k hn
    obtain ⟨m, rfl⟩ : ∃ m, n = m + 1 := ⟨n - 1, by simp at hn; omega⟩
    rw [h1]; simp [mkL]
  | cons x l ih =>
    intro pre n k hn
    obtain ⟨m, rfl⟩ : ∃ m, n = m + 1 := ⟨n - 1, by simp at hn; omega⟩
    have hx : nth (pre ++ x :: l) pre.length = x := by simp [nth]
    have hs : ∀ y, (pre ++ x :: l).set pre.length y = (pre ++ [y]) ++ l := by intro y; simp
    have hd : decide ((pre.length : Int) < ((pre ++ x :: l).length : Int)) = true := by simp; omega
    rw [h1, hd, cond_true, hx, hs]
    have := ih (pre ++ [(f x k).1]) m (f x k).2 (by simp at hn; omega)
    rw [List.length_append, List.length_singleton] at this
    rw [this]; simp [mkL]
theorem mkL_snd {α : Type} {f : α → Int → α × Int} {c : α → Nat} (hc : ∀ (x : α) (k : Int), 0 ≤ k → k + c x < 4611686018427387904 → (f x k).2 = k + c x) :
    ∀ (l : List α) (k : Int), 0 ≤ k → k + cnL c l < 4611686018427387904 → (mkL f l k).2 = k + cnL c l
  | [], k, _, _ => by simp [mkL, cnL]
  | x :: l, k, h0, h => by
    simp only [cnL, Int.natCast_add] at h
    have e := hc x k h0 (by omega)
    have := mkL_snd hc l (f x k).2 (by omega) (by omega)
    show (mkL f l (f x k).2).2 = _
    rw [this, e]; simp only [cnL, Int.natCast_add]; omega
theorem held_loop {α : Type} [Inhabited α] {z : List α} {H : Nat → Int → Nat → Sum Int Int} {G : α → Int → (Int → Sum Int Int) → Sum Int Int} {f : α → Int → α × Int} {c : α → Nat}
    (h1 : ∀ n k i, H (n + 1) k i = bif decide ((i : Int) < (z.length : Int)) then G (nth z i) k (fun k' => H n k' (i + 1)) else .inr k)
    (hc : ∀ (x : α) (k : Int), 0 ≤ k → k + c x < 4611686018427387904 → (f x k).2 = k + c x) (hG : ∀ (x : α) (k : Int) (r : Int → Sum Int Int), 0 ≤ k → k + c x < 4611686018427387904 → G (f x k).1 k r = r (f x k).2) :
    ∀ (l pre : List α) (n : Nat) (k : Int), z = pre ++ (mkL f l k).1 → l.length < n → 0 ≤ k → k + cnL c l < 4611686018427387904 → H n k pre.length = .inr (mkL f l k).2 := by
  intro l
  induction l with
  | nil =>
    intro pre n k hz hn _ _
    obtain ⟨m, rfl⟩ : ∃ m, n = m + 1 := ⟨n - 1, by simp at hn; omega⟩
    rw [h1]; simp [mkL] at hz; subst hz; simp [mkL]
  | cons x l ih =>
    intro pre n k hz hn h0 h
    obtain ⟨m, rfl⟩ : ∃ m, n = m + 1 := ⟨n - 1, by simp at hn; omega⟩
    simp only [cnL, Int.natCast_add] at h
    have e := hc x k h0 (by omega)
    have hx : nth z pre.length = (f x k).1 := by rw [hz]; simp [nth, mkL]
    have hd : decide ((pre.length : Int) < (z.length : Int)) = true := by rw [hz]; simp [mkL]; omega
    rw [h1, hd, cond_true, hx, hG x k _ h0 (by omega)]
    have := ih (pre ++ [(f x k).1]) m (f x k).2 (by rw [hz]; simp [mkL]) (by simp at hn; omega) (by omega) (by omega)
    rw [List.length_append, List.length_singleton] at this
    rw [this]; rfl
/-- a length that is reckoned off a purse -/
def SzOk {α : Type} [Inhabited α] [Sz α] (F : α → Int → Int) : Prop := ∀ a n, Sm maxLen a → 0 ≤ n → n ≤ 1048576 → ¬ F a n < 0 → Sm 1048576 a ∧ F a n ≤ 1048576
theorem W_sub {n : Int} {l : Nat} (h0 : 0 ≤ n) (hn : n ≤ 1048576) (hl : l ≤ maxLen) : W (n - l) = n - l := by
  have hl : l ≤ 9223372036854775807 := hl
  exact wrap_of (by omega) (by omega)
theorem sz_flat {α : Type} [Inhabited α] [Sz α] (hs : ∀ (n : Nat) (x : α), Sm n x) {F : List α → Int → Int} (hF : ∀ a n, F a n = bif decide (W (n - (a.length : Int)) < 0) then (-1) else W (n - (a.length : Int))) : SzOk F := by
  intro a n hm h0 hn h
  rw [hF, W_sub h0 hn hm.1] at h ⊢
  by_cases hc : n - (a.length : Int) < 0
  · rw [show decide (n - (a.length : Int) < 0) = true by simpa using hc, cond_true] at h; omega
  · rw [show decide (n - (a.length : Int) < 0) = false by simpa using hc, cond_false] at h ⊢
    exact ⟨⟨by omega, fun x _ => hs _ x⟩, by omega⟩
theorem sz_rec {α : Type} [Inhabited α] [Sz α] {E : α → Int → Int} (hE : SzOk E) {a : List α} (hm : Sm maxLen a) {G : Nat → Int → Nat → Sum Int Int}
    (h1 : ∀ n v i, G (n + 1) v i = bif decide ((i : Int) < (a.length : Int)) then (bif decide (E (nth a i) v < 0) then .inl (-1) else G n (E (nth a i) v) (i + 1)) else .inr v) :
    ∀ n v i, 0 ≤ v → v ≤ 1048576 → a.length < n + i → i ≤ a.length → ¬ (match G n v i with | .inl r => r | .inr z => z) < 0 → (∀ j, i ≤ j → j < a.length → Sm 1048576 (nth a j)) ∧ (match G n v i with | .inl r => r | .inr z => z) ≤ 1048576 := by
  intro n
  induction n with
  | zero => intro v i _ _ h2 h3; omega
  | succ n ih =>
    intro v i hv0 hv h2 h3 h
    rw [h1] at h ⊢
    by_cases hi : i < a.length
    · rw [show decide ((i : Int) < (a.length : Int)) = true by simp [hi], cond_true] at h ⊢
      by_cases hc : E (nth a i) v < 0
      · rw [show decide (E (nth a i) v < 0) = true by simpa using hc, cond_true] at h; simp at h
      · rw [show decide (E (nth a i) v < 0) = false by simpa using hc, cond_false] at h ⊢
        obtain ⟨e1, e2⟩ := hE (nth a i) v (hm.2 _ (nth_mem hi)) hv0 hv hc
        obtain ⟨r1, r2⟩ := ih _ (i + 1) (by omega) e2 (by omega) hi h
        refine ⟨fun j hj hjl => ?_, r2⟩
        by_cases hji : j = i
        · subst hji; exact e1
        · exact r1 j (by omega) hjl
    · rw [show decide ((i : Int) < (a.length : Int)) = false by simp; omega, cond_false] at h ⊢
      exact ⟨fun j hj hjl => by omega, hv⟩
theorem sz_loop {α : Type} [Inhabited α] [Sz α] {E : α → Int → Int} (hE : SzOk E) {F : List α → Int → Int} {G : List α → Nat → Int → Nat → Sum Int Int}
    (h1 : ∀ a n v i, G a (n + 1) v i = bif decide ((i : Int) < (a.length : Int)) then (bif decide (E (nth a i) v < 0) then .inl (-1) else G a n (E (nth a i) v) (i + 1)) else .inr v)
    (hF : ∀ a n, F a n = bif decide (W (n - (a.length : Int)) < 0) then (-1) else (match G a (a.length + 1) (W (n - (a.length : Int))) 0 with | .inl r => r | .inr z => z)) : SzOk F := by
  intro a n hm h0 hn h
  rw [hF, W_sub h0 hn hm.1] at h ⊢
  by_cases hc : n - (a.length : Int) < 0
  · rw [show decide (n - (a.length : Int) < 0) = true by simpa using hc, cond_true] at h; omega
  · rw [show decide (n - (a.length : Int) < 0) = false by simpa using hc, cond_false] at h ⊢
    obtain ⟨r1, r2⟩ := sz_rec hE hm (h1 a) (a.length + 1) _ 0 (by omega) (by omega) (by omega) (by omega) h
    refine ⟨⟨by omega, fun x hx => ?_⟩, r2⟩
    obtain ⟨j, hj, rfl⟩ := List.mem_iff_getElem.1 hx
    rw [← nth_lt hj]; exact r1 j (by omega) hj
theorem sz_string : SzOk (fun (s : ByteArray) n => W (n - (s.size : Int))) := by
  intro a n hm h0 hn h
  have hm : a.size ≤ maxLen := hm
  dsimp only at h ⊢
  rw [W_sub h0 hn hm] at h ⊢
  exact ⟨show a.size ≤ 1048576 by omega, by omega⟩
/-- the purse pays for the marks -/
def CzOk {α : Type} [Inhabited α] [Sz α] [Cn α] (F : α → Int → Int) (c : Nat) : Prop := ∀ a n, Sm maxLen a → 0 ≤ n → n ≤ 1048576 → ¬ F a n < 0 → (cn a : Int) ≤ 32 * (n - F a n) + c ∧ F a n ≤ n
theorem cnL_le {α : Type} {c : α → Nat} {m : Nat} (h : ∀ x, c x ≤ m) : ∀ l : List α, cnL c l ≤ m * l.length
  | [] => by simp [cnL]
  | x :: l => by have := cnL_le h l; have := h x; simp only [cnL, List.length_cons, Nat.mul_add]; omega
theorem cnL_ge {α : Type} {c : α → Nat} (h : ∀ x, 1 ≤ c x) : ∀ l : List α, l.length ≤ cnL c l
  | [] => by simp [cnL]
  | x :: l => by have := cnL_ge h l; have := h x; simp only [cnL, List.length_cons]; omega
theorem cnL_same {α : Type} {c : α → Nat} {m : Nat} (h : ∀ x, c x = m) : ∀ l : List α, cnL c l = m * l.length
  | [] => by simp [cnL]
  | x :: l => by simp only [cnL, h, cnL_same h l, List.length_cons, Nat.mul_add]; omega
theorem cn_ints (l : List Int) : cn l = l.length := by rw [cn_list, cnL_same (c := (cn : Int → Nat)) (m := 1) (fun _ => rfl)]; simp
theorem cond_cases {α : Type} {p : α → Prop} {c : Bool} {x y : α} (hx : p x) (hy : p y) : p (bif c then x else y) := by cases c; exact hy; exact hx
theorem cond_cases' {α : Type} {p : α → Prop} {c : Bool} {x y : α} (hx : c = true → p x) (hy : c = false → p y) : p (bif c then x else y) := by cases c; exact hy rfl; exact hx rfl
theorem filt_len {α : Type} {F : Nat → List α → Nat → List α} {L : Nat} {c : Nat → Bool} {g : Nat → α} (h0 : ∀ v i, F 0 v i = [])
    (h1 : ∀ n v i, F (n + 1) v i = bif decide ((i : Int) < (L : Int)) then (bif c i then F n (v ++ [g i]) (i + 1) else F n v (i + 1)) else v) : ∀ n v i, (F n v i).length ≤ v.length + (L - i) := by
  intro n
  induction n with
  | zero => intro v i; rw [h0]; simp
  | succ n ih =>
    intro v i
    rw [h1]
    by_cases hi : i < L
    · rw [show decide ((i : Int) < (L : Int)) = true by simp [hi], cond_true]
      cases c i with
      | true => have := ih (v ++ [g i]) (i + 1); rw [cond_true]; simp at this; omega
      | false => have := ih v (i + 1); rw [cond_false]; omega
    · rw [show decide ((i : Int) < (L : Int)) = false by simp; omega, cond_false]; omega
theorem grow_len {α : Type} {F : Nat → List α → Nat → List α} {L : Nat} {g : Nat → α} (h0 : ∀ v i, F 0 v i = [])
    (h1 : ∀ n v i, F (n + 1) v i = bif decide ((i : Int) < (L : Int)) then F n (v ++ [g i]) (i + 1) else v) : ∀ n v i, (F n v i).length ≤ v.length + (L - i) := by
  intro n
  induction n with
  | zero => intro v i; rw [h0]; simp
  | succ n ih =>
    intro v i
    rw [h1]
    by_cases hi : i < L
    · rw [show decide ((i : Int) < (L : Int)) = true by simp [hi], cond_true]
      have := ih (v ++ [g i]) (i + 1); simp at this; omega
    · rw [show decide ((i : Int) < (L : Int)) = false by simp; omega, cond_false]; omega
theorem sm_strand_app {n m : Nat} {s : TStrand} {r : TRenewal} (hn : n + 1 ≤ m) (h : Sm n s) (hr : Sm m r) : Sm m (TStrand.mk s.Pieces (s.Chain ++ [r])) := by
  refine ⟨sm_mono (by omega) h.1, ⟨?_, fun x hx => ?_⟩⟩
  · have := h.2.1; simp; omega
  · rcases List.mem_append.1 hx with hx | hx
    · exact sm_mono (by omega) (h.2.2 x hx)
    · simp at hx; subst hx; exact hr
theorem cz_flat {α : Type} [Inhabited α] [Sz α] [Cn α] (hs : ∀ x : α, cn x ≤ 32) {F : List α → Int → Int} (hF : ∀ a n, F a n = bif decide (W (n - (a.length : Int)) < 0) then (-1) else W (n - (a.length : Int))) : CzOk F 0 := by
  intro a n hm h0 hn h
  rw [hF, W_sub h0 hn hm.1] at h ⊢
  by_cases hc : n - (a.length : Int) < 0
  · rw [show decide (n - (a.length : Int) < 0) = true by simpa using hc, cond_true] at h; omega
  · rw [show decide (n - (a.length : Int) < 0) = false by simpa using hc, cond_false] at h ⊢
    have := cnL_le hs a
    rw [cn_list]; omega
theorem cz_rec {α : Type} [Inhabited α] [Sz α] [Cn α] {E : α → Int → Int} {c : Nat} (hE : CzOk E c) (hcc : c ≤ 32) {a : List α} (hm : Sm maxLen a) {G : Nat → Int → Nat → Sum Int Int}
    (h1 : ∀ n v i, G (n + 1) v i = bif decide ((i : Int) < (a.length : Int)) then (bif decide (E (nth a i) v < 0) then .inl (-1) else G n (E (nth a i) v) (i + 1)) else .inr v) :
    ∀ n v i, 0 ≤ v → v ≤ 1048576 → a.length < n + i → i ≤ a.length → ¬ (match G n v i with | .inl r => r | .inr z => z) < 0 →
      (cnL cn (a.drop i) : Int) ≤ 32 * (v - (match G n v i with | .inl r => r | .inr z => z)) + 32 * ((a.length : Int) - i) ∧ (match G n v i with | .inl r => r | .inr z => z) ≤ v := by
  intro n
  induction n with
  | zero => intro v i _ _ h2 h3; omega
  | succ n ih =>
    intro v i hv0 hv h2 h3 h
    rw [h1] at h ⊢
    by_cases hi : i < a.length
    · rw [show decide ((i : Int) < (a.length : Int)) = true by simp [hi], cond_true] at h ⊢
      by_cases hc : E (nth a i) v < 0
      · rw [show decide (E (nth a i) v < 0) = true by simpa using hc, cond_true] at h; simp at h
      · rw [show decide (E (nth a i) v < 0) = false by simpa using hc, cond_false] at h ⊢
        obtain ⟨e1, e2⟩ := hE (nth a i) v (hm.2 _ (nth_mem hi)) hv0 hv hc
        obtain ⟨r1, r2⟩ := ih _ (i + 1) (by omega) (by omega) (by omega) hi h
        rw [List.drop_eq_getElem_cons hi, cnL, ← nth_lt hi]
        refine ⟨?_, by omega⟩
        simp only [Int.natCast_add] at r1 ⊢
        omega
    · rw [show decide ((i : Int) < (a.length : Int)) = false by simp; omega, cond_false] at h ⊢
      rw [List.drop_eq_nil_of_le (by omega)]
      simp only [cnL]
      exact ⟨by omega, by omega⟩
theorem cz_loop {α : Type} [Inhabited α] [Sz α] [Cn α] {E : α → Int → Int} {c : Nat} (hE : CzOk E c) (hcc : c ≤ 32) {F : List α → Int → Int} {G : List α → Nat → Int → Nat → Sum Int Int}
    (h1 : ∀ a n v i, G a (n + 1) v i = bif decide ((i : Int) < (a.length : Int)) then (bif decide (E (nth a i) v < 0) then .inl (-1) else G a n (E (nth a i) v) (i + 1)) else .inr v)
    (hF : ∀ a n, F a n = bif decide (W (n - (a.length : Int)) < 0) then (-1) else (match G a (a.length + 1) (W (n - (a.length : Int))) 0 with | .inl r => r | .inr z => z)) : CzOk F 0 := by
  intro a n hm h0 hn h
  rw [hF, W_sub h0 hn hm.1] at h ⊢
  by_cases hc : n - (a.length : Int) < 0
  · rw [show decide (n - (a.length : Int) < 0) = true by simpa using hc, cond_true] at h; omega
  · rw [show decide (n - (a.length : Int) < 0) = false by simpa using hc, cond_false] at h ⊢
    obtain ⟨r1, r2⟩ := cz_rec hE hcc hm (h1 a) (a.length + 1) _ 0 (by omega) (by omega) (by omega) (by omega) h
    rw [List.drop_zero] at r1
    rw [cn_list]
    exact ⟨by omega, by omega⟩
theorem cz_string : CzOk (fun (s : ByteArray) n => W (n - (s.size : Int))) 1 := by
  intro a n hm h0 hn h
  have hm : a.size ≤ maxLen := hm
  dsimp only at h ⊢
  rw [W_sub h0 hn hm] at h ⊢
  rw [cn_str]
  exact ⟨by omega, by omega⟩
end Go.Mo
namespace Go.Mo
open Go.Vm
theorem eq_loop {F : Nat → Nat → Sum Bool Unit} {L : Nat} {c : Nat → Bool} (hc : ∀ i, c i = false) (h0 : ∀ i, F 0 i = .inr ())
    (h1 : ∀ n i, F (n + 1) i = bif decide ((i : Int) < (L : Int)) then (bif c i then .inl false else F n (i + 1)) else .inr ()) : ∀ n i, F n i = .inr () := by
  intro n
  induction n with
  | zero => exact h0
  | succ n ih =>
    intro i
    rw [h1, hc, cond_false, ih]
    cases decide ((i : Int) < (L : Int)) <;> rfl
end Go.Mo
namespace Go.Mo
open Go.Vm
theorem W_def (n : Int) : W n = (n + 9223372036854775808) % 18446744073709551616 - 9223372036854775808 := IntKind.wrap_i64 n
theorem W_W (a : Int) : W (W a) = W a := by simp only [W_def]; omega
theorem W_add_l (a b : Int) : W (W a + b) = W (a + b) := by simp only [W_def]; omega
theorem W_add_r (a b : Int) : W (a + W b) = W (a + b) := by simp only [W_def]; omega
/-- the sum of so many, from a place on -/
def sumFrom (x : Nat → Int) : Nat → Nat → Int
  | 0, _ => 0
  | k + 1, i => x i + sumFrom x k (i + 1)
theorem acc_loop {F : Nat → Int → Nat → Int} {L : Nat} {x : Nat → Int} {s : Int → Nat → Int} (hs : ∀ v i, s v i = W (v + x i))
    (h1 : ∀ n v i, F (n + 1) v i = bif decide ((i : Int) < (L : Int)) then F n (s v i) (i + 1) else v) :
    ∀ n v i, L < n + i → i ≤ L → W v = v → F n v i = W (v + sumFrom x (L - i) i) := by
  intro n
  induction n with
  | zero => intro v i h h3; omega
  | succ n ih =>
    intro v i h h3 hv
    rw [h1]
    by_cases hi : i < L
    · rw [show decide ((i : Int) < (L : Int)) = true by simp [hi], cond_true, hs, ih _ _ (by omega) (by omega) (W_W _), W_add_l, show L - i = (L - (i + 1)) + 1 by omega, sumFrom, Int.add_assoc]
    · rw [show decide ((i : Int) < (L : Int)) = false by simp; omega, cond_false, show L - i = 0 by omega, sumFrom, Int.add_zero, hv]
theorem eq_list {α : Type} [Inhabited α] [DecidableEq α] {F : Nat → Nat → Sum Bool Unit} {a b : List α} {c : Nat → Bool} (hl : a.length = b.length) (hc : ∀ i, c i = !decide (nth a i = nth b i)) (h0 : ∀ i, F 0 i = .inr ())
    (h1 : ∀ n i, F (n + 1) i = bif decide ((i : Int) < (a.length : Int)) then (bif c i then .inl false else F n (i + 1)) else .inr ()) :
    F (a.length + 1) 0 = if a = b then .inr () else .inl false := by
  have key : ∀ n i, a.length < n + i → F n i = if a.drop i = b.drop i then .inr () else .inl false := by
    intro n
    induction n with
    | zero =>
      intro i h
      rw [h0, List.drop_eq_nil_of_le (by omega), List.drop_eq_nil_of_le (by omega), if_pos rfl]
    | succ n ih =>
      intro i h
      rw [h1]
      by_cases hi : i < a.length
      · have hib : i < b.length := by omega
        rw [show decide ((i : Int) < (a.length : Int)) = true by simp [hi], cond_true, hc, List.drop_eq_getElem_cons hi, List.drop_eq_getElem_cons hib, nth_lt hi, nth_lt hib]
        by_cases he : a[i] = b[i]
        · rw [he, show decide (b[i] = b[i]) = true by simp, Bool.not_true, cond_false, ih _ (by omega)]
          simp only [List.cons.injEq, true_and]
        · rw [show decide (a[i] = b[i]) = false by simp [he], if_neg (fun hh => he (List.cons.inj hh).1)]
          rfl
      · rw [show decide ((i : Int) < (a.length : Int)) = false by simp; omega, cond_false, List.drop_eq_nil_of_le (by omega), List.drop_eq_nil_of_le (by omega), if_pos rfl]
  have := key (a.length + 1) 0 (by omega)
  simpa using this
theorem eq_fn {α : Type} [Inhabited α] [DecidableEq α] {F : Nat → Nat → Sum Bool Unit} {a b : List α} {c : Nat → Bool} (hc : ∀ i, c i = !decide (nth a i = nth b i)) (h0 : ∀ i, F 0 i = .inr ())
    (h1 : ∀ n i, F (n + 1) i = bif decide ((i : Int) < (a.length : Int)) then (bif c i then .inl false else F n (i + 1)) else .inr ()) :
    (bif ((a.length : Int) != (b.length : Int)) then false else (match F (a.length + 1) 0 with | .inl r => r | .inr _ => true)) = decide (a = b) := by
  by_cases hl : a.length = b.length
  · rw [eq_list hl hc h0 h1]
    simp only [hl, bne_self_eq_false, cond_false]
    by_cases h : a = b <;> simp [h]
  · have hne : a ≠ b := fun h => hl (by rw [h])
    have : ((a.length : Int) != (b.length : Int)) = true := by simp; omega
    rw [this, cond_true]; simp [hne]
end Go.Mo
namespace Go.Mo
open Go.Vm
theorem rows_dec {α : Type} [Inhabited α] [Sz α] {f : α → List D} {n : Nat} : ∀ {rows : List (List D)}, (∀ r, r ∈ rows → ∃ x : α, r = f x ∧ Sm n x) → ∃ l : List α, rows = l.map f ∧ ∀ x ∈ l, Sm n x
  | [], _ => ⟨[], rfl, fun _ h => by cases h⟩
  | r :: rows, h => by
    obtain ⟨x, hx, sx⟩ := h r (by simp)
    obtain ⟨l, hl, sl⟩ := rows_dec (rows := rows) (fun r hr => h r (by simp [hr]))
    refine ⟨x :: l, by simp [hx, hl], fun y hy => ?_⟩
    rcases List.mem_cons.1 hy with rfl | hy
    · exact sx
    · exact sl y hy
theorem drop_cut (row : List D) (o s : Nat) : row.drop o = cut row o s ++ row.drop (o + s) := by
  rw [← List.drop_drop, cut, List.take_append_drop]
end Go.Mo
namespace Go.Mo
open Go.Vm
theorem tyAll_cons {P : Program} {n : Nat} {t : TypeId} {ts : List TypeId} : ∀ {rows : List (List D)}, TyAll P n (t :: ts) rows → ∃ r rs, rows = r :: rs ∧ TyR P n t r ∧ TyAll P n ts rs
  | r :: rs, h => ⟨r, rs, rfl, h.1, h.2⟩
  | [], h => h.elim
theorem tyAll_nil {P : Program} {n : Nat} : ∀ {rows : List (List D)}, TyAll P n [] rows → rows = []
  | [], _ => rfl
  | _ :: _, h => h.elim
end Go.Mo
namespace Go.Mo
open Go.Vm
@[simp] theorem bRows (l : List UInt8) : byteRows l = l.map bR := rfl
@[simp] theorem u8_ofInt (x : Int) : ((UInt8.ofInt x).toNat : Int) = IntKind.u8.wrap x := by
  rw [IntKind.wrap_u8]
  simp [UInt8.ofInt]
  omega
theorem W_tdiv10 (x : Int) : (W (Int.tdiv x 10)).natAbs ≤ 9223372036854775808 ∧ (W (Int.tdiv x 10)).natAbs ≤ x.natAbs / 10 := by
  rw [W_def]
  have : (Int.tdiv x 10).natAbs = x.natAbs / 10 := by rw [Int.natAbs_tdiv]; rfl
  omega
theorem fmt_step {x : Int} {n : Nat} (h : n + 1 = 21 ∨ x.natAbs < 10 ^ (n + 1)) : (W (Int.tdiv x 10)).natAbs < 10 ^ n := by
  obtain ⟨h1, h2⟩ := W_tdiv10 x
  rcases h with h | h
  · have : n = 20 := by omega
    subst this
    have : (10 : Nat) ^ 20 = 100000000000000000000 := by decide
    omega
  · rw [Nat.pow_succ] at h; omega
end Go.Mo
namespace Go.Mo
open Go.Vm
theorem fmt_s {p : Nat} {x : Int} (hj : p + 1 = 22 ∨ x.natAbs < 10 ^ (p + 1 - 1)) (hx : (x != 0) = true) : 1 ≤ p ∧ (p = 22 ∨ (W (Int.tdiv x 10)).natAbs < 10 ^ (p - 1)) := by
  have hx : x ≠ 0 := by simpa using hx
  have hp : 1 ≤ p := by
    rcases hj with h | h
    · omega
    · rcases Nat.eq_zero_or_pos p with hz | hz
      · subst hz; simp at h; exact absurd h hx
      · exact hz
  refine ⟨hp, .inr ?_⟩
  obtain ⟨q, rfl⟩ : ∃ q, p = q + 1 := ⟨p - 1, by omega⟩
  exact fmt_step (x := x) (n := q) (hj.elim (fun h => .inl (by omega)) (fun h => .inr (by simpa using h)))
theorem fmt_i {p : Nat} {x : Int} (hj : p + 1 = 21 ∨ x.natAbs < 10 ^ (p + 1)) (hx : ((W (Int.tdiv x 10)) == 0) = false) : 1 ≤ p ∧ (p = 21 ∨ (W (Int.tdiv x 10)).natAbs < 10 ^ p) := by
  have hx : W (Int.tdiv x 10) ≠ 0 := by simpa using hx
  have h := fmt_step hj
  refine ⟨?_, .inr h⟩
  rcases Nat.eq_zero_or_pos p with hz | hz
  · subst hz; simp at h; exact absurd h hx
  · exact hz
end Go.Mo
namespace Go.Mo
open Go.Vm
@[simp] theorem take_all {α : Type} {l : List α} {n : Nat} (h : l.length ≤ n) : List.take n l = l := List.take_of_length_le h
@[simp] theorem take_len_map {α β : Type} (f : α → β) (l : List α) : List.take l.length (List.map f l) = List.map f l := List.take_of_length_le (by simp)
@[simp] theorem one_add_nat (n : Nat) : 1 + n = n + 1 := Nat.add_comm 1 n
@[simp] theorem take_c2 {α β : Type} (f : α → β) (l : List α) (x y : β) : List.take (2 + l.length) (x :: y :: List.map f l) = x :: y :: List.map f l := List.take_of_length_le (by simp; omega)
@[simp] theorem take_c3 {α β : Type} (f : α → β) (l : List α) (x y z : β) : List.take (3 + l.length) (x :: y :: z :: List.map f l) = x :: y :: z :: List.map f l := List.take_of_length_le (by simp; omega)
@[simp] theorem take_c4 {α β : Type} (f : α → β) (l : List α) (x y z u : β) : List.take (4 + l.length) (x :: y :: z :: u :: List.map f l) = x :: y :: z :: u :: List.map f l := List.take_of_length_le (by simp; omega)
@[simp] theorem take_c5 {α β : Type} (f : α → β) (l : List α) (x y z u v : β) : List.take (5 + l.length) (x :: y :: z :: u :: v :: List.map f l) = x :: y :: z :: u :: v :: List.map f l := List.take_of_length_le (by simp; omega)
@[simp] theorem take_c6 {α β : Type} (f : α → β) (l : List α) (x y z u v w : β) : List.take (6 + l.length) (x :: y :: z :: u :: v :: w :: List.map f l) = x :: y :: z :: u :: v :: w :: List.map f l := List.take_of_length_le (by simp; omega)
theorem W_sub1 (n : Nat) (h : n ≤ 9223372036854775807) : W ((n : Int) - 1) = (n : Int) - 1 := wrap_of (by omega) (by omega)
end Go.Mo
namespace Go.Mo
@[simp] theorem ba_size (a : Array UInt8) : (ByteArray.mk a).size = a.size := rfl
@[simp] theorem take_ins {α : Type} {l : List α} {x : α} {v n : Nat} (h : l.length = n) : List.take (min v n + 1 + (n - v)) (List.take v l ++ x :: List.drop v l) = List.take v l ++ x :: List.drop v l := by
  apply List.take_of_length_le; simp; omega
@[simp] theorem min_ins (a b : Nat) : (min a b + 1 + (b - a) = min a b + (b - a + 1)) = True := by simp; omega
theorem sm_set {α : Type} [Inhabited α] [Sz α] {n i : Nat} {l : List α} {x : α} (h : Sm n l) (hx : Sm n x) : Sm n (l.set i x) :=
  ⟨by simpa using h.1, fun y hy => by
    rcases List.mem_or_eq_of_mem_set hy with hy | rfl
    · exact h.2 y hy
    · exact hx⟩
theorem sm_snoc {α : Type} [Inhabited α] [Sz α] {n : Nat} {l : List α} {x : α} (h : Sm n l) (hx : Sm (n + 1) x) : Sm (n + 1) (l ++ [x]) :=
  ⟨by have := h.1; simp; omega, fun y hy => by
    rcases List.mem_append.1 hy with hy | hy
    · exact sm_mono (Nat.le_succ n) (h.2 y hy)
    · simp at hy; rw [hy]; exact hx⟩
theorem cond_tf {α : Type} (a b : α) : cond true a b = a ∧ cond false a b = b := ⟨rfl, rfl⟩
theorem cond_t {α : Type} (a b : α) : cond true a b = a := (cond_tf a b).1
theorem cond_f {α : Type} (a b : α) : cond false a b = b := (cond_tf a b).2
/-- a side condition that is found by itself -/
theorem sd {a b : Prop} (h : b) (k : a := by (intros; first | omega | ((try simp only [Go.Mo.W_def, show ∀ x, Go.IntKind.i64.wrap x = Go.Vm.W x from fun _ => rfl] at *); omega))) : a ∧ b := ⟨k, h⟩
theorem sdg {a b : Prop} (h : b) (k : a := by (intros; first | omega | (simp_all; done) | (simp_all; omega) | grind | ((try simp only [Go.Mo.W_def, show ∀ x, Go.IntKind.i64.wrap x = Go.Vm.W x from fun _ => rfl] at *); omega))) : a ∧ b := ⟨k, h⟩
theorem il {a b : Nat} (h : a < b := by first | omega | (simp only [decide_eq_true_eq, decide_eq_false_iff_not, beq_iff_eq, beq_eq_false_iff_ne, bne_iff_ne, ne_eq, Bool.or_eq_false_iff, Bool.not_eq_true', Bool.not_eq_false'] at *; omega) | (simp_all [List.length_pos_iff]; done) | (simp; omega) | (simp_all; omega) | ((try simp only [Go.Mo.W_def, show ∀ x, Go.IntKind.i64.wrap x = Go.Vm.W x from fun _ => rfl] at *); omega) | (simp; (try simp only [Go.Mo.W_def, show ∀ x, Go.IntKind.i64.wrap x = Go.Vm.W x from fun _ => rfl] at *); omega)) : a < b := h
theorem sg {α : Type} [Inhabited α] [Sz α] {n m : Nat} {x : α} (h : Sm n x) (k : n ≤ m := by decide) : Sm m x := sm_mono k h
theorem cnL_set {α : Type} (c : α → Nat) : ∀ (l : List α) (i : Nat) (x : α), cnL c (l.set i x) ≤ cnL c l + c x
  | [], _, _ => by simp [cnL]
  | y :: l, 0, x => by simp only [List.set_cons_zero, cnL]; omega
  | y :: l, i + 1, x => by have := cnL_set c l i x; simp only [List.set_cons_succ, cnL]; omega
theorem cnL_nth {α : Type} [Inhabited α] (c : α → Nat) : ∀ (l : List α) (i : Nat), c (Vm.nth l i) ≤ cnL c l + c default
  | [], _ => by simp [Vm.nth, cnL]
  | y :: l, 0 => by simp only [Vm.nth, List.getD_cons_zero, cnL]; omega
  | y :: l, i + 1 => by have := cnL_nth c l i; simp only [Vm.nth, List.getD_cons_succ, cnL] at this ⊢; omega
theorem cnL_append {α : Type} (c : α → Nat) : ∀ (l m : List α), cnL c (l ++ m) = cnL c l + cnL c m
  | [], m => by simp [cnL]
  | y :: l, m => by have := cnL_append c l m; simp only [List.cons_append, cnL]; omega
theorem world_set_cn (a0 : TWorld) (i : Nat) (x : TArchive) (b : Bool) : cn ((TWorld.mk a0.Frame a0.Certs a0.Ended (a0.Archives.set i x) a0.Seqs a0.Lying a0.Next a0.Forged), b).1 ≤ cn a0 + cn x := by
  have := cnL_set (cn : TArchive → Nat) a0.Archives i x
  simp only [TWorld.cn_eq, cn_list] at this ⊢; omega
theorem world_nth_cn (a0 : TWorld) (i : Nat) : cn (Vm.nth a0.Archives i) ≤ cn a0 + 100 := by
  have h1 := cnL_nth (cn : TArchive → Nat) a0.Archives i
  have hd : cn (default : TArchive) ≤ 100 := Nat.le_of_ble_eq_true rfl
  simp only [TWorld.cn_eq, cn_list] at h1 ⊢; omega
theorem drop_nthG {α : Type} [Inhabited α] {l : List α} {i : Nat} (h : i < l.length) : l.drop i = Vm.nth l i :: l.drop (i + 1) := by
  rw [List.drop_eq_getElem_cons h]; simp [Vm.nth, List.getD_eq_getElem?_getD, List.getElem?_eq_getElem h]
theorem cnL_dropG {α : Type} [Inhabited α] (c : α → Nat) {l : List α} {i : Nat} (h : i < l.length) : cnL c (l.drop i) = c (Vm.nth l i) + cnL c (l.drop (i + 1)) := by rw [drop_nthG h]; rfl
theorem cnL_mono {α : Type} {c d : α → Nat} (h : ∀ x, c x ≤ d x) : ∀ l : List α, cnL c l ≤ cnL d l
  | [] => Nat.le_refl _
  | x :: l => Nat.add_le_add (h x) (cnL_mono h l)
theorem cnL_map {α β : Type} (c : β → Nat) (f : α → β) : ∀ l : List α, cnL c (l.map f) = cnL (fun x => c (f x)) l
  | [] => rfl
  | x :: l => by simp only [List.map_cons, cnL, cnL_map c f l]
theorem cnL_flat {α β : Type} (c : β → Nat) (f : α → List β) : ∀ l : List α, cnL c (l.flatMap f) = cnL (fun x => cnL c (f x)) l
  | [] => rfl
  | x :: l => by simp only [List.flatMap_cons, cnL, cnL_append, cnL_flat c f l]
theorem flat_len {α β : Type} (f : α → List β) : ∀ l : List α, (l.flatMap f).length = cnL (fun x => (f x).length) l
  | [] => rfl
  | x :: l => by simp only [List.flatMap_cons, List.length_append, cnL, flat_len f l]
theorem app_loop {α β : Type} [Inhabited α] {as : List α} (f : α → List β) {F : Nat → Nat → List β → List β} (h1 : ∀ n i l, F (n + 1) i l = bif decide ((i : Int) < (as.length : Int)) then F n (i + 1) (l ++ f (Vm.nth as i)) else l) : ∀ n i l, as.length < n + i → i ≤ as.length → F n i l = l ++ (as.drop i).flatMap f
  | 0, i, l, h, h2 => by omega
  | n + 1, i, l, h, h2 => by
    rw [h1]
    by_cases hi : i < as.length
    · rw [show decide ((i : Int) < (as.length : Int)) = true by simpa using hi, cond_t, app_loop f h1 n (i + 1) _ (by omega) hi, drop_nthG hi]; simp
    · rw [show decide ((i : Int) < (as.length : Int)) = false by simpa using hi, cond_f, List.drop_eq_nil_of_le (by omega)]; simp
theorem flat_one {α β : Type} (f : α → β) : ∀ l : List α, l.flatMap (fun a => [f a]) = l.map f
  | [] => rfl
  | x :: l => by rw [List.flatMap_cons, flat_one f l]; rfl
end Go.Mo
