/- The plain data of the program, typed, and fZ they read as rows of the abstract machine. No condition. -/
import Derived.Test.YthecodaabaaaoaaGreatVe
import Derived.Laws.BitsLemmas
namespace Go.Mo
open Go.Vm
variable{n i L m i':Nat}{ef l:List ByteArray}{eg Ints' Seqs' Ids' aU aV bB fN:List Int}{Id' cj Method' Digest' Count' Liars' Root' Mark' Keep' Next' Kind' From' Now' Key' To' A' B' C' D' h':Int}{dw:List (List Int)}{b':List UInt8}{aW:List Bool}{s:ByteArray}{a b q:Prop}
@[simp] def iR (n : Int) : List Vm.D := [.int .i64 n]
@[simp] def bR (b : UInt8) : List Vm.D := [.int .u8 (b.toNat : Int)]
@[simp] def lR (b : Bool) : List Vm.D := [.bool b]
@[simp] def sR (s : ByteArray) : List Vm.D := [.str s]
@[simp] def slR {α : Type} (n : Nat) (f : α -> List D) (m : List α) : List Vm.D := [.sl n (m.map f)]
/-- everything in it is at most so long -/
class Sz(α:Type)[Inhabited α] where
  sm:Nat->α->Prop
  zero:∀n,sm n default
  mono:∀{n m:Nat}{x:α},n<=m->sm n x->sm m x
/-- fZ many marks it takes -/
class Cn(α:Type) where
  cn:α->Nat
abbrev cn{α:Type}[Cn α](x:α):Nat:=Cn.cn x
def cnL{α:Type}(c:α->Nat):List α->Nat
  |[]=>0
  |x::l=>c x+cnL c l
instance:Cn Int:=⟨fun _=>1⟩
instance:Cn Bool:=⟨fun _=>1⟩
instance:Cn UInt8:=⟨fun _=>1⟩
instance:Cn ByteArray:=⟨fun _=>1⟩
instance{α:Type}[Cn α]:Cn (List α):=⟨cnL Cn.cn⟩
abbrev Sm{α:Type}[Inhabited α][Sz α](n:Nat)(x:α):Prop:=Sz.sm n x
instance:Sz Int:=⟨fun _ _=>True,fun _=>trivial,fun _ h=>h⟩
instance:Sz Bool:=⟨fun _ _=>True,fun _=>trivial,fun _ h=>h⟩
instance:Sz UInt8:=⟨fun _ _=>True,fun _=>trivial,fun _ h=>h⟩
instance:Sz ByteArray:=⟨fun n s=>s.size<=n,fun _=>Nat.zero_le _,fun h k=>Nat.le_trans k h⟩
instance{α:Type}[Inhabited α][Sz α]:Sz (List α):=⟨fun n l=>l.length<=n/\∀x∈l,Sz.sm n x,fun _=>⟨Nat.zero_le _,fun _ h=>by cases h⟩,fun h k=>⟨Nat.le_trans k.1 h,fun x hx=>Sz.mono h (k.2 x hx)⟩⟩
theorem XM{α:Type}[Inhabited α][Sz α]{l:List α}:Sm n l=(l.length<=n/\∀x∈l,Sm n x):=rfl
theorem YQ{α:Type}[Inhabited α][Sz α]{l:List α}(h:Sm n l):l.length<=n:=h.1
theorem D3(h:Sm n s):s.size<=n:=h
@[simp] theorem mh {x : Int} : Sm n x := trivial
@[simp] theorem mS {x : Bool} : Sm n x := trivial
@[simp] theorem lM {x : UInt8} : Sm n x := trivial
@[simp] theorem xJ {α : Type} [Inhabited α] [Sz α] : Sm n ([] : List α) := ⟨Nat.zero_le _, fun _ h => by cases h⟩
@[simp] theorem Zr {α : Type} [Inhabited α] [Sz α] {l : List α} (h : Sm n l) : Sm n (nth l i) := by
  unfold nth;rw[List.getD_eq_getElem?_getD];cases hh:l[i]? with
  |none=>exact Sz.zero n
  |some x=>exact h.2 x (List.mem_of_getElem? hh)
@[simp] theorem vy {α : Type} [Inhabited α] [Sz α] {l : List α} (h : Sm n l) : Sm n (l.take i) := ⟨Nat.le_trans zAo h.1, fun x hx => h.2 x (List.mem_of_mem_take hx)⟩
@[simp] theorem p7 {α : Type} [Inhabited α] [Sz α] {l : List α} (h : Sm n l) : Sm n (l.drop i) := ⟨Nat.le_trans zAE h.1, fun x hx => h.2 x (List.mem_of_mem_drop hx)⟩
theorem SA{α:Type}[Inhabited α][Sz α]{l m:List α}:Sm n (l++m)=(l.length+m.length<=n/\(∀x∈l,Sm n x)/\∀x∈m,Sm n x):=by
  rw[XM];simp[or_imp,forall_and]
theorem ZQ{α:Type}[Inhabited α][Sz α]{x:α}(h:n<=m)(k:Sm n x):Sm m x:=Sz.mono h k
structure Zm where
  Authority:Int
  Seq:Int
  Time:Int
  QL:Int
  Mark:Int
  deriving Inhabited,DecidableEq
variable{aX:List (List Zm)}{cy:List Zm}
@[simp] def Zm.row (x : Zm) : List Vm.D := [.int .i64 x.Authority, .int .i64 x.Seq, .int .i64 x.Time, .int .i64 x.QL, .int .i64 x.Mark]
instance:Cn Zm:=⟨fun x=>cn x.Authority+cn x.Seq+cn x.Time+cn x.QL+cn x.Mark⟩
instance:Sz Zm:=⟨fun _ _=>True,fun _=>trivial,fun _ h=>h⟩
@[simp] theorem Zm.Tw {x : Zm} : Sm n x := trivial
structure X8 where
  QL:Int
  Left:Bool
  deriving Inhabited,DecidableEq
variable{Path':List X8}
@[simp] def X8.row (x : X8) : List Vm.D := [.int .i64 x.QL, .bool x.Left]
instance:Cn X8:=⟨fun x=>cn x.QL+cn x.Left⟩
instance:Sz X8:=⟨fun _ _=>True,fun _=>trivial,fun _ h=>h⟩
@[simp] theorem X8.Tw {x : X8} : Sm n x := trivial
structure Zb where
  Count:Int
  Method:Int
  BQ:Int
  Path:List X8
  YW:List Zm
  deriving Inhabited,DecidableEq
variable{aQ:List Zb}
@[simp] def Zb.row (x : Zb) : List Vm.D := [.int .i64 x.Count, .int .i64 x.Method, .int .i64 x.BQ, .sl 2 (x.Path.map X8.row), .sl 5 (x.YW.map Zm.row)]
instance:Cn Zb:=⟨fun x=>cn x.Count+cn x.Method+cn x.BQ+cn x.Path+cn x.YW⟩
instance:Sz Zb:=⟨fun n x=>Sm n x.Path/\Sm n x.YW,fun n=>⟨Sz.zero n,Sz.zero n⟩,fun h k=>⟨Sz.mono h k.1,Sz.mono h k.2⟩⟩
@[simp] theorem Zb.mR {x : Zb} (h : Sm n x) : Sm n x.Path := h.1
@[simp] theorem Zb.Ew {x : Zb} (h : Sm n x) : Sm n x.YW := h.2
@[simp] theorem Zb.TL : Sm n (Zb.mk Count' Method' Root' Path' cy) = (Sm n Path' /\ Sm n cy) := rfl
structure Y4 where
  Number:Int
  jE:Int
  Method:Int
  VO:Int
  PB:Int
  deriving Inhabited,DecidableEq
variable{Keys':List Y4}
@[simp] def Y4.row (x : Y4) : List Vm.D := [.int .i64 x.Number, .int .i64 x.jE, .int .i64 x.Method, .int .i64 x.VO, .int .i64 x.PB]
instance:Cn Y4:=⟨fun x=>cn x.Number+cn x.jE+cn x.Method+cn x.VO+cn x.PB⟩
instance:Sz Y4:=⟨fun _ _=>True,fun _=>trivial,fun _ h=>h⟩
@[simp] theorem Y4.Tw {x : Y4} : Sm n x := trivial
structure Zi where
  Id:Int
  Key:Int
  Error:Int
  deriving Inhabited,DecidableEq
variable{ft:List Zi}
@[simp] def Zi.row (x : Zi) : List Vm.D := [.int .i64 x.Id, .int .i64 x.Key, .int .i64 x.Error]
instance:Cn Zi:=⟨fun x=>cn x.Id+cn x.Key+cn x.Error⟩
instance:Sz Zi:=⟨fun _ _=>True,fun _=>trivial,fun _ h=>h⟩
@[simp] theorem Zi.Tw {x : Zi} : Sm n x := trivial
structure YH where
  Id:Int
  Lz:Int
  Ends:Int
  On:Int
  deriving Inhabited,DecidableEq
@[simp] def YH.row (x : YH) : List Vm.D := [.int .i64 x.Id, .int .i64 x.Lz, .int .i64 x.Ends, .int .i64 x.On]
instance:Cn YH:=⟨fun x=>cn x.Id+cn x.Lz+cn x.Ends+cn x.On⟩
instance:Sz YH:=⟨fun _ _=>True,fun _=>trivial,fun _ h=>h⟩
@[simp] theorem YH.Tw {x : YH} : Sm n x := trivial
structure ZO where
  Zt:List Y4
  ZC:List Zi
  Methods:List YH
  XJ:Int
  Now:Int
  deriving Inhabited,DecidableEq
variable{aS:ZO}
@[simp] def ZO.row (x : ZO) : List Vm.D := [.sl 5 (x.Zt.map Y4.row), .sl 3 (x.ZC.map Zi.row), .sl 4 (x.Methods.map YH.row), .int .i64 x.XJ, .int .i64 x.Now]
instance:Cn ZO:=⟨fun x=>cn x.Zt+cn x.ZC+cn x.Methods+cn x.XJ+cn x.Now⟩
instance:Sz ZO:=⟨fun n x=>Sm n x.Zt/\Sm n x.ZC/\Sm n x.Methods,fun n=>⟨Sz.zero n,Sz.zero n,Sz.zero n⟩,fun h k=>⟨Sz.mono h k.1,Sz.mono h k.2.1,Sz.mono h k.2.2⟩⟩
@[simp] theorem ZO.Xb {x : ZO} (h : Sm n x) : Sm n x.Zt := h.1
@[simp] theorem ZO.XW {x : ZO} (h : Sm n x) : Sm n x.ZC := h.2.1
@[simp] theorem ZO.QA {x : ZO} (h : Sm n x) : Sm n x.Methods := h.2.2
@[simp] theorem ZO.TL {fN : List YH} : Sm n (ZO.mk Keys' ft fN Liars' Now') = (Sm n Keys' /\ Sm n ft /\ Sm n fN) := rfl
structure YN where
  Za:Int
  Key:Int
  jE:Int
  XH:Int
  To:Int
  Z4:Int
  Mark:Int
  deriving Inhabited,DecidableEq
variable{aT:List YN}
@[simp] def YN.row (x : YN) : List Vm.D := [.int .i64 x.Za, .int .i64 x.Key, .int .i64 x.jE, .int .i64 x.XH, .int .i64 x.To, .int .i64 x.Z4, .int .i64 x.Mark]
instance:Cn YN:=⟨fun x=>cn x.Za+cn x.Key+cn x.jE+cn x.XH+cn x.To+cn x.Z4+cn x.Mark⟩
instance:Sz YN:=⟨fun _ _=>True,fun _=>trivial,fun _ h=>h⟩
@[simp] theorem YN.Tw {x : YN} : Sm n x := trivial
structure ZR where
  UN:Int
  Xw:List ByteArray
  KZ:List Int
  deriving Inhabited,DecidableEq
variable{aR:ZR}
@[simp] def ZR.row (x : ZR) : List Vm.D := [.int .i64 x.UN, .sl 1 (x.Xw.map sR), .sl 1 (x.KZ.map iR)]
instance:Cn ZR:=⟨fun x=>cn x.UN+cn x.Xw+cn x.KZ⟩
instance:Sz ZR:=⟨fun n x=>Sm n x.Xw/\Sm n x.KZ,fun n=>⟨Sz.zero n,Sz.zero n⟩,fun h k=>⟨Sz.mono h k.1,Sz.mono h k.2⟩⟩
@[simp] theorem ZR.Gx {x : ZR} (h : Sm n x) : Sm n x.Xw := h.1
@[simp] theorem ZR.B3 {x : ZR} (h : Sm n x) : Sm n x.KZ := h.2
@[simp] theorem ZR.TL : Sm n (ZR.mk cj ef eg) = (Sm n ef /\ Sm n eg) := rfl
structure Zl where
  Key:Int
  Za:Int
  Method:Int
  QL:Int
  Ub:Int
  Org:Int
  V6:Int
  UZ:Int
  Mark:Int
  deriving Inhabited,DecidableEq
variable{Sig':Zl}
@[simp] def Zl.row (x : Zl) : List Vm.D := [.int .i64 x.Key, .int .i64 x.Za, .int .i64 x.Method, .int .i64 x.QL, .int .i64 x.Ub, .int .i64 x.Org, .int .i64 x.V6, .int .i64 x.UZ, .int .i64 x.Mark]
instance:Cn Zl:=⟨fun x=>cn x.Key+cn x.Za+cn x.Method+cn x.QL+cn x.Ub+cn x.Org+cn x.V6+cn x.UZ+cn x.Mark⟩
instance:Sz Zl:=⟨fun _ _=>True,fun _=>trivial,fun _ h=>h⟩
@[simp] theorem Zl.Tw {x : Zl} : Sm n x := trivial
structure ZT where
  Key:Int
  YM:List Int
  Mark:Int
  deriving Inhabited,DecidableEq
variable{cz:List ZT}
@[simp] def ZT.row (x : ZT) : List Vm.D := [.int .i64 x.Key, .sl 1 (x.YM.map iR), .int .i64 x.Mark]
instance:Cn ZT:=⟨fun x=>cn x.Key+cn x.YM+cn x.Mark⟩
instance:Sz ZT:=⟨fun n x=>Sm n x.YM,fun n=>Sz.zero n,fun h k=>Sz.mono h k⟩
@[simp] theorem ZT.SW {x : ZT} (h : Sm n x) : Sm n x.YM := h
@[simp] theorem ZT.TL : Sm n (ZT.mk Key' Ints' Mark') = (Sm n Ints') := rfl
structure ZW where
  ZI:List ZT
  ZM:List Zb
  deriving Inhabited,DecidableEq
variable{dz:List ZW}{bA:ZW}
@[simp] def ZW.row (x : ZW) : List Vm.D := [.sl 3 (x.ZI.map ZT.row), .sl 5 (x.ZM.map Zb.row)]
instance:Cn ZW:=⟨fun x=>cn x.ZI+cn x.ZM⟩
instance:Sz ZW:=⟨fun n x=>Sm n x.ZI/\Sm n x.ZM,fun n=>⟨Sz.zero n,Sz.zero n⟩,fun h k=>⟨Sz.mono h k.1,Sz.mono h k.2⟩⟩
@[simp] theorem ZW.QE {x : ZW} (h : Sm n x) : Sm n x.ZI := h.1
@[simp] theorem ZW.zR {x : ZW} (h : Sm n x) : Sm n x.ZM := h.2
@[simp] theorem ZW.TL : Sm n (ZW.mk cz aQ) = (Sm n cz /\ Sm n aQ) := rfl
structure ZN where
  Id:Int
  XF:Int
  Doc:ZR
  Sig:Zl
  ZG:ZW
  deriving Inhabited,DecidableEq
variable{eh:List ZN}
@[simp] def ZN.row (x : ZN) : List Vm.D := [.int .i64 x.Id, .int .i64 x.XF, .int .i64 x.Doc.UN, .sl 1 (x.Doc.Xw.map sR), .sl 1 (x.Doc.KZ.map iR), .int .i64 x.Sig.Key, .int .i64 x.Sig.Za, .int .i64 x.Sig.Method, .int .i64 x.Sig.QL, .int .i64 x.Sig.Ub, .int .i64 x.Sig.Org, .int .i64 x.Sig.V6, .int .i64 x.Sig.UZ, .int .i64 x.Sig.Mark, .sl 3 (x.ZG.ZI.map ZT.row), .sl 5 (x.ZG.ZM.map Zb.row)]
instance:Cn ZN:=⟨fun x=>cn x.Id+cn x.XF+cn x.Doc+cn x.Sig+cn x.ZG⟩
instance:Sz ZN:=⟨fun n x=>Sm n x.Doc/\Sm n x.ZG,fun n=>⟨Sz.zero n,Sz.zero n⟩,fun h k=>⟨Sz.mono h k.1,Sz.mono h k.2⟩⟩
@[simp] theorem ZN.xx {x : ZN} (h : Sm n x) : Sm n x.Doc := h.1
@[simp] theorem ZN.XY {x : ZN} (h : Sm n x) : Sm n x.ZG := h.2
@[simp] theorem ZN.TL : Sm n (ZN.mk Id' Keep' aR Sig' bA) = (Sm n aR /\ Sm n bA) := rfl
structure ZE where
  Id:Int
  ZB:List ZN
  deriving Inhabited,DecidableEq
variable{dO:List ZE}
@[simp] def ZE.row (x : ZE) : List Vm.D := [.int .i64 x.Id, .sl 16 (x.ZB.map ZN.row)]
instance:Cn ZE:=⟨fun x=>cn x.Id+cn x.ZB⟩
instance:Sz ZE:=⟨fun n x=>Sm n x.ZB,fun n=>Sz.zero n,fun h k=>Sz.mono h k⟩
@[simp] theorem ZE.YO {x : ZE} (h : Sm n x) : Sm n x.ZB := h
@[simp] theorem ZE.TL : Sm n (ZE.mk Id' eh) = (Sm n eh) := rfl
structure ZF where
  Frame:ZO
  Zd:List YN
  Zw:List Int
  ZA:List ZE
  Y2:List Int
  Yc:List Int
  Next:Int
  YL:List Int
  deriving Inhabited,DecidableEq
variable{x:ZF}
@[simp] def ZF.row (x : ZF) : List Vm.D := [.sl 5 (x.Frame.Zt.map Y4.row), .sl 3 (x.Frame.ZC.map Zi.row), .sl 4 (x.Frame.Methods.map YH.row), .int .i64 x.Frame.XJ, .int .i64 x.Frame.Now, .sl 7 (x.Zd.map YN.row), .sl 1 (x.Zw.map iR), .sl 2 (x.ZA.map ZE.row), .sl 1 (x.Y2.map iR), .sl 1 (x.Yc.map iR), .int .i64 x.Next, .sl 1 (x.YL.map iR)]
instance:Cn ZF:=⟨fun x=>cn x.Frame+cn x.Zd+cn x.Zw+cn x.ZA+cn x.Y2+cn x.Yc+cn x.Next+cn x.YL⟩
instance:Sz ZF:=⟨fun n x=>Sm n x.Frame/\Sm n x.Zd/\Sm n x.Zw/\Sm n x.ZA/\Sm n x.Y2/\Sm n x.Yc/\Sm n x.YL,fun n=>⟨Sz.zero n,Sz.zero n,Sz.zero n,Sz.zero n,Sz.zero n,Sz.zero n,Sz.zero n⟩,fun h k=>⟨Sz.mono h k.1,Sz.mono h k.2.1,Sz.mono h k.2.2.1,Sz.mono h k.2.2.2.1,Sz.mono h k.2.2.2.2.1,Sz.mono h k.2.2.2.2.2.1,Sz.mono h k.2.2.2.2.2.2⟩⟩
@[simp] theorem ZF.Xr (h : Sm n x) : Sm n x.Frame := h.1
@[simp] theorem ZF.mD (h : Sm n x) : Sm n x.Zd := h.2.1
@[simp] theorem ZF.s8 (h : Sm n x) : Sm n x.Zw := h.2.2.1
@[simp] theorem ZF.YR (h : Sm n x) : Sm n x.ZA := h.2.2.2.1
@[simp] theorem ZF.vt (h : Sm n x) : Sm n x.Y2 := h.2.2.2.2.1
@[simp] theorem ZF.sa (h : Sm n x) : Sm n x.Yc := h.2.2.2.2.2.1
@[simp] theorem ZF.My (h : Sm n x) : Sm n x.YL := h.2.2.2.2.2.2
@[simp] theorem ZF.TL : Sm n (ZF.mk aS aT aU dO Seqs' aV Next' bB) = (Sm n aS /\ Sm n aT /\ Sm n aU /\ Sm n dO /\ Sm n Seqs' /\ Sm n aV /\ Sm n bB) := rfl
structure Zx where
  Kind:Int
  A:Int
  B:Int
  C:Int
  D:Int
  Doc:ZR
  Ids:List Int
  deriving Inhabited,DecidableEq
@[simp] def Zx.row (x : Zx) : List Vm.D := [.int .i64 x.Kind, .int .i64 x.A, .int .i64 x.B, .int .i64 x.C, .int .i64 x.D, .int .i64 x.Doc.UN, .sl 1 (x.Doc.Xw.map sR), .sl 1 (x.Doc.KZ.map iR), .sl 1 (x.Ids.map iR)]
instance:Cn Zx:=⟨fun x=>cn x.Kind+cn x.A+cn x.B+cn x.C+cn x.D+cn x.Doc+cn x.Ids⟩
instance:Sz Zx:=⟨fun n x=>Sm n x.Doc/\Sm n x.Ids,fun n=>⟨Sz.zero n,Sz.zero n⟩,fun h k=>⟨Sz.mono h k.1,Sz.mono h k.2⟩⟩
@[simp] theorem Zx.xx {x : Zx} (h : Sm n x) : Sm n x.Doc := h.1
@[simp] theorem Zx.wz {x : Zx} (h : Sm n x) : Sm n x.Ids := h.2
@[simp] theorem Zx.TL : Sm n (Zx.mk Kind' A' B' C' D' aR Ids') = (Sm n aR /\ Sm n Ids') := rfl
structure Ze where
  XH:Int
  To:Int
  deriving Inhabited,DecidableEq
@[simp] def Ze.row (x : Ze) : List Vm.D := [.int .i64 x.XH, .int .i64 x.To]
instance:Cn Ze:=⟨fun x=>cn x.XH+cn x.To⟩
instance:Sz Ze:=⟨fun _ _=>True,fun _=>trivial,fun _ h=>h⟩
@[simp] theorem Ze.Tw {x : Ze} : Sm n x := trivial
structure QF where
  Code:Int
  Reason:Int
  Span:Ze
  deriving Inhabited,DecidableEq
@[simp] def QF.row (x : QF) : List Vm.D := [.int .i64 x.Code, .int .i64 x.Reason, .int .i64 x.Span.XH, .int .i64 x.Span.To]
instance:Cn QF:=⟨fun x=>cn x.Code+cn x.Reason+cn x.Span⟩
instance:Sz QF:=⟨fun _ _=>True,fun _=>trivial,fun _ h=>h⟩
@[simp] theorem QF.Tw {x : QF} : Sm n x := trivial
structure J4 where
  UN:Int
  Methods:List Int
  Shown:List Bool
  Xw:List ByteArray
  KZ:List Int
  Hc:List (List Int)
  deriving Inhabited,DecidableEq
@[simp] def J4.row (x : J4) : List Vm.D := [.int .i64 x.UN, .sl 1 (x.Methods.map iR), .sl 1 (x.Shown.map lR), .sl 1 (x.Xw.map sR), .sl 1 (x.KZ.map iR), .sl 1 (x.Hc.map (slR 1 iR))]
instance:Cn J4:=⟨fun x=>cn x.UN+cn x.Methods+cn x.Shown+cn x.Xw+cn x.KZ+cn x.Hc⟩
instance:Sz J4:=⟨fun n x=>Sm n x.Methods/\Sm n x.Shown/\Sm n x.Xw/\Sm n x.KZ/\Sm n x.Hc,fun n=>⟨Sz.zero n,Sz.zero n,Sz.zero n,Sz.zero n,Sz.zero n⟩,fun h k=>⟨Sz.mono h k.1,Sz.mono h k.2.1,Sz.mono h k.2.2.1,Sz.mono h k.2.2.2.1,Sz.mono h k.2.2.2.2⟩⟩
@[simp] theorem J4.QA {x : J4} (h : Sm n x) : Sm n x.Methods := h.1
@[simp] theorem J4.mA {x : J4} (h : Sm n x) : Sm n x.Shown := h.2.1
@[simp] theorem J4.Gx {x : J4} (h : Sm n x) : Sm n x.Xw := h.2.2.1
@[simp] theorem J4.B3 {x : J4} (h : Sm n x) : Sm n x.KZ := h.2.2.2.1
@[simp] theorem J4.nW {x : J4} (h : Sm n x) : Sm n x.Hc := h.2.2.2.2
@[simp] theorem J4.TL : Sm n (J4.mk cj fN aW ef eg dw) = (Sm n fN /\ Sm n aW /\ Sm n ef /\ Sm n eg /\ Sm n dw) := rfl
structure Z9 where
  Z8:List ZW
  XI:List (List Zm)
  deriving Inhabited,DecidableEq
@[simp] def Z9.row (x : Z9) : List Vm.D := [.sl 2 (x.Z8.map ZW.row), .sl 1 (x.XI.map (slR 5 Zm.row))]
instance:Cn Z9:=⟨fun x=>cn x.Z8+cn x.XI⟩
instance:Sz Z9:=⟨fun n x=>Sm n x.Z8/\Sm n x.XI,fun n=>⟨Sz.zero n,Sz.zero n⟩,fun h k=>⟨Sz.mono h k.1,Sz.mono h k.2⟩⟩
@[simp] theorem Z9.Qt {x : Z9} (h : Sm n x) : Sm n x.Z8 := h.1
@[simp] theorem Z9.NS {x : Z9} (h : Sm n x) : Sm n x.XI := h.2
@[simp] theorem Z9.TL : Sm n (Z9.mk dz aX) = (Sm n dz /\ Sm n aX) := rfl
structure Zp where
  Za:Int
  xw:Int
  Zw:Int
  Z4:Int
  Mark:Int
  deriving Inhabited,DecidableEq
@[simp] def Zp.row (x : Zp) : List Vm.D := [.int .i64 x.Za, .int .i64 x.xw, .int .i64 x.Zw, .int .i64 x.Z4, .int .i64 x.Mark]
instance:Cn Zp:=⟨fun x=>cn x.Za+cn x.xw+cn x.Zw+cn x.Z4+cn x.Mark⟩
instance:Sz Zp:=⟨fun _ _=>True,fun _=>trivial,fun _ h=>h⟩
@[simp] theorem Zp.Tw {x : Zp} : Sm n x := trivial
structure YI where
  b:List UInt8
  i:Nat
  h:Int
  deriving Inhabited,DecidableEq
@[simp] def YI.row (x : YI) : List Vm.D := [.sl 1 (x.b.map bR), .int .i64 (x.i : Int), .int .i64 x.h]
instance:Sz YI:=⟨fun n x=>Sm n x.b,fun n=>Sz.zero n,fun h k=>Sz.mono h k⟩
@[simp] theorem YI.l5 {x : YI} (h : Sm n x) : Sm n x.b := h
@[simp] theorem YI.TL : Sm n (YI.mk b' i' h') = (Sm n b') := rfl
structure Yl where
  XH:Int
  To:Int
  ZB:List ZN
  QL:Int
  deriving Inhabited,DecidableEq
@[simp] def Yl.row (x : Yl) : List Vm.D := [.int .i64 x.XH, .int .i64 x.To, .sl 16 (x.ZB.map ZN.row), .int .i64 x.QL]
instance:Cn Yl:=⟨fun x=>cn x.XH+cn x.To+cn x.ZB+cn x.QL⟩
instance:Sz Yl:=⟨fun n x=>Sm n x.ZB,fun n=>Sz.zero n,fun h k=>Sz.mono h k⟩
@[simp] theorem Yl.YO {x : Yl} (h : Sm n x) : Sm n x.ZB := h
@[simp] theorem Yl.TL : Sm n (Yl.mk From' To' eh Digest') = (Sm n eh) := rfl
structure Xd where
  Org:Int
  LJ:Int
  XH:Int
  To:Int
  Key:Int
  Mark:Int
  deriving Inhabited,DecidableEq
@[simp] def Xd.row (x : Xd) : List Vm.D := [.int .i64 x.Org, .int .i64 x.LJ, .int .i64 x.XH, .int .i64 x.To, .int .i64 x.Key, .int .i64 x.Mark]
instance:Cn Xd:=⟨fun x=>cn x.Org+cn x.LJ+cn x.XH+cn x.To+cn x.Key+cn x.Mark⟩
instance:Sz Xd:=⟨fun _ _=>True,fun _=>trivial,fun _ h=>h⟩
@[simp] theorem Xd.Tw {x : Xd} : Sm n x := trivial
open Go.Vm
variable{c:Nat->Bool}{F:Nat->Nat->Sum Bool Unit}{rows:List (List Vm.D)}{r:List Vm.D}
theorem XQ{α:Type}[Inhabited α]{l:List α}(h:i<l.length):nth l i=l[i]:=by simp[nth,h]
theorem jy{α:Type}[Inhabited α]{F:Nat->List α->Nat->List α}{a:List α}{g:α->α}(hg:∀x,g x=x)
    (h1:∀n v i,F (n+1) v i=bif decide ((i:Int)<(a.length:Int))then F n (v++[g (nth a i)]) (i+1)else v):
    ∀n v i,a.length<n+i->i<=a.length->F n v i=v++a.drop i:=by
  intro n
  induction n with
  |zero=>intro v i h2 h3;omega
  |succ n ih=>
    intro v i h2 h3
    rw[h1]
    by_cases hi:i<a.length
    · rw[show decide ((i:Int)<(a.length:Int))=true by simp[hi],cond_true,ih _ _ zAA hi,hg,XQ hi,List.append_assoc,List.singleton_append,<-List.drop_eq_getElem_cons hi]
    · rw[show decide ((i:Int)<(a.length:Int))=false by simp;omega,cond_false,List.drop_eq_nil_of_le zAA,List.append_nil]
theorem kq{F:Nat->Nat->Sum Int Unit}(h0:∀i,F 0 i= .inr ())
    (h1:∀n i,F (n+1) i=bif decide ((i:Int)<(L:Int))then(bif c i then .inl (i:Int)else F n (i+1))else .inr ()):
    ∀n i,(match F n i with|.inl r=>r|.inr _=>-1)<(L:Int):=by
  intro n
  induction n with
  |zero=>intro i;rw[h0];show(-1:Int)<_;omega
  |succ n ih=>
    intro i
    rw[h1]
    by_cases hi:(i:Int)<(L:Int)
    · rw[show decide ((i:Int)<(L:Int))=true by simpa using hi,cond_true]
      cases hc:c i with
      |true=>simpa using hi
      |false=>exact ih (i+1)
    · rw[show decide ((i:Int)<(L:Int))=false by simpa using hi,cond_false]
      show(-1:Int)<_;omega
theorem XX(h:i<rows.length):Vm.rowAt (rows.set i r) i=r:=by simp[Vm.rowAt,h]
theorem G6{α:Type}{p:α->Prop}{l:List α}{a:α}(h1:∀x∈l,p x)(h2:p a):∀x∈l.set i a,p x:=by
  intro x hx;rcases List.mem_or_eq_of_mem_set hx with h|h
  · exact h1 x h
  · rw[h];exact h2
theorem Zk{α:Type}{p:α->Prop}{c:Bool}{x y:α}(hx:p x)(hy:p y):p (bif c then x else y):=by cases c;exact hy;exact hx
theorem Z1{α:Type}{p:α->Prop}{c:Bool}{x y:α}(hx:c=true->p x)(hy:c=false->p y):p (bif c then x else y):=by cases c;exact hy rfl;exact hx rfl
theorem PR{α:Type}{F:Nat->List α->Nat->List α}{g:Nat->α}(h0:∀v i,F 0 v i=[])
    (h1:∀n v i,F (n+1) v i=bif decide ((i:Int)<(L:Int))then(bif c i then F n (v++[g i]) (i+1)else F n v (i+1))else v):∀n v i,(F n v i).length<=v.length+(L-i):=by
  intro n
  induction n with
  |zero=>intro v i;rw[h0];simp
  |succ n ih=>
    intro v i
    rw[h1]
    by_cases hi:i<L
    · rw[show decide ((i:Int)<(L:Int))=true by simp[hi],cond_true]
      cases c i with
      |true=>have:=ih (v++[g i]) (i+1);rw[cond_true];simp at this;omega
      |false=>have:=ih v (i+1);rw[cond_false];omega
    · rw[show decide ((i:Int)<(L:Int))=false by simp;omega,cond_false];omega
theorem Ab{α:Type}{F:Nat->List α->Nat->List α}{g:Nat->α}(h0:∀v i,F 0 v i=[])
    (h1:∀n v i,F (n+1) v i=bif decide ((i:Int)<(L:Int))then F n (v++[g i]) (i+1)else v):∀n v i,(F n v i).length<=v.length+(L-i):=by
  intro n
  induction n with
  |zero=>intro v i;rw[h0];simp
  |succ n ih=>
    intro v i
    rw[h1]
    by_cases hi:i<L
    · rw[show decide ((i:Int)<(L:Int))=true by simp[hi],cond_true]
      have:=ih (v++[g i]) (i+1);simp at this;omega
    · rw[show decide ((i:Int)<(L:Int))=false by simp;omega,cond_false];omega
theorem zJ{s:ZW}{r:Zb}(hn:n+1<=m)(h:Sm n s)(hr:Sm m r):Sm m (ZW.mk s.ZI (s.ZM++[r])):=by
  refine⟨ZQ zAA h.1,⟨?_,fun x hx=>?_⟩⟩
  · have:=h.2.1;simp;omega
  · rcases List.mem_append.1 hx with hx|hx
    · exact ZQ zAA (h.2.2 x hx)
    · simp at hx;subst hx;exact hr
open Go.Vm
open Go.Vm
theorem Y0(n:Int):W n=(n+9223372036854775808)%18446744073709551616-9223372036854775808:=IntKind.wrap_i64 n
theorem pz{α:Type}[Inhabited α][DecidableEq α]{a b:List α}(hl:a.length=b.length)(hc:∀i,c i=!decide (nth a i=nth b i))(h0:∀i,F 0 i= .inr ())
    (h1:∀n i,F (n+1) i=bif decide ((i:Int)<(a.length:Int))then(bif c i then .inl false else F n (i+1))else .inr ()):
    F (a.length+1) 0=if a=b then .inr ()else .inl false:=by
  have key:∀n i,a.length<n+i->F n i=if a.drop i=b.drop i then .inr ()else .inl false:=by
    intro n
    induction n with
    |zero=>
      intro i h
      rw[h0,List.drop_eq_nil_of_le zAA,List.drop_eq_nil_of_le zAA,if_pos rfl]
    |succ n ih=>
      intro i h
      rw[h1]
      by_cases hi:i<a.length
      · have hib:i<b.length:=zAA
        rw[show decide ((i:Int)<(a.length:Int))=true by simp[hi],cond_true,hc,List.drop_eq_getElem_cons hi,List.drop_eq_getElem_cons hib,XQ hi,XQ hib]
        by_cases he:a[i]=b[i]
        · rw[he,show decide (b[i]=b[i])=true by simp,Bool.not_true,cond_false,ih _ zAA]
          simp only[List.cons.injEq,true_and]
        · rw[show decide (a[i]=b[i])=false by simp[he],if_neg (fun hh=>he (List.cons.inj hh).1)]
          rfl
      · rw[show decide ((i:Int)<(a.length:Int))=false by simp;omega,cond_false,List.drop_eq_nil_of_le zAA,List.drop_eq_nil_of_le zAA,if_pos rfl]
  have:=key (a.length+1) 0 zAA
  simpa using this
theorem oK{α:Type}[Inhabited α][DecidableEq α]{a b:List α}(hc:∀i,c i=!decide (nth a i=nth b i))(h0:∀i,F 0 i= .inr ())
    (h1:∀n i,F (n+1) i=bif decide ((i:Int)<(a.length:Int))then(bif c i then .inl false else F n (i+1))else .inr ()):
    (bif((a.length:Int)!=(b.length:Int))then false else(match F (a.length+1) 0 with|.inl r=>r|.inr _=>true))=decide (a=b):=by
  by_cases hl:a.length=b.length
  · rw[pz hl hc h0 h1]
    simp only[hl,bne_self_eq_false,cond_false]
    by_cases h:a=b<;>simp[h]
  · have iH:a≠b:=fun h=>hl (by rw[h])
    have:((a.length:Int)!=(b.length:Int))=true:=zAo
    rw[this,cond_true];simp[iH]
open Go.Vm
theorem AJ{α:Type}[Inhabited α][Sz α]{f:α->List D}{n:Nat}:∀{rows:List (List D)},(∀r,r∈rows->∃x:α,r=f x/\Sm n x)->∃l:List α,rows=l.map f/\∀x∈l,Sm n x
  |[],_=>⟨[],rfl,fun _ h=>by cases h⟩
  |r::rows,h=>by
    obtain⟨x,hx,sx⟩:=h r zAE
    obtain⟨l,hl,sl⟩:=AJ (rows:=rows) (fun r hr=>h r zB3)
    refine⟨x::l,by simp[hx,hl],fun y hy=>?_⟩
    rcases List.mem_cons.1 hy with rfl|hy
    · exact sx
    · exact sl y hy
open Go.Vm
variable{P:Program}{ts:List TypeId}
theorem As{t:TypeId}:∀{rows:List (List D)},E0 P n (t::ts) rows->∃r rs,rows=r::rs/\TyR P n t r/\E0 P n ts rs
  |r::rs,h=>⟨r,rs,rfl,h.1,h.2⟩
  |[],h=>h.elim
theorem uI:∀{rows:List (List D)},E0 P n [] rows->rows=[]
  |[],_=>rfl
  |_::_,h=>h.elim
open Go.Vm
@[simp] theorem lG (l : List UInt8) : yJ l = l.map bR := rfl
@[simp] theorem nc (x : Int) : ((UInt8.ofInt x).toNat : Int) = IntKind.u8.wrap x := by
  rw[IntKind.wrap_u8];simp[UInt8.ofInt];omega
open Go.Vm
open Go.Vm
@[simp] theorem nf {α : Type} {l : List α} (h : l.length <= n) : List.take n l = l := List.take_of_length_le h
@[simp] theorem pj {α β : Type} (f : α -> β) (l : List α) : List.take l.length (List.map f l) = List.map f l := List.take_of_length_le zAE
@[simp] theorem oc (n : Nat) : 1 + n = n + 1 := Nat.add_comm 1 n
@[simp] theorem mP {α β : Type} (f : α -> β) (l : List α) (x y : β) : List.take (2 + l.length) (x :: y :: List.map f l) = x :: y :: List.map f l := List.take_of_length_le zAo
@[simp] theorem mN {α β : Type} (f : α -> β) (l : List α) (x y z : β) : List.take (3 + l.length) (x :: y :: z :: List.map f l) = x :: y :: z :: List.map f l := List.take_of_length_le zAo
@[simp] theorem mU {α β : Type} (f : α -> β) (l : List α) (x y z u : β) : List.take (4 + l.length) (x :: y :: z :: u :: List.map f l) = x :: y :: z :: u :: List.map f l := List.take_of_length_le zAo
@[simp] theorem mT {α β : Type} (f : α -> β) (l : List α) (x y z u v : β) : List.take (5 + l.length) (x :: y :: z :: u :: v :: List.map f l) = x :: y :: z :: u :: v :: List.map f l := List.take_of_length_le zAo
@[simp] theorem mV {α β : Type} (f : α -> β) (l : List α) (x y z u v w : β) : List.take (6 + l.length) (x :: y :: z :: u :: v :: w :: List.map f l) = x :: y :: z :: u :: v :: w :: List.map f l := List.take_of_length_le zAo
theorem Mt(n:Nat)(h:n<=9223372036854775807):W ((n:Int)-1)=(n:Int)-1:=YX zAA zAA
@[simp] theorem mQ (a : Array UInt8) : (ByteArray.mk a).size = a.size := rfl
@[simp] theorem mB {α : Type} {l : List α} {x : α} {v : Nat} (h : l.length = n) : List.take (min v n + 1 + (n - v)) (List.take v l ++ x :: List.drop v l) = List.take v l ++ x :: List.drop v l := by
  apply List.take_of_length_le;simp;omega
@[simp] theorem mO (a b : Nat) : (min a b + 1 + (b - a) = min a b + (b - a + 1)) = True := zAo
theorem RU{α:Type}[Inhabited α][Sz α]{l:List α}{x:α}(h:Sm n l)(hx:Sm n x):Sm n (l.set i x):=
  ⟨by simpa using h.1,fun y hy=>by
    rcases List.mem_or_eq_of_mem_set hy with hy|rfl
    · exact h.2 y hy
    · exact hx⟩
theorem v3{α:Type}(a b:α):cond true a b=a/\cond false a b=b:=⟨rfl,rfl⟩
theorem XA{α:Type}(a b:α):cond true a b=a:=(v3 a b).1
theorem XE{α:Type}(a b:α):cond false a b=b:=(v3 a b).2
/-- a side condition that is found by itself -/
theorem bf{a:Bool}{c:Prop}(h:a=true->c):a=false\/c:=by cases a with|false=>exact .inl rfl|true=>exact .inr (h rfl)
theorem sd(h:b)(k:a:=by(intros;first|omega|exact⟨by assumption,fun k=>⟨by assumption,k⟩⟩|exact bf (by assumption)|(simp only[decide_eq_true_eq,decide_eq_false_iff_not,beq_iff_eq,beq_eq_false_iff_ne,bne_iff_ne,ne_eq,Bool.or_eq_false_iff,Bool.or_eq_true,Bool.and_eq_true,Bool.not_eq_true',Bool.not_eq_false']at*;omega)|((try simp only[Go.Mo.Y0,show ∀x,Go.IntKind.i64.wrap x=Go.Vm.W x from fun _=>rfl]at*);omega)|exact List.ne_nil_of_length_pos (by assumption))):a/\b:=⟨k,h⟩
theorem sdg(h:b)(k:a:=by(intros;first|omega|(simp_all;done)|(simp_all;omega)|grind|((try simp only[Go.Mo.Y0,show ∀x,Go.IntKind.i64.wrap x=Go.Vm.W x from fun _=>rfl]at*);omega))):a/\b:=⟨k,h⟩
theorem il{a b:Nat}(h:a<b:=by first|omega|(simp only[decide_eq_true_eq,decide_eq_false_iff_not,beq_iff_eq,beq_eq_false_iff_ne,bne_iff_ne,ne_eq,Bool.or_eq_false_iff,Bool.not_eq_true',Bool.not_eq_false']at*;omega)|(simp_all[List.length_pos_iff];done)|(simp;omega)|(simp_all;omega)|((try simp only[Go.Mo.Y0,show ∀x,Go.IntKind.i64.wrap x=Go.Vm.W x from fun _=>rfl]at*);omega)|(simp;(try simp only[Go.Mo.Y0,show ∀x,Go.IntKind.i64.wrap x=Go.Vm.W x from fun _=>rfl]at*);omega)):a<b:=h
theorem ik{α:Type}(a:Nat)(l:List α)(h:a<l.length:=by first|omega|(simp only[decide_eq_true_eq,decide_eq_false_iff_not,beq_iff_eq,beq_eq_false_iff_ne,bne_iff_ne,ne_eq,Bool.or_eq_false_iff,Bool.not_eq_true',Bool.not_eq_false']at*;omega)|(simp_all[List.length_pos_iff];done)|(simp;omega)|(simp_all;omega)|((try simp only[Go.Mo.Y0,show ∀x,Go.IntKind.i64.wrap x=Go.Vm.W x from fun _=>rfl]at*);omega)|(simp;(try simp only[Go.Mo.Y0,show ∀x,Go.IntKind.i64.wrap x=Go.Vm.W x from fun _=>rfl]at*);omega)):a<l.length:=h
theorem sl{α:Type}[Inhabited α][Sz α](n:Nat)(l:List α)(u:q)(h:q->Sm n l:=by(intro u;simp(maxDischargeDepth:=12) [u])):l.length<=n:=YQ (h u)
theorem sg{α:Type}[Inhabited α][Sz α]{x:α}(h:Sm n x)(k:n<=m:=by decide):Sm m x:=ZQ k h
theorem Pl{α:Type}[Inhabited α]{l:List α}(h:i<l.length):l.drop i=Vm.nth l i::l.drop (i+1):=by
  rw[List.drop_eq_getElem_cons h];simp[Vm.nth,List.getD_eq_getElem?_getD,List.getElem?_eq_getElem h]
theorem DL{α:Type}[Inhabited α](c:α->Nat){l:List α}(h:i<l.length):cnL c (l.drop i)=c (Vm.nth l i)+cnL c (l.drop (i+1)):=by rw[Pl h];rfl
theorem BA{α β:Type}(f:α->List β):∀l:List α,(l.flatMap f).length=cnL (fun x=>(f x).length) l
  |[]=>rfl
  |x::l=>by simp only[List.flatMap_cons,List.length_append,cnL,BA f l]
theorem PS{α β:Type}[Inhabited α]{as:List α}(f:α->List β){F:Nat->Nat->List β->List β}(h1:∀n i l,F (n+1) i l=bif decide ((i:Int)<(as.length:Int))then F n (i+1) (l++f (Vm.nth as i))else l):∀n i l,as.length<n+i->i<=as.length->F n i l=l++(as.drop i).flatMap f
  |0,i,l,h,h2=>zAA
  |n+1,i,l,h,h2=>by
    rw[h1]
    by_cases hi:i<as.length
    · rw[show decide ((i:Int)<(as.length:Int))=true by simpa using hi,XA,PS f h1 n (i+1) _ zAA hi,Pl hi];simp
    · rw[show decide ((i:Int)<(as.length:Int))=false by simpa using hi,XE,List.drop_eq_nil_of_le zAA];simp
theorem H4{α β:Type}(f:α->β):∀l:List α,l.flatMap (fun a=>[f a])=l.map f
  |[]=>rfl
  |x::l=>by rw[List.flatMap_cons,H4 f l];rfl
theorem nX(h:∀x∈l,x.size<=m)(i:Nat):(Vm.nth l i).size<=m:=by
  by_cases hi:i<l.length
  · rw[show Vm.nth l i=l[i]by simp[Vm.nth,List.getD_eq_getElem?_getD,List.getElem?_eq_getElem hi]];exact h _ (List.getElem_mem hi)
  · rw[show Vm.nth l i=default by simp[Vm.nth,List.getD_eq_getElem?_getD,List.getElem?_eq_none (Nat.le_of_not_lt hi)]];exact Nat.zero_le _
theorem Np{α:Type}{p:α->Prop}{l m:List α}(h:∀x∈l,p x)(k:∀x∈m,p x):∀x∈l++m,p x:=fun x hx=>(List.mem_append.1 hx).elim (h x) (k x)
theorem all_cons{α:Type}{p:α->Prop}{a:α}{l:List α}(h:p a)(k:∀x∈l,p x):∀x∈a::l,p x:=fun x hx=>(List.mem_cons.1 hx).elim (fun e=>e▸h) (k x)
theorem all_nil{α:Type}{p:α->Prop}:∀x∈([]:List α),p x:=fun x hx=>zBv
end Go.Mo
