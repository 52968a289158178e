/- The plain data of the program, typed, and eZ they read as rows of the abstract machine. No condition. -/
import Derived.Test.YtdffgedmahdehaaGreatVe
import Derived.Laws.BitsLemmas
namespace Go.Mo
open Go.Vm
variable{n i L m i' p:Nat}{dG l:List ByteArray}{dH Ints' Seqs' Ids' aR aS bP eD:List Int}{Id' cx Method' Digest' Count' Liars' Root' Mark' Keep' Next' Kind' From' Now' Key' To' A' B' C' D' h':Int}{cO:List (List Int)}{b':List UInt8}{aT:List Bool}{s:ByteArray}{a b q:Prop}
@[simp] def iR (n : Int) : List Vm.D := [.int .i64 n]
@[simp] def bR (b : UInt8) : List Vm.D := [.int .u8 (b.toNat : Int)]
@[simp] def lR (b : Bool) : List Vm.D := [.bool b]
@[simp] def sR (s : ByteArray) : List Vm.D := [.str s]
@[simp] def slR {α : Type} (n : Nat) (f : α -> List D) (m : List α) : List Vm.D := [.sl n (m.map f)]
/-- everything in it is at most so long -/
class Sz(α:Type)[Inhabited α] where
  sm:Nat->α->Prop
  zero:∀n,sm n default
  mono:∀{n m:Nat}{x:α},n<=m->sm n x->sm m x
/-- eZ many marks it takes -/
class Cn(α:Type) where
  cn:α->Nat
abbrev cn{α:Type}[Cn α](x:α):Nat:=Cn.cn x
def cnL{α:Type}(c:α->Nat):List α->Nat
  |[]=>0
  |x::l=>c x+cnL c l
instance:Cn Int:=⟨fun _=>1⟩
instance:Cn Bool:=⟨fun _=>1⟩
instance:Cn UInt8:=⟨fun _=>1⟩
instance:Cn ByteArray:=⟨fun _=>1⟩
instance{α:Type}[Cn α]:Cn (List α):=⟨cnL Cn.cn⟩
abbrev Sm{α:Type}[Inhabited α][Sz α](n:Nat)(x:α):Prop:=Sz.sm n x
instance:Sz Int:=⟨fun _ _=>True,fun _=>trivial,fun _ h=>h⟩
instance:Sz Bool:=⟨fun _ _=>True,fun _=>trivial,fun _ h=>h⟩
instance:Sz UInt8:=⟨fun _ _=>True,fun _=>trivial,fun _ h=>h⟩
instance:Sz ByteArray:=⟨fun n s=>s.size<=n,fun _=>Nat.zero_le _,fun h k=>Nat.le_trans k h⟩
instance{α:Type}[Inhabited α][Sz α]:Sz (List α):=⟨fun n l=>l.length<=n/\∀x∈l,Sz.sm n x,fun _=>⟨Nat.zero_le _,fun _ h=>by cases h⟩,fun h k=>⟨Nat.le_trans k.1 h,fun x hx=>Sz.mono h (k.2 x hx)⟩⟩
theorem Y9{α:Type}[Inhabited α][Sz α]{l:List α}:Sm n l=(l.length<=n/\∀x∈l,Sm n x):=rfl
theorem YA{α:Type}[Inhabited α][Sz α]{l:List α}(h:Sm n l):l.length<=n:=h.1
theorem Qh(h:Sm n s):s.size<=n:=h
@[simp] theorem m9 {x : Int} : Sm n x := trivial
@[simp] theorem mi {x : Bool} : Sm n x := trivial
@[simp] theorem lZ {x : UInt8} : Sm n x := trivial
@[simp] theorem zK {α : Type} [Inhabited α] [Sz α] : Sm n ([] : List α) := ⟨Nat.zero_le _, fun _ h => by cases h⟩
@[simp] theorem Zi {α : Type} [Inhabited α] [Sz α] {l : List α} (h : Sm n l) : Sm n (nth l i) := by
  unfold nth;rw[List.getD_eq_getElem?_getD];cases hh:l[i]? with
  |none=>exact Sz.zero n
  |some x=>exact h.2 x (List.mem_of_getElem? hh)
@[simp] theorem Ol {α : Type} [Inhabited α] [Sz α] {l : List α} (h : Sm n l) : Sm n (l.take i) := ⟨Nat.le_trans zAk h.1, fun x hx => h.2 x (List.mem_of_mem_take hx)⟩
@[simp] theorem TT {α : Type} [Inhabited α] [Sz α] {l : List α} (h : Sm n l) : Sm n (l.drop i) := ⟨Nat.le_trans zAE h.1, fun x hx => h.2 x (List.mem_of_mem_drop hx)⟩
theorem TW{α:Type}[Inhabited α][Sz α]{l m:List α}:Sm n (l++m)=(l.length+m.length<=n/\(∀x∈l,Sm n x)/\∀x∈m,Sm n x):=by rw[Y9];simp[or_imp,forall_and]
theorem ZK{α:Type}[Inhabited α][Sz α]{x:α}(h:n<=m)(k:Sm n x):Sm m x:=Sz.mono h k
structure ZX where
  Authority:Int
  Seq:Int
  Time:Int
  Y6:Int
  Mark:Int
  deriving Inhabited,DecidableEq
variable{aU:List (List ZX)}{bM:List ZX}
@[simp] def ZX.row (x : ZX) : List Vm.D := [.int .i64 x.Authority, .int .i64 x.Seq, .int .i64 x.Time, .int .i64 x.Y6, .int .i64 x.Mark]
instance:Cn ZX:=⟨fun x=>cn x.Authority+cn x.Seq+cn x.Time+cn x.Y6+cn x.Mark⟩
instance:Sz ZX:=⟨fun _ _=>True,fun _=>trivial,fun _ h=>h⟩
@[simp] theorem ZX.R6 {x : ZX} : Sm n x := trivial
structure Xk where
  Y6:Int
  Left:Bool
  deriving Inhabited,DecidableEq
variable{Path':List Xk}
@[simp] def Xk.row (x : Xk) : List Vm.D := [.int .i64 x.Y6, .bool x.Left]
instance:Cn Xk:=⟨fun x=>cn x.Y6+cn x.Left⟩
instance:Sz Xk:=⟨fun _ _=>True,fun _=>trivial,fun _ h=>h⟩
@[simp] theorem Xk.R6 {x : Xk} : Sm n x := trivial
structure ZZ where
  Count:Int
  Method:Int
  BE:Int
  Path:List Xk
  YK:List ZX
  deriving Inhabited,DecidableEq
variable{aN:List ZZ}
@[simp] def ZZ.row (x : ZZ) : List Vm.D := [.int .i64 x.Count, .int .i64 x.Method, .int .i64 x.BE, .sl 2 (x.Path.map Xk.row), .sl 5 (x.YK.map ZX.row)]
instance:Cn ZZ:=⟨fun x=>cn x.Count+cn x.Method+cn x.BE+cn x.Path+cn x.YK⟩
instance:Sz ZZ:=⟨fun n x=>Sm n x.Path/\Sm n x.YK,fun n=>⟨Sz.zero n,Sz.zero n⟩,fun h k=>⟨Sz.mono h k.1,Sz.mono h k.2⟩⟩
@[simp] theorem ZZ.mo {x : ZZ} (h : Sm n x) : Sm n x.Path := h.1
@[simp] theorem ZZ.Mc {x : ZZ} (h : Sm n x) : Sm n x.YK := h.2
@[simp] theorem ZZ.Uy : Sm n (ZZ.mk Count' Method' Root' Path' bM) = (Sm n Path' /\ Sm n bM) := rfl
structure Yg where
  Number:Int
  z9:Int
  Method:Int
  OT:Int
  Um:Int
  deriving Inhabited,DecidableEq
variable{Keys':List Yg}
@[simp] def Yg.row (x : Yg) : List Vm.D := [.int .i64 x.Number, .int .i64 x.z9, .int .i64 x.Method, .int .i64 x.OT, .int .i64 x.Um]
instance:Cn Yg:=⟨fun x=>cn x.Number+cn x.z9+cn x.Method+cn x.OT+cn x.Um⟩
instance:Sz Yg:=⟨fun _ _=>True,fun _=>trivial,fun _ h=>h⟩
@[simp] theorem Yg.R6 {x : Yg} : Sm n x := trivial
structure Za where
  Id:Int
  Key:Int
  Error:Int
  deriving Inhabited,DecidableEq
variable{eb:List Za}
@[simp] def Za.row (x : Za) : List Vm.D := [.int .i64 x.Id, .int .i64 x.Key, .int .i64 x.Error]
instance:Cn Za:=⟨fun x=>cn x.Id+cn x.Key+cn x.Error⟩
instance:Sz Za:=⟨fun _ _=>True,fun _=>trivial,fun _ h=>h⟩
@[simp] theorem Za.R6 {x : Za} : Sm n x := trivial
structure Z9 where
  Id:Int
  PR:Int
  Ends:Int
  Uc:Int
  deriving Inhabited,DecidableEq
@[simp] def Z9.row (x : Z9) : List Vm.D := [.int .i64 x.Id, .int .i64 x.PR, .int .i64 x.Ends, .int .i64 x.Uc]
instance:Cn Z9:=⟨fun x=>cn x.Id+cn x.PR+cn x.Ends+cn x.Uc⟩
instance:Sz Z9:=⟨fun _ _=>True,fun _=>trivial,fun _ h=>h⟩
@[simp] theorem Z9.R6 {x : Z9} : Sm n x := trivial
structure ZT where
  Zz:List Yg
  ZC:List Za
  Methods:List Z9
  Jb:Int
  Now:Int
  deriving Inhabited,DecidableEq
variable{aP:ZT}
@[simp] def ZT.row (x : ZT) : List Vm.D := [.sl 5 (x.Zz.map Yg.row), .sl 3 (x.ZC.map Za.row), .sl 4 (x.Methods.map Z9.row), .int .i64 x.Jb, .int .i64 x.Now]
instance:Cn ZT:=⟨fun x=>cn x.Zz+cn x.ZC+cn x.Methods+cn x.Jb+cn x.Now⟩
instance:Sz ZT:=⟨fun n x=>Sm n x.Zz/\Sm n x.ZC/\Sm n x.Methods,fun n=>⟨Sz.zero n,Sz.zero n,Sz.zero n⟩,fun h k=>⟨Sz.mono h k.1,Sz.mono h k.2.1,Sz.mono h k.2.2⟩⟩
@[simp] theorem ZT.XD {x : ZT} (h : Sm n x) : Sm n x.Zz := h.1
@[simp] theorem ZT.Yv {x : ZT} (h : Sm n x) : Sm n x.ZC := h.2.1
@[simp] theorem ZT.Xq {x : ZT} (h : Sm n x) : Sm n x.Methods := h.2.2
@[simp] theorem ZT.Uy {eD : List Z9} : Sm n (ZT.mk Keys' eb eD Liars' Now') = (Sm n Keys' /\ Sm n eb /\ Sm n eD) := rfl
structure YL where
  Zk:Int
  Key:Int
  z9:Int
  Xv:Int
  To:Int
  YG:Int
  Mark:Int
  deriving Inhabited,DecidableEq
variable{aQ:List YL}
@[simp] def YL.row (x : YL) : List Vm.D := [.int .i64 x.Zk, .int .i64 x.Key, .int .i64 x.z9, .int .i64 x.Xv, .int .i64 x.To, .int .i64 x.YG, .int .i64 x.Mark]
instance:Cn YL:=⟨fun x=>cn x.Zk+cn x.Key+cn x.z9+cn x.Xv+cn x.To+cn x.YG+cn x.Mark⟩
instance:Sz YL:=⟨fun _ _=>True,fun _=>trivial,fun _ h=>h⟩
@[simp] theorem YL.R6 {x : YL} : Sm n x := trivial
structure ZL where
  KK:Int
  Yf:List ByteArray
  Xl:List Int
  deriving Inhabited,DecidableEq
variable{aO:ZL}
@[simp] def ZL.row (x : ZL) : List Vm.D := [.int .i64 x.KK, .sl 1 (x.Yf.map sR), .sl 1 (x.Xl.map iR)]
instance:Cn ZL:=⟨fun x=>cn x.KK+cn x.Yf+cn x.Xl⟩
instance:Sz ZL:=⟨fun n x=>Sm n x.Yf/\Sm n x.Xl,fun n=>⟨Sz.zero n,Sz.zero n⟩,fun h k=>⟨Sz.mono h k.1,Sz.mono h k.2⟩⟩
@[simp] theorem ZL.UG {x : ZL} (h : Sm n x) : Sm n x.Yf := h.1
@[simp] theorem ZL.vd {x : ZL} (h : Sm n x) : Sm n x.Xl := h.2
@[simp] theorem ZL.Uy : Sm n (ZL.mk cx dG dH) = (Sm n dG /\ Sm n dH) := rfl
structure Zs where
  Key:Int
  Zk:Int
  Method:Int
  Y6:Int
  kl:Int
  Org:Int
  kj:Int
  Wl:Int
  Mark:Int
  deriving Inhabited,DecidableEq
variable{Sig':Zs}
@[simp] def Zs.row (x : Zs) : List Vm.D := [.int .i64 x.Key, .int .i64 x.Zk, .int .i64 x.Method, .int .i64 x.Y6, .int .i64 x.kl, .int .i64 x.Org, .int .i64 x.kj, .int .i64 x.Wl, .int .i64 x.Mark]
instance:Cn Zs:=⟨fun x=>cn x.Key+cn x.Zk+cn x.Method+cn x.Y6+cn x.kl+cn x.Org+cn x.kj+cn x.Wl+cn x.Mark⟩
instance:Sz Zs:=⟨fun _ _=>True,fun _=>trivial,fun _ h=>h⟩
@[simp] theorem Zs.R6 {x : Zs} : Sm n x := trivial
structure ZV where
  Key:Int
  YS:List Int
  Mark:Int
  deriving Inhabited,DecidableEq
variable{bN:List ZV}
@[simp] def ZV.row (x : ZV) : List Vm.D := [.int .i64 x.Key, .sl 1 (x.YS.map iR), .int .i64 x.Mark]
instance:Cn ZV:=⟨fun x=>cn x.Key+cn x.YS+cn x.Mark⟩
instance:Sz ZV:=⟨fun n x=>Sm n x.YS,fun n=>Sz.zero n,fun h k=>Sz.mono h k⟩
@[simp] theorem ZV.Of {x : ZV} (h : Sm n x) : Sm n x.YS := h
@[simp] theorem ZV.Uy : Sm n (ZV.mk Key' Ints' Mark') = (Sm n Ints') := rfl
structure ZU where
  ZM:List ZV
  ZR:List ZZ
  deriving Inhabited,DecidableEq
variable{cP:List ZU}{bO:ZU}
@[simp] def ZU.row (x : ZU) : List Vm.D := [.sl 3 (x.ZM.map ZV.row), .sl 5 (x.ZR.map ZZ.row)]
instance:Cn ZU:=⟨fun x=>cn x.ZM+cn x.ZR⟩
instance:Sz ZU:=⟨fun n x=>Sm n x.ZM/\Sm n x.ZR,fun n=>⟨Sz.zero n,Sz.zero n⟩,fun h k=>⟨Sz.mono h k.1,Sz.mono h k.2⟩⟩
@[simp] theorem ZU.XV {x : ZU} (h : Sm n x) : Sm n x.ZM := h.1
@[simp] theorem ZU.KE {x : ZU} (h : Sm n x) : Sm n x.ZR := h.2
@[simp] theorem ZU.Uy : Sm n (ZU.mk bN aN) = (Sm n bN /\ Sm n aN) := rfl
structure ZO where
  Id:Int
  XL:Int
  Doc:ZL
  Sig:Zs
  ZN:ZU
  deriving Inhabited,DecidableEq
variable{dI:List ZO}
@[simp] def ZO.row (x : ZO) : List Vm.D := [.int .i64 x.Id, .int .i64 x.XL, .int .i64 x.Doc.KK, .sl 1 (x.Doc.Yf.map sR), .sl 1 (x.Doc.Xl.map iR), .int .i64 x.Sig.Key, .int .i64 x.Sig.Zk, .int .i64 x.Sig.Method, .int .i64 x.Sig.Y6, .int .i64 x.Sig.kl, .int .i64 x.Sig.Org, .int .i64 x.Sig.kj, .int .i64 x.Sig.Wl, .int .i64 x.Sig.Mark, .sl 3 (x.ZN.ZM.map ZV.row), .sl 5 (x.ZN.ZR.map ZZ.row)]
instance:Cn ZO:=⟨fun x=>cn x.Id+cn x.XL+cn x.Doc+cn x.Sig+cn x.ZN⟩
instance:Sz ZO:=⟨fun n x=>Sm n x.Doc/\Sm n x.ZN,fun n=>⟨Sz.zero n,Sz.zero n⟩,fun h k=>⟨Sz.mono h k.1,Sz.mono h k.2⟩⟩
@[simp] theorem ZO.KU {x : ZO} (h : Sm n x) : Sm n x.Doc := h.1
@[simp] theorem ZO.Yz {x : ZO} (h : Sm n x) : Sm n x.ZN := h.2
@[simp] theorem ZO.Uy : Sm n (ZO.mk Id' Keep' aO Sig' bO) = (Sm n aO /\ Sm n bO) := rfl
structure ZD where
  Id:Int
  ZE:List ZO
  deriving Inhabited,DecidableEq
variable{di:List ZD}
@[simp] def ZD.row (x : ZD) : List Vm.D := [.int .i64 x.Id, .sl 16 (x.ZE.map ZO.row)]
instance:Cn ZD:=⟨fun x=>cn x.Id+cn x.ZE⟩
instance:Sz ZD:=⟨fun n x=>Sm n x.ZE,fun n=>Sz.zero n,fun h k=>Sz.mono h k⟩
@[simp] theorem ZD.YD {x : ZD} (h : Sm n x) : Sm n x.ZE := h
@[simp] theorem ZD.Uy : Sm n (ZD.mk Id' dI) = (Sm n dI) := rfl
structure ZF where
  Frame:ZT
  Zd:List YL
  YW:List Int
  ZA:List ZD
  XW:List Int
  XA:List Int
  Next:Int
  Ym:List Int
  deriving Inhabited,DecidableEq
variable{x:ZF}
@[simp] def ZF.row (x : ZF) : List Vm.D := [.sl 5 (x.Frame.Zz.map Yg.row), .sl 3 (x.Frame.ZC.map Za.row), .sl 4 (x.Frame.Methods.map Z9.row), .int .i64 x.Frame.Jb, .int .i64 x.Frame.Now, .sl 7 (x.Zd.map YL.row), .sl 1 (x.YW.map iR), .sl 2 (x.ZA.map ZD.row), .sl 1 (x.XW.map iR), .sl 1 (x.XA.map iR), .int .i64 x.Next, .sl 1 (x.Ym.map iR)]
instance:Cn ZF:=⟨fun x=>cn x.Frame+cn x.Zd+cn x.YW+cn x.ZA+cn x.XW+cn x.XA+cn x.Next+cn x.Ym⟩
instance:Sz ZF:=⟨fun n x=>Sm n x.Frame/\Sm n x.Zd/\Sm n x.YW/\Sm n x.ZA/\Sm n x.XW/\Sm n x.XA/\Sm n x.Ym,fun n=>⟨Sz.zero n,Sz.zero n,Sz.zero n,Sz.zero n,Sz.zero n,Sz.zero n,Sz.zero n⟩,fun h k=>⟨Sz.mono h k.1,Sz.mono h k.2.1,Sz.mono h k.2.2.1,Sz.mono h k.2.2.2.1,Sz.mono h k.2.2.2.2.1,Sz.mono h k.2.2.2.2.2.1,Sz.mono h k.2.2.2.2.2.2⟩⟩
@[simp] theorem ZF.Yx (h : Sm n x) : Sm n x.Frame := h.1
@[simp] theorem ZF.mb (h : Sm n x) : Sm n x.Zd := h.2.1
@[simp] theorem ZF.p9 (h : Sm n x) : Sm n x.YW := h.2.2.1
@[simp] theorem ZF.Z6 (h : Sm n x) : Sm n x.ZA := h.2.2.2.1
@[simp] theorem ZF.wg (h : Sm n x) : Sm n x.XW := h.2.2.2.2.1
@[simp] theorem ZF.rV (h : Sm n x) : Sm n x.XA := h.2.2.2.2.2.1
@[simp] theorem ZF.Mg (h : Sm n x) : Sm n x.Ym := h.2.2.2.2.2.2
@[simp] theorem ZF.Uy : Sm n (ZF.mk aP aQ aR di Seqs' aS Next' bP) = (Sm n aP /\ Sm n aQ /\ Sm n aR /\ Sm n di /\ Sm n Seqs' /\ Sm n aS /\ Sm n bP) := rfl
structure Zo where
  Kind:Int
  A:Int
  B:Int
  C:Int
  D:Int
  Doc:ZL
  Ids:List Int
  deriving Inhabited,DecidableEq
@[simp] def Zo.row (x : Zo) : List Vm.D := [.int .i64 x.Kind, .int .i64 x.A, .int .i64 x.B, .int .i64 x.C, .int .i64 x.D, .int .i64 x.Doc.KK, .sl 1 (x.Doc.Yf.map sR), .sl 1 (x.Doc.Xl.map iR), .sl 1 (x.Ids.map iR)]
instance:Cn Zo:=⟨fun x=>cn x.Kind+cn x.A+cn x.B+cn x.C+cn x.D+cn x.Doc+cn x.Ids⟩
instance:Sz Zo:=⟨fun n x=>Sm n x.Doc/\Sm n x.Ids,fun n=>⟨Sz.zero n,Sz.zero n⟩,fun h k=>⟨Sz.mono h k.1,Sz.mono h k.2⟩⟩
@[simp] theorem Zo.KU {x : Zo} (h : Sm n x) : Sm n x.Doc := h.1
@[simp] theorem Zo.pU {x : Zo} (h : Sm n x) : Sm n x.Ids := h.2
@[simp] theorem Zo.Uy : Sm n (Zo.mk Kind' A' B' C' D' aO Ids') = (Sm n aO /\ Sm n Ids') := rfl
structure Zn where
  Xv:Int
  To:Int
  deriving Inhabited,DecidableEq
@[simp] def Zn.row (x : Zn) : List Vm.D := [.int .i64 x.Xv, .int .i64 x.To]
instance:Cn Zn:=⟨fun x=>cn x.Xv+cn x.To⟩
instance:Sz Zn:=⟨fun _ _=>True,fun _=>trivial,fun _ h=>h⟩
@[simp] theorem Zn.R6 {x : Zn} : Sm n x := trivial
structure Xi where
  Code:Int
  Reason:Int
  Span:Zn
  deriving Inhabited,DecidableEq
@[simp] def Xi.row (x : Xi) : List Vm.D := [.int .i64 x.Code, .int .i64 x.Reason, .int .i64 x.Span.Xv, .int .i64 x.Span.To]
instance:Cn Xi:=⟨fun x=>cn x.Code+cn x.Reason+cn x.Span⟩
instance:Sz Xi:=⟨fun _ _=>True,fun _=>trivial,fun _ h=>h⟩
@[simp] theorem Xi.R6 {x : Xi} : Sm n x := trivial
structure YO where
  KK:Int
  Methods:List Int
  Shown:List Bool
  Yf:List ByteArray
  Xl:List Int
  Ja:List (List Int)
  deriving Inhabited,DecidableEq
@[simp] def YO.row (x : YO) : List Vm.D := [.int .i64 x.KK, .sl 1 (x.Methods.map iR), .sl 1 (x.Shown.map lR), .sl 1 (x.Yf.map sR), .sl 1 (x.Xl.map iR), .sl 1 (x.Ja.map (slR 1 iR))]
instance:Cn YO:=⟨fun x=>cn x.KK+cn x.Methods+cn x.Shown+cn x.Yf+cn x.Xl+cn x.Ja⟩
instance:Sz YO:=⟨fun n x=>Sm n x.Methods/\Sm n x.Shown/\Sm n x.Yf/\Sm n x.Xl/\Sm n x.Ja,fun n=>⟨Sz.zero n,Sz.zero n,Sz.zero n,Sz.zero n,Sz.zero n⟩,fun h k=>⟨Sz.mono h k.1,Sz.mono h k.2.1,Sz.mono h k.2.2.1,Sz.mono h k.2.2.2.1,Sz.mono h k.2.2.2.2⟩⟩
@[simp] theorem YO.Xq {x : YO} (h : Sm n x) : Sm n x.Methods := h.1
@[simp] theorem YO.pd {x : YO} (h : Sm n x) : Sm n x.Shown := h.2.1
@[simp] theorem YO.UG {x : YO} (h : Sm n x) : Sm n x.Yf := h.2.2.1
@[simp] theorem YO.vd {x : YO} (h : Sm n x) : Sm n x.Xl := h.2.2.2.1
@[simp] theorem YO.nQ {x : YO} (h : Sm n x) : Sm n x.Ja := h.2.2.2.2
@[simp] theorem YO.Uy : Sm n (YO.mk cx eD aT dG dH cO) = (Sm n eD /\ Sm n aT /\ Sm n dG /\ Sm n dH /\ Sm n cO) := rfl
structure Zh where
  Zg:List ZU
  Yl:List (List ZX)
  deriving Inhabited,DecidableEq
@[simp] def Zh.row (x : Zh) : List Vm.D := [.sl 2 (x.Zg.map ZU.row), .sl 1 (x.Yl.map (slR 5 ZX.row))]
instance:Cn Zh:=⟨fun x=>cn x.Zg+cn x.Yl⟩
instance:Sz Zh:=⟨fun n x=>Sm n x.Zg/\Sm n x.Yl,fun n=>⟨Sz.zero n,Sz.zero n⟩,fun h k=>⟨Sz.mono h k.1,Sz.mono h k.2⟩⟩
@[simp] theorem Zh.Xc {x : Zh} (h : Sm n x) : Sm n x.Zg := h.1
@[simp] theorem Zh.NT {x : Zh} (h : Sm n x) : Sm n x.Yl := h.2
@[simp] theorem Zh.Uy : Sm n (Zh.mk cP aU) = (Sm n cP /\ Sm n aU) := rfl
structure Zx where
  Zk:Int
  Mz:Int
  YW:Int
  YG:Int
  Mark:Int
  deriving Inhabited,DecidableEq
@[simp] def Zx.row (x : Zx) : List Vm.D := [.int .i64 x.Zk, .int .i64 x.Mz, .int .i64 x.YW, .int .i64 x.YG, .int .i64 x.Mark]
instance:Cn Zx:=⟨fun x=>cn x.Zk+cn x.Mz+cn x.YW+cn x.YG+cn x.Mark⟩
instance:Sz Zx:=⟨fun _ _=>True,fun _=>trivial,fun _ h=>h⟩
@[simp] theorem Zx.R6 {x : Zx} : Sm n x := trivial
structure Z3 where
  b:List UInt8
  i:Nat
  h:Int
  deriving Inhabited,DecidableEq
@[simp] def Z3.row (x : Z3) : List Vm.D := [.sl 1 (x.b.map bR), .int .i64 (x.i : Int), .int .i64 x.h]
instance:Sz Z3:=⟨fun n x=>Sm n x.b,fun n=>Sz.zero n,fun h k=>Sz.mono h k⟩
@[simp] theorem Z3.iW {x : Z3} (h : Sm n x) : Sm n x.b := h
@[simp] theorem Z3.Uy : Sm n (Z3.mk b' i' h') = (Sm n b') := rfl
structure Yy where
  Xv:Int
  To:Int
  ZE:List ZO
  Y6:Int
  deriving Inhabited,DecidableEq
@[simp] def Yy.row (x : Yy) : List Vm.D := [.int .i64 x.Xv, .int .i64 x.To, .sl 16 (x.ZE.map ZO.row), .int .i64 x.Y6]
instance:Cn Yy:=⟨fun x=>cn x.Xv+cn x.To+cn x.ZE+cn x.Y6⟩
instance:Sz Yy:=⟨fun n x=>Sm n x.ZE,fun n=>Sz.zero n,fun h k=>Sz.mono h k⟩
@[simp] theorem Yy.YD {x : Yy} (h : Sm n x) : Sm n x.ZE := h
@[simp] theorem Yy.Uy : Sm n (Yy.mk From' To' dI Digest') = (Sm n dI) := rfl
structure XQ where
  Org:Int
  GK:Int
  Xv:Int
  To:Int
  Key:Int
  Mark:Int
  deriving Inhabited,DecidableEq
@[simp] def XQ.row (x : XQ) : List Vm.D := [.int .i64 x.Org, .int .i64 x.GK, .int .i64 x.Xv, .int .i64 x.To, .int .i64 x.Key, .int .i64 x.Mark]
instance:Cn XQ:=⟨fun x=>cn x.Org+cn x.GK+cn x.Xv+cn x.To+cn x.Key+cn x.Mark⟩
instance:Sz XQ:=⟨fun _ _=>True,fun _=>trivial,fun _ h=>h⟩
@[simp] theorem XQ.R6 {x : XQ} : Sm n x := trivial
open Go.Vm
variable{c:Nat->Bool}{F:Nat->Nat->Sum Bool Unit}{rows:List (List Vm.D)}{r:List Vm.D}
theorem Gb{α:Type}[Inhabited α]{l:List α}(h:i<l.length):nth l i=l[i]:=by simp[nth,h]
theorem oX{α:Type}[Inhabited α]{l:List α}(h:i<l.length):nth l i∈l:=by rw[Gb h];exact List.getElem_mem h
theorem ky{α:Type}[Inhabited α]{F:Nat->List α->Nat->List α}{a:List α}{g:α->α}(hg:∀x,g x=x)
    (h1:∀n v i,F (n+1) v i=bif decide ((i:Int)<(a.length:Int))then F n (v++[g (nth a i)]) (i+1)else v):
    ∀n v i,a.length<n+i->i<=a.length->F n v i=v++a.drop i:=by
  intro n;induction n with
  |zero=>intro v i h2 h3;omega
  |succ n ih=>
    intro v i h2 h3;rw[h1];by_cases hi:i<a.length
    · rw[show decide ((i:Int)<(a.length:Int))=true by simp[hi],cond_true,ih _ _ zAC hi,hg,Gb hi,List.append_assoc,List.singleton_append,<-List.drop_eq_getElem_cons hi]
    · rw[show decide ((i:Int)<(a.length:Int))=false by simp;omega,cond_false,List.drop_eq_nil_of_le zAC,List.append_nil]
theorem kS{F:Nat->Nat->Sum Int Unit}(h0:∀i,F 0 i= .inr ())
    (h1:∀n i,F (n+1) i=bif decide ((i:Int)<(L:Int))then(bif c i then .inl (i:Int)else F n (i+1))else .inr ()):
    ∀n i,(match F n i with|.inl r=>r|.inr _=>-1)<(L:Int):=by
  intro n;induction n with
  |zero=>intro i;rw[h0];show(-1:Int)<_;omega
  |succ n ih=>
    intro i;rw[h1];by_cases hi:(i:Int)<(L:Int)
    · rw[show decide ((i:Int)<(L:Int))=true by simpa using hi,cond_true];cases hc:c i with
      |true=>simpa using hi
      |false=>exact ih (i+1)
    · rw[show decide ((i:Int)<(L:Int))=false by simpa using hi,cond_false];show(-1:Int)<_;omega
theorem XH(h:i<rows.length):Vm.rowAt (rows.set i r) i=r:=by simp[Vm.rowAt,h]
theorem De{α:Type}{p:α->Prop}{l:List α}{a:α}(h1:∀x∈l,p x)(h2:p a):∀x∈l.set i a,p x:=by
  intro x hx;rcases List.mem_or_eq_of_mem_set hx with h|h
  · exact h1 x h
  · rw[h];exact h2
theorem ZG{α:Type}{p:α->Prop}{c:Bool}{x y:α}(hx:p x)(hy:p y):p (bif c then x else y):=by cases c;exact hy;exact hx
theorem Ys{α:Type}{p:α->Prop}{c:Bool}{x y:α}(hx:c=true->p x)(hy:c=false->p y):p (bif c then x else y):=by cases c;exact hy rfl;exact hx rfl
theorem Nu{α:Type}{F:Nat->List α->Nat->List α}{g:Nat->α}(h0:∀v i,F 0 v i=[])
    (h1:∀n v i,F (n+1) v i=bif decide ((i:Int)<(L:Int))then(bif c i then F n (v++[g i]) (i+1)else F n v (i+1))else v):∀n v i,(F n v i).length<=v.length+(L-i):=by
  intro n;induction n with
  |zero=>intro v i;rw[h0];simp
  |succ n ih=>
    intro v i;rw[h1];by_cases hi:i<L
    · rw[show decide ((i:Int)<(L:Int))=true by simp[hi],cond_true];cases c i with
      |true=>have:=ih (v++[g i]) (i+1);rw[cond_true];simp at this;omega
      |false=>have:=ih v (i+1);rw[cond_false];omega
    · rw[show decide ((i:Int)<(L:Int))=false by simp;omega,cond_false];omega
theorem uE{α:Type}{F:Nat->List α->Nat->List α}{g:Nat->α}(h0:∀v i,F 0 v i=[])
    (h1:∀n v i,F (n+1) v i=bif decide ((i:Int)<(L:Int))then F n (v++[g i]) (i+1)else v):∀n v i,(F n v i).length<=v.length+(L-i):=by
  intro n;induction n with
  |zero=>intro v i;rw[h0];simp
  |succ n ih=>
    intro v i;rw[h1];by_cases hi:i<L
    · rw[show decide ((i:Int)<(L:Int))=true by simp[hi],cond_true];have:=ih (v++[g i]) (i+1);simp at this;omega
    · rw[show decide ((i:Int)<(L:Int))=false by simp;omega,cond_false];omega
theorem Kp{s:ZU}{r:ZZ}(hn:n+1<=m)(h:Sm n s)(hr:Sm m r):Sm m (ZU.mk s.ZM (s.ZR++[r])):=by
  refine⟨ZK zAC h.1,⟨?_,fun x hx=>?_⟩⟩
  · have:=h.2.1;simp;omega
  · rcases List.mem_append.1 hx with hx|hx
    · exact ZK zAC (h.2.2 x hx)
    · simp at hx;subst hx;exact hr
open Go.Vm
open Go.Vm
theorem Yd(n:Int):W n=(n+9223372036854775808)%18446744073709551616-9223372036854775808:=IntKind.wrap_i64 n
theorem U6{α:Type}[Inhabited α][DecidableEq α]{a b:List α}(hl:a.length=b.length)(hc:∀i,c i=!decide (nth a i=nth b i))(h0:∀i,F 0 i= .inr ())
    (h1:∀n i,F (n+1) i=bif decide ((i:Int)<(a.length:Int))then(bif c i then .inl false else F n (i+1))else .inr ()):
    F (a.length+1) 0=if a=b then .inr ()else .inl false:=by
  have key:∀n i,a.length<n+i->F n i=if a.drop i=b.drop i then .inr ()else .inl false:=by
    intro n;induction n with
    |zero=>intro i h;rw[h0,List.drop_eq_nil_of_le zAC,List.drop_eq_nil_of_le zAC,if_pos rfl]
    |succ n ih=>
      intro i h;rw[h1];by_cases hi:i<a.length
      · have hib:i<b.length:=zAC;rw[show decide ((i:Int)<(a.length:Int))=true by simp[hi],cond_true,hc,List.drop_eq_getElem_cons hi,List.drop_eq_getElem_cons hib,Gb hi,Gb hib];by_cases he:a[i]=b[i]
        · rw[he,show decide (b[i]=b[i])=true by simp,Bool.not_true,cond_false,ih _ zAC];simp only[List.cons.injEq,true_and]
        · rw[show decide (a[i]=b[i])=false by simp[he],if_neg (fun hh=>he (List.cons.inj hh).1)];rfl
      · rw[show decide ((i:Int)<(a.length:Int))=false by simp;omega,cond_false,List.drop_eq_nil_of_le zAC,List.drop_eq_nil_of_le zAC,if_pos rfl]
  have:=key (a.length+1) 0 zAC;simpa using this
theorem sH{α:Type}[Inhabited α][DecidableEq α]{a b:List α}(hc:∀i,c i=!decide (nth a i=nth b i))(h0:∀i,F 0 i= .inr ())
    (h1:∀n i,F (n+1) i=bif decide ((i:Int)<(a.length:Int))then(bif c i then .inl false else F n (i+1))else .inr ()):
    (bif((a.length:Int)!=(b.length:Int))then false else(match F (a.length+1) 0 with|.inl r=>r|.inr _=>true))=decide (a=b):=by
  by_cases hl:a.length=b.length
  · rw[U6 hl hc h0 h1];simp only[hl,bne_self_eq_false,cond_false];by_cases h:a=b<;>simp[h]
  · have ij:a≠b:=fun h=>hl zCY;have:((a.length:Int)!=(b.length:Int))=true:=zAk;rw[this,cond_true];simp[ij]
open Go.Vm
theorem vV{α:Type}[Inhabited α][Sz α]{f:α->List D}{n:Nat}:∀{rows:List (List D)},(∀r,r∈rows->∃x:α,r=f x/\Sm n x)->∃l:List α,rows=l.map f/\∀x∈l,Sm n x
  |[],_=>⟨[],rfl,fun _ h=>by cases h⟩
  |r::rows,h=>by
    obtain⟨x,hx,sx⟩:=h r zAE;obtain⟨l,hl,sl⟩:=vV (rows:=rows) (fun r hr=>h r zCZ);refine⟨x::l,by simp[hx,hl],fun y hy=>?_⟩;rcases List.mem_cons.1 hy with rfl|hy
    · exact sx
    · exact sl y hy
open Go.Vm
variable{P:Program}{ts:List TypeId}
theorem tZ{t:TypeId}:∀{rows:List (List D)},Bz P n (t::ts) rows->∃r rs,rows=r::rs/\TyR P n t r/\Bz P n ts rs
  |r::rs,h=>⟨r,rs,rfl,h.1,h.2⟩
  |[],h=>h.elim
theorem sb:∀{rows:List (List D)},Bz P n [] rows->rows=[]
  |[],_=>rfl
  |_::_,h=>h.elim
open Go.Vm
@[simp] theorem sO (l : List UInt8) : KY l = l.map bR := rfl
@[simp] theorem pq (x : Int) : ((UInt8.ofInt x).toNat : Int) = IntKind.u8.wrap x := by
  rw[IntKind.wrap_u8];simp[UInt8.ofInt];omega
theorem r9(x:Int):(W (Int.tdiv x 10)).natAbs<=9223372036854775808/\(W (Int.tdiv x 10)).natAbs<=x.natAbs/10:=by
  rw[Yd];have:(Int.tdiv x 10).natAbs=x.natAbs/10:=by rw[Int.natAbs_tdiv];rfl
  omega
theorem pV{x:Int}(h:n+1=21\/x.natAbs<10^(n+1)):(W (Int.tdiv x 10)).natAbs<10^n:=by
  obtain⟨h1,h2⟩:=r9 x;rcases h with h|h
  · have:n=20:=zAC;subst this;have:(10:Nat)^20=100000000000000000000:=zAF;omega
  · rw[Nat.pow_succ]at h;omega
open Go.Vm
theorem sP{x:Int}(hj:p+1=21\/x.natAbs<10^(p+1))(hx:((W (Int.tdiv x 10))==0)=false):1<=p/\(p=21\/(W (Int.tdiv x 10)).natAbs<10^p):=by
  have hx:W (Int.tdiv x 10)≠0:=by simpa using hx
  have h:=pV hj;refine⟨?_,.inr h⟩;rcases Nat.eq_zero_or_pos p with hz|hz
  · subst hz;simp at h;exact absurd h hx
  · exact hz
open Go.Vm
@[simp] theorem mh {α : Type} {l : List α} (h : l.length <= n) : List.take n l = l := List.take_of_length_le h
@[simp] theorem oy {α β : Type} (f : α -> β) (l : List α) : List.take l.length (List.map f l) = List.map f l := List.take_of_length_le zAE
@[simp] theorem nC (n : Nat) : 1 + n = n + 1 := Nat.add_comm 1 n
@[simp] theorem mv {α β : Type} (f : α -> β) (l : List α) (x y : β) : List.take (2 + l.length) (x :: y :: List.map f l) = x :: y :: List.map f l := List.take_of_length_le zAk
@[simp] theorem mw {α β : Type} (f : α -> β) (l : List α) (x y z : β) : List.take (3 + l.length) (x :: y :: z :: List.map f l) = x :: y :: z :: List.map f l := List.take_of_length_le zAk
@[simp] theorem mr {α β : Type} (f : α -> β) (l : List α) (x y z u : β) : List.take (4 + l.length) (x :: y :: z :: u :: List.map f l) = x :: y :: z :: u :: List.map f l := List.take_of_length_le zAk
@[simp] theorem mq {α β : Type} (f : α -> β) (l : List α) (x y z u v : β) : List.take (5 + l.length) (x :: y :: z :: u :: v :: List.map f l) = x :: y :: z :: u :: v :: List.map f l := List.take_of_length_le zAk
@[simp] theorem mn {α β : Type} (f : α -> β) (l : List α) (x y z u v w : β) : List.take (6 + l.length) (x :: y :: z :: u :: v :: w :: List.map f l) = x :: y :: z :: u :: v :: w :: List.map f l := List.take_of_length_le zAk
theorem DN(n:Nat)(h:n<=9223372036854775807):W ((n:Int)-1)=(n:Int)-1:=YQ zAC zAC
@[simp] theorem mj (a : Array UInt8) : (ByteArray.mk a).size = a.size := rfl
@[simp] theorem mF {α : Type} {l : List α} {x : α} {v : Nat} (h : l.length = n) : List.take (min v n + 1 + (n - v)) (List.take v l ++ x :: List.drop v l) = List.take v l ++ x :: List.drop v l := by
  apply List.take_of_length_le;simp;omega
@[simp] theorem mu (a b : Nat) : (min a b + 1 + (b - a) = min a b + (b - a + 1)) = True := zAk
theorem qj{α:Type}[Inhabited α][Sz α]{l:List α}{x:α}(h:Sm n l)(hx:Sm n x):Sm n (l.set i x):=
  ⟨by simpa using h.1,fun y hy=>by
    rcases List.mem_or_eq_of_mem_set hy with hy|rfl
    · exact h.2 y hy
    · exact hx⟩
theorem tq{α:Type}(a b:α):cond true a b=a/\cond false a b=b:=⟨rfl,rfl⟩
theorem lx{x a b:ByteArray}(h:(decide (x=a))=true)(n:decide (a=b)=false:=by decide):(decide (x=b))=false:=by rw[of_decide_eq_true h];exact n
theorem Qy{α:Type}(a b:α):cond true a b=a:=(tq a b).1
theorem Qo{α:Type}(a b:α):cond false a b=b:=(tq a b).2
/-- a side condition that is found by itself -/
theorem bf{a:Bool}{c:Prop}(h:a=true->c):a=false\/c:=by cases a with|false=>exact .inl rfl|true=>exact .inr (h rfl)
theorem sd(h:b)(k:a:=by(intros;first|omega|exact⟨by assumption,fun k=>⟨by assumption,k⟩⟩|exact bf zBI|(simp only[decide_eq_true_eq,decide_eq_false_iff_not,beq_iff_eq,beq_eq_false_iff_ne,bne_iff_ne,ne_eq,Bool.or_eq_false_iff,Bool.or_eq_true,Bool.and_eq_true,Bool.not_eq_true',Bool.not_eq_false']at*;omega)|((try simp only[Go.Mo.Yd,show ∀x,Go.IntKind.i64.wrap x=Go.Vm.W x from fun _=>rfl]at*);omega)|exact List.ne_nil_of_length_pos zBI)):a/\b:=⟨k,h⟩
theorem sdg(h:b)(k:a:=by(intros;first|omega|(simp_all;done)|(simp_all;omega)|grind|((try simp only[Go.Mo.Yd,show ∀x,Go.IntKind.i64.wrap x=Go.Vm.W x from fun _=>rfl]at*);omega))):a/\b:=⟨k,h⟩
theorem il{a b:Nat}(h:a<b:=by first|omega|(simp only[decide_eq_true_eq,decide_eq_false_iff_not,beq_iff_eq,beq_eq_false_iff_ne,bne_iff_ne,ne_eq,Bool.or_eq_false_iff,Bool.not_eq_true',Bool.not_eq_false']at*;omega)|(simp_all[List.length_pos_iff];done)|(simp;omega)|(simp_all;omega)|((try simp only[Go.Mo.Yd,show ∀x,Go.IntKind.i64.wrap x=Go.Vm.W x from fun _=>rfl]at*);omega)|(simp;(try simp only[Go.Mo.Yd,show ∀x,Go.IntKind.i64.wrap x=Go.Vm.W x from fun _=>rfl]at*);omega)):a<b:=h
theorem ik{α:Type}(a:Nat)(l:List α)(h:a<l.length:=by first|omega|(simp only[decide_eq_true_eq,decide_eq_false_iff_not,beq_iff_eq,beq_eq_false_iff_ne,bne_iff_ne,ne_eq,Bool.or_eq_false_iff,Bool.not_eq_true',Bool.not_eq_false']at*;omega)|(simp_all[List.length_pos_iff];done)|(simp;omega)|(simp_all;omega)|((try simp only[Go.Mo.Yd,show ∀x,Go.IntKind.i64.wrap x=Go.Vm.W x from fun _=>rfl]at*);omega)|(simp;(try simp only[Go.Mo.Yd,show ∀x,Go.IntKind.i64.wrap x=Go.Vm.W x from fun _=>rfl]at*);omega)):a<l.length:=h
theorem sl{α:Type}[Inhabited α][Sz α](n:Nat)(l:List α)(u:q)(h:q->Sm n l:=by(intro u;simp(maxDischargeDepth:=12) [u])):l.length<=n:=YA (h u)
theorem sg{α:Type}[Inhabited α][Sz α]{x:α}(h:Sm n x)(k:n<=m:=by decide):Sm m x:=ZK k h
theorem Bu{α:Type}[Inhabited α]{l:List α}(h:i<l.length):l.drop i=Vm.nth l i::l.drop (i+1):=by rw[List.drop_eq_getElem_cons h];simp[Vm.nth,List.getD_eq_getElem?_getD,List.getElem?_eq_getElem h]
theorem Pv{α:Type}[Inhabited α](c:α->Nat){l:List α}(h:i<l.length):cnL c (l.drop i)=c (Vm.nth l i)+cnL c (l.drop (i+1)):=by rw[Bu h];rfl
theorem HG{α β:Type}(f:α->List β):∀l:List α,(l.flatMap f).length=cnL (fun x=>(f x).length) l
  |[]=>rfl
  |x::l=>by simp only[List.flatMap_cons,List.length_append,cnL,HG f l]
theorem Iw{α β:Type}[Inhabited α]{as:List α}(f:α->List β){F:Nat->Nat->List β->List β}(h1:∀n i l,F (n+1) i l=bif decide ((i:Int)<(as.length:Int))then F n (i+1) (l++f (Vm.nth as i))else l):∀n i l,as.length<n+i->i<=as.length->F n i l=l++(as.drop i).flatMap f
  |0,i,l,h,h2=>zAC
  |n+1,i,l,h,h2=>by
    rw[h1];by_cases hi:i<as.length
    · rw[show decide ((i:Int)<(as.length:Int))=true by simpa using hi,Qy,Iw f h1 n (i+1) _ zAC hi,Bu hi];simp
    · rw[show decide ((i:Int)<(as.length:Int))=false by simpa using hi,Qo,List.drop_eq_nil_of_le zAC];simp
theorem vr{α β:Type}(f:α->β):∀l:List α,l.flatMap (fun a=>[f a])=l.map f
  |[]=>rfl
  |x::l=>by rw[List.flatMap_cons,vr f l];rfl
theorem VH(h:∀x∈l,x.size<=m)(i:Nat):(Vm.nth l i).size<=m:=by
  by_cases hi:i<l.length
  · rw[show Vm.nth l i=l[i]by simp[Vm.nth,List.getD_eq_getElem?_getD,List.getElem?_eq_getElem hi]];exact h _ (List.getElem_mem hi)
  · rw[show Vm.nth l i=default by simp[Vm.nth,List.getD_eq_getElem?_getD,List.getElem?_eq_none (Nat.le_of_not_lt hi)]];exact Nat.zero_le _
theorem Hh{α:Type}{p:α->Prop}{l m:List α}(h:∀x∈l,p x)(k:∀x∈m,p x):∀x∈l++m,p x:=fun x hx=>(List.mem_append.1 hx).elim (h x) (k x)
theorem all_cons{α:Type}{p:α->Prop}{a:α}{l:List α}(h:p a)(k:∀x∈l,p x):∀x∈a::l,p x:=fun x hx=>(List.mem_cons.1 hx).elim (fun e=>e▸h) (k x)
theorem all_nil{α:Type}{p:α->Prop}:∀x∈([]:List α),p x:=fun x hx=>zCB
end Go.Mo
