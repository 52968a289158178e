/- The plain data of the program, typed, and uX they read as rows of the abstract machine. No condition. -/
import Derived.Test.YtdffgedmahdehaaGreatVe
import Derived.Laws.BitsLemmas
namespace Go.Mo
open Go.Vm
variable{n i m L i':Nat}{uQ l:List ByteArray}{uR pE sr pF ss sF oY vc:List Int}{tI:List (List Int)}{th n8 pX rl oT pY nz n7 oU oV oW oX A' B' C' D' h' oZ iK rm:Int}{b':List UInt8}{su:List Bool}{s:ByteArray}{a b q:Prop}
@[simp] def iR (n : Int) : List Vm.D := [.int .i64 n]
@[simp] def bR (b : UInt8) : List Vm.D := [.int .u8 (b.toNat : Int)]
@[simp] def lR (b : Bool) : List Vm.D := [.bool b]
@[simp] def sR (s : ByteArray) : List Vm.D := [.str s]
@[simp] def slR {α : Type} (n : Nat) (f : α -> List D) (m : List α) : List Vm.D := [.sl n (m.map f)]
/-- everything in it is at most so long -/
class Sz(α:Type)[Inhabited α] where
  sm:Nat->α->Prop
  zero:∀n,sm n default
  mono:∀{n m:Nat}{x:α},n<=m->sm n x->sm m x
/-- uX many marks it takes -/
class Cn(α:Type) where
  cn:α->Nat
abbrev cn{α:Type}[Cn α](x:α):Nat:=Cn.cn x
def cnL{α:Type}(c:α->Nat):List α->Nat
  |[]=>0
  |x::l=>c x+cnL c l
instance:Cn Int:=⟨fun _=>1⟩
instance:Cn Bool:=⟨fun _=>1⟩
instance:Cn UInt8:=⟨fun _=>1⟩
instance:Cn ByteArray:=⟨fun _=>1⟩
instance{α:Type}[Cn α]:Cn (List α):=⟨cnL Cn.cn⟩
abbrev Sm{α:Type}[Inhabited α][Sz α](n:Nat)(x:α):Prop:=Sz.sm n x
instance:Sz Int:=⟨fun _ _=>True,fun _=>trivial,fun _ h=>h⟩
instance:Sz Bool:=⟨fun _ _=>True,fun _=>trivial,fun _ h=>h⟩
instance:Sz UInt8:=⟨fun _ _=>True,fun _=>trivial,fun _ h=>h⟩
instance:Sz ByteArray:=⟨fun n s=>s.size<=n,fun _=>Nat.zero_le _,fun h k=>Nat.le_trans k h⟩
instance{α:Type}[Inhabited α][Sz α]:Sz (List α):=⟨fun n l=>l.length<=n/\∀x∈l,Sz.sm n x,fun _=>⟨Nat.zero_le _,fun _ h=>by cases h⟩,fun h k=>⟨Nat.le_trans k.1 h,fun x hx=>Sz.mono h (k.2 x hx)⟩⟩
theorem Z9{α:Type}[Inhabited α][Sz α]{l:List α}:Sm n l=(l.length<=n/\∀x∈l,Sm n x):=rfl
theorem JA{α:Type}[Inhabited α][Sz α]{l:List α}(h:Sm n l):l.length<=n:=h.1
theorem RN(h:Sm n s):s.size<=n:=h
@[simp] theorem Gm {x : Int} : Sm n x := trivial
@[simp] theorem Gf {x : Bool} : Sm n x := trivial
@[simp] theorem FC {x : UInt8} : Sm n x := trivial
@[simp] theorem Gu {α : Type} [Inhabited α] [Sz α] : Sm n ([] : List α) := ⟨Nat.zero_le _, fun _ h => by cases h⟩
@[simp] theorem XR {α : Type} [Inhabited α] [Sz α] {l : List α} (h : Sm n l) : Sm n (nth l i) := by
  unfold nth;rw[List.getD_eq_getElem?_getD];cases hh:l[i]? with
  |none=>exact Sz.zero n
  |some x=>exact h.2 x (List.mem_of_getElem? hh)
@[simp] theorem GZ {α : Type} [Inhabited α] [Sz α] {l : List α} (h : Sm n l) : Sm n (l.take i) := ⟨Nat.le_trans fc h.1, fun x hx => h.2 x (List.mem_of_mem_take hx)⟩
@[simp] theorem Ga {α : Type} [Inhabited α] [Sz α] {l : List α} (h : Sm n l) : Sm n (l.drop i) := ⟨Nat.le_trans fM h.1, fun x hx => h.2 x (List.mem_of_mem_drop hx)⟩
theorem QB{α:Type}[Inhabited α][Sz α]{l m:List α}:Sm n (l++m)=(l.length+m.length<=n/\(∀x∈l,Sm n x)/\∀x∈m,Sm n x):=by rw[Z9];simp[or_imp,forall_and]
theorem ZN{α:Type}[Inhabited α][Sz α]{x:α}(h:n<=m)(k:Sm n x):Sm m x:=Sz.mono h k
structure ZO where
  Authority:Int
  Seq:Int
  Time:Int
  Xk:Int
  Mark:Int
  deriving Inhabited,DecidableEq
variable{sv:List (List ZO)}{sC:List ZO}
@[simp] def ZO.row (x : ZO) : List Vm.D := [.int .i64 x.Authority, .int .i64 x.Seq, .int .i64 x.Time, .int .i64 x.Xk, .int .i64 x.Mark]
instance:Cn ZO:=⟨fun x=>cn x.Authority+cn x.Seq+cn x.Time+cn x.Xk+cn x.Mark⟩
instance:Sz ZO:=⟨fun _ _=>True,fun _=>trivial,fun _ h=>h⟩
@[simp] theorem ZO.xK {x : ZO} : Sm n x := trivial
structure Zs where
  Xk:Int
  Left:Bool
  deriving Inhabited,DecidableEq
variable{pC:List Zs}
@[simp] def Zs.row (x : Zs) : List Vm.D := [.int .i64 x.Xk, .bool x.Left]
instance:Cn Zs:=⟨fun x=>cn x.Xk+cn x.Left⟩
instance:Sz Zs:=⟨fun _ _=>True,fun _=>trivial,fun _ h=>h⟩
@[simp] theorem Zs.xK {x : Zs} : Sm n x := trivial
structure ZE where
  Count:Int
  Method:Int
  Mh:Int
  Path:List Zs
  YQ:List ZO
  deriving Inhabited,DecidableEq
variable{si:List ZE}
@[simp] def ZE.row (x : ZE) : List Vm.D := [.int .i64 x.Count, .int .i64 x.Method, .int .i64 x.Mh, .sl 2 (x.Path.map Zs.row), .sl 5 (x.YQ.map ZO.row)]
instance:Cn ZE:=⟨fun x=>cn x.Count+cn x.Method+cn x.Mh+cn x.Path+cn x.YQ⟩
instance:Sz ZE:=⟨fun n x=>Sm n x.Path/\Sm n x.YQ,fun n=>⟨Sz.zero n,Sz.zero n⟩,fun h k=>⟨Sz.mono h k.1,Sz.mono h k.2⟩⟩
@[simp] theorem ZE.IW {x : ZE} (h : Sm n x) : Sm n x.Path := h.1
@[simp] theorem ZE.S4 {x : ZE} (h : Sm n x) : Sm n x.YQ := h.2
@[simp] theorem ZE.zy : Sm n (ZE.mk pX rl oT pC sC) = (Sm n pC /\ Sm n sC) := rfl
structure Yt where
  Number:Int
  WB:Int
  Method:Int
  GK:Int
  RY:Int
  deriving Inhabited,DecidableEq
variable{pD:List Yt}
@[simp] def Yt.row (x : Yt) : List Vm.D := [.int .i64 x.Number, .int .i64 x.WB, .int .i64 x.Method, .int .i64 x.GK, .int .i64 x.RY]
instance:Cn Yt:=⟨fun x=>cn x.Number+cn x.WB+cn x.Method+cn x.GK+cn x.RY⟩
instance:Sz Yt:=⟨fun _ _=>True,fun _=>trivial,fun _ h=>h⟩
@[simp] theorem Yt.xK {x : Yt} : Sm n x := trivial
structure ZZ where
  Id:Int
  Key:Int
  Error:Int
  deriving Inhabited,DecidableEq
variable{vu:List ZZ}
@[simp] def ZZ.row (x : ZZ) : List Vm.D := [.int .i64 x.Id, .int .i64 x.Key, .int .i64 x.Error]
instance:Cn ZZ:=⟨fun x=>cn x.Id+cn x.Key+cn x.Error⟩
instance:Sz ZZ:=⟨fun _ _=>True,fun _=>trivial,fun _ h=>h⟩
@[simp] theorem ZZ.xK {x : ZZ} : Sm n x := trivial
structure zQ where
  Id:Int
  I5:Int
  Ends:Int
  LL:Int
  deriving Inhabited,DecidableEq
@[simp] def zQ.row (x : zQ) : List Vm.D := [.int .i64 x.Id, .int .i64 x.I5, .int .i64 x.Ends, .int .i64 x.LL]
instance:Cn zQ:=⟨fun x=>cn x.Id+cn x.I5+cn x.Ends+cn x.LL⟩
instance:Sz zQ:=⟨fun _ _=>True,fun _=>trivial,fun _ h=>h⟩
@[simp] theorem zQ.xK {x : zQ} : Sm n x := trivial
structure K8 where
  LR:List Yt
  zc:List ZZ
  Methods:List zQ
  LP:Int
  Now:Int
  deriving Inhabited,DecidableEq
variable{sk:K8}
@[simp] def K8.row (x : K8) : List Vm.D := [.sl 5 (x.LR.map Yt.row), .sl 3 (x.zc.map ZZ.row), .sl 4 (x.Methods.map zQ.row), .int .i64 x.LP, .int .i64 x.Now]
instance:Cn K8:=⟨fun x=>cn x.LR+cn x.zc+cn x.Methods+cn x.LP+cn x.Now⟩
instance:Sz K8:=⟨fun n x=>Sm n x.LR/\Sm n x.zc/\Sm n x.Methods,fun n=>⟨Sz.zero n,Sz.zero n,Sz.zero n⟩,fun h k=>⟨Sz.mono h k.1,Sz.mono h k.2.1,Sz.mono h k.2.2⟩⟩
@[simp] theorem K8.Gd {x : K8} (h : Sm n x) : Sm n x.LR := h.1
@[simp] theorem K8.Lf {x : K8} (h : Sm n x) : Sm n x.zc := h.2.1
@[simp] theorem K8.O0 {x : K8} (h : Sm n x) : Sm n x.Methods := h.2.2
@[simp] theorem K8.zy {vc : List zQ} : Sm n (K8.mk pD vu vc pY nz) = (Sm n pD /\ Sm n vu /\ Sm n vc) := rfl
structure XG where
  YC:Int
  Key:Int
  WB:Int
  y0:Int
  To:Int
  Yc:Int
  Mark:Int
  deriving Inhabited,DecidableEq
variable{sn:List XG}
@[simp] def XG.row (x : XG) : List Vm.D := [.int .i64 x.YC, .int .i64 x.Key, .int .i64 x.WB, .int .i64 x.y0, .int .i64 x.To, .int .i64 x.Yc, .int .i64 x.Mark]
instance:Cn XG:=⟨fun x=>cn x.YC+cn x.Key+cn x.WB+cn x.y0+cn x.To+cn x.Yc+cn x.Mark⟩
instance:Sz XG:=⟨fun _ _=>True,fun _=>trivial,fun _ h=>h⟩
@[simp] theorem XG.xK {x : XG} : Sm n x := trivial
structure ZP where
  zj:Int
  Zz:List ByteArray
  Yw:List Int
  deriving Inhabited,DecidableEq
variable{sj:ZP}
@[simp] def ZP.row (x : ZP) : List Vm.D := [.int .i64 x.zj, .sl 1 (x.Zz.map sR), .sl 1 (x.Yw.map iR)]
instance:Cn ZP:=⟨fun x=>cn x.zj+cn x.Zz+cn x.Yw⟩
instance:Sz ZP:=⟨fun n x=>Sm n x.Zz/\Sm n x.Yw,fun n=>⟨Sz.zero n,Sz.zero n⟩,fun h k=>⟨Sz.mono h k.1,Sz.mono h k.2⟩⟩
@[simp] theorem ZP.Ur {x : ZP} (h : Sm n x) : Sm n x.Zz := h.1
@[simp] theorem ZP.Pu {x : ZP} (h : Sm n x) : Sm n x.Yw := h.2
@[simp] theorem ZP.zy : Sm n (ZP.mk th uQ uR) = (Sm n uQ /\ Sm n uR) := rfl
structure ZY where
  Key:Int
  YC:Int
  Method:Int
  Xk:Int
  jS:Int
  Org:Int
  jH:Int
  Vu:Int
  Mark:Int
  deriving Inhabited,DecidableEq
variable{n9:ZY}
@[simp] def ZY.row (x : ZY) : List Vm.D := [.int .i64 x.Key, .int .i64 x.YC, .int .i64 x.Method, .int .i64 x.Xk, .int .i64 x.jS, .int .i64 x.Org, .int .i64 x.jH, .int .i64 x.Vu, .int .i64 x.Mark]
instance:Cn ZY:=⟨fun x=>cn x.Key+cn x.YC+cn x.Method+cn x.Xk+cn x.jS+cn x.Org+cn x.jH+cn x.Vu+cn x.Mark⟩
instance:Sz ZY:=⟨fun _ _=>True,fun _=>trivial,fun _ h=>h⟩
@[simp] theorem ZY.xK {x : ZY} : Sm n x := trivial
structure ZM where
  Key:Int
  zo:List Int
  Mark:Int
  deriving Inhabited,DecidableEq
variable{sD:List ZM}
@[simp] def ZM.row (x : ZM) : List Vm.D := [.int .i64 x.Key, .sl 1 (x.zo.map iR), .int .i64 x.Mark]
instance:Cn ZM:=⟨fun x=>cn x.Key+cn x.zo+cn x.Mark⟩
instance:Sz ZM:=⟨fun n x=>Sm n x.zo,fun n=>Sz.zero n,fun h k=>Sz.mono h k⟩
@[simp] theorem ZM.MI {x : ZM} (h : Sm n x) : Sm n x.zo := h
@[simp] theorem ZM.zy : Sm n (ZM.mk n7 pE oU) = (Sm n pE) := rfl
structure ZH where
  ZG:List ZM
  ZK:List ZE
  deriving Inhabited,DecidableEq
variable{tJ:List ZH}{sE:ZH}
@[simp] def ZH.row (x : ZH) : List Vm.D := [.sl 3 (x.ZG.map ZM.row), .sl 5 (x.ZK.map ZE.row)]
instance:Cn ZH:=⟨fun x=>cn x.ZG+cn x.ZK⟩
instance:Sz ZH:=⟨fun n x=>Sm n x.ZG/\Sm n x.ZK,fun n=>⟨Sz.zero n,Sz.zero n⟩,fun h k=>⟨Sz.mono h k.1,Sz.mono h k.2⟩⟩
@[simp] theorem ZH.zM {x : ZH} (h : Sm n x) : Sm n x.ZG := h.1
@[simp] theorem ZH.KK {x : ZH} (h : Sm n x) : Sm n x.ZK := h.2
@[simp] theorem ZH.zy : Sm n (ZH.mk sD si) = (Sm n sD /\ Sm n si) := rfl
structure ZQ where
  Id:Int
  YL:Int
  Doc:ZP
  Sig:ZY
  ZJ:ZH
  deriving Inhabited,DecidableEq
variable{uS:List ZQ}
@[simp] def ZQ.row (x : ZQ) : List Vm.D := [.int .i64 x.Id, .int .i64 x.YL, .int .i64 x.Doc.zj, .sl 1 (x.Doc.Zz.map sR), .sl 1 (x.Doc.Yw.map iR), .int .i64 x.Sig.Key, .int .i64 x.Sig.YC, .int .i64 x.Sig.Method, .int .i64 x.Sig.Xk, .int .i64 x.Sig.jS, .int .i64 x.Sig.Org, .int .i64 x.Sig.jH, .int .i64 x.Sig.Vu, .int .i64 x.Sig.Mark, .sl 3 (x.ZJ.ZG.map ZM.row), .sl 5 (x.ZJ.ZK.map ZE.row)]
instance:Cn ZQ:=⟨fun x=>cn x.Id+cn x.YL+cn x.Doc+cn x.Sig+cn x.ZJ⟩
instance:Sz ZQ:=⟨fun n x=>Sm n x.Doc/\Sm n x.ZJ,fun n=>⟨Sz.zero n,Sz.zero n⟩,fun h k=>⟨Sz.mono h k.1,Sz.mono h k.2⟩⟩
@[simp] theorem ZQ.Vh {x : ZQ} (h : Sm n x) : Sm n x.Doc := h.1
@[simp] theorem ZQ.XJ {x : ZQ} (h : Sm n x) : Sm n x.ZJ := h.2
@[simp] theorem ZQ.zy : Sm n (ZQ.mk n8 oV sj n9 sE) = (Sm n sj /\ Sm n sE) := rfl
structure ZF where
  Id:Int
  ZC:List ZQ
  deriving Inhabited,DecidableEq
variable{ux:List ZF}
@[simp] def ZF.row (x : ZF) : List Vm.D := [.int .i64 x.Id, .sl 16 (x.ZC.map ZQ.row)]
instance:Cn ZF:=⟨fun x=>cn x.Id+cn x.ZC⟩
instance:Sz ZF:=⟨fun n x=>Sm n x.ZC,fun n=>Sz.zero n,fun h k=>Sz.mono h k⟩
@[simp] theorem ZF.Yy {x : ZF} (h : Sm n x) : Sm n x.ZC := h
@[simp] theorem ZF.zy : Sm n (ZF.mk n8 uS) = (Sm n uS) := rfl
structure Ql where
  Frame:K8
  Nq:List XG
  jJ:List Int
  WJ:List ZF
  Ig:List Int
  N8:List Int
  Next:Int
  Rs:List Int
  deriving Inhabited,DecidableEq
variable{x:Ql}
@[simp] def Ql.row (x : Ql) : List Vm.D := [.sl 5 (x.Frame.LR.map Yt.row), .sl 3 (x.Frame.zc.map ZZ.row), .sl 4 (x.Frame.Methods.map zQ.row), .int .i64 x.Frame.LP, .int .i64 x.Frame.Now, .sl 7 (x.Nq.map XG.row), .sl 1 (x.jJ.map iR), .sl 2 (x.WJ.map ZF.row), .sl 1 (x.Ig.map iR), .sl 1 (x.N8.map iR), .int .i64 x.Next, .sl 1 (x.Rs.map iR)]
instance:Cn Ql:=⟨fun x=>cn x.Frame+cn x.Nq+cn x.jJ+cn x.WJ+cn x.Ig+cn x.N8+cn x.Next+cn x.Rs⟩
instance:Sz Ql:=⟨fun n x=>Sm n x.Frame/\Sm n x.Nq/\Sm n x.jJ/\Sm n x.WJ/\Sm n x.Ig/\Sm n x.N8/\Sm n x.Rs,fun n=>⟨Sz.zero n,Sz.zero n,Sz.zero n,Sz.zero n,Sz.zero n,Sz.zero n,Sz.zero n⟩,fun h k=>⟨Sz.mono h k.1,Sz.mono h k.2.1,Sz.mono h k.2.2.1,Sz.mono h k.2.2.2.1,Sz.mono h k.2.2.2.2.1,Sz.mono h k.2.2.2.2.2.1,Sz.mono h k.2.2.2.2.2.2⟩⟩
@[simp] theorem Ql.GN (h : Sm n x) : Sm n x.Frame := h.1
@[simp] theorem Ql.H2 (h : Sm n x) : Sm n x.Nq := h.2.1
@[simp] theorem Ql.GU (h : Sm n x) : Sm n x.jJ := h.2.2.1
@[simp] theorem Ql.HM (h : Sm n x) : Sm n x.WJ := h.2.2.2.1
@[simp] theorem Ql.Gc (h : Sm n x) : Sm n x.Ig := h.2.2.2.2.1
@[simp] theorem Ql.GA (h : Sm n x) : Sm n x.N8 := h.2.2.2.2.2.1
@[simp] theorem Ql.Hv (h : Sm n x) : Sm n x.Rs := h.2.2.2.2.2.2
@[simp] theorem Ql.zy : Sm n (Ql.mk sk sn sr ux pF ss oW sF) = (Sm n sk /\ Sm n sn /\ Sm n sr /\ Sm n ux /\ Sm n pF /\ Sm n ss /\ Sm n sF) := rfl
structure xV where
  Kind:Int
  A:Int
  B:Int
  C:Int
  D:Int
  Doc:ZP
  Ids:List Int
  deriving Inhabited,DecidableEq
@[simp] def xV.row (x : xV) : List Vm.D := [.int .i64 x.Kind, .int .i64 x.A, .int .i64 x.B, .int .i64 x.C, .int .i64 x.D, .int .i64 x.Doc.zj, .sl 1 (x.Doc.Zz.map sR), .sl 1 (x.Doc.Yw.map iR), .sl 1 (x.Ids.map iR)]
instance:Cn xV:=⟨fun x=>cn x.Kind+cn x.A+cn x.B+cn x.C+cn x.D+cn x.Doc+cn x.Ids⟩
instance:Sz xV:=⟨fun n x=>Sm n x.Doc/\Sm n x.Ids,fun n=>⟨Sz.zero n,Sz.zero n⟩,fun h k=>⟨Sz.mono h k.1,Sz.mono h k.2⟩⟩
@[simp] theorem xV.Vh {x : xV} (h : Sm n x) : Sm n x.Doc := h.1
@[simp] theorem xV.Gr {x : xV} (h : Sm n x) : Sm n x.Ids := h.2
@[simp] theorem xV.zy : Sm n (xV.mk oX A' B' C' D' sj oY) = (Sm n sj /\ Sm n oY) := rfl
structure xq where
  y0:Int
  To:Int
  deriving Inhabited,DecidableEq
@[simp] def xq.row (x : xq) : List Vm.D := [.int .i64 x.y0, .int .i64 x.To]
instance:Cn xq:=⟨fun x=>cn x.y0+cn x.To⟩
instance:Sz xq:=⟨fun _ _=>True,fun _=>trivial,fun _ h=>h⟩
@[simp] theorem xq.xK {x : xq} : Sm n x := trivial
structure xZ where
  Code:Int
  Reason:Int
  Span:xq
  deriving Inhabited,DecidableEq
@[simp] def xZ.row (x : xZ) : List Vm.D := [.int .i64 x.Code, .int .i64 x.Reason, .int .i64 x.Span.y0, .int .i64 x.Span.To]
instance:Cn xZ:=⟨fun x=>cn x.Code+cn x.Reason+cn x.Span⟩
instance:Sz xZ:=⟨fun _ _=>True,fun _=>trivial,fun _ h=>h⟩
@[simp] theorem xZ.xK {x : xZ} : Sm n x := trivial
structure Y8 where
  zj:Int
  Methods:List Int
  Shown:List Bool
  Zz:List ByteArray
  Yw:List Int
  Un:List (List Int)
  deriving Inhabited,DecidableEq
@[simp] def Y8.row (x : Y8) : List Vm.D := [.int .i64 x.zj, .sl 1 (x.Methods.map iR), .sl 1 (x.Shown.map lR), .sl 1 (x.Zz.map sR), .sl 1 (x.Yw.map iR), .sl 1 (x.Un.map (slR 1 iR))]
instance:Cn Y8:=⟨fun x=>cn x.zj+cn x.Methods+cn x.Shown+cn x.Zz+cn x.Yw+cn x.Un⟩
instance:Sz Y8:=⟨fun n x=>Sm n x.Methods/\Sm n x.Shown/\Sm n x.Zz/\Sm n x.Yw/\Sm n x.Un,fun n=>⟨Sz.zero n,Sz.zero n,Sz.zero n,Sz.zero n,Sz.zero n⟩,fun h k=>⟨Sz.mono h k.1,Sz.mono h k.2.1,Sz.mono h k.2.2.1,Sz.mono h k.2.2.2.1,Sz.mono h k.2.2.2.2⟩⟩
@[simp] theorem Y8.O0 {x : Y8} (h : Sm n x) : Sm n x.Methods := h.1
@[simp] theorem Y8.GV {x : Y8} (h : Sm n x) : Sm n x.Shown := h.2.1
@[simp] theorem Y8.Ur {x : Y8} (h : Sm n x) : Sm n x.Zz := h.2.2.1
@[simp] theorem Y8.Pu {x : Y8} (h : Sm n x) : Sm n x.Yw := h.2.2.2.1
@[simp] theorem Y8.HY {x : Y8} (h : Sm n x) : Sm n x.Un := h.2.2.2.2
@[simp] theorem Y8.zy : Sm n (Y8.mk th vc su uQ uR tI) = (Sm n vc /\ Sm n su /\ Sm n uQ /\ Sm n uR /\ Sm n tI) := rfl
structure JR where
  Uo:List ZH
  N3:List (List ZO)
  deriving Inhabited,DecidableEq
@[simp] def JR.row (x : JR) : List Vm.D := [.sl 2 (x.Uo.map ZH.row), .sl 1 (x.N3.map (slR 5 ZO.row))]
instance:Cn JR:=⟨fun x=>cn x.Uo+cn x.N3⟩
instance:Sz JR:=⟨fun n x=>Sm n x.Uo/\Sm n x.N3,fun n=>⟨Sz.zero n,Sz.zero n⟩,fun h k=>⟨Sz.mono h k.1,Sz.mono h k.2⟩⟩
@[simp] theorem JR.HW {x : JR} (h : Sm n x) : Sm n x.Uo := h.1
@[simp] theorem JR.H5 {x : JR} (h : Sm n x) : Sm n x.N3 := h.2
@[simp] theorem JR.zy : Sm n (JR.mk tJ sv) = (Sm n tJ /\ Sm n sv) := rfl
structure YK where
  YC:Int
  Ok:Int
  jJ:Int
  Yc:Int
  Mark:Int
  deriving Inhabited,DecidableEq
@[simp] def YK.row (x : YK) : List Vm.D := [.int .i64 x.YC, .int .i64 x.Ok, .int .i64 x.jJ, .int .i64 x.Yc, .int .i64 x.Mark]
instance:Cn YK:=⟨fun x=>cn x.YC+cn x.Ok+cn x.jJ+cn x.Yc+cn x.Mark⟩
instance:Sz YK:=⟨fun _ _=>True,fun _=>trivial,fun _ h=>h⟩
@[simp] theorem YK.xK {x : YK} : Sm n x := trivial
structure ZL where
  b:List UInt8
  i:Nat
  h:Int
  deriving Inhabited,DecidableEq
@[simp] def ZL.row (x : ZL) : List Vm.D := [.sl 1 (x.b.map bR), .int .i64 (x.i : Int), .int .i64 x.h]
instance:Sz ZL:=⟨fun n x=>Sm n x.b,fun n=>Sz.zero n,fun h k=>Sz.mono h k⟩
@[simp] theorem ZL.FZ {x : ZL} (h : Sm n x) : Sm n x.b := h
@[simp] theorem ZL.zy : Sm n (ZL.mk b' i' h') = (Sm n b') := rfl
structure y1 where
  y0:Int
  To:Int
  ZC:List ZQ
  Xk:Int
  deriving Inhabited,DecidableEq
@[simp] def y1.row (x : y1) : List Vm.D := [.int .i64 x.y0, .int .i64 x.To, .sl 16 (x.ZC.map ZQ.row), .int .i64 x.Xk]
instance:Cn y1:=⟨fun x=>cn x.y0+cn x.To+cn x.ZC+cn x.Xk⟩
instance:Sz y1:=⟨fun n x=>Sm n x.ZC,fun n=>Sz.zero n,fun h k=>Sz.mono h k⟩
@[simp] theorem y1.Yy {x : y1} (h : Sm n x) : Sm n x.ZC := h
@[simp] theorem y1.zy : Sm n (y1.mk oZ iK uS rm) = (Sm n uS) := rfl
structure YW where
  Org:Int
  VL:Int
  y0:Int
  To:Int
  Key:Int
  Mark:Int
  deriving Inhabited,DecidableEq
@[simp] def YW.row (x : YW) : List Vm.D := [.int .i64 x.Org, .int .i64 x.VL, .int .i64 x.y0, .int .i64 x.To, .int .i64 x.Key, .int .i64 x.Mark]
instance:Cn YW:=⟨fun x=>cn x.Org+cn x.VL+cn x.y0+cn x.To+cn x.Key+cn x.Mark⟩
instance:Sz YW:=⟨fun _ _=>True,fun _=>trivial,fun _ h=>h⟩
@[simp] theorem YW.xK {x : YW} : Sm n x := trivial
open Go.Vm
variable{F:Nat->Nat->Sum Bool Unit}{c:Nat->Bool}{rows:List (List Vm.D)}{r:List Vm.D}
theorem U0{α:Type}[Inhabited α]{l:List α}(h:i<l.length):nth l i=l[i]:=by simp[nth,h]
theorem yQ{α:Type}[Inhabited α]{F:Nat->List α->Nat->List α}{a:List α}{g:α->α}(hg:∀x,g x=x)
    (h1:∀n v i,F (n+1) v i=bif decide ((i:Int)<(a.length:Int))then F n (v++[g (nth a i)]) (i+1)else v):
    ∀n v i,a.length<n+i->i<=a.length->F n v i=v++a.drop i:=by
  intro n;induction n with
  |zero=>intro v i h2 h3;omega
  |succ n ih=>
    intro v i h2 h3;rw[h1];by_cases hi:i<a.length
    · rw[show decide ((i:Int)<(a.length:Int))=true by simp[hi],cond_true,ih _ _ fJ hi,hg,U0 hi,List.append_assoc,List.singleton_append,<-List.drop_eq_getElem_cons hi]
    · rw[show decide ((i:Int)<(a.length:Int))=false by simp;omega,cond_false,List.drop_eq_nil_of_le fJ,List.append_nil]
theorem N1{F:Nat->Nat->Sum Int Unit}(h0:∀i,F 0 i= .inr ())
    (h1:∀n i,F (n+1) i=bif decide ((i:Int)<(L:Int))then(bif c i then .inl (i:Int)else F n (i+1))else .inr ()):
    ∀n i,(match F n i with|.inl r=>r|.inr _=>-1)<(L:Int):=by
  intro n;induction n with
  |zero=>intro i;rw[h0];show(-1:Int)<_;omega
  |succ n ih=>
    intro i;rw[h1];by_cases hi:(i:Int)<(L:Int)
    · rw[show decide ((i:Int)<(L:Int))=true by simpa using hi,cond_true];cases hc:c i with
      |true=>simpa using hi
      |false=>exact ih (i+1)
    · rw[show decide ((i:Int)<(L:Int))=false by simpa using hi,cond_false];show(-1:Int)<_;omega
theorem yY(h:i<rows.length):Vm.rowAt (rows.set i r) i=r:=by simp[Vm.rowAt,h]
theorem RX{α:Type}[Inhabited α]{l:List α}{x:α}(h:i<l.length):nth (l.set i x) i=x:=by simp[nth,h]
theorem Zk{α:Type}{p:α->Prop}{c:Bool}{x y:α}(hx:p x)(hy:p y):p (bif c then x else y):=by cases c;exact hy;exact hx
theorem jP{α:Type}{p:α->Prop}{c:Bool}{x y:α}(hx:c=true->p x)(hy:c=false->p y):p (bif c then x else y):=by cases c;exact hy rfl;exact hx rfl
theorem OF{α:Type}{F:Nat->List α->Nat->List α}{g:Nat->α}(h0:∀v i,F 0 v i=[])
    (h1:∀n v i,F (n+1) v i=bif decide ((i:Int)<(L:Int))then F n (v++[g i]) (i+1)else v):∀n v i,(F n v i).length<=v.length+(L-i):=by
  intro n;induction n with
  |zero=>intro v i;rw[h0];simp
  |succ n ih=>
    intro v i;rw[h1];by_cases hi:i<L
    · rw[show decide ((i:Int)<(L:Int))=true by simp[hi],cond_true];have:=ih (v++[g i]) (i+1);simp at this;omega
    · rw[show decide ((i:Int)<(L:Int))=false by simp;omega,cond_false];omega
theorem Xw{s:ZH}{r:ZE}(hn:n+1<=m)(h:Sm n s)(hr:Sm m r):Sm m (ZH.mk s.ZG (s.ZK++[r])):=by
  refine⟨ZN fJ h.1,⟨?_,fun x hx=>?_⟩⟩
  · have:=h.2.1;simp;omega
  · rcases List.mem_append.1 hx with hx|hx
    · exact ZN fJ (h.2.2 x hx)
    · simp at hx;subst hx;exact hr
open Go.Vm
open Go.Vm
theorem Y5(n:Int):W n=(n+9223372036854775808)%18446744073709551616-9223372036854775808:=IntKind.wrap_i64 n
theorem I3{α:Type}[Inhabited α][DecidableEq α]{a b:List α}(hl:a.length=b.length)(hc:∀i,c i=!decide (nth a i=nth b i))(h0:∀i,F 0 i= .inr ())
    (h1:∀n i,F (n+1) i=bif decide ((i:Int)<(a.length:Int))then(bif c i then .inl false else F n (i+1))else .inr ()):
    F (a.length+1) 0=if a=b then .inr ()else .inl false:=by
  have key:∀n i,a.length<n+i->F n i=if a.drop i=b.drop i then .inr ()else .inl false:=by
    intro n;induction n with
    |zero=>intro i h;rw[h0,List.drop_eq_nil_of_le fJ,List.drop_eq_nil_of_le fJ,if_pos rfl]
    |succ n ih=>
      intro i h;rw[h1];by_cases hi:i<a.length
      · have lb:i<b.length:=fJ;rw[show decide ((i:Int)<(a.length:Int))=true by simp[hi],cond_true,hc,List.drop_eq_getElem_cons hi,List.drop_eq_getElem_cons lb,U0 hi,U0 lb];by_cases he:a[i]=b[i]
        · rw[he,show decide (b[i]=b[i])=true by simp,Bool.not_true,cond_false,ih _ fJ];simp only[List.cons.injEq,true_and]
        · rw[show decide (a[i]=b[i])=false by simp[he],if_neg (fun hh=>he (List.cons.inj hh).1)];rfl
      · rw[show decide ((i:Int)<(a.length:Int))=false by simp;omega,cond_false,List.drop_eq_nil_of_le fJ,List.drop_eq_nil_of_le fJ,if_pos rfl]
  have:=key (a.length+1) 0 fJ;simpa using this
theorem I6{α:Type}[Inhabited α][DecidableEq α]{a b:List α}(hc:∀i,c i=!decide (nth a i=nth b i))(h0:∀i,F 0 i= .inr ())
    (h1:∀n i,F (n+1) i=bif decide ((i:Int)<(a.length:Int))then(bif c i then .inl false else F n (i+1))else .inr ()):
    (bif((a.length:Int)!=(b.length:Int))then false else(match F (a.length+1) 0 with|.inl r=>r|.inr _=>true))=decide (a=b):=by
  by_cases hl:a.length=b.length
  · rw[I3 hl hc h0 h1];simp only[hl,bne_self_eq_false,cond_false];by_cases h:a=b<;>simp[h]
  · have wC:a≠b:=fun h=>hl (by rw[h]);have:((a.length:Int)!=(b.length:Int))=true:=fc;rw[this,cond_true];simp[wC]
open Go.Vm
theorem Oa{α:Type}[Inhabited α][Sz α]{f:α->List D}{n:Nat}:∀{rows:List (List D)},(∀r,r∈rows->∃x:α,r=f x/\Sm n x)->∃l:List α,rows=l.map f/\∀x∈l,Sm n x
  |[],_=>⟨[],rfl,fun _ h=>by cases h⟩
  |r::rows,h=>by
    obtain⟨x,hx,sx⟩:=h r fM;obtain⟨l,hl,sl⟩:=Oa (rows:=rows) (fun r hr=>h r ef);refine⟨x::l,by simp[hx,hl],fun y hy=>?_⟩;rcases List.mem_cons.1 hy with rfl|hy
    · exact sx
    · exact sl y hy
open Go.Vm
variable{P:Program}{ts:List TypeId}
theorem O3{t:TypeId}:∀{rows:List (List D)},Sc P n (t::ts) rows->∃r rs,rows=r::rs/\TyR P n t r/\Sc P n ts rs
  |r::rs,h=>⟨r,rs,rfl,h.1,h.2⟩
  |[],h=>h.elim
theorem Mv:∀{rows:List (List D)},Sc P n [] rows->rows=[]
  |[],_=>rfl
  |_::_,h=>h.elim
open Go.Vm
@[simp] theorem FF (l : List UInt8) : QG l = l.map bR := rfl
@[simp] theorem H3 (x : Int) : ((UInt8.ofInt x).toNat : Int) = IntKind.u8.wrap x := by
  rw[IntKind.wrap_u8];simp[UInt8.ofInt];omega
open Go.Vm
open Go.Vm
@[simp] theorem H7 {α : Type} {l : List α} (h : l.length <= n) : List.take n l = l := List.take_of_length_le h
@[simp] theorem Ia {α β : Type} (f : α -> β) (l : List α) : List.take l.length (List.map f l) = List.map f l := List.take_of_length_le fM
@[simp] theorem HH (n : Nat) : 1 + n = n + 1 := Nat.add_comm 1 n
@[simp] theorem Gg {α β : Type} (f : α -> β) (l : List α) (x y : β) : List.take (2 + l.length) (x :: y :: List.map f l) = x :: y :: List.map f l := List.take_of_length_le fc
@[simp] theorem GX {α β : Type} (f : α -> β) (l : List α) (x y z : β) : List.take (3 + l.length) (x :: y :: z :: List.map f l) = x :: y :: z :: List.map f l := List.take_of_length_le fc
@[simp] theorem GY {α β : Type} (f : α -> β) (l : List α) (x y z u : β) : List.take (4 + l.length) (x :: y :: z :: u :: List.map f l) = x :: y :: z :: u :: List.map f l := List.take_of_length_le fc
@[simp] theorem Gh {α β : Type} (f : α -> β) (l : List α) (x y z u v : β) : List.take (5 + l.length) (x :: y :: z :: u :: v :: List.map f l) = x :: y :: z :: u :: v :: List.map f l := List.take_of_length_le fc
@[simp] theorem Ge {α β : Type} (f : α -> β) (l : List α) (x y z u v w : β) : List.take (6 + l.length) (x :: y :: z :: u :: v :: w :: List.map f l) = x :: y :: z :: u :: v :: w :: List.map f l := List.take_of_length_le fc
theorem Ll(n:Nat)(h:n<=9223372036854775807):W ((n:Int)-1)=(n:Int)-1:=Ya fJ fJ
@[simp] theorem GW (a : Array UInt8) : (ByteArray.mk a).size = a.size := rfl
@[simp] theorem GO {α : Type} {l : List α} {x : α} {v : Nat} (h : l.length = n) : List.take (min v n + 1 + (n - v)) (List.take v l ++ x :: List.drop v l) = List.take v l ++ x :: List.drop v l := by
  apply List.take_of_length_le;simp;omega
@[simp] theorem Gb (a b : Nat) : (min a b + 1 + (b - a) = min a b + (b - a + 1)) = True := fc
theorem Hj{α:Type}[Inhabited α][Sz α]{l:List α}{x:α}(h:Sm n l)(hx:Sm n x):Sm n (l.set i x):=
  ⟨by simpa using h.1,fun y hy=>by
    rcases List.mem_or_eq_of_mem_set hy with hy|rfl
    · exact h.2 y hy
    · exact hx⟩
theorem MH{α:Type}(a b:α):cond true a b=a/\cond false a b=b:=⟨rfl,rfl⟩
theorem lx{x a b:ByteArray}(h:(decide (x=a))=true)(n:decide (a=b)=false:=by decide):(decide (x=b))=false:=by rw[of_decide_eq_true h];exact n
theorem Qr{α:Type}(a b:α):cond true a b=a:=(MH a b).1
theorem QZ{α:Type}(a b:α):cond false a b=b:=(MH a b).2
/-- a side condition that is found by itself -/
theorem bf{a:Bool}{c:Prop}(h:a=true->c):a=false\/c:=by cases a with|false=>exact .inl rfl|true=>exact .inr (h rfl)
theorem sd(h:b)(k:a:=by(intros;first|omega|exact⟨by assumption,fun k=>⟨by assumption,k⟩⟩|exact bf (by assumption)|(simp only[decide_eq_true_eq,decide_eq_false_iff_not,beq_iff_eq,beq_eq_false_iff_ne,bne_iff_ne,ne_eq,Bool.or_eq_false_iff,Bool.or_eq_true,Bool.and_eq_true,Bool.not_eq_true',Bool.not_eq_false']at*;omega)|((try simp only[Go.Mo.Y5,show ∀x,Go.IntKind.i64.wrap x=Go.Vm.W x from fun _=>rfl]at*);omega)|exact List.ne_nil_of_length_pos (by assumption))):a/\b:=⟨k,h⟩
theorem sdg(h:b)(k:a:=by(intros;first|omega|(simp_all;done)|(simp_all;omega)|grind|((try simp only[Go.Mo.Y5,show ∀x,Go.IntKind.i64.wrap x=Go.Vm.W x from fun _=>rfl]at*);omega))):a/\b:=⟨k,h⟩
theorem il{a b:Nat}(h:a<b:=by first|omega|(simp only[decide_eq_true_eq,decide_eq_false_iff_not,beq_iff_eq,beq_eq_false_iff_ne,bne_iff_ne,ne_eq,Bool.or_eq_false_iff,Bool.not_eq_true',Bool.not_eq_false']at*;omega)|(simp_all[List.length_pos_iff];done)|(simp;omega)|(simp_all;omega)|((try simp only[Go.Mo.Y5,show ∀x,Go.IntKind.i64.wrap x=Go.Vm.W x from fun _=>rfl]at*);omega)|(simp;(try simp only[Go.Mo.Y5,show ∀x,Go.IntKind.i64.wrap x=Go.Vm.W x from fun _=>rfl]at*);omega)):a<b:=h
theorem ik{α:Type}(a:Nat)(l:List α)(h:a<l.length:=by first|omega|(simp only[decide_eq_true_eq,decide_eq_false_iff_not,beq_iff_eq,beq_eq_false_iff_ne,bne_iff_ne,ne_eq,Bool.or_eq_false_iff,Bool.not_eq_true',Bool.not_eq_false']at*;omega)|(simp_all[List.length_pos_iff];done)|(simp;omega)|(simp_all;omega)|((try simp only[Go.Mo.Y5,show ∀x,Go.IntKind.i64.wrap x=Go.Vm.W x from fun _=>rfl]at*);omega)|(simp;(try simp only[Go.Mo.Y5,show ∀x,Go.IntKind.i64.wrap x=Go.Vm.W x from fun _=>rfl]at*);omega)):a<l.length:=h
theorem sl{α:Type}[Inhabited α][Sz α](n:Nat)(l:List α)(u:q)(h:q->Sm n l:=by(intro u;simp(maxDischargeDepth:=12) [u])):l.length<=n:=JA (h u)
theorem sg{α:Type}[Inhabited α][Sz α]{x:α}(h:Sm n x)(k:n<=m:=by decide):Sm m x:=ZN k h
theorem Up{α:Type}(c:α->Nat):∀(l m:List α),cnL c (l++m)=cnL c l+cnL c m
  |[],m=>by simp[cnL]
  |y::l,m=>by have:=Up c l m;simp only[List.cons_append,cnL];omega
theorem Sh{α:Type}[Inhabited α]{l:List α}(h:i<l.length):l.drop i=Vm.nth l i::l.drop (i+1):=by rw[List.drop_eq_getElem_cons h];simp[Vm.nth,List.getD_eq_getElem?_getD,List.getElem?_eq_getElem h]
theorem VU{α:Type}[Inhabited α](c:α->Nat){l:List α}(h:i<l.length):cnL c (l.drop i)=c (Vm.nth l i)+cnL c (l.drop (i+1)):=by rw[Sh h];rfl
theorem PQ{α β:Type}[Inhabited α]{as:List α}(f:α->List β){F:Nat->Nat->List β->List β}(h1:∀n i l,F (n+1) i l=bif decide ((i:Int)<(as.length:Int))then F n (i+1) (l++f (Vm.nth as i))else l):∀n i l,as.length<n+i->i<=as.length->F n i l=l++(as.drop i).flatMap f
  |0,i,l,h,h2=>fJ
  |n+1,i,l,h,h2=>by
    rw[h1];by_cases hi:i<as.length
    · rw[show decide ((i:Int)<(as.length:Int))=true by simpa using hi,Qr,PQ f h1 n (i+1) _ fJ hi,Sh hi];simp
    · rw[show decide ((i:Int)<(as.length:Int))=false by simpa using hi,QZ,List.drop_eq_nil_of_le fJ];simp
theorem ON{α β:Type}(f:α->β):∀l:List α,l.flatMap (fun a=>[f a])=l.map f
  |[]=>rfl
  |x::l=>by rw[List.flatMap_cons,ON f l];rfl
theorem Hq(h:∀x∈l,x.size<=m)(i:Nat):(Vm.nth l i).size<=m:=by
  by_cases hi:i<l.length
  · rw[show Vm.nth l i=l[i]by simp[Vm.nth,List.getD_eq_getElem?_getD,List.getElem?_eq_getElem hi]];exact h _ (List.getElem_mem hi)
  · rw[show Vm.nth l i=default by simp[Vm.nth,List.getD_eq_getElem?_getD,List.getElem?_eq_none (Nat.le_of_not_lt hi)]];exact Nat.zero_le _
theorem all_cons{α:Type}{p:α->Prop}{a:α}{l:List α}(h:p a)(k:∀x∈l,p x):∀x∈a::l,p x:=fun x hx=>(List.mem_cons.1 hx).elim (fun e=>e▸h) (k x)
end Go.Mo
