/- The plain data of the program, typed, and iJ they read as rows of the abstract machine. No condition. -/
import Derived.Test.YthecodaabaaaoaaGreatVe
import Derived.Laws.BitsLemmas
namespace Go.Mo
open Go.Vm
variable{n i L m i':Nat}{gH l:List ByteArray}{gI Ids' cx dW cy dX eD l7:List Int}{Id' fh Root' Mark' Keep' Next' Kind' From' Now' Key' To' aA cL aB A' B' C' D' h' cM:Int}{fH:List (List Int)}{b':List UInt8}{dY:List Bool}{s:ByteArray}{a b q:Prop}
@[simp] def iR (n : Int) : List Vm.D := [.int .i64 n]
@[simp] def bR (b : UInt8) : List Vm.D := [.int .u8 (b.toNat : Int)]
@[simp] def lR (b : Bool) : List Vm.D := [.bool b]
@[simp] def sR (s : ByteArray) : List Vm.D := [.str s]
@[simp] def slR {α : Type} (n : Nat) (f : α -> List D) (m : List α) : List Vm.D := [.sl n (m.map f)]
/-- everything in it is at most so long -/
class Sz(α:Type)[Inhabited α] where
  sm:Nat->α->Prop
  zero:∀n,sm n default
  mono:∀{n m:Nat}{x:α},n<=m->sm n x->sm m x
/-- iJ many marks it takes -/
class Cn(α:Type) where
  cn:α->Nat
abbrev cn{α:Type}[Cn α](x:α):Nat:=Cn.cn x
def cnL{α:Type}(c:α->Nat):List α->Nat
  |[]=>0
  |x::l=>c x+cnL c l
instance:Cn Int:=⟨fun _=>1⟩
instance:Cn Bool:=⟨fun _=>1⟩
instance:Cn UInt8:=⟨fun _=>1⟩
instance:Cn ByteArray:=⟨fun _=>1⟩
instance{α:Type}[Cn α]:Cn (List α):=⟨cnL Cn.cn⟩
abbrev Sm{α:Type}[Inhabited α][Sz α](n:Nat)(x:α):Prop:=Sz.sm n x
instance:Sz Int:=⟨fun _ _=>True,fun _=>trivial,fun _ h=>h⟩
instance:Sz Bool:=⟨fun _ _=>True,fun _=>trivial,fun _ h=>h⟩
instance:Sz UInt8:=⟨fun _ _=>True,fun _=>trivial,fun _ h=>h⟩
instance:Sz ByteArray:=⟨fun n s=>s.size<=n,fun _=>Nat.zero_le _,fun h k=>Nat.le_trans k h⟩
instance{α:Type}[Inhabited α][Sz α]:Sz (List α):=⟨fun n l=>l.length<=n/\∀x∈l,Sz.sm n x,fun _=>⟨Nat.zero_le _,fun _ h=>by cases h⟩,fun h k=>⟨Nat.le_trans k.1 h,fun x hx=>Sz.mono h (k.2 x hx)⟩⟩
theorem XH{α:Type}[Inhabited α][Sz α]{l:List α}:Sm n l=(l.length<=n/\∀x∈l,Sm n x):=rfl
theorem YX{α:Type}[Inhabited α][Sz α]{l:List α}(h:Sm n l):l.length<=n:=h.1
theorem CQ(h:Sm n s):s.size<=n:=h
@[simp] theorem oR {x : Int} : Sm n x := trivial
@[simp] theorem oC {x : Bool} : Sm n x := trivial
@[simp] theorem oU {x : UInt8} : Sm n x := trivial
@[simp] theorem zH {α : Type} [Inhabited α] [Sz α] : Sm n ([] : List α) := ⟨Nat.zero_le _, fun _ h => by cases h⟩
@[simp] theorem Zn {α : Type} [Inhabited α] [Sz α] {l : List α} (h : Sm n l) : Sm n (nth l i) := by
  unfold nth;rw[List.getD_eq_getElem?_getD];cases hh:l[i]? with
  |none=>exact Sz.zero n
  |some x=>exact h.2 x (List.mem_of_getElem? hh)
@[simp] theorem KU {α : Type} [Inhabited α] [Sz α] {l : List α} (h : Sm n l) : Sm n (l.take i) := ⟨Nat.le_trans zAx h.1, fun x hx => h.2 x (List.mem_of_mem_take hx)⟩
@[simp] theorem zC {α : Type} [Inhabited α] [Sz α] {l : List α} (h : Sm n l) : Sm n (l.drop i) := ⟨Nat.le_trans zAG h.1, fun x hx => h.2 x (List.mem_of_mem_drop hx)⟩
theorem Tx{α:Type}[Inhabited α][Sz α]{l m:List α}:Sm n (l++m)=(l.length+m.length<=n/\(∀x∈l,Sm n x)/\∀x∈m,Sm n x):=by rw[XH];simp[or_imp,forall_and]
theorem ZH{α:Type}[Inhabited α][Sz α]{x:α}(h:n<=m)(k:Sm n x):Sm m x:=Sz.mono h k
structure Zm where
  Authority:Int
  Seq:Int
  Time:Int
  QI:Int
  Mark:Int
  deriving Inhabited,DecidableEq
variable{dZ:List (List Zm)}{fz:List Zm}
@[simp] def Zm.row (x : Zm) : List Vm.D := [.int .i64 x.Authority, .int .i64 x.Seq, .int .i64 x.Time, .int .i64 x.QI, .int .i64 x.Mark]
instance:Cn Zm:=⟨fun x=>cn x.Authority+cn x.Seq+cn x.Time+cn x.QI+cn x.Mark⟩
instance:Sz Zm:=⟨fun _ _=>True,fun _=>trivial,fun _ h=>h⟩
@[simp] theorem Zm.TU {x : Zm} : Sm n x := trivial
structure X4 where
  QI:Int
  Left:Bool
  deriving Inhabited,DecidableEq
variable{cv:List X4}
@[simp] def X4.row (x : X4) : List Vm.D := [.int .i64 x.QI, .bool x.Left]
instance:Cn X4:=⟨fun x=>cn x.QI+cn x.Left⟩
instance:Sz X4:=⟨fun _ _=>True,fun _=>trivial,fun _ h=>h⟩
@[simp] theorem X4.TU {x : X4} : Sm n x := trivial
structure Ze where
  Count:Int
  Method:Int
  BX:Int
  Path:List X4
  YV:List Zm
  deriving Inhabited,DecidableEq
variable{dS:List Ze}
@[simp] def Ze.row (x : Ze) : List Vm.D := [.int .i64 x.Count, .int .i64 x.Method, .int .i64 x.BX, .sl 2 (x.Path.map X4.row), .sl 5 (x.YV.map Zm.row)]
instance:Cn Ze:=⟨fun x=>cn x.Count+cn x.Method+cn x.BX+cn x.Path+cn x.YV⟩
instance:Sz Ze:=⟨fun n x=>Sm n x.Path/\Sm n x.YV,fun n=>⟨Sz.zero n,Sz.zero n⟩,fun h k=>⟨Sz.mono h k.1,Sz.mono h k.2⟩⟩
@[simp] theorem Ze.p9 {x : Ze} (h : Sm n x) : Sm n x.Path := h.1
@[simp] theorem Ze.EV {x : Ze} (h : Sm n x) : Sm n x.YV := h.2
@[simp] theorem Ze.Ua : Sm n (Ze.mk aA cL Root' cv fz) = (Sm n cv /\ Sm n fz) := rfl
structure Y6 where
  Number:Int
  qf:Int
  Method:Int
  RH:Int
  Ri:Int
  deriving Inhabited,DecidableEq
variable{cw:List Y6}
@[simp] def Y6.row (x : Y6) : List Vm.D := [.int .i64 x.Number, .int .i64 x.qf, .int .i64 x.Method, .int .i64 x.RH, .int .i64 x.Ri]
instance:Cn Y6:=⟨fun x=>cn x.Number+cn x.qf+cn x.Method+cn x.RH+cn x.Ri⟩
instance:Sz Y6:=⟨fun _ _=>True,fun _=>trivial,fun _ h=>h⟩
@[simp] theorem Y6.TU {x : Y6} : Sm n x := trivial
structure Zo where
  Id:Int
  Key:Int
  Error:Int
  deriving Inhabited,DecidableEq
variable{iU:List Zo}
@[simp] def Zo.row (x : Zo) : List Vm.D := [.int .i64 x.Id, .int .i64 x.Key, .int .i64 x.Error]
instance:Cn Zo:=⟨fun x=>cn x.Id+cn x.Key+cn x.Error⟩
instance:Sz Zo:=⟨fun _ _=>True,fun _=>trivial,fun _ h=>h⟩
@[simp] theorem Zo.TU {x : Zo} : Sm n x := trivial
structure YJ where
  Id:Int
  Li:Int
  Ends:Int
  ON:Int
  deriving Inhabited,DecidableEq
@[simp] def YJ.row (x : YJ) : List Vm.D := [.int .i64 x.Id, .int .i64 x.Li, .int .i64 x.Ends, .int .i64 x.ON]
instance:Cn YJ:=⟨fun x=>cn x.Id+cn x.Li+cn x.Ends+cn x.ON⟩
instance:Sz YJ:=⟨fun _ _=>True,fun _=>trivial,fun _ h=>h⟩
@[simp] theorem YJ.TU {x : YJ} : Sm n x := trivial
structure Zb where
  Z0:List Y6
  ZD:List Zo
  Methods:List YJ
  XB:Int
  Now:Int
  deriving Inhabited,DecidableEq
variable{dU:Zb}
@[simp] def Zb.row (x : Zb) : List Vm.D := [.sl 5 (x.Z0.map Y6.row), .sl 3 (x.ZD.map Zo.row), .sl 4 (x.Methods.map YJ.row), .int .i64 x.XB, .int .i64 x.Now]
instance:Cn Zb:=⟨fun x=>cn x.Z0+cn x.ZD+cn x.Methods+cn x.XB+cn x.Now⟩
instance:Sz Zb:=⟨fun n x=>Sm n x.Z0/\Sm n x.ZD/\Sm n x.Methods,fun n=>⟨Sz.zero n,Sz.zero n,Sz.zero n⟩,fun h k=>⟨Sz.mono h k.1,Sz.mono h k.2.1,Sz.mono h k.2.2⟩⟩
@[simp] theorem Zb.Xd {x : Zb} (h : Sm n x) : Sm n x.Z0 := h.1
@[simp] theorem Zb.XJ {x : Zb} (h : Sm n x) : Sm n x.ZD := h.2.1
@[simp] theorem Zb.X6 {x : Zb} (h : Sm n x) : Sm n x.Methods := h.2.2
@[simp] theorem Zb.Ua {l7 : List YJ} : Sm n (Zb.mk cw iU l7 aB Now') = (Sm n cw /\ Sm n iU /\ Sm n l7) := rfl
structure YO where
  Zc:Int
  Key:Int
  qf:Int
  XF:Int
  To:Int
  YA:Int
  Mark:Int
  deriving Inhabited,DecidableEq
variable{dV:List YO}
@[simp] def YO.row (x : YO) : List Vm.D := [.int .i64 x.Zc, .int .i64 x.Key, .int .i64 x.qf, .int .i64 x.XF, .int .i64 x.To, .int .i64 x.YA, .int .i64 x.Mark]
instance:Cn YO:=⟨fun x=>cn x.Zc+cn x.Key+cn x.qf+cn x.XF+cn x.To+cn x.YA+cn x.Mark⟩
instance:Sz YO:=⟨fun _ _=>True,fun _=>trivial,fun _ h=>h⟩
@[simp] theorem YO.TU {x : YO} : Sm n x := trivial
structure ZW where
  Vi:Int
  X3:List ByteArray
  KS:List Int
  deriving Inhabited,DecidableEq
variable{dT:ZW}
@[simp] def ZW.row (x : ZW) : List Vm.D := [.int .i64 x.Vi, .sl 1 (x.X3.map sR), .sl 1 (x.KS.map iR)]
instance:Cn ZW:=⟨fun x=>cn x.Vi+cn x.X3+cn x.KS⟩
instance:Sz ZW:=⟨fun n x=>Sm n x.X3/\Sm n x.KS,fun n=>⟨Sz.zero n,Sz.zero n⟩,fun h k=>⟨Sz.mono h k.1,Sz.mono h k.2⟩⟩
@[simp] theorem ZW.Hm {x : ZW} (h : Sm n x) : Sm n x.X3 := h.1
@[simp] theorem ZW.CW {x : ZW} (h : Sm n x) : Sm n x.KS := h.2
@[simp] theorem ZW.Ua : Sm n (ZW.mk fh gH gI) = (Sm n gH /\ Sm n gI) := rfl
structure Zp where
  Key:Int
  Zc:Int
  Method:Int
  QI:Int
  VU:Int
  Org:Int
  V3:Int
  UF:Int
  Mark:Int
  deriving Inhabited,DecidableEq
variable{Sig':Zp}
@[simp] def Zp.row (x : Zp) : List Vm.D := [.int .i64 x.Key, .int .i64 x.Zc, .int .i64 x.Method, .int .i64 x.QI, .int .i64 x.VU, .int .i64 x.Org, .int .i64 x.V3, .int .i64 x.UF, .int .i64 x.Mark]
instance:Cn Zp:=⟨fun x=>cn x.Key+cn x.Zc+cn x.Method+cn x.QI+cn x.VU+cn x.Org+cn x.V3+cn x.UF+cn x.Mark⟩
instance:Sz Zp:=⟨fun _ _=>True,fun _=>trivial,fun _ h=>h⟩
@[simp] theorem Zp.TU {x : Zp} : Sm n x := trivial
structure ZU where
  Key:Int
  YM:List Int
  Mark:Int
  deriving Inhabited,DecidableEq
variable{eA:List ZU}
@[simp] def ZU.row (x : ZU) : List Vm.D := [.int .i64 x.Key, .sl 1 (x.YM.map iR), .int .i64 x.Mark]
instance:Cn ZU:=⟨fun x=>cn x.Key+cn x.YM+cn x.Mark⟩
instance:Sz ZU:=⟨fun n x=>Sm n x.YM,fun n=>Sz.zero n,fun h k=>Sz.mono h k⟩
@[simp] theorem ZU.Sn {x : ZU} (h : Sm n x) : Sm n x.YM := h
@[simp] theorem ZU.Ua : Sm n (ZU.mk Key' cx Mark') = (Sm n cx) := rfl
structure ZX where
  ZM:List ZU
  ZQ:List Ze
  deriving Inhabited,DecidableEq
variable{fI:List ZX}{eC:ZX}
@[simp] def ZX.row (x : ZX) : List Vm.D := [.sl 3 (x.ZM.map ZU.row), .sl 5 (x.ZQ.map Ze.row)]
instance:Cn ZX:=⟨fun x=>cn x.ZM+cn x.ZQ⟩
instance:Sz ZX:=⟨fun n x=>Sm n x.ZM/\Sm n x.ZQ,fun n=>⟨Sz.zero n,Sz.zero n⟩,fun h k=>⟨Sz.mono h k.1,Sz.mono h k.2⟩⟩
@[simp] theorem ZX.QE {x : ZX} (h : Sm n x) : Sm n x.ZM := h.1
@[simp] theorem ZX.zf {x : ZX} (h : Sm n x) : Sm n x.ZQ := h.2
@[simp] theorem ZX.Ua : Sm n (ZX.mk eA dS) = (Sm n eA /\ Sm n dS) := rfl
structure ZR where
  Id:Int
  XI:Int
  Doc:ZW
  Sig:Zp
  ZK:ZX
  deriving Inhabited,DecidableEq
variable{gJ:List ZR}
@[simp] def ZR.row (x : ZR) : List Vm.D := [.int .i64 x.Id, .int .i64 x.XI, .int .i64 x.Doc.Vi, .sl 1 (x.Doc.X3.map sR), .sl 1 (x.Doc.KS.map iR), .int .i64 x.Sig.Key, .int .i64 x.Sig.Zc, .int .i64 x.Sig.Method, .int .i64 x.Sig.QI, .int .i64 x.Sig.VU, .int .i64 x.Sig.Org, .int .i64 x.Sig.V3, .int .i64 x.Sig.UF, .int .i64 x.Sig.Mark, .sl 3 (x.ZK.ZM.map ZU.row), .sl 5 (x.ZK.ZQ.map Ze.row)]
instance:Cn ZR:=⟨fun x=>cn x.Id+cn x.XI+cn x.Doc+cn x.Sig+cn x.ZK⟩
instance:Sz ZR:=⟨fun n x=>Sm n x.Doc/\Sm n x.ZK,fun n=>⟨Sz.zero n,Sz.zero n⟩,fun h k=>⟨Sz.mono h k.1,Sz.mono h k.2⟩⟩
@[simp] theorem ZR.zt {x : ZR} (h : Sm n x) : Sm n x.Doc := h.1
@[simp] theorem ZR.Yv {x : ZR} (h : Sm n x) : Sm n x.ZK := h.2
@[simp] theorem ZR.Ua : Sm n (ZR.mk Id' Keep' dT Sig' eC) = (Sm n dT /\ Sm n eC) := rfl
structure ZE where
  Id:Int
  ZC:List ZR
  deriving Inhabited,DecidableEq
variable{gm:List ZE}
@[simp] def ZE.row (x : ZE) : List Vm.D := [.int .i64 x.Id, .sl 16 (x.ZC.map ZR.row)]
instance:Cn ZE:=⟨fun x=>cn x.Id+cn x.ZC⟩
instance:Sz ZE:=⟨fun n x=>Sm n x.ZC,fun n=>Sz.zero n,fun h k=>Sz.mono h k⟩
@[simp] theorem ZE.YC {x : ZE} (h : Sm n x) : Sm n x.ZC := h
@[simp] theorem ZE.Ua : Sm n (ZE.mk Id' gJ) = (Sm n gJ) := rfl
structure ZG where
  Frame:Zb
  Zf:List YO
  Zy:List Int
  ZB:List ZE
  Y9:List Int
  Yg:List Int
  Next:Int
  YN:List Int
  deriving Inhabited,DecidableEq
variable{x:ZG}
@[simp] def ZG.row (x : ZG) : List Vm.D := [.sl 5 (x.Frame.Z0.map Y6.row), .sl 3 (x.Frame.ZD.map Zo.row), .sl 4 (x.Frame.Methods.map YJ.row), .int .i64 x.Frame.XB, .int .i64 x.Frame.Now, .sl 7 (x.Zf.map YO.row), .sl 1 (x.Zy.map iR), .sl 2 (x.ZB.map ZE.row), .sl 1 (x.Y9.map iR), .sl 1 (x.Yg.map iR), .int .i64 x.Next, .sl 1 (x.YN.map iR)]
instance:Cn ZG:=⟨fun x=>cn x.Frame+cn x.Zf+cn x.Zy+cn x.ZB+cn x.Y9+cn x.Yg+cn x.Next+cn x.YN⟩
instance:Sz ZG:=⟨fun n x=>Sm n x.Frame/\Sm n x.Zf/\Sm n x.Zy/\Sm n x.ZB/\Sm n x.Y9/\Sm n x.Yg/\Sm n x.YN,fun n=>⟨Sz.zero n,Sz.zero n,Sz.zero n,Sz.zero n,Sz.zero n,Sz.zero n,Sz.zero n⟩,fun h k=>⟨Sz.mono h k.1,Sz.mono h k.2.1,Sz.mono h k.2.2.1,Sz.mono h k.2.2.2.1,Sz.mono h k.2.2.2.2.1,Sz.mono h k.2.2.2.2.2.1,Sz.mono h k.2.2.2.2.2.2⟩⟩
@[simp] theorem ZG.Xk (h : Sm n x) : Sm n x.Frame := h.1
@[simp] theorem ZG.pT (h : Sm n x) : Sm n x.Zf := h.2.1
@[simp] theorem ZG.ux (h : Sm n x) : Sm n x.Zy := h.2.2.1
@[simp] theorem ZG.Z5 (h : Sm n x) : Sm n x.ZB := h.2.2.2.1
@[simp] theorem ZG.DM (h : Sm n x) : Sm n x.Y9 := h.2.2.2.2.1
@[simp] theorem ZG.uL (h : Sm n x) : Sm n x.Yg := h.2.2.2.2.2.1
@[simp] theorem ZG.PY (h : Sm n x) : Sm n x.YN := h.2.2.2.2.2.2
@[simp] theorem ZG.Ua : Sm n (ZG.mk dU dV dW gm cy dX Next' eD) = (Sm n dU /\ Sm n dV /\ Sm n dW /\ Sm n gm /\ Sm n cy /\ Sm n dX /\ Sm n eD) := rfl
structure Zt where
  Kind:Int
  A:Int
  B:Int
  C:Int
  D:Int
  Doc:ZW
  Ids:List Int
  deriving Inhabited,DecidableEq
@[simp] def Zt.row (x : Zt) : List Vm.D := [.int .i64 x.Kind, .int .i64 x.A, .int .i64 x.B, .int .i64 x.C, .int .i64 x.D, .int .i64 x.Doc.Vi, .sl 1 (x.Doc.X3.map sR), .sl 1 (x.Doc.KS.map iR), .sl 1 (x.Ids.map iR)]
instance:Cn Zt:=⟨fun x=>cn x.Kind+cn x.A+cn x.B+cn x.C+cn x.D+cn x.Doc+cn x.Ids⟩
instance:Sz Zt:=⟨fun n x=>Sm n x.Doc/\Sm n x.Ids,fun n=>⟨Sz.zero n,Sz.zero n⟩,fun h k=>⟨Sz.mono h k.1,Sz.mono h k.2⟩⟩
@[simp] theorem Zt.zt {x : Zt} (h : Sm n x) : Sm n x.Doc := h.1
@[simp] theorem Zt.Au {x : Zt} (h : Sm n x) : Sm n x.Ids := h.2
@[simp] theorem Zt.Ua : Sm n (Zt.mk Kind' A' B' C' D' dT Ids') = (Sm n dT /\ Sm n Ids') := rfl
structure Zh where
  XF:Int
  To:Int
  deriving Inhabited,DecidableEq
@[simp] def Zh.row (x : Zh) : List Vm.D := [.int .i64 x.XF, .int .i64 x.To]
instance:Cn Zh:=⟨fun x=>cn x.XF+cn x.To⟩
instance:Sz Zh:=⟨fun _ _=>True,fun _=>trivial,fun _ h=>h⟩
@[simp] theorem Zh.TU {x : Zh} : Sm n x := trivial
structure JN where
  Code:Int
  Reason:Int
  Span:Zh
  deriving Inhabited,DecidableEq
@[simp] def JN.row (x : JN) : List Vm.D := [.int .i64 x.Code, .int .i64 x.Reason, .int .i64 x.Span.XF, .int .i64 x.Span.To]
instance:Cn JN:=⟨fun x=>cn x.Code+cn x.Reason+cn x.Span⟩
instance:Sz JN:=⟨fun _ _=>True,fun _=>trivial,fun _ h=>h⟩
@[simp] theorem JN.TU {x : JN} : Sm n x := trivial
structure Jp where
  Vi:Int
  Methods:List Int
  Shown:List Bool
  X3:List ByteArray
  KS:List Int
  Iu:List (List Int)
  deriving Inhabited,DecidableEq
@[simp] def Jp.row (x : Jp) : List Vm.D := [.int .i64 x.Vi, .sl 1 (x.Methods.map iR), .sl 1 (x.Shown.map lR), .sl 1 (x.X3.map sR), .sl 1 (x.KS.map iR), .sl 1 (x.Iu.map (slR 1 iR))]
instance:Cn Jp:=⟨fun x=>cn x.Vi+cn x.Methods+cn x.Shown+cn x.X3+cn x.KS+cn x.Iu⟩
instance:Sz Jp:=⟨fun n x=>Sm n x.Methods/\Sm n x.Shown/\Sm n x.X3/\Sm n x.KS/\Sm n x.Iu,fun n=>⟨Sz.zero n,Sz.zero n,Sz.zero n,Sz.zero n,Sz.zero n⟩,fun h k=>⟨Sz.mono h k.1,Sz.mono h k.2.1,Sz.mono h k.2.2.1,Sz.mono h k.2.2.2.1,Sz.mono h k.2.2.2.2⟩⟩
@[simp] theorem Jp.X6 {x : Jp} (h : Sm n x) : Sm n x.Methods := h.1
@[simp] theorem Jp.pQ {x : Jp} (h : Sm n x) : Sm n x.Shown := h.2.1
@[simp] theorem Jp.Hm {x : Jp} (h : Sm n x) : Sm n x.X3 := h.2.2.1
@[simp] theorem Jp.CW {x : Jp} (h : Sm n x) : Sm n x.KS := h.2.2.2.1
@[simp] theorem Jp.pF {x : Jp} (h : Sm n x) : Sm n x.Iu := h.2.2.2.2
@[simp] theorem Jp.Ua : Sm n (Jp.mk fh l7 dY gH gI fH) = (Sm n l7 /\ Sm n dY /\ Sm n gH /\ Sm n gI /\ Sm n fH) := rfl
structure YB where
  Z9:List ZX
  XG:List (List Zm)
  deriving Inhabited,DecidableEq
@[simp] def YB.row (x : YB) : List Vm.D := [.sl 2 (x.Z9.map ZX.row), .sl 1 (x.XG.map (slR 5 Zm.row))]
instance:Cn YB:=⟨fun x=>cn x.Z9+cn x.XG⟩
instance:Sz YB:=⟨fun n x=>Sm n x.Z9/\Sm n x.XG,fun n=>⟨Sz.zero n,Sz.zero n⟩,fun h k=>⟨Sz.mono h k.1,Sz.mono h k.2⟩⟩
@[simp] theorem YB.Qi {x : YB} (h : Sm n x) : Sm n x.Z9 := h.1
@[simp] theorem YB.Oz {x : YB} (h : Sm n x) : Sm n x.XG := h.2
@[simp] theorem YB.Ua : Sm n (YB.mk fI dZ) = (Sm n fI /\ Sm n dZ) := rfl
structure Zs where
  Zc:Int
  xP:Int
  Zy:Int
  YA:Int
  Mark:Int
  deriving Inhabited,DecidableEq
@[simp] def Zs.row (x : Zs) : List Vm.D := [.int .i64 x.Zc, .int .i64 x.xP, .int .i64 x.Zy, .int .i64 x.YA, .int .i64 x.Mark]
instance:Cn Zs:=⟨fun x=>cn x.Zc+cn x.xP+cn x.Zy+cn x.YA+cn x.Mark⟩
instance:Sz Zs:=⟨fun _ _=>True,fun _=>trivial,fun _ h=>h⟩
@[simp] theorem Zs.TU {x : Zs} : Sm n x := trivial
structure YI where
  b:List UInt8
  i:Nat
  h:Int
  deriving Inhabited,DecidableEq
@[simp] def YI.row (x : YI) : List Vm.D := [.sl 1 (x.b.map bR), .int .i64 (x.i : Int), .int .i64 x.h]
instance:Sz YI:=⟨fun n x=>Sm n x.b,fun n=>Sz.zero n,fun h k=>Sz.mono h k⟩
@[simp] theorem YI.nF {x : YI} (h : Sm n x) : Sm n x.b := h
@[simp] theorem YI.Ua : Sm n (YI.mk b' i' h') = (Sm n b') := rfl
structure Yk where
  XF:Int
  To:Int
  ZC:List ZR
  QI:Int
  deriving Inhabited,DecidableEq
@[simp] def Yk.row (x : Yk) : List Vm.D := [.int .i64 x.XF, .int .i64 x.To, .sl 16 (x.ZC.map ZR.row), .int .i64 x.QI]
instance:Cn Yk:=⟨fun x=>cn x.XF+cn x.To+cn x.ZC+cn x.QI⟩
instance:Sz Yk:=⟨fun n x=>Sm n x.ZC,fun n=>Sz.zero n,fun h k=>Sz.mono h k⟩
@[simp] theorem Yk.YC {x : Yk} (h : Sm n x) : Sm n x.ZC := h
@[simp] theorem Yk.Ua : Sm n (Yk.mk From' To' gJ cM) = (Sm n gJ) := rfl
structure Xc where
  Org:Int
  Mp:Int
  XF:Int
  To:Int
  Key:Int
  Mark:Int
  deriving Inhabited,DecidableEq
@[simp] def Xc.row (x : Xc) : List Vm.D := [.int .i64 x.Org, .int .i64 x.Mp, .int .i64 x.XF, .int .i64 x.To, .int .i64 x.Key, .int .i64 x.Mark]
instance:Cn Xc:=⟨fun x=>cn x.Org+cn x.Mp+cn x.XF+cn x.To+cn x.Key+cn x.Mark⟩
instance:Sz Xc:=⟨fun _ _=>True,fun _=>trivial,fun _ h=>h⟩
@[simp] theorem Xc.TU {x : Xc} : Sm n x := trivial
open Go.Vm
variable{c:Nat->Bool}{F:Nat->Nat->Sum Bool Unit}{rows:List (List Vm.D)}{r:List Vm.D}
theorem XM{α:Type}[Inhabited α]{l:List α}(h:i<l.length):nth l i=l[i]:=by simp[nth,h]
theorem jP{α:Type}[Inhabited α]{F:Nat->List α->Nat->List α}{a:List α}{g:α->α}(hg:∀x,g x=x)
    (h1:∀n v i,F (n+1) v i=bif decide ((i:Int)<(a.length:Int))then F n (v++[g (nth a i)]) (i+1)else v):
    ∀n v i,a.length<n+i->i<=a.length->F n v i=v++a.drop i:=by
  intro n;induction n with
  |zero=>intro v i h2 h3;omega
  |succ n ih=>
    intro v i h2 h3;rw[h1];by_cases hi:i<a.length
    · rw[show decide ((i:Int)<(a.length:Int))=true by simp[hi],cond_true,ih _ _ zAD hi,hg,XM hi,List.append_assoc,List.singleton_append,<-List.drop_eq_getElem_cons hi]
    · rw[show decide ((i:Int)<(a.length:Int))=false by simp;omega,cond_false,List.drop_eq_nil_of_le zAD,List.append_nil]
theorem kO{F:Nat->Nat->Sum Int Unit}(h0:∀i,F 0 i= .inr ())
    (h1:∀n i,F (n+1) i=bif decide ((i:Int)<(L:Int))then(bif c i then .inl (i:Int)else F n (i+1))else .inr ()):
    ∀n i,(match F n i with|.inl r=>r|.inr _=>-1)<(L:Int):=by
  intro n;induction n with
  |zero=>intro i;rw[h0];show(-1:Int)<_;omega
  |succ n ih=>
    intro i;rw[h1];by_cases hi:(i:Int)<(L:Int)
    · rw[show decide ((i:Int)<(L:Int))=true by simpa using hi,cond_true];cases hc:c i with
      |true=>simpa using hi
      |false=>exact ih (i+1)
    · rw[show decide ((i:Int)<(L:Int))=false by simpa using hi,cond_false];show(-1:Int)<_;omega
theorem XT(h:i<rows.length):Vm.rowAt (rows.set i r) i=r:=by simp[Vm.rowAt,h]
theorem GU{α:Type}{p:α->Prop}{l:List α}{a:α}(h1:∀x∈l,p x)(h2:p a):∀x∈l.set i a,p x:=by
  intro x hx;rcases List.mem_or_eq_of_mem_set hx with h|h
  · exact h1 x h
  · rw[h];exact h2
theorem ZP{α:Type}{p:α->Prop}{c:Bool}{x y:α}(hx:p x)(hy:p y):p (bif c then x else y):=by cases c;exact hy;exact hx
theorem Zx{α:Type}{p:α->Prop}{c:Bool}{x y:α}(hx:c=true->p x)(hy:c=false->p y):p (bif c then x else y):=by cases c;exact hy rfl;exact hx rfl
theorem Rf{α:Type}{F:Nat->List α->Nat->List α}{g:Nat->α}(h0:∀v i,F 0 v i=[])
    (h1:∀n v i,F (n+1) v i=bif decide ((i:Int)<(L:Int))then(bif c i then F n (v++[g i]) (i+1)else F n v (i+1))else v):∀n v i,(F n v i).length<=v.length+(L-i):=by
  intro n;induction n with
  |zero=>intro v i;rw[h0];simp
  |succ n ih=>
    intro v i;rw[h1];by_cases hi:i<L
    · rw[show decide ((i:Int)<(L:Int))=true by simp[hi],cond_true];cases c i with
      |true=>have:=ih (v++[g i]) (i+1);rw[cond_true];simp at this;omega
      |false=>have:=ih v (i+1);rw[cond_false];omega
    · rw[show decide ((i:Int)<(L:Int))=false by simp;omega,cond_false];omega
theorem CX{α:Type}{F:Nat->List α->Nat->List α}{g:Nat->α}(h0:∀v i,F 0 v i=[])
    (h1:∀n v i,F (n+1) v i=bif decide ((i:Int)<(L:Int))then F n (v++[g i]) (i+1)else v):∀n v i,(F n v i).length<=v.length+(L-i):=by
  intro n;induction n with
  |zero=>intro v i;rw[h0];simp
  |succ n ih=>
    intro v i;rw[h1];by_cases hi:i<L
    · rw[show decide ((i:Int)<(L:Int))=true by simp[hi],cond_true];have:=ih (v++[g i]) (i+1);simp at this;omega
    · rw[show decide ((i:Int)<(L:Int))=false by simp;omega,cond_false];omega
theorem Kq{s:ZX}{r:Ze}(hn:n+1<=m)(h:Sm n s)(hr:Sm m r):Sm m (ZX.mk s.ZM (s.ZQ++[r])):=by
  refine⟨ZH zAD h.1,⟨?_,fun x hx=>?_⟩⟩
  · have:=h.2.1;simp;omega
  · rcases List.mem_append.1 hx with hx|hx
    · exact ZH zAD (h.2.2 x hx)
    · simp at hx;subst hx;exact hr
open Go.Vm
open Go.Vm
theorem Yw(n:Int):W n=(n+9223372036854775808)%18446744073709551616-9223372036854775808:=IntKind.wrap_i64 n
theorem sL{α:Type}[Inhabited α][DecidableEq α]{a b:List α}(hl:a.length=b.length)(hc:∀i,c i=!decide (nth a i=nth b i))(h0:∀i,F 0 i= .inr ())
    (h1:∀n i,F (n+1) i=bif decide ((i:Int)<(a.length:Int))then(bif c i then .inl false else F n (i+1))else .inr ()):
    F (a.length+1) 0=if a=b then .inr ()else .inl false:=by
  have key:∀n i,a.length<n+i->F n i=if a.drop i=b.drop i then .inr ()else .inl false:=by
    intro n;induction n with
    |zero=>intro i h;rw[h0,List.drop_eq_nil_of_le zAD,List.drop_eq_nil_of_le zAD,if_pos rfl]
    |succ n ih=>
      intro i h;rw[h1];by_cases hi:i<a.length
      · have hib:i<b.length:=zAD;rw[show decide ((i:Int)<(a.length:Int))=true by simp[hi],cond_true,hc,List.drop_eq_getElem_cons hi,List.drop_eq_getElem_cons hib,XM hi,XM hib];by_cases he:a[i]=b[i]
        · rw[he,show decide (b[i]=b[i])=true by simp,Bool.not_true,cond_false,ih _ zAD];simp only[List.cons.injEq,true_and]
        · rw[show decide (a[i]=b[i])=false by simp[he],if_neg (fun hh=>he (List.cons.inj hh).1)];rfl
      · rw[show decide ((i:Int)<(a.length:Int))=false by simp;omega,cond_false,List.drop_eq_nil_of_le zAD,List.drop_eq_nil_of_le zAD,if_pos rfl]
  have:=key (a.length+1) 0 zAD;simpa using this
theorem pJ{α:Type}[Inhabited α][DecidableEq α]{a b:List α}(hc:∀i,c i=!decide (nth a i=nth b i))(h0:∀i,F 0 i= .inr ())
    (h1:∀n i,F (n+1) i=bif decide ((i:Int)<(a.length:Int))then(bif c i then .inl false else F n (i+1))else .inr ()):
    (bif((a.length:Int)!=(b.length:Int))then false else(match F (a.length+1) 0 with|.inl r=>r|.inr _=>true))=decide (a=b):=by
  by_cases hl:a.length=b.length
  · rw[sL hl hc h0 h1];simp only[hl,bne_self_eq_false,cond_false];by_cases h:a=b<;>simp[h]
  · have nf:a≠b:=fun h=>hl (by rw[h]);have:((a.length:Int)!=(b.length:Int))=true:=zAx;rw[this,cond_true];simp[nf]
open Go.Vm
theorem BA{α:Type}[Inhabited α][Sz α]{f:α->List D}{n:Nat}:∀{rows:List (List D)},(∀r,r∈rows->∃x:α,r=f x/\Sm n x)->∃l:List α,rows=l.map f/\∀x∈l,Sm n x
  |[],_=>⟨[],rfl,fun _ h=>by cases h⟩
  |r::rows,h=>by
    obtain⟨x,hx,sx⟩:=h r zAG;obtain⟨l,hl,sl⟩:=BA (rows:=rows) (fun r hr=>h r zB8);refine⟨x::l,by simp[hx,hl],fun y hy=>?_⟩;rcases List.mem_cons.1 hy with rfl|hy
    · exact sx
    · exact sl y hy
open Go.Vm
variable{P:Program}{ts:List TypeId}
theorem AH{t:TypeId}:∀{rows:List (List D)},EZ P n (t::ts) rows->∃r rs,rows=r::rs/\TyR P n t r/\EZ P n ts rs
  |r::rs,h=>⟨r,rs,rfl,h.1,h.2⟩
  |[],h=>h.elim
theorem ve:∀{rows:List (List D)},EZ P n [] rows->rows=[]
  |[],_=>rfl
  |_::_,h=>h.elim
open Go.Vm
@[simp] theorem ot (l : List UInt8) : zj l = l.map bR := rfl
@[simp] theorem pZ (x : Int) : ((UInt8.ofInt x).toNat : Int) = IntKind.u8.wrap x := by
  rw[IntKind.wrap_u8];simp[UInt8.ofInt];omega
open Go.Vm
open Go.Vm
@[simp] theorem pV {α : Type} {l : List α} (h : l.length <= n) : List.take n l = l := List.take_of_length_le h
@[simp] theorem tj {α β : Type} (f : α -> β) (l : List α) : List.take l.length (List.map f l) = List.map f l := List.take_of_length_le zAG
@[simp] theorem s3 (n : Nat) : 1 + n = n + 1 := Nat.add_comm 1 n
@[simp] theorem oA {α β : Type} (f : α -> β) (l : List α) (x y : β) : List.take (2 + l.length) (x :: y :: List.map f l) = x :: y :: List.map f l := List.take_of_length_le zAx
@[simp] theorem oD {α β : Type} (f : α -> β) (l : List α) (x y z : β) : List.take (3 + l.length) (x :: y :: z :: List.map f l) = x :: y :: z :: List.map f l := List.take_of_length_le zAx
@[simp] theorem py {α β : Type} (f : α -> β) (l : List α) (x y z u : β) : List.take (4 + l.length) (x :: y :: z :: u :: List.map f l) = x :: y :: z :: u :: List.map f l := List.take_of_length_le zAx
@[simp] theorem p7 {α β : Type} (f : α -> β) (l : List α) (x y z u v : β) : List.take (5 + l.length) (x :: y :: z :: u :: v :: List.map f l) = x :: y :: z :: u :: v :: List.map f l := List.take_of_length_le zAx
@[simp] theorem p8 {α β : Type} (f : α -> β) (l : List α) (x y z u v w : β) : List.take (6 + l.length) (x :: y :: z :: u :: v :: w :: List.map f l) = x :: y :: z :: u :: v :: w :: List.map f l := List.take_of_length_le zAx
theorem GH(n:Nat)(h:n<=9223372036854775807):W ((n:Int)-1)=(n:Int)-1:=YZ zAD zAD
@[simp] theorem pz (a : Array UInt8) : (ByteArray.mk a).size = a.size := rfl
@[simp] theorem pM {α : Type} {l : List α} {x : α} {v : Nat} (h : l.length = n) : List.take (min v n + 1 + (n - v)) (List.take v l ++ x :: List.drop v l) = List.take v l ++ x :: List.drop v l := by
  apply List.take_of_length_le;simp;omega
@[simp] theorem oB (a b : Nat) : (min a b + 1 + (b - a) = min a b + (b - a + 1)) = True := zAx
theorem xd{α:Type}[Inhabited α][Sz α]{l:List α}{x:α}(h:Sm n l)(hx:Sm n x):Sm n (l.set i x):=
  ⟨by simpa using h.1,fun y hy=>by
    rcases List.mem_or_eq_of_mem_set hy with hy|rfl
    · exact h.2 y hy
    · exact hx⟩
theorem wB{α:Type}(a b:α):cond true a b=a/\cond false a b=b:=⟨rfl,rfl⟩
theorem lx{x a b:ByteArray}(h:(decide (x=a))=true)(n:decide (a=b)=false:=by decide):(decide (x=b))=false:=by rw[of_decide_eq_true h];exact n
theorem Xe{α:Type}(a b:α):cond true a b=a:=(wB a b).1
theorem X8{α:Type}(a b:α):cond false a b=b:=(wB a b).2
/-- a side condition that is found by itself -/
theorem bf{a:Bool}{c:Prop}(h:a=true->c):a=false\/c:=by cases a with|false=>exact .inl rfl|true=>exact .inr (h rfl)
theorem sd(h:b)(k:a:=by(intros;first|omega|exact⟨by assumption,fun k=>⟨by assumption,k⟩⟩|exact bf (by assumption)|(simp only[decide_eq_true_eq,decide_eq_false_iff_not,beq_iff_eq,beq_eq_false_iff_ne,bne_iff_ne,ne_eq,Bool.or_eq_false_iff,Bool.or_eq_true,Bool.and_eq_true,Bool.not_eq_true',Bool.not_eq_false']at*;omega)|((try simp only[Go.Mo.Yw,show ∀x,Go.IntKind.i64.wrap x=Go.Vm.W x from fun _=>rfl]at*);omega)|exact List.ne_nil_of_length_pos (by assumption))):a/\b:=⟨k,h⟩
theorem sdg(h:b)(k:a:=by(intros;first|omega|(simp_all;done)|(simp_all;omega)|grind|((try simp only[Go.Mo.Yw,show ∀x,Go.IntKind.i64.wrap x=Go.Vm.W x from fun _=>rfl]at*);omega))):a/\b:=⟨k,h⟩
theorem il{a b:Nat}(h:a<b:=by first|omega|(simp only[decide_eq_true_eq,decide_eq_false_iff_not,beq_iff_eq,beq_eq_false_iff_ne,bne_iff_ne,ne_eq,Bool.or_eq_false_iff,Bool.not_eq_true',Bool.not_eq_false']at*;omega)|(simp_all[List.length_pos_iff];done)|(simp;omega)|(simp_all;omega)|((try simp only[Go.Mo.Yw,show ∀x,Go.IntKind.i64.wrap x=Go.Vm.W x from fun _=>rfl]at*);omega)|(simp;(try simp only[Go.Mo.Yw,show ∀x,Go.IntKind.i64.wrap x=Go.Vm.W x from fun _=>rfl]at*);omega)):a<b:=h
theorem ik{α:Type}(a:Nat)(l:List α)(h:a<l.length:=by first|omega|(simp only[decide_eq_true_eq,decide_eq_false_iff_not,beq_iff_eq,beq_eq_false_iff_ne,bne_iff_ne,ne_eq,Bool.or_eq_false_iff,Bool.not_eq_true',Bool.not_eq_false']at*;omega)|(simp_all[List.length_pos_iff];done)|(simp;omega)|(simp_all;omega)|((try simp only[Go.Mo.Yw,show ∀x,Go.IntKind.i64.wrap x=Go.Vm.W x from fun _=>rfl]at*);omega)|(simp;(try simp only[Go.Mo.Yw,show ∀x,Go.IntKind.i64.wrap x=Go.Vm.W x from fun _=>rfl]at*);omega)):a<l.length:=h
theorem sl{α:Type}[Inhabited α][Sz α](n:Nat)(l:List α)(u:q)(h:q->Sm n l:=by(intro u;simp(maxDischargeDepth:=12) [u])):l.length<=n:=YX (h u)
theorem sg{α:Type}[Inhabited α][Sz α]{x:α}(h:Sm n x)(k:n<=m:=by decide):Sm m x:=ZH k h
theorem Ea{α:Type}[Inhabited α]{l:List α}(h:i<l.length):l.drop i=Vm.nth l i::l.drop (i+1):=by rw[List.drop_eq_getElem_cons h];simp[Vm.nth,List.getD_eq_getElem?_getD,List.getElem?_eq_getElem h]
theorem EM{α:Type}[Inhabited α](c:α->Nat){l:List α}(h:i<l.length):cnL c (l.drop i)=c (Vm.nth l i)+cnL c (l.drop (i+1)):=by rw[Ea h];rfl
theorem Cx{α β:Type}(f:α->List β):∀l:List α,(l.flatMap f).length=cnL (fun x=>(f x).length) l
  |[]=>rfl
  |x::l=>by simp only[List.flatMap_cons,List.length_append,cnL,Cx f l]
theorem CV{α β:Type}[Inhabited α]{as:List α}(f:α->List β){F:Nat->Nat->List β->List β}(h1:∀n i l,F (n+1) i l=bif decide ((i:Int)<(as.length:Int))then F n (i+1) (l++f (Vm.nth as i))else l):∀n i l,as.length<n+i->i<=as.length->F n i l=l++(as.drop i).flatMap f
  |0,i,l,h,h2=>zAD
  |n+1,i,l,h,h2=>by
    rw[h1];by_cases hi:i<as.length
    · rw[show decide ((i:Int)<(as.length:Int))=true by simpa using hi,Xe,CV f h1 n (i+1) _ zAD hi,Ea hi];simp
    · rw[show decide ((i:Int)<(as.length:Int))=false by simpa using hi,X8,List.drop_eq_nil_of_le zAD];simp
theorem rW(h:∀x∈l,x.size<=m)(i:Nat):(Vm.nth l i).size<=m:=by
  by_cases hi:i<l.length
  · rw[show Vm.nth l i=l[i]by simp[Vm.nth,List.getD_eq_getElem?_getD,List.getElem?_eq_getElem hi]];exact h _ (List.getElem_mem hi)
  · rw[show Vm.nth l i=default by simp[Vm.nth,List.getD_eq_getElem?_getD,List.getElem?_eq_none (Nat.le_of_not_lt hi)]];exact Nat.zero_le _
theorem O3{α:Type}{p:α->Prop}{l m:List α}(h:∀x∈l,p x)(k:∀x∈m,p x):∀x∈l++m,p x:=fun x hx=>(List.mem_append.1 hx).elim (h x) (k x)
theorem all_cons{α:Type}{p:α->Prop}{a:α}{l:List α}(h:p a)(k:∀x∈l,p x):∀x∈a::l,p x:=fun x hx=>(List.mem_cons.1 hx).elim (fun e=>e▸h) (k x)
theorem all_nil{α:Type}{p:α->Prop}:∀x∈([]:List α),p x:=fun x hx=>zBn
end Go.Mo
