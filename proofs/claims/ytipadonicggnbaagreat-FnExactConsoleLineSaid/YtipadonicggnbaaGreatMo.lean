/- The plain data of the program, typed, and how they read as rows of the abstract machine. No condition. -/
import Derived.Test.YtipadonicggnbaaGreatVe
import Derived.Laws.BitsLemmas
namespace Go.Mo
open Go.Vm
variable{n i m L d Q i':Nat}{s:Int×List (List Vm.D)}{N:List ByteArray}{k ak ah aT aI aJ aQ aV aS aX aO aR aP aW aU aL A' B' C' D' h':Int}{T E ar aF aD av au V:List Int}{Z:List (List Int)}{ai:yC}{b:Bool}{ap:List Bool}{b':List UInt8}
@[simp] def S (n : Int) : List Vm.D := [.int .i64 n]
@[simp] def dF (b : UInt8) : List Vm.D := [.int .u8 (b.toNat : Int)]
@[simp] def lR (b : Bool) : List Vm.D := [.bool b]
@[simp] def sR (s : ByteArray) : List Vm.D := [.str s]
@[simp] def aH {α : Type} (n : Nat) (f : α -> List D) (m : List α) : List Vm.D := [.sl n (m.map f)]
/-- everything in it is at most so long -/
class Sz(α:Type)[Inhabited α] where
  a:Nat->α->Prop
  zero:∀n,a n default
  mono:∀{n m:Nat}{x:α},n<=m->a n x->a m x
/-- how many marks it takes -/
class Cn(α:Type) where
  a:α->Nat
abbrev cn{α:Type}[Cn α](x:α):Nat:=Cn.a x
def af{α:Type}(c:α->Nat):List α->Nat
  |[]=>0
  |x::l=>c x+af c l
instance:Cn Int:=⟨fun _=>1⟩
instance:Cn Bool:=⟨fun _=>1⟩
instance:Cn UInt8:=⟨fun _=>1⟩
instance:Cn ByteArray:=⟨fun _=>1⟩
instance{α:Type}[Cn α]:Cn (List α):=⟨af Cn.a⟩
theorem Tb(x:Int):cn x=1:=rfl
theorem g6(x:Bool):cn x=1:=rfl
theorem g8(x:ByteArray):cn x=1:=rfl
theorem QV{α:Type}[Cn α](x:List α):cn x=af cn x:=rfl
abbrev R{α:Type}[Inhabited α][Sz α](n:Nat)(x:α):Prop:=Sz.a n x
instance:Sz Int:=⟨fun _ _=>True,fun _=>trivial,fun _ h=>h⟩
instance:Sz Bool:=⟨fun _ _=>True,fun _=>trivial,fun _ h=>h⟩
instance:Sz UInt8:=⟨fun _ _=>True,fun _=>trivial,fun _ h=>h⟩
instance:Sz ByteArray:=⟨fun n s=>s.size<=n,fun _=>Nat.zero_le _,fun h k=>Nat.le_trans k h⟩
instance{α:Type}[Inhabited α][Sz α]:Sz (List α):=⟨fun n l=>l.length<=n/\∀x∈l,Sz.a n x,fun _=>⟨Nat.zero_le _,fun _ h=>by cases h⟩,fun h k=>⟨Nat.le_trans k.1 h,fun x O=>Sz.mono h (k.2 x O)⟩⟩
theorem XN{α:Type}[Inhabited α][Sz α]{l:List α}:R n l=(l.length<=n/\∀x∈l,R n x):=rfl
theorem Z7{α:Type}[Inhabited α][Sz α]{l:List α}(h:R n l):l.length<=n:=h.1
theorem Xw{s:ByteArray}(h:R n s):s.size<=n:=h
@[simp] theorem Vf {x : Int} : R n x := trivial
@[simp] theorem ZH {x : Bool} : R n x := trivial
@[simp] theorem ZDL {x : UInt8} : R n x := trivial
@[simp] theorem MP {α : Type} [Inhabited α] [Sz α] : R n ([] : List α) := ⟨Nat.zero_le _, fun _ h => by cases h⟩
@[simp] theorem Zh {α : Type} [Inhabited α] [Sz α] {l : List α} (h : R n l) : R n (C l i) := by
  unfold C;rw[List.getD_eq_getElem?_getD];cases hh:l[i]? with
  |none=>exact Sz.zero n
  |some x=>exact h.2 x (List.mem_of_getElem? hh)
@[simp] theorem Az {α : Type} [Inhabited α] [Sz α] {l : List α} (h : R n l) : R n (l.take i) := ⟨Nat.le_trans a0 h.1, fun x O => h.2 x (List.mem_of_mem_take O)⟩
@[simp] theorem xb {α : Type} [Inhabited α] [Sz α] {l : List α} (h : R n l) : R n (l.drop i) := ⟨Nat.le_trans ab h.1, fun x O => h.2 x (List.mem_of_mem_drop O)⟩
theorem Tj{α:Type}[Inhabited α][Sz α]{l m:List α}:R n (l++m)=(l.length+m.length<=n/\(∀x∈l,R n x)/\∀x∈m,R n x):=by rw[XN];simp[or_imp,forall_and]
theorem ZT{α:Type}[Inhabited α][Sz α]{x:α}(h:n<=m)(k:R n x):R m x:=Sz.mono h k
structure ZW where
  a:Int
  c:Int
  b:Int
  e:Int
  f:Int
  deriving Inhabited,DecidableEq
variable{aj:List (List ZW)}{aw:List ZW}
@[simp] def ZW.row (x : ZW) : List Vm.D := [.int .i64 x.a, .int .i64 x.c, .int .i64 x.b, .int .i64 x.e, .int .i64 x.f]
instance:Cn ZW:=⟨fun x=>cn x.a+cn x.c+cn x.b+cn x.e+cn x.f⟩
theorem ZW.XI(x:ZW):cn x=cn x.a+cn x.c+cn x.b+cn x.e+cn x.f:=rfl
instance:Sz ZW:=⟨fun _ _=>True,fun _=>trivial,fun _ h=>h⟩
@[simp] theorem ZW.O6 {x : ZW} : R n x := trivial
structure Y9 where
  e:Int
  a:Bool
  deriving Inhabited,DecidableEq
variable{ad:List Y9}
@[simp] def Y9.row (x : Y9) : List Vm.D := [.int .i64 x.e, .bool x.a]
instance:Cn Y9:=⟨fun x=>cn x.e+cn x.a⟩
theorem Y9.XI(x:Y9):cn x=cn x.e+cn x.a:=rfl
instance:Sz Y9:=⟨fun _ _=>True,fun _=>trivial,fun _ h=>h⟩
@[simp] theorem Y9.O6 {x : Y9} : R n x := trivial
structure Zc where
  d:Int
  b:Int
  e:Int
  c:List Y9
  a:List ZW
  deriving Inhabited,DecidableEq
variable{aA:List Zc}
@[simp] def Zc.row (x : Zc) : List Vm.D := [.int .i64 x.d, .int .i64 x.b, .int .i64 x.e, .sl 2 (x.c.map Y9.row), .sl 5 (x.a.map ZW.row)]
instance:Cn Zc:=⟨fun x=>cn x.d+cn x.b+cn x.e+cn x.c+cn x.a⟩
theorem Zc.XI(x:Zc):cn x=cn x.d+cn x.b+cn x.e+cn x.c+cn x.a:=rfl
instance:Sz Zc:=⟨fun n x=>R n x.c/\R n x.a,fun n=>⟨Sz.zero n,Sz.zero n⟩,fun h k=>⟨Sz.mono h k.1,Sz.mono h k.2⟩⟩
@[simp] theorem Zc.eN {x : Zc} (h : R n x) : R n x.c := h.1
@[simp] theorem Zc.Tk {x : Zc} (h : R n x) : R n x.a := h.2
@[simp] theorem Zc.M9 : R n (Zc.mk aJ aT aV ad aw) = (R n ad /\ R n aw) := rfl
structure YZ where
  c:Int
  g:Int
  b:Int
  a:Int
  d:Int
  deriving Inhabited,DecidableEq
variable{aE:List YZ}
@[simp] def YZ.row (x : YZ) : List Vm.D := [.int .i64 x.c, .int .i64 x.g, .int .i64 x.b, .int .i64 x.a, .int .i64 x.d]
instance:Cn YZ:=⟨fun x=>cn x.c+cn x.g+cn x.b+cn x.a+cn x.d⟩
theorem YZ.XI(x:YZ):cn x=cn x.c+cn x.g+cn x.b+cn x.a+cn x.d:=rfl
instance:Sz YZ:=⟨fun _ _=>True,fun _=>trivial,fun _ h=>h⟩
@[simp] theorem YZ.O6 {x : YZ} : R n x := trivial
structure ZX where
  b:Int
  c:Int
  a:Int
  deriving Inhabited,DecidableEq
variable{aa:List ZX}
@[simp] def ZX.row (x : ZX) : List Vm.D := [.int .i64 x.b, .int .i64 x.c, .int .i64 x.a]
instance:Cn ZX:=⟨fun x=>cn x.b+cn x.c+cn x.a⟩
theorem ZX.XI(x:ZX):cn x=cn x.b+cn x.c+cn x.a:=rfl
instance:Sz ZX:=⟨fun _ _=>True,fun _=>trivial,fun _ h=>h⟩
@[simp] theorem ZX.O6 {x : ZX} : R n x := trivial
structure Z8 where
  b:Int
  c:Int
  a:Int
  d:Int
  deriving Inhabited,DecidableEq
@[simp] def Z8.row (x : Z8) : List Vm.D := [.int .i64 x.b, .int .i64 x.c, .int .i64 x.a, .int .i64 x.d]
instance:Cn Z8:=⟨fun x=>cn x.b+cn x.c+cn x.a+cn x.d⟩
theorem Z8.XI(x:Z8):cn x=cn x.b+cn x.c+cn x.a+cn x.d:=rfl
instance:Sz Z8:=⟨fun _ _=>True,fun _=>trivial,fun _ h=>h⟩
@[simp] theorem Z8.O6 {x : Z8} : R n x := trivial
structure ZP where
  a:List YZ
  b:List ZX
  c:List Z8
  e:Int
  d:Int
  deriving Inhabited,DecidableEq
variable{ae:ZP}
@[simp] def ZP.row (x : ZP) : List Vm.D := [.sl 5 (x.a.map YZ.row), .sl 3 (x.b.map ZX.row), .sl 4 (x.c.map Z8.row), .int .i64 x.e, .int .i64 x.d]
instance:Cn ZP:=⟨fun x=>cn x.a+cn x.b+cn x.c+cn x.e+cn x.d⟩
theorem ZP.XI(x:ZP):cn x=cn x.a+cn x.b+cn x.c+cn x.e+cn x.d:=rfl
instance:Sz ZP:=⟨fun n x=>R n x.a/\R n x.b/\R n x.c,fun n=>⟨Sz.zero n,Sz.zero n,Sz.zero n⟩,fun h k=>⟨Sz.mono h k.1,Sz.mono h k.2.1,Sz.mono h k.2.2⟩⟩
@[simp] theorem ZP.Yb {x : ZP} (h : R n x) : R n x.a := h.1
@[simp] theorem ZP.Yi {x : ZP} (h : R n x) : R n x.b := h.2.1
@[simp] theorem ZP.Yt {x : ZP} (h : R n x) : R n x.c := h.2.2
@[simp] theorem ZP.M9 {E : List Z8} : R n (ZP.mk aE aa E aQ aW) = (R n aE /\ R n aa /\ R n E) := rfl
structure Yv where
  a:Int
  c:Int
  g:Int
  d:Int
  b:Int
  e:Int
  f:Int
  deriving Inhabited,DecidableEq
variable{ao:List Yv}
@[simp] def Yv.row (x : Yv) : List Vm.D := [.int .i64 x.a, .int .i64 x.c, .int .i64 x.g, .int .i64 x.d, .int .i64 x.b, .int .i64 x.e, .int .i64 x.f]
instance:Cn Yv:=⟨fun x=>cn x.a+cn x.c+cn x.g+cn x.d+cn x.b+cn x.e+cn x.f⟩
theorem Yv.XI(x:Yv):cn x=cn x.a+cn x.c+cn x.g+cn x.d+cn x.b+cn x.e+cn x.f:=rfl
instance:Sz Yv:=⟨fun _ _=>True,fun _=>trivial,fun _ h=>h⟩
@[simp] theorem Yv.O6 {x : Yv} : R n x := trivial
structure ZV where
  e:Int
  a:List ByteArray
  d:List Int
  deriving Inhabited,DecidableEq
variable{K:ZV}
@[simp] def ZV.row (x : ZV) : List Vm.D := [.int .i64 x.e, .sl 1 (x.a.map sR), .sl 1 (x.d.map S)]
instance:Cn ZV:=⟨fun x=>cn x.e+cn x.a+cn x.d⟩
theorem ZV.XI(x:ZV):cn x=cn x.e+cn x.a+cn x.d:=rfl
instance:Sz ZV:=⟨fun n x=>R n x.a/\R n x.d,fun n=>⟨Sz.zero n,Sz.zero n⟩,fun h k=>⟨Sz.mono h k.1,Sz.mono h k.2⟩⟩
@[simp] theorem ZV.xy {x : ZV} (h : R n x) : R n x.a := h.1
@[simp] theorem ZV.L3 {x : ZV} (h : R n x) : R n x.d := h.2
@[simp] theorem ZV.M9 : R n (ZV.mk ak N T) = (R n N /\ R n T) := rfl
structure Zu where
  c:Int
  a:Int
  b:Int
  e:Int
  h:Int
  g:Int
  i:Int
  d:Int
  f:Int
  deriving Inhabited,DecidableEq
variable{aM:Zu}
@[simp] def Zu.row (x : Zu) : List Vm.D := [.int .i64 x.c, .int .i64 x.a, .int .i64 x.b, .int .i64 x.e, .int .i64 x.h, .int .i64 x.g, .int .i64 x.i, .int .i64 x.d, .int .i64 x.f]
instance:Cn Zu:=⟨fun x=>cn x.c+cn x.a+cn x.b+cn x.e+cn x.h+cn x.g+cn x.i+cn x.d+cn x.f⟩
theorem Zu.XI(x:Zu):cn x=cn x.c+cn x.a+cn x.b+cn x.e+cn x.h+cn x.g+cn x.i+cn x.d+cn x.f:=rfl
instance:Sz Zu:=⟨fun _ _=>True,fun _=>trivial,fun _ h=>h⟩
@[simp] theorem Zu.O6 {x : Zu} : R n x := trivial
structure ZS where
  c:Int
  a:List Int
  f:Int
  deriving Inhabited,DecidableEq
variable{an:List ZS}
@[simp] def ZS.row (x : ZS) : List Vm.D := [.int .i64 x.c, .sl 1 (x.a.map S), .int .i64 x.f]
instance:Cn ZS:=⟨fun x=>cn x.c+cn x.a+cn x.f⟩
theorem ZS.XI(x:ZS):cn x=cn x.c+cn x.a+cn x.f:=rfl
instance:Sz ZS:=⟨fun n x=>R n x.a,fun n=>Sz.zero n,fun h k=>Sz.mono h k⟩
@[simp] theorem ZS.T5 {x : ZS} (h : R n x) : R n x.a := h
@[simp] theorem ZS.M9 : R n (ZS.mk aU av aS) = (R n av) := rfl
structure ZY where
  a:List ZS
  b:List Zc
  deriving Inhabited,DecidableEq
variable{ay:List ZY}{aG:ZY}
@[simp] def ZY.row (x : ZY) : List Vm.D := [.sl 3 (x.a.map ZS.row), .sl 5 (x.b.map Zc.row)]
instance:Cn ZY:=⟨fun x=>cn x.a+cn x.b⟩
theorem ZY.XI(x:ZY):cn x=cn x.a+cn x.b:=rfl
instance:Sz ZY:=⟨fun n x=>R n x.a/\R n x.b,fun n=>⟨Sz.zero n,Sz.zero n⟩,fun h k=>⟨Sz.mono h k.1,Sz.mono h k.2⟩⟩
@[simp] theorem ZY.Yw {x : ZY} (h : R n x) : R n x.a := h.1
@[simp] theorem ZY.Qf {x : ZY} (h : R n x) : R n x.b := h.2
@[simp] theorem ZY.M9 : R n (ZY.mk an aA) = (R n an /\ R n aA) := rfl
structure ZU where
  b:Int
  e:Int
  c:ZV
  d:Zu
  a:ZY
  deriving Inhabited,DecidableEq
variable{G:List ZU}
@[simp] def ZU.row (x : ZU) : List Vm.D := [.int .i64 x.b, .int .i64 x.e, .int .i64 x.c.e, .sl 1 (x.c.a.map sR), .sl 1 (x.c.d.map S), .int .i64 x.d.c, .int .i64 x.d.a, .int .i64 x.d.b, .int .i64 x.d.e, .int .i64 x.d.h, .int .i64 x.d.g, .int .i64 x.d.i, .int .i64 x.d.d, .int .i64 x.d.f, .sl 3 (x.a.a.map ZS.row), .sl 5 (x.a.b.map Zc.row)]
instance:Cn ZU:=⟨fun x=>cn x.b+cn x.e+cn x.c+cn x.d+cn x.a⟩
theorem ZU.XI(x:ZU):cn x=cn x.b+cn x.e+cn x.c+cn x.d+cn x.a:=rfl
instance:Sz ZU:=⟨fun n x=>R n x.c/\R n x.a,fun n=>⟨Sz.zero n,Sz.zero n⟩,fun h k=>⟨Sz.mono h k.1,Sz.mono h k.2⟩⟩
@[simp] theorem ZU.Q6 {x : ZU} (h : R n x) : R n x.c := h.1
@[simp] theorem ZU.YU {x : ZU} (h : R n x) : R n x.a := h.2
@[simp] theorem ZU.M9 : R n (ZU.mk ah aX K aM aG) = (R n K /\ R n aG) := rfl
structure ZE where
  b:Int
  a:List ZU
  deriving Inhabited,DecidableEq
variable{X:List ZE}
@[simp] def ZE.row (x : ZE) : List Vm.D := [.int .i64 x.b, .sl 16 (x.a.map ZU.row)]
instance:Cn ZE:=⟨fun x=>cn x.b+cn x.a⟩
theorem ZE.XI(x:ZE):cn x=cn x.b+cn x.a:=rfl
instance:Sz ZE:=⟨fun n x=>R n x.a,fun n=>Sz.zero n,fun h k=>Sz.mono h k⟩
@[simp] theorem ZE.YO {x : ZE} (h : R n x) : R n x.a := h
@[simp] theorem ZE.M9 : R n (ZE.mk ah G) = (R n G) := rfl
structure ZF where
  b:ZP
  c:List Yv
  d:List Int
  a:List ZE
  e:List Int
  f:List Int
  h:Int
  g:List Int
  deriving Inhabited,DecidableEq
variable{x:ZF}
@[simp] def ZF.row (x : ZF) : List Vm.D := [.sl 5 (x.b.a.map YZ.row), .sl 3 (x.b.b.map ZX.row), .sl 4 (x.b.c.map Z8.row), .int .i64 x.b.e, .int .i64 x.b.d, .sl 7 (x.c.map Yv.row), .sl 1 (x.d.map S), .sl 2 (x.a.map ZE.row), .sl 1 (x.e.map S), .sl 1 (x.f.map S), .int .i64 x.h, .sl 1 (x.g.map S)]
instance:Cn ZF:=⟨fun x=>cn x.b+cn x.c+cn x.d+cn x.a+cn x.e+cn x.f+cn x.h+cn x.g⟩
theorem ZF.XI(x:ZF):cn x=cn x.b+cn x.c+cn x.d+cn x.a+cn x.e+cn x.f+cn x.h+cn x.g:=rfl
instance:Sz ZF:=⟨fun n x=>R n x.b/\R n x.c/\R n x.d/\R n x.a/\R n x.e/\R n x.f/\R n x.g,fun n=>⟨Sz.zero n,Sz.zero n,Sz.zero n,Sz.zero n,Sz.zero n,Sz.zero n,Sz.zero n⟩,fun h k=>⟨Sz.mono h k.1,Sz.mono h k.2.1,Sz.mono h k.2.2.1,Sz.mono h k.2.2.2.1,Sz.mono h k.2.2.2.2.1,Sz.mono h k.2.2.2.2.2.1,Sz.mono h k.2.2.2.2.2.2⟩⟩
@[simp] theorem ZF.YW (h : R n x) : R n x.b := h.1
@[simp] theorem ZF.iX (h : R n x) : R n x.c := h.2.1
@[simp] theorem ZF.vz (h : R n x) : R n x.d := h.2.2.1
@[simp] theorem ZF.Zz (h : R n x) : R n x.a := h.2.2.2.1
@[simp] theorem ZF.Aq (h : R n x) : R n x.e := h.2.2.2.2.1
@[simp] theorem ZF.w7 (h : R n x) : R n x.f := h.2.2.2.2.2.1
@[simp] theorem ZF.NR (h : R n x) : R n x.g := h.2.2.2.2.2.2
@[simp] theorem ZF.M9 : R n (ZF.mk ae ao aF X au aD aO ar) = (R n ae /\ R n ao /\ R n aF /\ R n X /\ R n au /\ R n aD /\ R n ar) := rfl
structure YT where
  b:Int
  A:Int
  B:Int
  C:Int
  D:Int
  c:ZV
  a:List Int
  deriving Inhabited,DecidableEq
@[simp] def YT.row (x : YT) : List Vm.D := [.int .i64 x.b, .int .i64 x.A, .int .i64 x.B, .int .i64 x.C, .int .i64 x.D, .int .i64 x.c.e, .sl 1 (x.c.a.map sR), .sl 1 (x.c.d.map S), .sl 1 (x.a.map S)]
instance:Cn YT:=⟨fun x=>cn x.b+cn x.A+cn x.B+cn x.C+cn x.D+cn x.c+cn x.a⟩
theorem YT.XI(x:YT):cn x=cn x.b+cn x.A+cn x.B+cn x.C+cn x.D+cn x.c+cn x.a:=rfl
instance:Sz YT:=⟨fun n x=>R n x.c/\R n x.a,fun n=>⟨Sz.zero n,Sz.zero n⟩,fun h k=>⟨Sz.mono h k.1,Sz.mono h k.2⟩⟩
@[simp] theorem YT.Q6 {x : YT} (h : R n x) : R n x.c := h.1
@[simp] theorem YT.bl {x : YT} (h : R n x) : R n x.a := h.2
@[simp] theorem YT.M9 : R n (YT.mk aR A' B' C' D' K V) = (R n K /\ R n V) := rfl
structure o where
  d:Int
  b:Int
  deriving Inhabited,DecidableEq
@[simp] def o.row (x : o) : List Vm.D := [.int .i64 x.d, .int .i64 x.b]
instance:Cn o:=⟨fun x=>cn x.d+cn x.b⟩
theorem o.XI(x:o):cn x=cn x.d+cn x.b:=rfl
instance:Sz o:=⟨fun _ _=>True,fun _=>trivial,fun _ h=>h⟩
@[simp] theorem o.O6 {x : o} : R n x := trivial
structure XR where
  a:Int
  c:Int
  b:o
  deriving Inhabited,DecidableEq
@[simp] def XR.row (x : XR) : List Vm.D := [.int .i64 x.a, .int .i64 x.c, .int .i64 x.b.d, .int .i64 x.b.b]
instance:Cn XR:=⟨fun x=>cn x.a+cn x.c+cn x.b⟩
theorem XR.XI(x:XR):cn x=cn x.a+cn x.c+cn x.b:=rfl
instance:Sz XR:=⟨fun _ _=>True,fun _=>trivial,fun _ h=>h⟩
@[simp] theorem XR.O6 {x : XR} : R n x := trivial
structure t where
  e:Int
  c:List Int
  b:List Bool
  a:List ByteArray
  d:List Int
  f:List (List Int)
  deriving Inhabited,DecidableEq
@[simp] def t.row (x : t) : List Vm.D := [.int .i64 x.e, .sl 1 (x.c.map S), .sl 1 (x.b.map lR), .sl 1 (x.a.map sR), .sl 1 (x.d.map S), .sl 1 (x.f.map (aH 1 S))]
instance:Cn t:=⟨fun x=>cn x.e+cn x.c+cn x.b+cn x.a+cn x.d+cn x.f⟩
theorem t.XI(x:t):cn x=cn x.e+cn x.c+cn x.b+cn x.a+cn x.d+cn x.f:=rfl
instance:Sz t:=⟨fun n x=>R n x.c/\R n x.b/\R n x.a/\R n x.d/\R n x.f,fun n=>⟨Sz.zero n,Sz.zero n,Sz.zero n,Sz.zero n,Sz.zero n⟩,fun h k=>⟨Sz.mono h k.1,Sz.mono h k.2.1,Sz.mono h k.2.2.1,Sz.mono h k.2.2.2.1,Sz.mono h k.2.2.2.2⟩⟩
@[simp] theorem t.Yt {x : t} (h : R n x) : R n x.c := h.1
@[simp] theorem t.aC {x : t} (h : R n x) : R n x.b := h.2.1
@[simp] theorem t.xy {x : t} (h : R n x) : R n x.a := h.2.2.1
@[simp] theorem t.L3 {x : t} (h : R n x) : R n x.d := h.2.2.2.1
@[simp] theorem t.ZBA {x : t} (h : R n x) : R n x.f := h.2.2.2.2
@[simp] theorem t.M9 : R n (t.mk ak E ap N T Z) = (R n E /\ R n ap /\ R n N /\ R n T /\ R n Z) := rfl
structure M where
  a:List ZY
  b:List (List ZW)
  deriving Inhabited,DecidableEq
@[simp] def M.row (x : M) : List Vm.D := [.sl 2 (x.a.map ZY.row), .sl 1 (x.b.map (aH 5 ZW.row))]
instance:Cn M:=⟨fun x=>cn x.a+cn x.b⟩
theorem M.XI(x:M):cn x=cn x.a+cn x.b:=rfl
instance:Sz M:=⟨fun n x=>R n x.a/\R n x.b,fun n=>⟨Sz.zero n,Sz.zero n⟩,fun h k=>⟨Sz.mono h k.1,Sz.mono h k.2⟩⟩
@[simp] theorem M.Y8 {x : M} (h : R n x) : R n x.a := h.1
@[simp] theorem M.ki {x : M} (h : R n x) : R n x.b := h.2
@[simp] theorem M.M9 : R n (M.mk ay aj) = (R n ay /\ R n aj) := rfl
structure O where
  a:Int
  b:Int
  d:Int
  e:Int
  f:Int
  deriving Inhabited,DecidableEq
@[simp] def O.row (x : O) : List Vm.D := [.int .i64 x.a, .int .i64 x.b, .int .i64 x.d, .int .i64 x.e, .int .i64 x.f]
instance:Cn O:=⟨fun x=>cn x.a+cn x.b+cn x.d+cn x.e+cn x.f⟩
theorem O.XI(x:O):cn x=cn x.a+cn x.b+cn x.d+cn x.e+cn x.f:=rfl
instance:Sz O:=⟨fun _ _=>True,fun _=>trivial,fun _ h=>h⟩
@[simp] theorem O.O6 {x : O} : R n x := trivial
structure GX where
  b:List UInt8
  i:Nat
  h:Int
  deriving Inhabited,DecidableEq
@[simp] def GX.row (x : GX) : List Vm.D := [.sl 1 (x.b.map dF), .int .i64 (x.i : Int), .int .i64 x.h]
instance:Sz GX:=⟨fun n x=>R n x.b,fun n=>Sz.zero n,fun h k=>Sz.mono h k⟩
@[simp] theorem GX.ZDa {x : GX} (h : R n x) : R n x.b := h
@[simp] theorem GX.M9 : R n (GX.mk b' i' h') = (R n b') := rfl
structure XY where
  d:Int
  b:Int
  a:List ZU
  e:Int
  deriving Inhabited,DecidableEq
@[simp] def XY.row (x : XY) : List Vm.D := [.int .i64 x.d, .int .i64 x.b, .sl 16 (x.a.map ZU.row), .int .i64 x.e]
instance:Cn XY:=⟨fun x=>cn x.d+cn x.b+cn x.a+cn x.e⟩
theorem XY.XI(x:XY):cn x=cn x.d+cn x.b+cn x.a+cn x.e:=rfl
instance:Sz XY:=⟨fun n x=>R n x.a,fun n=>Sz.zero n,fun h k=>Sz.mono h k⟩
@[simp] theorem XY.YO {x : XY} (h : R n x) : R n x.a := h
@[simp] theorem XY.M9 : R n (XY.mk aP aL G aI) = (R n G) := rfl
structure XD where
  g:Int
  a:Int
  d:Int
  b:Int
  c:Int
  f:Int
  deriving Inhabited,DecidableEq
@[simp] def XD.row (x : XD) : List Vm.D := [.int .i64 x.g, .int .i64 x.a, .int .i64 x.d, .int .i64 x.b, .int .i64 x.c, .int .i64 x.f]
instance:Cn XD:=⟨fun x=>cn x.g+cn x.a+cn x.d+cn x.b+cn x.c+cn x.f⟩
theorem XD.XI(x:XD):cn x=cn x.g+cn x.a+cn x.d+cn x.b+cn x.c+cn x.f:=rfl
instance:Sz XD:=⟨fun _ _=>True,fun _=>trivial,fun _ h=>h⟩
@[simp] theorem XD.O6 {x : XD} : R n x := trivial
open Go.Vm
variable{B:Nat->Int->Nat->Sum Int Int}{c:Nat->Bool}{F:Nat->Nat->Sum Bool Unit}{p a:Prop}{aH rs ax M H:List (List D)}{z:List Vm.D}{r:List (List Vm.D)}{y J A:yL}{v:Value}
theorem qU{α:Type}[Inhabited α]{l:List α}(h:i<l.length):C l i=l[i]:=by simp[C,h]
theorem Eg{α:Type}[Inhabited α]{l:List α}(h:i<l.length):C l i∈l:=by rw[qU h];exact List.getElem_mem h
theorem HJ{α:Type}[Inhabited α]{F:Nat->List α->Nat->List α}{a:List α}{g:α->α}(hg:∀x,g x=x)
    (I:∀n v i,F (n+1) v i=bif decide ((i:Int)<(a.length:Int))then F n (v++[g (C a i)]) (i+1)else v):
    ∀n v i,a.length<n+i->i<=a.length->F n v i=v++a.drop i:=by
  intro n;induction n with
  |zero=>intro v i X h3;omega
  |succ n ih=>
    intro v i X h3;rw[I];by_cases hi:i<a.length
    · rw[show decide ((i:Int)<(a.length:Int))=true by simp[hi],cond_true,ih _ _ Y hi,hg,qU hi,List.append_assoc,List.singleton_append,<-List.drop_eq_getElem_cons hi]
    · rw[show decide ((i:Int)<(a.length:Int))=false by simp;omega,cond_false,List.drop_eq_nil_of_le Y,List.append_nil]
theorem M1{F:Nat->Nat->Sum Int Unit}(h0:∀i,F 0 i= .inr ())
    (I:∀n i,F (n+1) i=bif decide ((i:Int)<(L:Int))then(bif c i then .inl (i:Int)else F n (i+1))else .inr ()):
    ∀n i,(match F n i with|.inl r=>r|.inr _=>-1)<(L:Int):=by
  intro n;induction n with
  |zero=>intro i;rw[h0];show(-1:Int)<_;omega
  |succ n ih=>
    intro i;rw[I];by_cases hi:(i:Int)<(L:Int)
    · rw[show decide ((i:Int)<(L:Int))=true by simpa using hi,cond_true];cases Z:c i with
      |true=>simpa using hi
      |false=>exact ih (i+1)
    · rw[show decide ((i:Int)<(L:Int))=false by simpa using hi,cond_false];show(-1:Int)<_;omega
theorem YK{M:List (List Vm.D)}{r:List Vm.D}(h:i<M.length):Vm.rowAt (M.set i r) i=r:=by simp[Vm.rowAt,h]
theorem MI{α:Type}{p:α->Prop}{l:List α}{a:α}(I:∀x∈l,p x)(X:p a):∀x∈l.set i a,p x:=by
  intro x O;rcases List.mem_or_eq_of_mem_set O with h|h
  · exact I x h
  · rw[h];exact X
/-- a length that is reckoned off a purse -/
def dP{α:Type}[Inhabited α][Sz α](F:α->Int->Int):Prop:=∀a n,R maxLen a->0<=n->n<=1048576->¬F a n<0->R 1048576 a/\F a n<=1048576
theorem oC{n:Int}{l:Nat}(h0:0<=n)(hn:n<=1048576)(hl:l<=maxLen):W (n-l)=n-l:=by have hl:l<=9223372036854775807:=hl;exact YF Y Y
theorem nc{α:Type}[Inhabited α][Sz α](hs:∀(n:Nat)(x:α),R n x){F:List α->Int->Int}(l:∀a n,F a n=bif decide (W (n-(a.length:Int))<0)then(-1)else W (n-(a.length:Int))):dP F:=by
  intro a n hm h0 hn h;rw[l,oC h0 hn hm.1]at h⊢;by_cases Z:n-(a.length:Int)<0
  · rw[show decide (n-(a.length:Int)<0)=true by simpa using Z,cond_true]at h;omega
  · rw[show decide (n-(a.length:Int)<0)=false by simpa using Z,cond_false]at h⊢;exact⟨⟨Y,fun x _=>hs _ x⟩,Y⟩
theorem mx{α:Type}[Inhabited α][Sz α]{E:α->Int->Int}(e:dP E){a:List α}(hm:R maxLen a)
    (I:∀n v i,B (n+1) v i=bif decide ((i:Int)<(a.length:Int))then(bif decide (E (C a i) v<0)then .inl (-1)else B n (E (C a i) v) (i+1))else .inr v):
    ∀n v i,0<=v->v<=1048576->a.length<n+i->i<=a.length->¬(match B n v i with|.inl r=>r|.inr z=>z)<0->(∀j,i<=j->j<a.length->R 1048576 (C a j))/\(match B n v i with|.inl r=>r|.inr z=>z)<=1048576:=by
  intro n;induction n with
  |zero=>intro v i _ _ X h3;omega
  |succ n ih=>
    intro v i al hv X h3 h;rw[I]at h⊢;by_cases hi:i<a.length
    · rw[show decide ((i:Int)<(a.length:Int))=true by simp[hi],cond_true]at h⊢;by_cases Z:E (C a i) v<0
      · rw[show decide (E (C a i) v<0)=true by simpa using Z,cond_true]at h;simp at h
      · rw[show decide (E (C a i) v<0)=false by simpa using Z,cond_false]at h⊢;obtain⟨H,e2⟩:=e (C a i) v (hm.2 _ (Eg hi)) al hv Z;obtain⟨r1,r2⟩:=ih _ (i+1) Y e2 Y hi h;refine⟨fun j hj b=>?_,r2⟩;by_cases K:j=i
        · subst K;exact H
        · exact r1 j Y b
    · rw[show decide ((i:Int)<(a.length:Int))=false by simp;omega,cond_false]at h⊢;exact⟨fun j hj b=>Y,hv⟩
theorem v2{α:Type}[Inhabited α][Sz α]{E:α->Int->Int}(e:dP E){F:List α->Int->Int}{B:List α->Nat->Int->Nat->Sum Int Int}
    (I:∀a n v i,B a (n+1) v i=bif decide ((i:Int)<(a.length:Int))then(bif decide (E (C a i) v<0)then .inl (-1)else B a n (E (C a i) v) (i+1))else .inr v)
    (l:∀a n,F a n=bif decide (W (n-(a.length:Int))<0)then(-1)else(match B a (a.length+1) (W (n-(a.length:Int))) 0 with|.inl r=>r|.inr z=>z)):dP F:=by
  intro a n hm h0 hn h;rw[l,oC h0 hn hm.1]at h⊢;by_cases Z:n-(a.length:Int)<0
  · rw[show decide (n-(a.length:Int)<0)=true by simpa using Z,cond_true]at h;omega
  · rw[show decide (n-(a.length:Int)<0)=false by simpa using Z,cond_false]at h⊢;obtain⟨r1,r2⟩:=mx e hm (I a) (a.length+1) _ 0 Y Y Y Y h;refine⟨⟨Y,fun x O=>?_⟩,r2⟩;obtain⟨j,hj,rfl⟩:=List.mem_iff_getElem.1 O;rw[<-qU hj];exact r1 j Y hj
theorem mH:dP (fun(s:ByteArray) n=>W (n-(s.size:Int))):=by
  intro a n hm h0 hn h;have hm:a.size<=maxLen:=hm
  dsimp only at h⊢;rw[oC h0 hn hm]at h⊢;exact⟨show a.size<=1048576 by omega,Y⟩
/-- the purse pays for the marks -/
def sS{α:Type}[Inhabited α][Sz α][Cn α](F:α->Int->Int)(c:Nat):Prop:=∀a n,R maxLen a->0<=n->n<=1048576->¬F a n<0->(cn a:Int)<=32*(n-F a n)+c/\F a n<=n
theorem hi{α:Type}{c:α->Nat}{m:Nat}(h:∀x,c x<=m):∀l:List α,af c l<=m*l.length
  |[]=>by simp[af]
  |x::l=>by have:=hi h l;have:=h x;simp only[af,List.length_cons,Nat.mul_add];omega
theorem Dd{α:Type}{c:α->Nat}(h:∀x,1<=c x):∀l:List α,l.length<=af c l
  |[]=>by simp[af]
  |x::l=>by have:=Dd h l;have:=h x;simp only[af,List.length_cons];omega
theorem Pg{α:Type}{c:α->Nat}{m:Nat}(h:∀x,c x=m):∀l:List α,af c l=m*l.length
  |[]=>by simp[af]
  |x::l=>by simp only[af,h,Pg h l,List.length_cons,Nat.mul_add];omega
theorem HO(l:List Int):cn l=l.length:=by rw[QV,Pg (c:=(cn:Int->Nat)) (m:=1) (fun _=>rfl)];simp
theorem g{α:Type}{p:α->Prop}{c:Bool}{x y:α}(O:p x)(hy:p y):p (bif c then x else y):=by cases c;exact hy;exact O
theorem Y2{α:Type}{p:α->Prop}{c:Bool}{x y:α}(O:c=true->p x)(hy:c=false->p y):p (bif c then x else y):=by cases c;exact hy rfl;exact O rfl
theorem Iv{α:Type}{F:Nat->List α->Nat->List α}{g:Nat->α}(h0:∀v i,F 0 v i=[])
    (I:∀n v i,F (n+1) v i=bif decide ((i:Int)<(L:Int))then(bif c i then F n (v++[g i]) (i+1)else F n v (i+1))else v):∀n v i,(F n v i).length<=v.length+(L-i):=by
  intro n;induction n with
  |zero=>intro v i;rw[h0];simp
  |succ n ih=>
    intro v i;rw[I];by_cases hi:i<L
    · rw[show decide ((i:Int)<(L:Int))=true by simp[hi],cond_true];cases c i with
      |true=>have:=ih (v++[g i]) (i+1);rw[cond_true];simp at this;omega
      |false=>have:=ih v (i+1);rw[cond_false];omega
    · rw[show decide ((i:Int)<(L:Int))=false by simp;omega,cond_false];omega
theorem iE{α:Type}{F:Nat->List α->Nat->List α}{g:Nat->α}(h0:∀v i,F 0 v i=[])
    (I:∀n v i,F (n+1) v i=bif decide ((i:Int)<(L:Int))then F n (v++[g i]) (i+1)else v):∀n v i,(F n v i).length<=v.length+(L-i):=by
  intro n;induction n with
  |zero=>intro v i;rw[h0];simp
  |succ n ih=>
    intro v i;rw[I];by_cases hi:i<L
    · rw[show decide ((i:Int)<(L:Int))=true by simp[hi],cond_true];have:=ih (v++[g i]) (i+1);simp at this;omega
    · rw[show decide ((i:Int)<(L:Int))=false by simp;omega,cond_false];omega
theorem yu{s:ZY}{r:Zc}(hn:n+1<=m)(h:R n s)(hr:R m r):R m (ZY.mk s.a (s.b++[r])):=by
  refine⟨ZT Y h.1,⟨?_,fun x O=>?_⟩⟩
  · have:=h.2.1;simp;omega
  · rcases List.mem_append.1 O with O|O
    · exact ZT Y (h.2.2 x O)
    · simp at O;subst O;exact hr
theorem oo{α:Type}[Inhabited α][Sz α][Cn α](hs:∀x:α,cn x<=32){F:List α->Int->Int}(l:∀a n,F a n=bif decide (W (n-(a.length:Int))<0)then(-1)else W (n-(a.length:Int))):sS F 0:=by
  intro a n hm h0 hn h;rw[l,oC h0 hn hm.1]at h⊢;by_cases Z:n-(a.length:Int)<0
  · rw[show decide (n-(a.length:Int)<0)=true by simpa using Z,cond_true]at h;omega
  · rw[show decide (n-(a.length:Int)<0)=false by simpa using Z,cond_false]at h⊢;have:=hi hs a
    rw[QV];omega
theorem k9{α:Type}[Inhabited α][Sz α][Cn α]{E:α->Int->Int}{c:Nat}(e:sS E c)(b:c<=32){a:List α}(hm:R maxLen a)
    (I:∀n v i,B (n+1) v i=bif decide ((i:Int)<(a.length:Int))then(bif decide (E (C a i) v<0)then .inl (-1)else B n (E (C a i) v) (i+1))else .inr v):
    ∀n v i,0<=v->v<=1048576->a.length<n+i->i<=a.length->¬(match B n v i with|.inl r=>r|.inr z=>z)<0->
      (af cn (a.drop i):Int)<=32*(v-(match B n v i with|.inl r=>r|.inr z=>z))+32*((a.length:Int)-i)/\(match B n v i with|.inl r=>r|.inr z=>z)<=v:=by
  intro n;induction n with
  |zero=>intro v i _ _ X h3;omega
  |succ n ih=>
    intro v i al hv X h3 h;rw[I]at h⊢;by_cases hi:i<a.length
    · rw[show decide ((i:Int)<(a.length:Int))=true by simp[hi],cond_true]at h⊢;by_cases Z:E (C a i) v<0
      · rw[show decide (E (C a i) v<0)=true by simpa using Z,cond_true]at h;simp at h
      · rw[show decide (E (C a i) v<0)=false by simpa using Z,cond_false]at h⊢;obtain⟨H,e2⟩:=e (C a i) v (hm.2 _ (Eg hi)) al hv Z;obtain⟨r1,r2⟩:=ih _ (i+1) Y Y Y hi h;rw[List.drop_eq_getElem_cons hi,af,<-qU hi];refine⟨?_,Y⟩;simp only[Int.natCast_add]at r1⊢;omega
    · rw[show decide ((i:Int)<(a.length:Int))=false by simp;omega,cond_false]at h⊢;rw[List.drop_eq_nil_of_le Y];simp only[af];exact⟨Y,Y⟩
theorem oq{α:Type}[Inhabited α][Sz α][Cn α]{E:α->Int->Int}{c:Nat}(e:sS E c)(b:c<=32){F:List α->Int->Int}{B:List α->Nat->Int->Nat->Sum Int Int}
    (I:∀a n v i,B a (n+1) v i=bif decide ((i:Int)<(a.length:Int))then(bif decide (E (C a i) v<0)then .inl (-1)else B a n (E (C a i) v) (i+1))else .inr v)
    (l:∀a n,F a n=bif decide (W (n-(a.length:Int))<0)then(-1)else(match B a (a.length+1) (W (n-(a.length:Int))) 0 with|.inl r=>r|.inr z=>z)):sS F 0:=by
  intro a n hm h0 hn h;rw[l,oC h0 hn hm.1]at h⊢;by_cases Z:n-(a.length:Int)<0
  · rw[show decide (n-(a.length:Int)<0)=true by simpa using Z,cond_true]at h;omega
  · rw[show decide (n-(a.length:Int)<0)=false by simpa using Z,cond_false]at h⊢;obtain⟨r1,r2⟩:=k9 e b hm (I a) (a.length+1) _ 0 Y Y Y Y h;rw[List.drop_zero]at r1;rw[QV];exact⟨Y,Y⟩
theorem lo:sS (fun(s:ByteArray) n=>W (n-(s.size:Int))) 1:=by
  intro a n hm h0 hn h;have hm:a.size<=maxLen:=hm
  dsimp only at h⊢;rw[oC h0 hn hm]at h⊢;rw[g8];exact⟨Y,Y⟩
open Go.Vm
open Go.Vm
theorem X8(n:Int):W n=(n+9223372036854775808)%18446744073709551616-9223372036854775808:=IntKind.wrap_i64 n
theorem wt(h:p:=by((try simp only[X8,show ∀x,IntKind.i64.wrap x=W x from fun _=>rfl]at*);omega)):p:=h
theorem fu(a:Int):W (W a)=W a:=by simp only[X8];omega
theorem Ax(a b:Int):W (W a+b)=W (a+b):=by simp only[X8];omega
theorem rE(a b:Int):W (a+W b)=W (a+b):=by simp only[X8];omega
/-- the sum of so many, from a place on -/
def wB(x:Nat->Int):Nat->Nat->Int
  |0,_=>0
  |k+1,i=>x i+wB x k (i+1)
theorem EL{F:Nat->Int->Nat->Int}{x:Nat->Int}{s:Int->Nat->Int}(hs:∀v i,s v i=W (v+x i))
    (I:∀n v i,F (n+1) v i=bif decide ((i:Int)<(L:Int))then F n (s v i) (i+1)else v):
    ∀n v i,L<n+i->i<=L->W v=v->F n v i=W (v+wB x (L-i) i):=by
  intro n;induction n with
  |zero=>intro v i h h3;omega
  |succ n ih=>
    intro v i h h3 hv;rw[I];by_cases hi:i<L
    · rw[show decide ((i:Int)<(L:Int))=true by simp[hi],cond_true,hs,ih _ _ Y Y (fu _),Ax,show L-i=(L-(i+1))+1 by omega,wB,Int.add_assoc]
    · rw[show decide ((i:Int)<(L:Int))=false by simp;omega,cond_false,show L-i=0 by omega,wB,Int.add_zero,hv]
theorem o2{α:Type}[Inhabited α][DecidableEq α]{a b:List α}(hl:a.length=b.length)(Z:∀i,c i=!decide (C a i=C b i))(h0:∀i,F 0 i= .inr ())
    (I:∀n i,F (n+1) i=bif decide ((i:Int)<(a.length:Int))then(bif c i then .inl false else F n (i+1))else .inr ()):
    F (a.length+1) 0=if a=b then .inr ()else .inl false:=by
  have ai:∀n i,a.length<n+i->F n i=if a.drop i=b.drop i then .inr ()else .inl false:=by
    intro n;induction n with
    |zero=>intro i h;rw[h0,List.drop_eq_nil_of_le Y,List.drop_eq_nil_of_le Y,if_pos rfl]
    |succ n ih=>
      intro i h;rw[I];by_cases hi:i<a.length
      · have d:i<b.length:=Y;rw[show decide ((i:Int)<(a.length:Int))=true by simp[hi],cond_true,Z,List.drop_eq_getElem_cons hi,List.drop_eq_getElem_cons d,qU hi,qU d];by_cases he:a[i]=b[i]
        · rw[he,show decide (b[i]=b[i])=true by simp,Bool.not_true,cond_false,ih _ Y];simp only[List.cons.injEq,true_and]
        · rw[show decide (a[i]=b[i])=false by simp[he],if_neg (fun hh=>he (List.cons.inj hh).1)];rfl
      · rw[show decide ((i:Int)<(a.length:Int))=false by simp;omega,cond_false,List.drop_eq_nil_of_le Y,List.drop_eq_nil_of_le Y,if_pos rfl]
  have:=ai (a.length+1) 0 Y;simpa using this
theorem mN{α:Type}[Inhabited α][DecidableEq α]{a b:List α}(Z:∀i,c i=!decide (C a i=C b i))(h0:∀i,F 0 i= .inr ())
    (I:∀n i,F (n+1) i=bif decide ((i:Int)<(a.length:Int))then(bif c i then .inl false else F n (i+1))else .inr ()):
    (bif((a.length:Int)!=(b.length:Int))then false else(match F (a.length+1) 0 with|.inl r=>r|.inr _=>true))=decide (a=b):=by
  by_cases hl:a.length=b.length
  · rw[o2 hl Z h0 I];simp only[hl,bne_self_eq_false,cond_false];by_cases h:a=b<;>simp[h]
  · have W:a≠b:=fun h=>hl (by rw[h]);have:((a.length:Int)!=(b.length:Int))=true:=a0;rw[this,cond_true];simp[W]
open Go.Vm
variable{f:FuncId}{o:dE}
theorem qi{α:Type}[Inhabited α][Sz α]{f:α->List D}{n:Nat}:∀{M:List (List D)},(∀r,r∈M->∃x:α,r=f x/\R n x)->∃l:List α,M=l.map f/\∀x∈l,R n x
  |[],_=>⟨[],rfl,fun _ h=>by cases h⟩
  |r::M,h=>by
    obtain⟨x,O,a⟩:=h r ab;obtain⟨l,hl,sl⟩:=qi (M:=M) (fun r hr=>h r (by simp[hr]));refine⟨x::l,by simp[O,hl],fun y hy=>?_⟩;rcases List.mem_cons.1 hy with rfl|hy
    · exact a
    · exact sl y hy
theorem Yd(ac:List D)(o s:Nat):ac.drop o=cut ac o s++ac.drop (o+s):=by rw[<-List.drop_drop,cut,List.take_append_drop]
open Go.Vm
variable{P:Program}{ts:List TypeId}
theorem vZ{t:TypeId}:∀{M:List (List D)},pP P n (t::ts) M->∃r rs,M=r::rs/\az P n t r/\pP P n ts rs
  |r::rs,h=>⟨r,rs,rfl,h.1,h.2⟩
  |[],h=>h.elim
theorem rV:∀{M:List (List D)},pP P n [] M->M=[]
  |[],_=>rfl
  |_::_,h=>h.elim
open Go.Vm
@[simp] theorem en (l : List UInt8) : yY l = l.map dF := rfl
@[simp] theorem oZ (x : Int) : ((UInt8.ofInt x).toNat : Int) = IntKind.u8.wrap x := by
  rw[IntKind.wrap_u8];simp[UInt8.ofInt];omega
theorem Q6(x:Int):(W (Int.tdiv x 10)).natAbs<=9223372036854775808/\(W (Int.tdiv x 10)).natAbs<=x.natAbs/10:=by
  rw[X8];have:(Int.tdiv x 10).natAbs=x.natAbs/10:=by rw[Int.natAbs_tdiv];rfl
  omega
theorem uG{x:Int}(h:n+1=21\/x.natAbs<10^(n+1)):(W (Int.tdiv x 10)).natAbs<10^n:=by
  obtain⟨I,X⟩:=Q6 x;rcases h with h|h
  · have:n=20:=Y;subst this;have:(10:Nat)^20=100000000000000000000:=aq;omega
  · rw[Nat.pow_succ]at h;omega
open Go.Vm
theorem fE{p:Nat}{x:Int}(hj:p+1=22\/x.natAbs<10^(p+1-1))(O:(x !=0)=true):1<=p/\(p=22\/(W (Int.tdiv x 10)).natAbs<10^(p-1)):=by
  have O:x≠0:=by simpa using O
  have hp:1<=p:=by
    rcases hj with h|h
    · omega
    · rcases Nat.eq_zero_or_pos p with hz|hz
      · subst hz;simp at h;exact absurd h O
      · exact hz
  refine⟨hp,.inr ?_⟩;obtain⟨q,rfl⟩:∃q,p=q+1:=⟨p-1,Y⟩;exact uG (x:=x) (n:=q) (hj.elim (fun h=>.inl Y) (fun h=>.inr c3))
theorem fx{p:Nat}{x:Int}(hj:p+1=21\/x.natAbs<10^(p+1))(O:((W (Int.tdiv x 10))==0)=false):1<=p/\(p=21\/(W (Int.tdiv x 10)).natAbs<10^p):=by
  have O:W (Int.tdiv x 10)≠0:=by simpa using O
  have h:=uG hj;refine⟨?_,.inr h⟩;rcases Nat.eq_zero_or_pos p with hz|hz
  · subst hz;simp at h;exact absurd h O
  · exact hz
open Go.Vm
variable{aB w:List D}
@[simp] theorem WP {α : Type} {l : List α} (h : l.length <= n) : List.take n l = l := List.take_of_length_le h
@[simp] theorem X0 {α β : Type} (f : α -> β) (l : List α) : List.take l.length (List.map f l) = List.map f l := List.take_of_length_le ab
@[simp] theorem ZAP (n : Nat) : 1 + n = n + 1 := Nat.add_comm 1 n
@[simp] theorem ZK {α β : Type} (f : α -> β) (l : List α) (x y : β) : List.take (2 + l.length) (x :: y :: List.map f l) = x :: y :: List.map f l := List.take_of_length_le a0
@[simp] theorem Zp {α β : Type} (f : α -> β) (l : List α) (x y z : β) : List.take (3 + l.length) (x :: y :: z :: List.map f l) = x :: y :: z :: List.map f l := List.take_of_length_le a0
@[simp] theorem Za {α β : Type} (f : α -> β) (l : List α) (x y z u : β) : List.take (4 + l.length) (x :: y :: z :: u :: List.map f l) = x :: y :: z :: u :: List.map f l := List.take_of_length_le a0
@[simp] theorem ZCU {α β : Type} (f : α -> β) (l : List α) (x y z u v : β) : List.take (5 + l.length) (x :: y :: z :: u :: v :: List.map f l) = x :: y :: z :: u :: v :: List.map f l := List.take_of_length_le a0
@[simp] theorem YL {α β : Type} (f : α -> β) (l : List α) (x y z u v w : β) : List.take (6 + l.length) (x :: y :: z :: u :: v :: w :: List.map f l) = x :: y :: z :: u :: v :: w :: List.map f l := List.take_of_length_le a0
theorem IZ(n:Nat)(h:n<=9223372036854775807):W ((n:Int)-1)=(n:Int)-1:=YF Y Y
@[simp] theorem ZCV (a : Array UInt8) : (ByteArray.mk a).size = a.size := rfl
@[simp] theorem Zd {α : Type} {l : List α} {x : α} {v : Nat} (h : l.length = n) : List.take (min v n + 1 + (n - v)) (List.take v l ++ x :: List.drop v l) = List.take v l ++ x :: List.drop v l := by
  apply List.take_of_length_le;simp;omega
@[simp] theorem ZCX (a b : Nat) : (min a b + 1 + (b - a) = min a b + (b - a + 1)) = True := a0
theorem Lr{α:Type}[Inhabited α][Sz α]{l:List α}{x:α}(h:R n l)(O:R n x):R n (l.set i x):=
  ⟨by simpa using h.1,fun y hy=>by
    rcases List.mem_or_eq_of_mem_set hy with hy|rfl
    · exact h.2 y hy
    · exact O⟩
theorem hA{α:Type}(a b:α):cond true a b=a/\cond false a b=b:=⟨rfl,rfl⟩
theorem lx{x a b:ByteArray}(h:(decide (x=a))=true)(n:decide (a=b)=false:=by decide):(decide (x=b))=false:=by rw[of_decide_eq_true h];exact n
theorem Xe{α:Type}(a b:α):cond true a b=a:=(hA a b).1
theorem XK{α:Type}(a b:α):cond false a b=b:=(hA a b).2
/-- a side condition that is found by itself -/
theorem od{a:Bool}{c:Prop}(h:a=true->c):a=false\/c:=by cases a with|false=>exact .inl rfl|true=>exact .inr (h rfl)
theorem sd{b:Prop}(h:b)(k:a:=by(intros;first|omega|exact⟨by assumption,fun k=>⟨by assumption,k⟩⟩|exact od iq|(simp only[decide_eq_true_eq,decide_eq_false_iff_not,beq_iff_eq,beq_eq_false_iff_ne,bne_iff_ne,ne_eq,Bool.or_eq_false_iff,Bool.or_eq_true,Bool.and_eq_true,Bool.not_eq_true',Bool.not_eq_false']at*;omega)|((try simp only[Go.Mo.X8,show ∀x,Go.IntKind.i64.wrap x=Go.Vm.W x from fun _=>rfl]at*);omega)|exact List.ne_nil_of_length_pos iq)):a/\b:=⟨k,h⟩
theorem dt{b:Prop}(h:b)(k:a:=by(intros;first|omega|(simp_all;done)|(simp_all;omega)|grind|((try simp only[Go.Mo.X8,show ∀x,Go.IntKind.i64.wrap x=Go.Vm.W x from fun _=>rfl]at*);omega))):a/\b:=⟨k,h⟩
theorem il{a b:Nat}(h:a<b:=by first|omega|(simp only[decide_eq_true_eq,decide_eq_false_iff_not,beq_iff_eq,beq_eq_false_iff_ne,bne_iff_ne,ne_eq,Bool.or_eq_false_iff,Bool.not_eq_true',Bool.not_eq_false']at*;omega)|(simp_all[List.length_pos_iff];done)|(simp;omega)|(simp_all;omega)|((try simp only[Go.Mo.X8,show ∀x,Go.IntKind.i64.wrap x=Go.Vm.W x from fun _=>rfl]at*);omega)|(simp;(try simp only[Go.Mo.X8,show ∀x,Go.IntKind.i64.wrap x=Go.Vm.W x from fun _=>rfl]at*);omega)):a<b:=h
theorem ik{α:Type}(a:Nat)(l:List α)(h:a<l.length:=by first|omega|(simp only[decide_eq_true_eq,decide_eq_false_iff_not,beq_iff_eq,beq_eq_false_iff_ne,bne_iff_ne,ne_eq,Bool.or_eq_false_iff,Bool.not_eq_true',Bool.not_eq_false']at*;omega)|(simp_all[List.length_pos_iff];done)|(simp;omega)|(simp_all;omega)|((try simp only[Go.Mo.X8,show ∀x,Go.IntKind.i64.wrap x=Go.Vm.W x from fun _=>rfl]at*);omega)|(simp;(try simp only[Go.Mo.X8,show ∀x,Go.IntKind.i64.wrap x=Go.Vm.W x from fun _=>rfl]at*);omega)):a<l.length:=h
theorem sl{α:Type}[Inhabited α][Sz α](n:Nat)(l:List α){q:Prop}(u:q)(h:q->R n l:=by(intro u;simp(maxDischargeDepth:=12) [u])):l.length<=n:=Z7 (h u)
theorem sg{α:Type}[Inhabited α][Sz α]{x:α}(h:R n x)(k:n<=m:=by decide):R m x:=ZT k h
theorem RV{α:Type}(c:α->Nat):∀(l:List α)(i:Nat)(x:α),af c (l.set i x)<=af c l+c x
  |[],_,_=>by simp[af]
  |y::l,0,x=>by simp only[List.set_cons_zero,af];omega
  |y::l,i+1,x=>by have:=RV c l i x;simp only[List.set_cons_succ,af];omega
theorem Of{α:Type}[Inhabited α](c:α->Nat):∀(l:List α)(i:Nat),c (Vm.C l i)<=af c l+c default
  |[],_=>by simp[Vm.C,af]
  |y::l,0=>by simp only[Vm.C,List.getD_cons_zero,af];omega
  |y::l,i+1=>by have:=Of c l i;simp only[Vm.C,List.getD_cons_succ,af]at this⊢;omega
theorem Ke{α:Type}(c:α->Nat):∀(l m:List α),af c (l++m)=af c l+af c m
  |[],m=>by simp[af]
  |y::l,m=>by have:=Ke c l m;simp only[List.cons_append,af];omega
theorem Mz(A:ZF)(i:Nat)(x:ZE)(b:Bool):cn (ZF.mk A.b A.c A.d (A.a.set i x) A.e A.f A.h A.g,b).1<=cn A+cn x:=by have:=RV (cn:ZE->Nat) A.a i x;simp only[ZF.XI,QV]at this⊢;omega
theorem My(A:ZF)(i:Nat):cn (Vm.C A.a i)<=cn A+100:=by have I:=Of (cn:ZE->Nat) A.a i;have hd:cn (default:ZE)<=100:=Nat.le_of_ble_eq_true rfl;simp only[ZF.XI,QV]at I⊢;omega
theorem yI{α:Type}[Inhabited α]{l:List α}(h:i<l.length):l.drop i=Vm.C l i::l.drop (i+1):=by rw[List.drop_eq_getElem_cons h];simp[Vm.C,List.getD_eq_getElem?_getD,List.getElem?_eq_getElem h]
theorem UH{α:Type}[Inhabited α](c:α->Nat){l:List α}(h:i<l.length):af c (l.drop i)=c (Vm.C l i)+af c (l.drop (i+1)):=by rw[yI h];rfl
theorem Ep{α:Type}{c d:α->Nat}(h:∀x,c x<=d x):∀l:List α,af c l<=af d l
  |[]=>Nat.le_refl _
  |x::l=>Nat.add_le_add (h x) (Ep h l)
theorem ip{α β:Type}(c:β->Nat)(f:α->β):∀l:List α,af c (l.map f)=af (fun x=>c (f x)) l
  |[]=>rfl
  |x::l=>by simp only[List.map_cons,af,ip c f l]
theorem lU{α β:Type}(c:β->Nat)(f:α->List β):∀l:List α,af c (l.flatMap f)=af (fun x=>af c (f x)) l
  |[]=>rfl
  |x::l=>by simp only[List.flatMap_cons,af,Ke,lU c f l]
theorem Fm{α β:Type}(f:α->List β):∀l:List α,(l.flatMap f).length=af (fun x=>(f x).length) l
  |[]=>rfl
  |x::l=>by simp only[List.flatMap_cons,List.length_append,af,Fm f l]
theorem xk{α β:Type}[Inhabited α]{as:List α}(f:α->List β){F:Nat->Nat->List β->List β}(I:∀n i l,F (n+1) i l=bif decide ((i:Int)<(as.length:Int))then F n (i+1) (l++f (Vm.C as i))else l):∀n i l,as.length<n+i->i<=as.length->F n i l=l++(as.drop i).flatMap f
  |0,i,l,h,X=>Y
  |n+1,i,l,h,X=>by
    rw[I];by_cases hi:i<as.length
    · rw[show decide ((i:Int)<(as.length:Int))=true by simpa using hi,Xe,xk f I n (i+1) _ Y hi,yI hi];simp
    · rw[show decide ((i:Int)<(as.length:Int))=false by simpa using hi,XK,List.drop_eq_nil_of_le Y];simp
theorem Us{α β:Type}(f:α->β):∀l:List α,l.flatMap (fun a=>[f a])=l.map f
  |[]=>rfl
  |x::l=>by rw[List.flatMap_cons,Us f l];rfl
theorem gu{l:List ByteArray}(h:∀x∈l,x.size<=m)(i:Nat):(Vm.C l i).size<=m:=by
  by_cases hi:i<l.length
  · rw[show Vm.C l i=l[i]by simp[Vm.C,List.getD_eq_getElem?_getD,List.getElem?_eq_getElem hi]];exact h _ (List.getElem_mem hi)
  · rw[show Vm.C l i=default by simp[Vm.C,List.getD_eq_getElem?_getD,List.getElem?_eq_none (Nat.le_of_not_lt hi)]];exact Nat.zero_le _
theorem all_cons{α:Type}{p:α->Prop}{a:α}{l:List α}(h:p a)(k:∀x∈l,p x):∀x∈a::l,p x:=fun x O=>(List.mem_cons.1 O).elim (fun e=>e▸h) (k x)
theorem all_nil{α:Type}{p:α->Prop}:∀x∈([]:List α),p x:=fun x O=>cW
open Go.Vm
variable{σ:U}{I:Int×List (List D)->Nat->Prop}{S:Int×List (List D)->Nat->U}{fn:Func}{cl:Call}{x0:Operand}
abbrev QK{ι:Type}(n:Nat)(S:ι->Nat->U)(I:ι->Nat->Prop)(i:Nat):cX:=⟨fun τ=>i<n/\∃y,I y (i+1)/\Wk τ (S y (i+1))⟩
/-- what a law's loop Hb a slice needs: its state by the data that it keeps and by the place -/
theorem aN{P:Program}{k:Fr}{c:yL}{ι:Type}(n:Nat)(S:ι->Nat->U)(I:ι->Nat->Prop)(x0:ι){p:ι->Nat->Prop}(h0:I x0 0)(M:Wk σ (S x0 0):=by exact Go.Vm.Qu ab)(X:∀x i,Bx (p x i)->@WI P (S x i) c (.nxt (fun τ=>@Nx τ (QK n S I i)) k):=by(intro d g z;simp;(repeat(with_reducible refine Go.Mo.sd ?_));exact z.h))(m:∀x i,i<=n->I x i->p x i):@Nm P σ c k:=by refine Uh (ι:={s:ι×Nat//s.2<=n/\I s.1 s.2}) (fun s=>S s.1.1 s.1.2) (fun s=>n-s.1.2) ⟨(x0,0),Nat.zero_le _,h0⟩ M ?_;rintro⟨⟨x,i⟩,hi,O⟩;refine Iq (fun τ hn=>?_) (X x i ⟨m x i hi O⟩);obtain⟨ag,y,hy,hw⟩:=hn;exact⟨⟨(y,i+1),ag,hy⟩,by dsimp only;omega,hw⟩
theorem ng{z:Int}(h:0<=z):(z<0)=False:=by simp;exact h
theorem wz{z:Int}(h: -9223372036854775808<=z)(g:z<=9223372036854775807):IntKind.i64.wrap z=z:=YF h g
section
variable{k:Fr}
theorem c0{x:yL}(h:@WI P σ y k):@CI P false σ x y k:=RJ rfl (fun _ h=>by cases h) (fun _ _=>h)
theorem c1{x:yL}(h:@WI P σ x k):@CI P true σ x y k:=RJ rfl (fun _ _=>h) (fun _ h=>by cases h)
/-- a condition under which the walk returns at once -/
theorem cQ{α:Type}{u y z:α}{c:Bool}{J A:yL}{q:Prop}(f:Me u (bif c then y else z))(Z:c=b:=by simp)(d:V3 σ->c=true->Me u y->@WI P σ J k:=by(intro s_ h_ f;simp;(repeat(with_reducible refine Go.Mo.sd ?_));first|exact Go.Vm.rt _ f|exact Go.Vm.ag _ f|exact Go.Vm.bT _ f))
    (a:Bx q->@WI P σ A k:=by(intro z;simp;(repeat(with_reducible refine Go.Mo.sd ?_));exact z.h)) (hf:V3 σ->c=false->Me u z->q):@CI P b σ J A k:=RJ Z (fun s h=>d s h ⟨f.h.trans bp⟩) (fun s h=>a ⟨hf s h ⟨f.h.trans bp⟩⟩)
theorem bC{α:Type}{u y z:α}{c:Bool}{J A:yL}(f:Me u (bif c then y else z))(Z:c=b:=by simp)(d:V3 σ->c=true->Me u y->@WI P σ J k:=by(intro s_ h_ f;simp;(repeat(with_reducible refine Go.Mo.sd ?_));first|exact Go.Vm.rt _ f|exact Go.Vm.ag _ f|exact Go.Vm.bT _ f))(hf:V3 σ->c=false->Me u z->@WI P σ A k):@CI P b σ J A k:=RJ Z (fun s h=>d s h ⟨f.h.trans bp⟩) (fun s h=>hf s h ⟨f.h.trans bp⟩)
theorem ei{x:yL}(X:Bx p->@WI P σ y k:=by(intro z;simp;(repeat(with_reducible refine Go.Mo.sd ?_));exact z.h))(h:p):@CI P false σ x y k:=c0 (X ⟨h⟩)
theorem cS{x y:yL}{p q:Prop}(c:Prop)[Decidable c](Z:decide c=b:=by simp)(d:Bx p->@WI P σ x k:=by(intro z;simp;(repeat(with_reducible refine Go.Mo.sd ?_));exact z.h))(a:Bx q->@WI P σ y k:=by(intro z;simp;(repeat(with_reducible refine Go.Mo.sd ?_));exact z.h))(ht:V3 σ->c->p)(hf:¬c->q):@CI P b σ x y k:=
  RJ Z (fun s h=>d ⟨ht s (of_decide_eq_true h)⟩) (fun _ h=>a ⟨hf (of_decide_eq_false h)⟩)
end
theorem e:Me () ():=⟨rfl⟩
section
variable{k:Fr}
theorem aK{q g:Prop}(F:q)(X:q->Bx p->g:=by(intro F z;simp(disch:=omega) [F,Go.Vm.ZG,Go.Mo.YK,List.set_set,Go.Mo.wz,Go.Mo.ng];(repeat(first|with_reducible refine Go.Mo.sd ?_|((first|with_reducible refine Go.Mo.c0 ?_|with_reducible refine Go.Mo.c1 ?_);simp(disch:=omega) [F,Go.Vm.ZG,Go.Mo.YK,List.set_set,Go.Mo.wz,Go.Mo.ng])));exact z.h))(h:p):g:=X F ⟨h⟩
theorem sw{own:Bool}{ax H:List (List D)}{p q:Prop}(hf:P.funcs[f]?=some fn)(hn:fn.ntmps=n)(F:q){c:Code}(J:fn.body=some c:=by exact rfl)(ap:R7 P f=true:=by kernel_rfl)(X:q->Bx p->@WI P (TW n ax) ⟨c⟩ (.fin (nO P fn own H)):=by(intro F z;simp(disch:=omega) [F,Go.Vm.ZG,Go.Mo.YK,List.set_set,Go.Mo.wz,Go.Mo.ng];(repeat(first|with_reducible refine Go.Mo.sd ?_|((first|with_reducible refine Go.Mo.c0 ?_|with_reducible refine Go.Mo.c1 ?_);simp(disch:=omega) [F,Go.Vm.ZG,Go.Mo.YK,List.set_set,Go.Mo.wz,Go.Mo.ng])));exact z.h))(h:p):JT P f own ax H:=El hf J ap (by rw[hn];exact X F ⟨h⟩)
theorem cH{ai:yC}{l:yf}{d:Nat}{p q:Prop}{own:Bool}(F:q)(hs:JT P f own M H)(A:o.o.op= .call cl:=by exact rfl)(Z:cl.callee= .value (.func f):=by exact rfl)(hg:o.o.guard=none:=by exact rfl)(hd:o.o.dst=some d:=by exact rfl)(b:q->(Xj P σ cl.args.toList cl.argTypes.toList).2=some M:=by(intro F;simp[F]))(al:(Xj P σ cl.args.toList cl.argTypes.toList).1:=by simp)(au:Yz P σ cl.args.toList cl.argTypes.toList=true\/zu own H:=by simp)(X:q->Bx p->@EI P (σ.put d (VO H)) ai l k:=by(intro F z;simp(disch:=omega) [F,Go.Vm.ZG,Go.Mo.YK,List.set_set,Go.Mo.wz,Go.Mo.ng];(repeat(first|with_reducible refine Go.Mo.sd ?_|((first|with_reducible refine Go.Mo.c0 ?_|with_reducible refine Go.Mo.c1 ?_);simp(disch:=omega) [F,Go.Vm.ZG,Go.Mo.YK,List.set_set,Go.Mo.wz,Go.Mo.ng])));exact z.h))(h:p):@SI P σ ai o l k:=Fa A Z hg hd hs (b F) al au (X F ⟨h⟩)
theorem bN{ac:List D}{ax:List (List D)}{aB:List D}{x:D}{p:Value->Prop}(hf:P.funcs[f]?=some fn)(hn:fn.ntmps=n){c:Code}(J:fn.body=some c:=by exact rfl)(ap:R7 P f=true:=by kernel_rfl)(X:∀v,Bx (p v)->@WI P (LG n v ac ax) ⟨c⟩ (.fin (dW P fn v aB x)):=by(intro v_ z;simp;(repeat(with_reducible refine Go.Mo.sd ?_));exact z.h))(h:∀v,p v):yS P f ac ax aB x:=o4 hf J ap (fun v=>by rw[hn];exact X v ⟨h v⟩)
theorem bR{α:Type}{s y:α}{v:Value}{aB:List D}{x:D}(rv:List ResultVar)(e:s=y)(hf:fn.results=rv.toArray:=by exact rfl)(h:s=y->(yB P σ rv).1/\(yB P σ rv).2=[[.d x]]/\x.scalar=true/\σ.head?=some (.fix v (a2 (Qt 0 0 aB)),Yg [] aB):=by(intro e;simp[e])):dW P fn v aB x .ret σ:=mR hf (h e)
theorem cV{ai:yC}{o:dE}{l:yf}{d:Nat}{p q:Prop}{cl:Call}{x0:Operand}{xs:List Operand}{t0:TypeId}{ts:List TypeId}{s s':List (List D)}{y:D}{i c:Nat}(F:q)(hs:yS P f [.sl n s] aH [.sl n s'] y)(ho:σ.ob 0 0= .arr true Q M:=by exact rfl)(A:o.o.op= .call cl:=by exact rfl)(Z:cl.callee= .value (.func f):=by exact rfl)(hg:o.o.guard=none:=by exact rfl)(hd:o.o.dst=some d:=by exact rfl)(g:ai.a o.o=true:=by exact rfl)(ha:cl.args.toList=x0::xs:=by exact rfl)(aw:cl.argTypes.toList=t0::ts:=by exact rfl)(O:am (Vm.look P σ t0 x0)=true/\unc (Vm.look P σ t0 x0)= .one (.ac 0 0 i c none):=by exact⟨rfl,rfl⟩)(hi:q->i<M.length:=by(intro F;simp[F]))(aB:q->(Vm.rowAt M i)[c]?=some (.sl n s):=by(intro F;simp(disch:=omega) [F,Go.Mo.YK];try rfl))(al:(Xj P σ xs ts).1:=by simp)(b:(Xj P σ xs ts).2=some aH:=by simp)(au:Yz P σ xs ts=true:=by simp)(v:qf P o.o=false:=by exact rfl)(X:q->Bx p->@EI P ((σ.Yj 0 0 (.arr true Q (M.set i (place (Vm.rowAt M i) c [.sl n s'])))).put d (.one (.d y))) ai l k:=by(intro F z;simp(disch:=omega) [F,Go.Vm.ZG,Go.Mo.YK,List.set_set,Go.Mo.wz,Go.Mo.ng];(repeat(first|with_reducible refine Go.Mo.sd ?_|((first|with_reducible refine Go.Mo.c0 ?_|with_reducible refine Go.Mo.c1 ?_);simp(disch:=omega) [F,Go.Vm.ZG,Go.Mo.YK,List.set_set,Go.Mo.wz,Go.Mo.ng])));exact z.h))(h:p):@SI P σ ai o l k:=w6 A Z hg hd g ha aw hs O ho (hi F) (aB F) al b au (X F ⟨h⟩) v
end
theorem bY{σ:U}{n:Nat}{S:Int->Nat->U}{I:Int->Nat->Prop}{q:Prop}{z:Int}(y:Int)(F:q)(h:∀r,r=z->I r (i+1))(e:y=z:=by omega)(hi:q->i<n:=by(intro F;first|exact F|exact F.1))(hw:q->Wk σ (S y (i+1)):=by(intro F;exact Go.Vm.Qu eA)):@Nx σ (QK n S I i):=⟨hi F,y,h y e,hw F⟩
theorem b1{σ:U}{n:Nat}{S:Int×List (List D)->Nat->U}{q:Prop}{z:Int}(y:Int)(F:q)(h:∀r,r=z->∀v,v=w->I (r,rs.set i v) (i+1))(e:y=z:=by omega)(hi:q->i<n:=by(intro F;exact F.1))(hw:q->Wk σ (S (y,rs.set i w) (i+1)):=by(intro F;exact Go.Vm.Qu eA)):@Nx σ (QK n S I i):=⟨hi F,(y,rs.set i w),h y e w rfl,hw F⟩
/-- the marks of a list: from k on, left to right -/
def al{α:Type}[Cn α](g:α->Int->α):List α->Int->List α
  |[],_=>[]
  |x::l,k=>g x k::al g l (k+(cn x:Nat))
@[simp] theorem FSz {α : Type} [Cn α] (g : α -> Int -> α) : ∀ (l : List α) (k : Int), (al g l k).length = l.length
  |[],_=>rfl
  |x::l,k=>by simp[al,FSz g l]
theorem gn{α:Type}[Inhabited α][Cn α]{l:List α}(h:i<l.length):cn (l.drop i)=cn (C l i)+cn (l.drop (i+1)):=by rw[yI h];rfl
/-- a walk Hb marked data: at place i the number is q -/
structure Hi{α:Type}[Cn α](g:α->Int->α)(a:List α)(k q:Int)(i:Nat):Prop where
  z:(al g a k).drop i=al g (a.drop i) q
  c:q+(cn (a.drop i):Nat)=k+(cn a:Nat)
  p:0<=q
  b:k+(cn a:Nat)<4611686018427387904
theorem Hi.zero{α:Type}[Cn α]{g:α->Int->α}{a:List α}(h:0<=k)(b:k+(cn a:Nat)<4611686018427387904):Hi g a k k 0:=⟨rfl,rfl,h,b⟩
theorem Hi.lt{α:Type}[Inhabited α][Cn α]{g:α->Int->α}{a:List α}{q:Int}(j:Hi g a k q i)(h:i<a.length):
    ∃x n,n=cn x/\(i<a.length/\i<(al g a k).length/\C (al g a k) i=g x q)/\0<=q/\q+(n:Nat)<4611686018427387904/\∀r:Int,r=q+(n:Nat)->Hi g a k r (i+1):=by
  have hd:=gn h;have Z:=j.c;have hz:=j.z;have J:=j.b;have hp:=j.p;rw[yI c3,yI h,al,List.cons.injEq]at hz;exact⟨C a i,_,rfl,⟨h,by simpa using h,hz.1⟩,hp,Y,fun r e=>by subst e;exact⟨hz.2,Y,Y,J⟩⟩
theorem Hi.done{α:Type}[Cn α]{g:α->Int->α}{a:List α}{q:Int}(j:Hi g a k q i)(h:¬i<a.length):Me q (k+(cn a:Nat)):=by have Z:=j.c;rw[List.drop_eq_nil_of_le Y]at Z;exact⟨by rw[<-Z];show q=q+((0:Nat):Int);omega⟩
/-- a walk that marks: rows are marked before place i -/
structure Mi{α:Type}[Cn α](g:α->Int->α)(ac:α->List Vm.D)(a:List α)(k:Int)(s:Int×List (List Vm.D))(i:Nat):Prop where
  l:s.2.length=a.length
  d:s.2.drop i=(a.drop i).map ac
  z:s.2.take i++(al g (a.drop i) s.1).map ac=(al g a k).map ac
  c:s.1+(cn (a.drop i):Nat)=k+(cn a:Nat)
  p:0<=s.1
  b:k+(cn a:Nat)<4611686018427387904
theorem Mi.zero{α:Type}[Cn α]{g:α->Int->α}{ac:α->List Vm.D}{a:List α}(h:0<=k)(b:k+(cn a:Nat)<4611686018427387904):Mi g ac a k (k,a.map ac) 0:=⟨ab,rfl,rfl,rfl,h,b⟩
theorem Mi.lt{α:Type}[Inhabited α][Cn α]{g:α->Int->α}{ac:α->List Vm.D}{a:List α}(j:Mi g ac a k s i)(h:i<a.length):
    ∃x n,n=cn x/\(i<a.length/\i<s.2.length/\s.2.length=a.length/\Vm.rowAt s.2 i=ac x)/\0<=s.1/\s.1+(n:Nat)<4611686018427387904/\∀r:Int,r=s.1+(n:Nat)->∀y,y=ac (g x s.1)->Mi g ac a k (r,s.2.set i y) (i+1):=by
  have hd:=gn h;have⟨hl,hr,hz,Z,hp,J⟩:=j;have h':i<s.2.length:=Y;rw[List.drop_eq_getElem_cons h',yI h,List.map_cons,List.cons.injEq]at hr;rw[yI h]at hz;refine⟨C a i,_,rfl,⟨h,h',hl,by simp[Vm.rowAt,h',hr.1]⟩,hp,Y,fun r e y E=>?_⟩;subst e E;refine⟨by simpa using hl,by simpa[List.drop_set]using hr.2,?_,by show _+_=_;dsimp only;omega,by dsimp only;omega,J⟩;rw[<-hz];simp[al,List.take_add_one,h',List.take_set,List.set_eq_of_length_le (List.length_take_le i s.2)]
theorem Mi.done{α:Type}[Cn α]{g:α->Int->α}{ac:α->List Vm.D}{a:List α}(j:Mi g ac a k s i)(h:¬i<a.length):s=(k+(cn a:Nat),(al g a k).map ac):=by
  have⟨hl,hr,hz,Z,hp,J⟩:=j;have e:a.drop i=[]:=List.drop_eq_nil_of_le Y;rw[e]at hz Z;have:s.2=(al g a k).map ac:=by rw[<-hz];simp[al];exact(List.take_of_length_le Y).symm
  refine Prod.ext ?_ this;show s.1=_
  rw[<-Z];show s.1=s.1+((0:Nat):Int);omega
/-- what is known, reckoned out by itself -/
theorem hB{q r:Prop}(h:q)(k:q->r:=by(intro h;simp only[Go.Mo.Tb,Go.Mo.g6,Go.Mo.g8,Go.Mo.YZ.XI,Go.Mo.ZX.XI,Go.Mo.Z8.XI,Go.Mo.Yv.XI,Go.Mo.ZS.XI,Go.Mo.Y9.XI,Go.Mo.ZW.XI,Go.Mo.Zc.XI,Go.Mo.ZV.XI,Go.Mo.Zu.XI,Go.Mo.ZY.XI,Go.Mo.ZU.XI,Go.Mo.ZE.XI]at h;exact h)):r:=k h
theorem b4{σ:U}{S:Unit->Nat->U}{q:Prop}(F:q)(hi:q->i<n:=by(intro F;first|exact F|exact F.1))(hw:q->Wk σ (S () (i+1)):=by(intro F;exact Go.Vm.Qu eA)):@Nx σ (QK n S (fun _ _=>True) i):=⟨hi F,(),trivial,hw F⟩
/-- a walk that copies: rows are copied before place i, empty behind it -/
structure Ti{α:Type}(ac:α->List Vm.D)(z:List Vm.D)(a:List α)(r:List (List Vm.D))(i:Nat):Prop where
  d:r=(a.map ac).take i++List.replicate (a.length-i) z
theorem Ti.zero{α:Type}{ac:α->List Vm.D}{a:List α}:Ti ac z a (List.replicate a.length z) 0:=⟨rfl⟩
theorem Ti.lt{α:Type}[Inhabited α]{ac:α->List Vm.D}{a:List α}(j:Ti ac z a r i)(h:i<a.length):(i<a.length/\i<r.length/\r.length=a.length/\Vm.rowAt r i=z)/\∀y,y=ac (C a i)->Ti ac z a (r.set i y) (i+1):=by
  have d:=j.d;obtain⟨k,e⟩:∃k,a.length-i=k+1:=⟨a.length-i-1,Y⟩;have hl:((a.map ac).take i).length=i:=a0;have e2:a.length-(i+1)=k:=Y;rw[e,List.replicate_succ]at d;have l:r.length=a.length:=by rw[d];simp;omega
  refine⟨⟨h,Y,l,by rw[d];simp[Vm.rowAt,hl]⟩,fun y E=>⟨?_⟩⟩;rw[d,E,e2,List.take_add_one,List.set_append_right _ _ Y,hl];simp[h,C]
theorem Ti.done{α:Type}{ac:α->List Vm.D}{a:List α}(j:Ti ac z a r i)(h:¬i<a.length):Me r (a.map ac):=⟨by
  rw[j.d,show a.length-i=0 by omega,List.take_of_length_le a0];simp⟩
theorem b3{σ:U}{S:List (List D)->Nat->U}{I:List (List D)->Nat->Prop}{q:Prop}(F:q)(h:∀v,v=w->I (rs.set i v) (i+1))(hi:q->i<n:=by(intro F;first|exact F|exact F.1))(hw:q->Wk σ (S (rs.set i w) (i+1)):=by(intro F;exact Go.Vm.Qu eA)):@Nx σ (QK n S I i):=⟨hi F,rs.set i w,h w rfl,hw F⟩
section
variable{k:Fr}
theorem bV{ai:yC}{l:yf}{d:Nat}{p:Prop}{x0:Operand}{xs:List Operand}{t0:TypeId}{ts:List TypeId}{ac:List D}{y:D}(aK:List At)(hs:yS P f ac aH aB y)(A:o.o.op= .call cl:=by exact rfl)(Z:cl.callee= .value (.func f):=by exact rfl)(q:o.o.guard=none:=by exact rfl)(hd:o.o.dst=some d:=by exact rfl)(g:ai.a o.o=true:=by exact rfl)(ha:cl.args.toList=x0::xs:=by exact rfl)(aw:cl.argTypes.toList=t0::ts:=by exact rfl)(O:am (Vm.look P σ t0 x0)=true/\unc (Vm.look P σ t0 x0)=a2 aK:=by simp)(Y:JA σ aK=some ac:=by simp)(c:Ma σ aK:=by simp)(aE:(Yp aK).Nodup:=by simp)(n:σ.zX At.Er=false:=by simp)(al:(Xj P σ xs ts).1:=by simp)(b:(Xj P σ xs ts).2=some aH:=by simp)(au:Yz P σ xs ts=true:=by simp)(s:kT ac aB:=by simp)(X:Bx p->@EI P ((σ.TV aK aB).put d (.one (.d y))) ai l k:=by(intro z;simp;(repeat(with_reducible refine Go.Mo.sd ?_));exact z.h))(v:qf P o.o=false:=by exact rfl)(h:p):@SI P σ ai o l k:=qs A Z q hd g ha aw hs O Y c aE n al b au s (X ⟨h⟩) v
end
def bc{α:Type}[Inhabited α][Sz α][Cn α](F:α->Int->Int)(c:Nat):Prop:=dP F/\sS F c
theorem zf{α:Type}[Inhabited α][Sz α][Cn α]{F:List α->Int->Int}(l:∀a n,F a n=bif decide (W (n-(a.length:Int))<0)then(-1)else W (n-(a.length:Int)):=by exact fun _ _=>rfl)(hs:∀(n:Nat)(x:α),R n x:=by exact fun _ _=>trivial)(Z:∀x:α,cn x<=32:=by exact fun _=>Nat.le_of_ble_eq_true rfl):bc F 0:=⟨nc hs l,oo Z l⟩
theorem zl{α:Type}[Inhabited α][Sz α][Cn α]{E:α->Int->Int}{c:Nat}(e:bc E c){F:List α->Int->Int}(B:List α->Nat->Int->Nat->Sum Int Int)
    (I:∀a n v i,B a (n+1) v i=bif decide ((i:Int)<(a.length:Int))then(bif decide (E (C a i) v<0)then .inl (-1)else B a n (E (C a i) v) (i+1))else .inr v:=by exact fun _ _ _ _=>rfl)
    (l:∀a n,F a n=bif decide (W (n-(a.length:Int))<0)then(-1)else(match B a (a.length+1) (W (n-(a.length:Int))) 0 with|.inl r=>r|.inr z=>z):=by exact fun _ _=>rfl) (Z:c<=32:=by decide):bc F 0:=⟨v2 e.1 I l,oq e.2 Z I l⟩
/-- a purse n of which r is left -/
def Zs(n r:Int)(S:Prop)(w:Int):Prop:=0<=n->n<=1048576->¬r<0->S/\w<=32*(n-r)/\r<=n
theorem z1{α:Type}[Inhabited α][Sz α][Cn α]{F:α->Int->Int}{c:Nat}(h:bc F c){a:α}(m:R maxLen a)(n:Int):Zs n (F a n) (R 1048576 a) ((cn a:Int)-c):=fun p q r=>by have:=h.2 a n m p q r;exact⟨(h.1 a n m p q r).1,Y,this.2⟩
theorem Zs.q{n r1 r2 K w2:Int}{g A:Prop}(I:Zs n r1 g K)(X:Zs r1 r2 A w2):Zs n (bif decide (r1<0)then-1 else r2) (g/\A) (K+w2):=fun p q r=>by
  by_cases h:r1<0
  · simp[h]at r
  · simp only[h,decide_false,cond_false]at r⊢;obtain⟨a,b,c⟩:=I p q h;obtain⟨d,e,f⟩:=X Y Y r;exact⟨⟨a,d⟩,Y,Y⟩
theorem Zs.l{n r w:Int}{S:Prop}(I:Zs n r S w):Zs n (bif decide (r<0)then-1 else r) S w:=fun p q r'=>by
  by_cases h:r<0
  · simp[h]at r'
  · simp only[h,decide_false,cond_false];exact I p q h
theorem zS{α:Type}[Inhabited α][Sz α][Cn α]{F:α->Int->Int}{c:Nat}{S:α->Prop}{w:α->Int}(h:∀a n,R maxLen a->Zs n (F a n) (S a) (w a))(L:∀a,S a->R 1048576 a:=by exact fun _ s=>s)(hw:∀a,(cn a:Int)<=w a+c:=by(intro a;simp only[Go.Mo.Tb,Go.Mo.g6,Go.Mo.g8,Go.Mo.YZ.XI,Go.Mo.ZX.XI,Go.Mo.Z8.XI,Go.Mo.Yv.XI,Go.Mo.ZS.XI,Go.Mo.Y9.XI,Go.Mo.ZW.XI,Go.Mo.Zc.XI,Go.Mo.ZV.XI,Go.Mo.Zu.XI,Go.Mo.ZY.XI,Go.Mo.ZU.XI,Go.Mo.ZE.XI,Go.Mo.ZP.XI,Go.Mo.ZF.XI];omega)):bc F c:=
  ⟨fun a n m p q r=>⟨L a (h a n m p q r).1,by have:=(h a n m p q r).2.2;omega⟩,fun a n m p q r=>⟨by have:=hw a;have:=(h a n m p q r).2.1;omega,(h a n m p q r).2.2⟩⟩
theorem zt:bc (fun(s:ByteArray) n=>W (n-(s.size:Int))) 1:=⟨mH,lo⟩
end Go.Mo
