/- The plain data of the program, typed, and how they read as rows of the abstract machine. No condition. -/
import Derived.Test.YtifogammcgmjpaaGreatVe
import Derived.Laws.BitsLemmas
namespace Go.Mo
open Go.Vm
variable{n i L m p i':Nat}{J l:List ByteArray}{E j aj O ak T Z ac:List Int}{aw ar aE aI aH aB ax aA aC aK aG aJ ay aD az A' B' C' D' h' z:Int}{aa:List (List Int)}{s:Int->Nat->Int}{S:List Bool}{b':List UInt8}{a b q:Prop}
@[simp] def r (n : Int) : List Vm.D := [.int .i64 n]
@[simp] def dv (b : UInt8) : List Vm.D := [.int .u8 (b.toNat : Int)]
@[simp] def lR (b : Bool) : List Vm.D := [.bool b]
@[simp] def N (s : ByteArray) : List Vm.D := [.str s]
@[simp] def ag {α : Type} (n : Nat) (f : α -> List D) (m : List α) : List Vm.D := [.sl n (m.map f)]
/-- everything in it is at most so long -/
class X(α:Type)[Inhabited α] where
  a:Nat->α->Prop
  zero:∀n,a n default
  mono:∀{n m:Nat}{x:α},n<=m->a n x->a m x
/-- how many marks it takes -/
class Cn(α:Type) where
  a:α->Nat
abbrev cn{α:Type}[Cn α](x:α):Nat:=Cn.a x
def af{α:Type}(c:α->Nat):List α->Nat
  |[]=>0
  |x::l=>c x+af c l
instance:Cn Int:=⟨fun _=>1⟩
instance:Cn Bool:=⟨fun _=>1⟩
instance:Cn UInt8:=⟨fun _=>1⟩
instance:Cn ByteArray:=⟨fun _=>1⟩
instance{α:Type}[Cn α]:Cn (List α):=⟨af Cn.a⟩
theorem hM(x:Int):cn x=1:=rfl
theorem h7(x:Bool):cn x=1:=rfl
theorem hJ(x:UInt8):cn x=1:=rfl
theorem h6(x:ByteArray):cn x=1:=rfl
theorem o2{α:Type}[Cn α](x:List α):cn x=af cn x:=rfl
abbrev R{α:Type}[Inhabited α][X α](n:Nat)(x:α):Prop:=X.a n x
instance:X Int:=⟨fun _ _=>True,fun _=>trivial,fun _ h=>h⟩
instance:X Bool:=⟨fun _ _=>True,fun _=>trivial,fun _ h=>h⟩
instance:X UInt8:=⟨fun _ _=>True,fun _=>trivial,fun _ h=>h⟩
instance:X ByteArray:=⟨fun n s=>s.size<=n,fun _=>Nat.zero_le _,fun h k=>Nat.le_trans k h⟩
instance{α:Type}[Inhabited α][X α]:X (List α):=⟨fun n l=>l.length<=n/\∀x∈l,X.a n x,fun _=>⟨Nat.zero_le _,fun _ h=>by cases h⟩,fun h k=>⟨Nat.le_trans k.1 h,fun x O=>X.mono h (k.2 x O)⟩⟩
theorem XG{α:Type}[Inhabited α][X α]{l:List α}:R n l=(l.length<=n/\∀x∈l,R n x):=rfl
theorem Zx{α:Type}[Inhabited α][X α]{l:List α}(h:R n l):l.length<=n:=h.1
theorem XR{s:ByteArray}(h:R n s):s.size<=n:=h
@[simp] theorem ZFQ {x : Int} : R n x := trivial
@[simp] theorem ZFI {x : Bool} : R n x := trivial
@[simp] theorem ZF4 {x : UInt8} : R n x := trivial
@[simp] theorem Oa {α : Type} [Inhabited α] [X α] : R n ([] : List α) := ⟨Nat.zero_le _, fun _ h => by cases h⟩
@[simp] theorem ZY {α : Type} [Inhabited α] [X α] {l : List α} (h : R n l) : R n (I l i) := by
  unfold I;rw[List.getD_eq_getElem?_getD];cases hh:l[i]? with
  |none=>exact X.zero n
  |some x=>exact h.2 x (List.mem_of_getElem? hh)
@[simp] theorem BX {α : Type} [Inhabited α] [X α] {l : List α} (h : R n l) : R n (l.take i) := ⟨Nat.le_trans a0 h.1, fun x O => h.2 x (List.mem_of_mem_take O)⟩
@[simp] theorem jr {α : Type} [Inhabited α] [X α] {l : List α} (h : R n l) : R n (l.drop i) := ⟨Nat.le_trans ab h.1, fun x O => h.2 x (List.mem_of_mem_drop O)⟩
theorem I5{α:Type}[Inhabited α][X α]{l m:List α}:R n (l++m)=(l.length+m.length<=n/\(∀x∈l,R n x)/\∀x∈m,R n x):=by rw[XG];simp[or_imp,forall_and]
theorem ZJ{α:Type}[Inhabited α][X α]{x:α}(h:n<=m)(k:R n x):R m x:=X.mono h k
structure ZX where
  a:Int
  b:Int
  c:Int
  e:Int
  f:Int
  deriving Inhabited,DecidableEq
variable{av:List (List ZX)}{U:List ZX}
@[simp] def ZX.row (x : ZX) : List Vm.D := [.int .i64 x.a, .int .i64 x.b, .int .i64 x.c, .int .i64 x.e, .int .i64 x.f]
instance:Cn ZX:=⟨fun x=>cn x.a+cn x.b+cn x.c+cn x.e+cn x.f⟩
instance:X ZX:=⟨fun _ _=>True,fun _=>trivial,fun _ h=>h⟩
@[simp] theorem ZX.IP {x : ZX} : R n x := trivial
structure Xy where
  e:Int
  a:Bool
  deriving Inhabited,DecidableEq
variable{ad:List Xy}
@[simp] def Xy.row (x : Xy) : List Vm.D := [.int .i64 x.e, .bool x.a]
instance:Cn Xy:=⟨fun x=>cn x.e+cn x.a⟩
instance:X Xy:=⟨fun _ _=>True,fun _=>trivial,fun _ h=>h⟩
@[simp] theorem Xy.IP {x : Xy} : R n x := trivial
structure ZZ where
  d:Int
  c:Int
  e:Int
  b:List Xy
  a:List ZX
  deriving Inhabited,DecidableEq
variable{ae:List ZZ}
@[simp] def ZZ.row (x : ZZ) : List Vm.D := [.int .i64 x.d, .int .i64 x.c, .int .i64 x.e, .sl 2 (x.b.map Xy.row), .sl 5 (x.a.map ZX.row)]
instance:Cn ZZ:=⟨fun x=>cn x.d+cn x.c+cn x.e+cn x.b+cn x.a⟩
instance:X ZZ:=⟨fun n x=>R n x.b/\R n x.a,fun n=>⟨X.zero n,X.zero n⟩,fun h k=>⟨X.mono h k.1,X.mono h k.2⟩⟩
@[simp] theorem ZZ.ZFD {x : ZZ} (h : R n x) : R n x.b := h.1
@[simp] theorem ZZ.Nz {x : ZZ} (h : R n x) : R n x.a := h.2
@[simp] theorem ZZ.LC : R n (ZZ.mk aH aE ax ad U) = (R n ad /\ R n U) := rfl
structure YF where
  b:Int
  g:Int
  c:Int
  a:Int
  d:Int
  deriving Inhabited,DecidableEq
variable{al:List YF}
@[simp] def YF.row (x : YF) : List Vm.D := [.int .i64 x.b, .int .i64 x.g, .int .i64 x.c, .int .i64 x.a, .int .i64 x.d]
instance:Cn YF:=⟨fun x=>cn x.b+cn x.g+cn x.c+cn x.a+cn x.d⟩
instance:X YF:=⟨fun _ _=>True,fun _=>trivial,fun _ h=>h⟩
@[simp] theorem YF.IP {x : YF} : R n x := trivial
structure ZS where
  b:Int
  a:Int
  c:Int
  deriving Inhabited,DecidableEq
variable{ah:List ZS}
@[simp] def ZS.row (x : ZS) : List Vm.D := [.int .i64 x.b, .int .i64 x.a, .int .i64 x.c]
instance:Cn ZS:=⟨fun x=>cn x.b+cn x.a+cn x.c⟩
instance:X ZS:=⟨fun _ _=>True,fun _=>trivial,fun _ h=>h⟩
@[simp] theorem ZS.IP {x : ZS} : R n x := trivial
structure Zy where
  b:Int
  c:Int
  a:Int
  d:Int
  deriving Inhabited,DecidableEq
@[simp] def Zy.row (x : Zy) : List Vm.D := [.int .i64 x.b, .int .i64 x.c, .int .i64 x.a, .int .i64 x.d]
instance:Cn Zy:=⟨fun x=>cn x.b+cn x.c+cn x.a+cn x.d⟩
instance:X Zy:=⟨fun _ _=>True,fun _=>trivial,fun _ h=>h⟩
@[simp] theorem Zy.IP {x : Zy} : R n x := trivial
structure ZI where
  a:List YF
  b:List ZS
  c:List Zy
  e:Int
  d:Int
  deriving Inhabited,DecidableEq
variable{aq:ZI}
@[simp] def ZI.row (x : ZI) : List Vm.D := [.sl 5 (x.a.map YF.row), .sl 3 (x.b.map ZS.row), .sl 4 (x.c.map Zy.row), .int .i64 x.e, .int .i64 x.d]
instance:Cn ZI:=⟨fun x=>cn x.a+cn x.b+cn x.c+cn x.e+cn x.d⟩
instance:X ZI:=⟨fun n x=>R n x.a/\R n x.b/\R n x.c,fun n=>⟨X.zero n,X.zero n,X.zero n⟩,fun h k=>⟨X.mono h k.1,X.mono h k.2.1,X.mono h k.2.2⟩⟩
@[simp] theorem ZI.Yf {x : ZI} (h : R n x) : R n x.a := h.1
@[simp] theorem ZI.Yh {x : ZI} (h : R n x) : R n x.b := h.2.1
@[simp] theorem ZI.Yq {x : ZI} (h : R n x) : R n x.c := h.2.2
@[simp] theorem ZI.LC {j : List Zy} : R n (ZI.mk al ah j aB ay) = (R n al /\ R n ah /\ R n j) := rfl
structure YE where
  b:Int
  a:Int
  g:Int
  d:Int
  c:Int
  e:Int
  f:Int
  deriving Inhabited,DecidableEq
variable{ai:List YE}
@[simp] def YE.row (x : YE) : List Vm.D := [.int .i64 x.b, .int .i64 x.a, .int .i64 x.g, .int .i64 x.d, .int .i64 x.c, .int .i64 x.e, .int .i64 x.f]
instance:Cn YE:=⟨fun x=>cn x.b+cn x.a+cn x.g+cn x.d+cn x.c+cn x.e+cn x.f⟩
instance:X YE:=⟨fun _ _=>True,fun _=>trivial,fun _ h=>h⟩
@[simp] theorem YE.IP {x : YE} : R n x := trivial
structure ZO where
  e:Int
  b:List ByteArray
  d:List Int
  deriving Inhabited,DecidableEq
variable{K:ZO}
@[simp] def ZO.row (x : ZO) : List Vm.D := [.int .i64 x.e, .sl 1 (x.b.map N), .sl 1 (x.d.map r)]
instance:Cn ZO:=⟨fun x=>cn x.e+cn x.b+cn x.d⟩
instance:X ZO:=⟨fun n x=>R n x.b/\R n x.d,fun n=>⟨X.zero n,X.zero n⟩,fun h k=>⟨X.mono h k.1,X.mono h k.2⟩⟩
@[simp] theorem ZO.qo {x : ZO} (h : R n x) : R n x.b := h.1
@[simp] theorem ZO.fN {x : ZO} (h : R n x) : R n x.d := h.2
@[simp] theorem ZO.LC : R n (ZO.mk aw J E) = (R n J /\ R n E) := rfl
structure G where
  a:Int
  b:Int
  c:Int
  e:Int
  h:Int
  g:Int
  i:Int
  d:Int
  f:Int
  deriving Inhabited,DecidableEq
variable{aF:G}
@[simp] def G.row (x : G) : List Vm.D := [.int .i64 x.a, .int .i64 x.b, .int .i64 x.c, .int .i64 x.e, .int .i64 x.h, .int .i64 x.g, .int .i64 x.i, .int .i64 x.d, .int .i64 x.f]
instance:Cn G:=⟨fun x=>cn x.a+cn x.b+cn x.c+cn x.e+cn x.h+cn x.g+cn x.i+cn x.d+cn x.f⟩
instance:X G:=⟨fun _ _=>True,fun _=>trivial,fun _ h=>h⟩
@[simp] theorem G.IP {x : G} : R n x := trivial
structure ZK where
  a:Int
  b:List Int
  f:Int
  deriving Inhabited,DecidableEq
variable{am:List ZK}
@[simp] def ZK.row (x : ZK) : List Vm.D := [.int .i64 x.a, .sl 1 (x.b.map r), .int .i64 x.f]
instance:Cn ZK:=⟨fun x=>cn x.a+cn x.b+cn x.f⟩
instance:X ZK:=⟨fun n x=>R n x.b,fun n=>X.zero n,fun h k=>X.mono h k⟩
@[simp] theorem ZK.LG {x : ZK} (h : R n x) : R n x.b := h
@[simp] theorem ZK.LC : R n (ZK.mk aD T aA) = (R n T) := rfl
structure ZR where
  b:List ZK
  a:List ZZ
  deriving Inhabited,DecidableEq
variable{V:List ZR}{an:ZR}
@[simp] def ZR.row (x : ZR) : List Vm.D := [.sl 3 (x.b.map ZK.row), .sl 5 (x.a.map ZZ.row)]
instance:Cn ZR:=⟨fun x=>cn x.b+cn x.a⟩
instance:X ZR:=⟨fun n x=>R n x.b/\R n x.a,fun n=>⟨X.zero n,X.zero n⟩,fun h k=>⟨X.mono h k.1,X.mono h k.2⟩⟩
@[simp] theorem ZR.Yp {x : ZR} (h : R n x) : R n x.b := h.1
@[simp] theorem ZR.QK {x : ZR} (h : R n x) : R n x.a := h.2
@[simp] theorem ZR.LC : R n (ZR.mk am ae) = (R n am /\ R n ae) := rfl
structure ZU where
  b:Int
  e:Int
  c:ZO
  d:G
  a:ZR
  deriving Inhabited,DecidableEq
variable{M:List ZU}
@[simp] def ZU.row (x : ZU) : List Vm.D := [.int .i64 x.b, .int .i64 x.e, .int .i64 x.c.e, .sl 1 (x.c.b.map N), .sl 1 (x.c.d.map r), .int .i64 x.d.a, .int .i64 x.d.b, .int .i64 x.d.c, .int .i64 x.d.e, .int .i64 x.d.h, .int .i64 x.d.g, .int .i64 x.d.i, .int .i64 x.d.d, .int .i64 x.d.f, .sl 3 (x.a.b.map ZK.row), .sl 5 (x.a.a.map ZZ.row)]
instance:Cn ZU:=⟨fun x=>cn x.b+cn x.e+cn x.c+cn x.d+cn x.a⟩
instance:X ZU:=⟨fun n x=>R n x.c/\R n x.a,fun n=>⟨X.zero n,X.zero n⟩,fun h k=>⟨X.mono h k.1,X.mono h k.2⟩⟩
@[simp] theorem ZU.JM {x : ZU} (h : R n x) : R n x.c := h.1
@[simp] theorem ZU.YM {x : ZU} (h : R n x) : R n x.a := h.2
@[simp] theorem ZU.LC : R n (ZU.mk ar aC K aF an) = (R n K /\ R n an) := rfl
structure ZD where
  b:Int
  a:List ZU
  deriving Inhabited,DecidableEq
variable{ap:List ZD}
@[simp] def ZD.row (x : ZD) : List Vm.D := [.int .i64 x.b, .sl 16 (x.a.map ZU.row)]
instance:Cn ZD:=⟨fun x=>cn x.b+cn x.a⟩
instance:X ZD:=⟨fun n x=>R n x.a,fun n=>X.zero n,fun h k=>X.mono h k⟩
@[simp] theorem ZD.Z8 {x : ZD} (h : R n x) : R n x.a := h
@[simp] theorem ZD.LC : R n (ZD.mk ar M) = (R n M) := rfl
structure P where
  b:ZI
  c:List YE
  d:List Int
  a:List ZD
  e:List Int
  f:List Int
  h:Int
  g:List Int
  deriving Inhabited,DecidableEq
variable{x:P}
@[simp] def P.row (x : P) : List Vm.D := [.sl 5 (x.b.a.map YF.row), .sl 3 (x.b.b.map ZS.row), .sl 4 (x.b.c.map Zy.row), .int .i64 x.b.e, .int .i64 x.b.d, .sl 7 (x.c.map YE.row), .sl 1 (x.d.map r), .sl 2 (x.a.map ZD.row), .sl 1 (x.e.map r), .sl 1 (x.f.map r), .int .i64 x.h, .sl 1 (x.g.map r)]
instance:Cn P:=⟨fun x=>cn x.b+cn x.c+cn x.d+cn x.a+cn x.e+cn x.f+cn x.h+cn x.g⟩
instance:X P:=⟨fun n x=>R n x.b/\R n x.c/\R n x.d/\R n x.a/\R n x.e/\R n x.f/\R n x.g,fun n=>⟨X.zero n,X.zero n,X.zero n,X.zero n,X.zero n,X.zero n,X.zero n⟩,fun h k=>⟨X.mono h k.1,X.mono h k.2.1,X.mono h k.2.2.1,X.mono h k.2.2.2.1,X.mono h k.2.2.2.2.1,X.mono h k.2.2.2.2.2.1,X.mono h k.2.2.2.2.2.2⟩⟩
@[simp] theorem P.Yc (h : R n x) : R n x.b := h.1
@[simp] theorem P.ZFA (h : R n x) : R n x.c := h.2.1
@[simp] theorem P.ZA7 (h : R n x) : R n x.d := h.2.2.1
@[simp] theorem P.Zs (h : R n x) : R n x.a := h.2.2.2.1
@[simp] theorem P.gJ (h : R n x) : R n x.e := h.2.2.2.2.1
@[simp] theorem P.ZAv (h : R n x) : R n x.f := h.2.2.2.2.2.1
@[simp] theorem P.Eg (h : R n x) : R n x.g := h.2.2.2.2.2.2
@[simp] theorem P.LC : R n (P.mk aq ai O ap Z ak aK aj) = (R n aq /\ R n ai /\ R n O /\ R n ap /\ R n Z /\ R n ak /\ R n aj) := rfl
structure YS where
  b:Int
  A:Int
  B:Int
  C:Int
  D:Int
  c:ZO
  a:List Int
  deriving Inhabited,DecidableEq
@[simp] def YS.row (x : YS) : List Vm.D := [.int .i64 x.b, .int .i64 x.A, .int .i64 x.B, .int .i64 x.C, .int .i64 x.D, .int .i64 x.c.e, .sl 1 (x.c.b.map N), .sl 1 (x.c.d.map r), .sl 1 (x.a.map r)]
instance:Cn YS:=⟨fun x=>cn x.b+cn x.A+cn x.B+cn x.C+cn x.D+cn x.c+cn x.a⟩
instance:X YS:=⟨fun n x=>R n x.c/\R n x.a,fun n=>⟨X.zero n,X.zero n⟩,fun h k=>⟨X.mono h k.1,X.mono h k.2⟩⟩
@[simp] theorem YS.JM {x : YS} (h : R n x) : R n x.c := h.1
@[simp] theorem YS.ZB2 {x : YS} (h : R n x) : R n x.a := h.2
@[simp] theorem YS.LC : R n (YS.mk aG A' B' C' D' K ac) = (R n K /\ R n ac) := rfl
structure o where
  d:Int
  c:Int
  deriving Inhabited,DecidableEq
@[simp] def o.row (x : o) : List Vm.D := [.int .i64 x.d, .int .i64 x.c]
instance:Cn o:=⟨fun x=>cn x.d+cn x.c⟩
instance:X o:=⟨fun _ _=>True,fun _=>trivial,fun _ h=>h⟩
@[simp] theorem o.IP {x : o} : R n x := trivial
structure XE where
  b:Int
  c:Int
  a:o
  deriving Inhabited,DecidableEq
@[simp] def XE.row (x : XE) : List Vm.D := [.int .i64 x.b, .int .i64 x.c, .int .i64 x.a.d, .int .i64 x.a.c]
instance:Cn XE:=⟨fun x=>cn x.b+cn x.c+cn x.a⟩
instance:X XE:=⟨fun _ _=>True,fun _=>trivial,fun _ h=>h⟩
@[simp] theorem XE.IP {x : XE} : R n x := trivial
structure t where
  e:Int
  c:List Int
  a:List Bool
  b:List ByteArray
  d:List Int
  f:List (List Int)
  deriving Inhabited,DecidableEq
@[simp] def t.row (x : t) : List Vm.D := [.int .i64 x.e, .sl 1 (x.c.map r), .sl 1 (x.a.map lR), .sl 1 (x.b.map N), .sl 1 (x.d.map r), .sl 1 (x.f.map (ag 1 r))]
instance:Cn t:=⟨fun x=>cn x.e+cn x.c+cn x.a+cn x.b+cn x.d+cn x.f⟩
instance:X t:=⟨fun n x=>R n x.c/\R n x.a/\R n x.b/\R n x.d/\R n x.f,fun n=>⟨X.zero n,X.zero n,X.zero n,X.zero n,X.zero n⟩,fun h k=>⟨X.mono h k.1,X.mono h k.2.1,X.mono h k.2.2.1,X.mono h k.2.2.2.1,X.mono h k.2.2.2.2⟩⟩
@[simp] theorem t.Yq {x : t} (h : R n x) : R n x.c := h.1
@[simp] theorem t.fj {x : t} (h : R n x) : R n x.a := h.2.1
@[simp] theorem t.qo {x : t} (h : R n x) : R n x.b := h.2.2.1
@[simp] theorem t.fN {x : t} (h : R n x) : R n x.d := h.2.2.2.1
@[simp] theorem t.ZEn {x : t} (h : R n x) : R n x.f := h.2.2.2.2
@[simp] theorem t.LC : R n (t.mk aw j S J E aa) = (R n j /\ R n S /\ R n J /\ R n E /\ R n aa) := rfl
structure Q where
  a:List ZR
  b:List (List ZX)
  deriving Inhabited,DecidableEq
@[simp] def Q.row (x : Q) : List Vm.D := [.sl 2 (x.a.map ZR.row), .sl 1 (x.b.map (ag 5 ZX.row))]
instance:Cn Q:=⟨fun x=>cn x.a+cn x.b⟩
instance:X Q:=⟨fun n x=>R n x.a/\R n x.b,fun n=>⟨X.zero n,X.zero n⟩,fun h k=>⟨X.mono h k.1,X.mono h k.2⟩⟩
@[simp] theorem Q.Yo {x : Q} (h : R n x) : R n x.a := h.1
@[simp] theorem Q.UC {x : Q} (h : R n x) : R n x.b := h.2
@[simp] theorem Q.LC : R n (Q.mk V av) = (R n V /\ R n av) := rfl
structure Zn where
  b:Int
  a:Int
  d:Int
  e:Int
  f:Int
  deriving Inhabited,DecidableEq
@[simp] def Zn.row (x : Zn) : List Vm.D := [.int .i64 x.b, .int .i64 x.a, .int .i64 x.d, .int .i64 x.e, .int .i64 x.f]
instance:Cn Zn:=⟨fun x=>cn x.b+cn x.a+cn x.d+cn x.e+cn x.f⟩
instance:X Zn:=⟨fun _ _=>True,fun _=>trivial,fun _ h=>h⟩
@[simp] theorem Zn.IP {x : Zn} : R n x := trivial
structure Cc where
  b:List UInt8
  i:Nat
  h:Int
  deriving Inhabited,DecidableEq
@[simp] def Cc.row (x : Cc) : List Vm.D := [.sl 1 (x.b.map dv), .int .i64 (x.i : Int), .int .i64 x.h]
instance:X Cc:=⟨fun n x=>R n x.b,fun n=>X.zero n,fun h k=>X.mono h k⟩
@[simp] theorem Cc.ZGG {x : Cc} (h : R n x) : R n x.b := h
@[simp] theorem Cc.LC : R n (Cc.mk b' i' h') = (R n b') := rfl
structure Y7 where
  d:Int
  c:Int
  a:List ZU
  e:Int
  deriving Inhabited,DecidableEq
@[simp] def Y7.row (x : Y7) : List Vm.D := [.int .i64 x.d, .int .i64 x.c, .sl 16 (x.a.map ZU.row), .int .i64 x.e]
instance:Cn Y7:=⟨fun x=>cn x.d+cn x.c+cn x.a+cn x.e⟩
instance:X Y7:=⟨fun n x=>R n x.a,fun n=>X.zero n,fun h k=>X.mono h k⟩
@[simp] theorem Y7.Z8 {x : Y7} (h : R n x) : R n x.a := h
@[simp] theorem Y7.LC : R n (Y7.mk aJ az M aI) = (R n M) := rfl
structure YV where
  g:Int
  b:Int
  d:Int
  c:Int
  a:Int
  f:Int
  deriving Inhabited,DecidableEq
@[simp] def YV.row (x : YV) : List Vm.D := [.int .i64 x.g, .int .i64 x.b, .int .i64 x.d, .int .i64 x.c, .int .i64 x.a, .int .i64 x.f]
instance:Cn YV:=⟨fun x=>cn x.g+cn x.b+cn x.d+cn x.c+cn x.a+cn x.f⟩
instance:X YV:=⟨fun _ _=>True,fun _=>trivial,fun _ h=>h⟩
@[simp] theorem YV.IP {x : YV} : R n x := trivial
open Go.Vm
variable{F:Nat->Nat->Sum Bool Unit}{c:Nat->Bool}{H:Nat->Int->Nat->Sum Int Int}{Q:List (List Vm.D)}{r:List Vm.D}
theorem WY{α:Type}[Inhabited α]{l:List α}(h:i<l.length):I l i=l[i]:=by simp[I,h]
theorem iL{α:Type}[Inhabited α]{l:List α}(h:i<l.length):I l i∈l:=by rw[WY h];exact List.getElem_mem h
theorem RA{α:Type}[Inhabited α]{F:Nat->List α->Nat->List α}{a:List α}{g:α->α}(hg:∀x,g x=x)
    (M:∀n v i,F (n+1) v i=bif decide ((i:Int)<(a.length:Int))then F n (v++[g (I a i)]) (i+1)else v):
    ∀n v i,a.length<n+i->i<=a.length->F n v i=v++a.drop i:=by
  intro n;induction n with
  |zero=>intro v i Z h3;omega
  |succ n ih=>
    intro v i Z h3;rw[M];by_cases hi:i<a.length
    · rw[show decide ((i:Int)<(a.length:Int))=true by simp[hi],cond_true,ih _ _ Y hi,hg,WY hi,List.append_assoc,List.singleton_append,<-List.drop_eq_getElem_cons hi]
    · rw[show decide ((i:Int)<(a.length:Int))=false by simp;omega,cond_false,List.drop_eq_nil_of_le Y,List.append_nil]
theorem Tp{F:Nat->Nat->Sum Int Unit}(h0:∀i,F 0 i= .inr ())
    (M:∀n i,F (n+1) i=bif decide ((i:Int)<(L:Int))then(bif c i then .inl (i:Int)else F n (i+1))else .inr ()):
    ∀n i,(match F n i with|.inl r=>r|.inr _=>-1)<(L:Int):=by
  intro n;induction n with
  |zero=>intro i;rw[h0];show(-1:Int)<_;omega
  |succ n ih=>
    intro i;rw[M];by_cases hi:(i:Int)<(L:Int)
    · rw[show decide ((i:Int)<(L:Int))=true by simpa using hi,cond_true];cases hc:c i with
      |true=>simpa using hi
      |false=>exact ih (i+1)
    · rw[show decide ((i:Int)<(L:Int))=false by simpa using hi,cond_false];show(-1:Int)<_;omega
theorem Qi(h:i<Q.length):Vm.rowAt (Q.set i r) i=r:=by simp[Vm.rowAt,h]
theorem ss{α:Type}{p:α->Prop}{l:List α}{a:α}(M:∀x∈l,p x)(Z:p a):∀x∈l.set i a,p x:=by
  intro x O;rcases List.mem_or_eq_of_mem_set O with h|h
  · exact M x h
  · rw[h];exact Z
/-- marks, from left to right -/
def bd{α:Type}(f:α->Int->α×Int):List α->Int->List α×Int
  |[],k=>([],k)
  |x::l,k=>((f x k).1::(bd f l (f x k).2).1,(bd f l (f x k).2).2)
theorem lj{α:Type}(f:α->Int->α×Int):∀(l:List α)(k:Int),(bd f l k).1.length=l.length
  |[],_=>rfl
  |x::l,k=>by simp[bd,lj f l]
theorem mx{α:Type}[Inhabited α]{F:Nat->Int->Nat->List α->Int×List α}{f:α->Int->α×Int}
    (M:∀n k i v,F (n+1) k i v=bif decide ((i:Int)<(v.length:Int))then F n (f (I v i) k).2 (i+1) (v.set i (f (I v i) k).1)else(k,v)):
    ∀(l s:List α)(n:Nat)(k:Int),l.length<n->F n k s.length (s++l)=((bd f l k).2,s++(bd f l k).1):=by
  intro l;induction l with
  |nil=>intro s n k hn;obtain⟨m,rfl⟩:∃m,n=m+1:=⟨n-1,by simp at hn;omega⟩;rw[M];simp[bd]
  |cons x l ih=>
    intro s n k hn;obtain⟨m,rfl⟩:∃m,n=m+1:=⟨n-1,by simp at hn;omega⟩;have O:I (s++x::l) s.length=x:=by simp[I]
    have U:∀y,(s++x::l).set s.length y=(s++[y])++l:=by intro y;simp
    have hd:decide ((s.length:Int)<((s++x::l).length:Int))=true:=a0;rw[M,hd,cond_true,O,U];have:=ih (s++[(f x k).1]) m (f x k).2 (by simp at hn;omega);rw[List.length_append,List.length_singleton]at this;rw[this];simp[bd]
theorem Wz(h:0<=z)(Z:z<4611686018427387904):W (z+1)=z+1:=YB Y Y
theorem gp{α:Type}{f:α->Int->α×Int}{c:α->Nat}(hc:∀(x:α)(k:Int),0<=k->k+c x<4611686018427387904->(f x k).2=k+c x):
    ∀(l:List α)(k:Int),0<=k->k+af c l<4611686018427387904->(bd f l k).2=k+af c l
  |[],k,_,_=>by simp[bd,af]
  |x::l,k,h0,h=>by
    simp only[af,Int.natCast_add]at h;have e:=hc x k h0 Y
    have:=gp hc l (f x k).2 Y Y;show(bd f l (f x k).2).2=_
    rw[this,e];simp only[af,Int.natCast_add];omega
theorem rb{α:Type}[Inhabited α]{z:List α}{G:α->Int->(Int->Sum Int Int)->Sum Int Int}{f:α->Int->α×Int}{c:α->Nat}
    (M:∀n k i,H (n+1) k i=bif decide ((i:Int)<(z.length:Int))then G (I z i) k (fun k'=>H n k' (i+1))else .inr k)
    (hc:∀(x:α)(k:Int),0<=k->k+c x<4611686018427387904->(f x k).2=k+c x) (a:∀(x:α)(k:Int)(r:Int->Sum Int Int),0<=k->k+c x<4611686018427387904->G (f x k).1 k r=r (f x k).2):
    ∀(l s:List α)(n:Nat)(k:Int),z=s++(bd f l k).1->l.length<n->0<=k->k+af c l<4611686018427387904->H n k s.length= .inr (bd f l k).2:=by
  intro l;induction l with
  |nil=>intro s n k hz hn _ _;obtain⟨m,rfl⟩:∃m,n=m+1:=⟨n-1,by simp at hn;omega⟩;rw[M];simp[bd]at hz;subst hz;simp[bd]
  |cons x l ih=>
    intro s n k hz hn h0 h;obtain⟨m,rfl⟩:∃m,n=m+1:=⟨n-1,by simp at hn;omega⟩;simp only[af,Int.natCast_add]at h;have e:=hc x k h0 Y
    have O:I z s.length=(f x k).1:=by rw[hz];simp[I,bd]
    have hd:decide ((s.length:Int)<(z.length:Int))=true:=by rw[hz];simp[bd];omega
    rw[M,hd,cond_true,O,a x k _ h0 Y];have:=ih (s++[(f x k).1]) m (f x k).2 (by rw[hz];simp[bd]) (by simp at hn;omega) Y Y
    rw[List.length_append,List.length_singleton]at this;rw[this];rfl
theorem gZ{α:Type}{c:α->Nat}{m:Nat}(h:∀x,c x=m):∀l:List α,af c l=m*l.length
  |[]=>by simp[af]
  |x::l=>by simp only[af,h,gZ h l,List.length_cons,Nat.mul_add];omega
theorem g{α:Type}{p:α->Prop}{c:Bool}{x y:α}(O:p x)(hy:p y):p (bif c then x else y):=by cases c;exact hy;exact O
theorem YY{α:Type}{p:α->Prop}{c:Bool}{x y:α}(O:c=true->p x)(hy:c=false->p y):p (bif c then x else y):=by cases c;exact hy rfl;exact O rfl
theorem P7{α:Type}{F:Nat->List α->Nat->List α}{g:Nat->α}(h0:∀v i,F 0 v i=[])
    (M:∀n v i,F (n+1) v i=bif decide ((i:Int)<(L:Int))then(bif c i then F n (v++[g i]) (i+1)else F n v (i+1))else v):∀n v i,(F n v i).length<=v.length+(L-i):=by
  intro n;induction n with
  |zero=>intro v i;rw[h0];simp
  |succ n ih=>
    intro v i;rw[M];by_cases hi:i<L
    · rw[show decide ((i:Int)<(L:Int))=true by simp[hi],cond_true];cases c i with
      |true=>have:=ih (v++[g i]) (i+1);rw[cond_true];simp at this;omega
      |false=>have:=ih v (i+1);rw[cond_false];omega
    · rw[show decide ((i:Int)<(L:Int))=false by simp;omega,cond_false];omega
theorem kb{α:Type}{F:Nat->List α->Nat->List α}{g:Nat->α}(h0:∀v i,F 0 v i=[])
    (M:∀n v i,F (n+1) v i=bif decide ((i:Int)<(L:Int))then F n (v++[g i]) (i+1)else v):∀n v i,(F n v i).length<=v.length+(L-i):=by
  intro n;induction n with
  |zero=>intro v i;rw[h0];simp
  |succ n ih=>
    intro v i;rw[M];by_cases hi:i<L
    · rw[show decide ((i:Int)<(L:Int))=true by simp[hi],cond_true];have:=ih (v++[g i]) (i+1);simp at this;omega
    · rw[show decide ((i:Int)<(L:Int))=false by simp;omega,cond_false];omega
theorem xd{s:ZR}{r:ZZ}(hn:n+1<=m)(h:R n s)(hr:R m r):R m (ZR.mk s.b (s.a++[r])):=by
  refine⟨ZJ Y h.1,⟨?_,fun x O=>?_⟩⟩
  · have:=h.2.1;simp;omega
  · rcases List.mem_append.1 O with O|O
    · exact ZJ Y (h.2.2 x O)
    · simp at O;subst O;exact hr
open Go.Vm
theorem lz(hc:∀i,c i=false)(h0:∀i,F 0 i= .inr ())
    (M:∀n i,F (n+1) i=bif decide ((i:Int)<(L:Int))then(bif c i then .inl false else F n (i+1))else .inr ()):∀n i,F n i= .inr ():=by
  intro n;induction n with
  |zero=>exact h0
  |succ n ih=>intro i;rw[M,hc,cond_false,ih];cases decide ((i:Int)<(L:Int))<;>rfl
open Go.Vm
theorem Xf(n:Int):W n=(n+9223372036854775808)%18446744073709551616-9223372036854775808:=IntKind.wrap_i64 n
theorem wt{p:Prop}(h:p:=by((try simp only[Xf,show ∀x,IntKind.i64.wrap x=W x from fun _=>rfl]at*);omega)):p:=h
theorem gl(a:Int):W (W a)=W a:=by simp only[Xf];omega
theorem sF(a b:Int):W (W a+b)=W (a+b):=by simp only[Xf];omega
theorem mp(a b:Int):W (a+W b)=W (a+b):=by simp only[Xf];omega
/-- the sum of so many, from a place on -/
def sJ(x:Nat->Int):Nat->Nat->Int
  |0,_=>0
  |k+1,i=>x i+sJ x k (i+1)
theorem B4{F:Nat->Int->Nat->Int}{x:Nat->Int}(U:∀v i,s v i=W (v+x i))
    (M:∀n v i,F (n+1) v i=bif decide ((i:Int)<(L:Int))then F n (s v i) (i+1)else v):
    ∀n v i,L<n+i->i<=L->W v=v->F n v i=W (v+sJ x (L-i) i):=by
  intro n;induction n with
  |zero=>intro v i h h3;omega
  |succ n ih=>
    intro v i h h3 hv;rw[M];by_cases hi:i<L
    · rw[show decide ((i:Int)<(L:Int))=true by simp[hi],cond_true,U,ih _ _ Y Y (gl _),sF,show L-i=(L-(i+1))+1 by omega,sJ,Int.add_assoc]
    · rw[show decide ((i:Int)<(L:Int))=false by simp;omega,cond_false,show L-i=0 by omega,sJ,Int.add_zero,hv]
theorem oa{α:Type}[Inhabited α][DecidableEq α]{a b:List α}(hl:a.length=b.length)(hc:∀i,c i=!decide (I a i=I b i))(h0:∀i,F 0 i= .inr ())
    (M:∀n i,F (n+1) i=bif decide ((i:Int)<(a.length:Int))then(bif c i then .inl false else F n (i+1))else .inr ()):
    F (a.length+1) 0=if a=b then .inr ()else .inl false:=by
  have ag:∀n i,a.length<n+i->F n i=if a.drop i=b.drop i then .inr ()else .inl false:=by
    intro n;induction n with
    |zero=>intro i h;rw[h0,List.drop_eq_nil_of_le Y,List.drop_eq_nil_of_le Y,if_pos rfl]
    |succ n ih=>
      intro i h;rw[M];by_cases hi:i<a.length
      · have d:i<b.length:=Y;rw[show decide ((i:Int)<(a.length:Int))=true by simp[hi],cond_true,hc,List.drop_eq_getElem_cons hi,List.drop_eq_getElem_cons d,WY hi,WY d];by_cases he:a[i]=b[i]
        · rw[he,show decide (b[i]=b[i])=true by simp,Bool.not_true,cond_false,ih _ Y];simp only[List.cons.injEq,true_and]
        · rw[show decide (a[i]=b[i])=false by simp[he],if_neg (fun hh=>he (List.cons.inj hh).1)];rfl
      · rw[show decide ((i:Int)<(a.length:Int))=false by simp;omega,cond_false,List.drop_eq_nil_of_le Y,List.drop_eq_nil_of_le Y,if_pos rfl]
  have:=ag (a.length+1) 0 Y;simpa using this
theorem g5{α:Type}[Inhabited α][DecidableEq α]{a b:List α}(hc:∀i,c i=!decide (I a i=I b i))(h0:∀i,F 0 i= .inr ())
    (M:∀n i,F (n+1) i=bif decide ((i:Int)<(a.length:Int))then(bif c i then .inl false else F n (i+1))else .inr ()):
    (bif((a.length:Int)!=(b.length:Int))then false else(match F (a.length+1) 0 with|.inl r=>r|.inr _=>true))=decide (a=b):=by
  by_cases hl:a.length=b.length
  · rw[oa hl hc h0 M];simp only[hl,bne_self_eq_false,cond_false];by_cases h:a=b<;>simp[h]
  · have W:a≠b:=fun h=>hl (by rw[h]);have:((a.length:Int)!=(b.length:Int))=true:=a0;rw[this,cond_true];simp[W]
open Go.Vm
open Go.Vm
variable{P:Program}{ts:List TypeId}
theorem tg{t:TypeId}:∀{Q:List (List D)},la P n (t::ts) Q->∃r rs,Q=r::rs/\bF P n t r/\la P n ts rs
  |r::rs,h=>⟨r,rs,rfl,h.1,h.2⟩
  |[],h=>h.elim
theorem l1:∀{Q:List (List D)},la P n [] Q->Q=[]
  |[],_=>rfl
  |_::_,h=>h.elim
open Go.Vm
@[simp] theorem eb (l : List UInt8) : y8 l = l.map dv := rfl
@[simp] theorem oi (x : Int) : ((UInt8.ofInt x).toNat : Int) = IntKind.u8.wrap x := by
  rw[IntKind.wrap_u8];simp[UInt8.ofInt];omega
theorem n8(x:Int):(W (Int.tdiv x 10)).natAbs<=9223372036854775808/\(W (Int.tdiv x 10)).natAbs<=x.natAbs/10:=by
  rw[Xf];have:(Int.tdiv x 10).natAbs=x.natAbs/10:=by rw[Int.natAbs_tdiv];rfl
  omega
theorem oG{x:Int}(h:n+1=21\/x.natAbs<10^(n+1)):(W (Int.tdiv x 10)).natAbs<10^n:=by
  obtain⟨M,Z⟩:=n8 x;rcases h with h|h
  · have:n=20:=Y;subst this;have:(10:Nat)^20=100000000000000000000:=au;omega
  · rw[Nat.pow_succ]at h;omega
open Go.Vm
theorem fX{x:Int}(hj:p+1=22\/x.natAbs<10^(p+1-1))(O:(x !=0)=true):1<=p/\(p=22\/(W (Int.tdiv x 10)).natAbs<10^(p-1)):=by
  have O:x≠0:=by simpa using O
  have hp:1<=p:=by
    rcases hj with h|h
    · omega
    · rcases Nat.eq_zero_or_pos p with hz|hz
      · subst hz;simp at h;exact absurd h O
      · exact hz
  refine⟨hp,.inr ?_⟩;obtain⟨q,rfl⟩:∃q,p=q+1:=⟨p-1,Y⟩;exact oG (x:=x) (n:=q) (hj.elim (fun h=>.inl Y) (fun h=>.inr cx))
theorem dW{x:Int}(hj:p+1=21\/x.natAbs<10^(p+1))(O:((W (Int.tdiv x 10))==0)=false):1<=p/\(p=21\/(W (Int.tdiv x 10)).natAbs<10^p):=by
  have O:W (Int.tdiv x 10)≠0:=by simpa using O
  have h:=oG hj;refine⟨?_,.inr h⟩;rcases Nat.eq_zero_or_pos p with hz|hz
  · subst hz;simp at h;exact absurd h O
  · exact hz
open Go.Vm
@[simp] theorem ZE6 {α : Type} {l : List α} (h : l.length <= n) : List.take n l = l := List.take_of_length_le h
@[simp] theorem ZCz {α β : Type} (f : α -> β) (l : List α) : List.take l.length (List.map f l) = List.map f l := List.take_of_length_le ab
@[simp] theorem ZDm (n : Nat) : 1 + n = n + 1 := Nat.add_comm 1 n
@[simp] theorem ZFH {α β : Type} (f : α -> β) (l : List α) (x y : β) : List.take (2 + l.length) (x :: y :: List.map f l) = x :: y :: List.map f l := List.take_of_length_le a0
@[simp] theorem ZFC {α β : Type} (f : α -> β) (l : List α) (x y z : β) : List.take (3 + l.length) (x :: y :: z :: List.map f l) = x :: y :: z :: List.map f l := List.take_of_length_le a0
@[simp] theorem ZFG {α β : Type} (f : α -> β) (l : List α) (x y z u : β) : List.take (4 + l.length) (x :: y :: z :: u :: List.map f l) = x :: y :: z :: u :: List.map f l := List.take_of_length_le a0
@[simp] theorem ZFF {α β : Type} (f : α -> β) (l : List α) (x y z u v : β) : List.take (5 + l.length) (x :: y :: z :: u :: v :: List.map f l) = x :: y :: z :: u :: v :: List.map f l := List.take_of_length_le a0
@[simp] theorem ZFJ {α β : Type} (f : α -> β) (l : List α) (x y z u v w : β) : List.take (6 + l.length) (x :: y :: z :: u :: v :: w :: List.map f l) = x :: y :: z :: u :: v :: w :: List.map f l := List.take_of_length_le a0
theorem GR(n:Nat)(h:n<=9223372036854775807):W ((n:Int)-1)=(n:Int)-1:=YB Y Y
@[simp] theorem ZFE (a : Array UInt8) : (ByteArray.mk a).size = a.size := rfl
@[simp] theorem ZE1 {α : Type} {l : List α} {x : α} {v : Nat} (h : l.length = n) : List.take (min v n + 1 + (n - v)) (List.take v l ++ x :: List.drop v l) = List.take v l ++ x :: List.drop v l := by
  apply List.take_of_length_le;simp;omega
@[simp] theorem ZFK (a b : Nat) : (min a b + 1 + (b - a) = min a b + (b - a + 1)) = True := a0
theorem Vy{α:Type}[Inhabited α][X α]{l:List α}{x:α}(h:R n l)(O:R n x):R n (l.set i x):=
  ⟨by simpa using h.1,fun y hy=>by
    rcases List.mem_or_eq_of_mem_set hy with hy|rfl
    · exact h.2 y hy
    · exact O⟩
theorem ie{α:Type}(a b:α):cond true a b=a/\cond false a b=b:=⟨rfl,rfl⟩
theorem lx{x a b:ByteArray}(h:(decide (x=a))=true)(n:decide (a=b)=false:=by decide):(decide (x=b))=false:=by rw[of_decide_eq_true h];exact n
theorem XN{α:Type}(a b:α):cond true a b=a:=(ie a b).1
theorem XA{α:Type}(a b:α):cond false a b=b:=(ie a b).2
/-- a side condition that is found by itself -/
theorem mO{a:Bool}{c:Prop}(h:a=true->c):a=false\/c:=by cases a with|false=>exact .inl rfl|true=>exact .inr (h rfl)
theorem sd(h:b)(k:a:=by(intros;first|omega|exact⟨by assumption,fun k=>⟨by assumption,k⟩⟩|exact mO e7|(simp only[decide_eq_true_eq,decide_eq_false_iff_not,beq_iff_eq,beq_eq_false_iff_ne,bne_iff_ne,ne_eq,Bool.or_eq_false_iff,Bool.or_eq_true,Bool.and_eq_true,Bool.not_eq_true',Bool.not_eq_false']at*;omega)|((try simp only[Go.Mo.Xf,show ∀x,Go.IntKind.i64.wrap x=Go.Vm.W x from fun _=>rfl]at*);omega)|exact List.ne_nil_of_length_pos e7)):a/\b:=⟨k,h⟩
theorem cV(h:b)(k:a:=by(intros;first|omega|(simp_all;done)|(simp_all;omega)|grind|((try simp only[Go.Mo.Xf,show ∀x,Go.IntKind.i64.wrap x=Go.Vm.W x from fun _=>rfl]at*);omega))):a/\b:=⟨k,h⟩
theorem il{a b:Nat}(h:a<b:=by first|omega|(simp only[decide_eq_true_eq,decide_eq_false_iff_not,beq_iff_eq,beq_eq_false_iff_ne,bne_iff_ne,ne_eq,Bool.or_eq_false_iff,Bool.not_eq_true',Bool.not_eq_false']at*;omega)|(simp_all[List.length_pos_iff];done)|(simp;omega)|(simp_all;omega)|((try simp only[Go.Mo.Xf,show ∀x,Go.IntKind.i64.wrap x=Go.Vm.W x from fun _=>rfl]at*);omega)|(simp;(try simp only[Go.Mo.Xf,show ∀x,Go.IntKind.i64.wrap x=Go.Vm.W x from fun _=>rfl]at*);omega)):a<b:=h
theorem ik{α:Type}(a:Nat)(l:List α)(h:a<l.length:=by first|omega|(simp only[decide_eq_true_eq,decide_eq_false_iff_not,beq_iff_eq,beq_eq_false_iff_ne,bne_iff_ne,ne_eq,Bool.or_eq_false_iff,Bool.not_eq_true',Bool.not_eq_false']at*;omega)|(simp_all[List.length_pos_iff];done)|(simp;omega)|(simp_all;omega)|((try simp only[Go.Mo.Xf,show ∀x,Go.IntKind.i64.wrap x=Go.Vm.W x from fun _=>rfl]at*);omega)|(simp;(try simp only[Go.Mo.Xf,show ∀x,Go.IntKind.i64.wrap x=Go.Vm.W x from fun _=>rfl]at*);omega)):a<l.length:=h
theorem sl{α:Type}[Inhabited α][X α](n:Nat)(l:List α)(u:q)(h:q->R n l:=by(intro u;simp(maxDischargeDepth:=12) [u])):l.length<=n:=Zx (h u)
theorem B{α:Type}[Inhabited α][X α]{x:α}(h:R n x)(k:n<=m:=by decide):R m x:=ZJ k h
theorem Uk{α:Type}[Inhabited α]{l:List α}(h:i<l.length):l.drop i=Vm.I l i::l.drop (i+1):=by rw[List.drop_eq_getElem_cons h];simp[Vm.I,List.getD_eq_getElem?_getD,List.getElem?_eq_getElem h]
theorem HC{α:Type}[Inhabited α](c:α->Nat){l:List α}(h:i<l.length):af c (l.drop i)=c (Vm.I l i)+af c (l.drop (i+1)):=by rw[Uk h];rfl
theorem FZ{α β:Type}(f:α->List β):∀l:List α,(l.flatMap f).length=af (fun x=>(f x).length) l
  |[]=>rfl
  |x::l=>by simp only[List.flatMap_cons,List.length_append,af,FZ f l]
theorem qu{α β:Type}[Inhabited α]{as:List α}(f:α->List β){F:Nat->Nat->List β->List β}(M:∀n i l,F (n+1) i l=bif decide ((i:Int)<(as.length:Int))then F n (i+1) (l++f (Vm.I as i))else l):∀n i l,as.length<n+i->i<=as.length->F n i l=l++(as.drop i).flatMap f
  |0,i,l,h,Z=>Y
  |n+1,i,l,h,Z=>by
    rw[M];by_cases hi:i<as.length
    · rw[show decide ((i:Int)<(as.length:Int))=true by simpa using hi,XN,qu f M n (i+1) _ Y hi,Uk hi];simp
    · rw[show decide ((i:Int)<(as.length:Int))=false by simpa using hi,XA,List.drop_eq_nil_of_le Y];simp
theorem PB{α β:Type}(f:α->β):∀l:List α,l.flatMap (fun a=>[f a])=l.map f
  |[]=>rfl
  |x::l=>by rw[List.flatMap_cons,PB f l];rfl
theorem oO(h:∀x∈l,x.size<=m)(i:Nat):(Vm.I l i).size<=m:=by
  by_cases hi:i<l.length
  · rw[show Vm.I l i=l[i]by simp[Vm.I,List.getD_eq_getElem?_getD,List.getElem?_eq_getElem hi]];exact h _ (List.getElem_mem hi)
  · rw[show Vm.I l i=default by simp[Vm.I,List.getD_eq_getElem?_getD,List.getElem?_eq_none (Nat.le_of_not_lt hi)]];exact Nat.zero_le _
theorem all_cons{α:Type}{p:α->Prop}{a:α}{l:List α}(h:p a)(k:∀x∈l,p x):∀x∈a::l,p x:=fun x O=>(List.mem_cons.1 O).elim (fun e=>e▸h) (k x)
theorem all_nil{α:Type}{p:α->Prop}:∀x∈([]:List α),p x:=fun x O=>bL
end Go.Mo
