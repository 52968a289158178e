/- The plain data of the program, typed, and gf they read as rows of the abstract machine. No condition. -/
import Derived.Test.YthjkhlcbpfnobaaGreatVe
import Derived.Laws.BitsLemmas
namespace Go.Mo
open Go.Vm
variable {n i L m i' : Nat} {fQ l : List ByteArray} {fR Ids' aE cp aF cq dX gP : List Int} {Id' dK Root' Mark' Keep' Next' Kind' From' Now' Key' To' ag bb ah A' B' C' D' h' bd : Int} {ed : List (List Int)} {b' : List UInt8} {cr : List Bool} {s : ByteArray} {a b q : Prop}
@[simp] def iR (n : Int) : List Vm.D := [.int .i64 n]
@[simp] def bR (b : UInt8) : List Vm.D := [.int .u8 (b.toNat : Int)]
@[simp] def lR (b : Bool) : List Vm.D := [.bool b]
@[simp] def sR (s : ByteArray) : List Vm.D := [.str s]
@[simp] def slR {α : Type} (n : Nat) (f : α -> List D) (m : List α) : List Vm.D := [.sl n (m.map f)]
/-- everything in it is at most so long -/
class Sz (α : Type) [Inhabited α] where
  sm : Nat -> α -> Prop
  zero : ∀ n, sm n default
  mono : ∀ {n m : Nat} {x : α}, n <= m -> sm n x -> sm m x
/-- gf many marks it takes -/
class Cn (α : Type) where
  cn : α -> Nat
abbrev cn {α : Type} [Cn α] (x : α) : Nat := Cn.cn x
def cnL {α : Type} (c : α -> Nat) : List α -> Nat
  | [] => 0
  | x :: l => c x + cnL c l
instance : Cn Int := ⟨fun _ => 1⟩
instance : Cn Bool := ⟨fun _ => 1⟩
instance : Cn UInt8 := ⟨fun _ => 1⟩
instance : Cn ByteArray := ⟨fun _ => 1⟩
instance {α : Type} [Cn α] : Cn (List α) := ⟨cnL Cn.cn⟩
abbrev Sm {α : Type} [Inhabited α] [Sz α] (n : Nat) (x : α) : Prop := Sz.sm n x
instance : Sz Int := ⟨fun _ _ => True, fun _ => trivial, fun _ h => h⟩
instance : Sz Bool := ⟨fun _ _ => True, fun _ => trivial, fun _ h => h⟩
instance : Sz UInt8 := ⟨fun _ _ => True, fun _ => trivial, fun _ h => h⟩
instance : Sz ByteArray := ⟨fun n s => s.size <= n, fun _ => Nat.zero_le _, fun h k => Nat.le_trans k h⟩
instance {α : Type} [Inhabited α] [Sz α] : Sz (List α) := ⟨fun n l => l.length <= n /\ ∀ x ∈ l, Sz.sm n x, fun _ => ⟨Nat.zero_le _, fun _ h => by cases h⟩, fun h k => ⟨Nat.le_trans k.1 h, fun x hx => Sz.mono h (k.2 x hx)⟩⟩
theorem XD {α : Type} [Inhabited α] [Sz α] {l : List α} : Sm n l = (l.length <= n /\ ∀ x ∈ l, Sm n x) := rfl
theorem YS {α : Type} [Inhabited α] [Sz α] {l : List α} (h : Sm n l) : l.length <= n := h.1
theorem D2 (h : Sm n s) : s.size <= n := h
@[simp] theorem nY {x : Int} : Sm n x := trivial
@[simp] theorem nU {x : Bool} : Sm n x := trivial
@[simp] theorem nk {x : UInt8} : Sm n x := trivial
@[simp] theorem y9 {α : Type} [Inhabited α] [Sz α] : Sm n ([] : List α) := ⟨Nat.zero_le _, fun _ h => by cases h⟩
@[simp] theorem Zp {α : Type} [Inhabited α] [Sz α] {l : List α} (h : Sm n l) : Sm n (nth l i) := by
  unfold nth
  rw [List.getD_eq_getElem?_getD]
  cases hh : l[i]? with
  | none => exact Sz.zero n
  | some x => exact h.2 x (List.mem_of_getElem? hh)
@[simp] theorem wx {α : Type} [Inhabited α] [Sz α] {l : List α} (h : Sm n l) : Sm n (l.take i) := ⟨Nat.le_trans zAk h.1, fun x hx => h.2 x (List.mem_of_mem_take hx)⟩
@[simp] theorem sk {α : Type} [Inhabited α] [Sz α] {l : List α} (h : Sm n l) : Sm n (l.drop i) := ⟨Nat.le_trans zAF h.1, fun x hx => h.2 x (List.mem_of_mem_drop hx)⟩
theorem kl {α : Type} [Inhabited α] [Sz α] {l m : List α} : Sm n (l ++ m) = (l.length + m.length <= n /\ (∀ x ∈ l, Sm n x) /\ ∀ x ∈ m, Sm n x) := by
  rw [XD]; simp [or_imp, forall_and]
theorem ZM {α : Type} [Inhabited α] [Sz α] {x : α} (h : n <= m) (k : Sm n x) : Sm m x := Sz.mono h k
structure Zj where
  Authority : Int
  Seq : Int
  Time : Int
  QK : Int
  Mark : Int
  deriving Inhabited, DecidableEq
variable {cu : List (List Zj)} {dU : List Zj}
@[simp] def Zj.row (x : Zj) : List Vm.D := [.int .i64 x.Authority, .int .i64 x.Seq, .int .i64 x.Time, .int .i64 x.QK, .int .i64 x.Mark]
instance : Cn Zj := ⟨fun x => cn x.Authority + cn x.Seq + cn x.Time + cn x.QK + cn x.Mark⟩
instance : Sz Zj := ⟨fun _ _ => True, fun _ => trivial, fun _ h => h⟩
@[simp] theorem Zj.Tc {x : Zj} : Sm n x := trivial
structure Xx where
  QK : Int
  Left : Bool
  deriving Inhabited, DecidableEq
variable {aC : List Xx}
@[simp] def Xx.row (x : Xx) : List Vm.D := [.int .i64 x.QK, .bool x.Left]
instance : Cn Xx := ⟨fun x => cn x.QK + cn x.Left⟩
instance : Sz Xx := ⟨fun _ _ => True, fun _ => trivial, fun _ h => h⟩
@[simp] theorem Xx.Tc {x : Xx} : Sm n x := trivial
structure ZZ where
  Count : Int
  Method : Int
  BE : Int
  Path : List Xx
  YH : List Zj
  deriving Inhabited, DecidableEq
variable {cg : List ZZ}
@[simp] def ZZ.row (x : ZZ) : List Vm.D := [.int .i64 x.Count, .int .i64 x.Method, .int .i64 x.BE, .sl 2 (x.Path.map Xx.row), .sl 5 (x.YH.map Zj.row)]
instance : Cn ZZ := ⟨fun x => cn x.Count + cn x.Method + cn x.BE + cn x.Path + cn x.YH⟩
instance : Sz ZZ := ⟨fun n x => Sm n x.Path /\ Sm n x.YH, fun n => ⟨Sz.zero n, Sz.zero n⟩, fun h k => ⟨Sz.mono h k.1, Sz.mono h k.2⟩⟩
@[simp] theorem ZZ.nS {x : ZZ} (h : Sm n x) : Sm n x.Path := h.1
@[simp] theorem ZZ.DA {x : ZZ} (h : Sm n x) : Sm n x.YH := h.2
@[simp] theorem ZZ.U8 : Sm n (ZZ.mk ag bb Root' aC dU) = (Sm n aC /\ Sm n dU) := rfl
structure Yw where
  Number : Int
  kW : Int
  Method : Int
  VI : Int
  Rn : Int
  deriving Inhabited, DecidableEq
variable {aD : List Yw}
@[simp] def Yw.row (x : Yw) : List Vm.D := [.int .i64 x.Number, .int .i64 x.kW, .int .i64 x.Method, .int .i64 x.VI, .int .i64 x.Rn]
instance : Cn Yw := ⟨fun x => cn x.Number + cn x.kW + cn x.Method + cn x.VI + cn x.Rn⟩
instance : Sz Yw := ⟨fun _ _ => True, fun _ => trivial, fun _ h => h⟩
@[simp] theorem Yw.Tc {x : Yw} : Sm n x := trivial
structure Zf where
  Id : Int
  Key : Int
  Error : Int
  deriving Inhabited, DecidableEq
variable {gn : List Zf}
@[simp] def Zf.row (x : Zf) : List Vm.D := [.int .i64 x.Id, .int .i64 x.Key, .int .i64 x.Error]
instance : Cn Zf := ⟨fun x => cn x.Id + cn x.Key + cn x.Error⟩
instance : Sz Zf := ⟨fun _ _ => True, fun _ => trivial, fun _ h => h⟩
@[simp] theorem Zf.Tc {x : Zf} : Sm n x := trivial
structure Z8 where
  Id : Int
  MI : Int
  Ends : Int
  R9 : Int
  deriving Inhabited, DecidableEq
@[simp] def Z8.row (x : Z8) : List Vm.D := [.int .i64 x.Id, .int .i64 x.MI, .int .i64 x.Ends, .int .i64 x.R9]
instance : Cn Z8 := ⟨fun x => cn x.Id + cn x.MI + cn x.Ends + cn x.R9⟩
instance : Sz Z8 := ⟨fun _ _ => True, fun _ => trivial, fun _ h => h⟩
@[simp] theorem Z8.Tc {x : Z8} : Sm n x := trivial
structure ZX where
  Zo : List Yw
  ZB : List Zf
  Methods : List Z8
  XT : Int
  Now : Int
  deriving Inhabited, DecidableEq
variable {ck : ZX}
@[simp] def ZX.row (x : ZX) : List Vm.D := [.sl 5 (x.Zo.map Yw.row), .sl 3 (x.ZB.map Zf.row), .sl 4 (x.Methods.map Z8.row), .int .i64 x.XT, .int .i64 x.Now]
instance : Cn ZX := ⟨fun x => cn x.Zo + cn x.ZB + cn x.Methods + cn x.XT + cn x.Now⟩
instance : Sz ZX := ⟨fun n x => Sm n x.Zo /\ Sm n x.ZB /\ Sm n x.Methods, fun n => ⟨Sz.zero n, Sz.zero n, Sz.zero n⟩, fun h k => ⟨Sz.mono h k.1, Sz.mono h k.2.1, Sz.mono h k.2.2⟩⟩
@[simp] theorem ZX.XS {x : ZX} (h : Sm n x) : Sm n x.Zo := h.1
@[simp] theorem ZX.XN {x : ZX} (h : Sm n x) : Sm n x.ZB := h.2.1
@[simp] theorem ZX.Xz {x : ZX} (h : Sm n x) : Sm n x.Methods := h.2.2
@[simp] theorem ZX.U8 {gP : List Z8} : Sm n (ZX.mk aD gn gP ah Now') = (Sm n aD /\ Sm n gn /\ Sm n gP) := rfl
structure YX where
  Zd : Int
  Key : Int
  kW : Int
  X5 : Int
  To : Int
  Z1 : Int
  Mark : Int
  deriving Inhabited, DecidableEq
variable {cm : List YX}
@[simp] def YX.row (x : YX) : List Vm.D := [.int .i64 x.Zd, .int .i64 x.Key, .int .i64 x.kW, .int .i64 x.X5, .int .i64 x.To, .int .i64 x.Z1, .int .i64 x.Mark]
instance : Cn YX := ⟨fun x => cn x.Zd + cn x.Key + cn x.kW + cn x.X5 + cn x.To + cn x.Z1 + cn x.Mark⟩
instance : Sz YX := ⟨fun _ _ => True, fun _ => trivial, fun _ h => h⟩
@[simp] theorem YX.Tc {x : YX} : Sm n x := trivial
structure ZN where
  UG : Int
  Xn : List ByteArray
  KW : List Int
  deriving Inhabited, DecidableEq
variable {cj : ZN}
@[simp] def ZN.row (x : ZN) : List Vm.D := [.int .i64 x.UG, .sl 1 (x.Xn.map sR), .sl 1 (x.KW.map iR)]
instance : Cn ZN := ⟨fun x => cn x.UG + cn x.Xn + cn x.KW⟩
instance : Sz ZN := ⟨fun n x => Sm n x.Xn /\ Sm n x.KW, fun n => ⟨Sz.zero n, Sz.zero n⟩, fun h k => ⟨Sz.mono h k.1, Sz.mono h k.2⟩⟩
@[simp] theorem ZN.GZ {x : ZN} (h : Sm n x) : Sm n x.Xn := h.1
@[simp] theorem ZN.Cr {x : ZN} (h : Sm n x) : Sm n x.KW := h.2
@[simp] theorem ZN.U8 : Sm n (ZN.mk dK fQ fR) = (Sm n fQ /\ Sm n fR) := rfl
structure Zl where
  Key : Int
  Zd : Int
  Method : Int
  QK : Int
  Vk : Int
  Org : Int
  UR : Int
  UT : Int
  Mark : Int
  deriving Inhabited, DecidableEq
variable {Sig' : Zl}
@[simp] def Zl.row (x : Zl) : List Vm.D := [.int .i64 x.Key, .int .i64 x.Zd, .int .i64 x.Method, .int .i64 x.QK, .int .i64 x.Vk, .int .i64 x.Org, .int .i64 x.UR, .int .i64 x.UT, .int .i64 x.Mark]
instance : Cn Zl := ⟨fun x => cn x.Key + cn x.Zd + cn x.Method + cn x.QK + cn x.Vk + cn x.Org + cn x.UR + cn x.UT + cn x.Mark⟩
instance : Sz Zl := ⟨fun _ _ => True, fun _ => trivial, fun _ h => h⟩
@[simp] theorem Zl.Tc {x : Zl} : Sm n x := trivial
structure ZT where
  Key : Int
  Yf : List Int
  Mark : Int
  deriving Inhabited, DecidableEq
variable {dV : List ZT}
@[simp] def ZT.row (x : ZT) : List Vm.D := [.int .i64 x.Key, .sl 1 (x.Yf.map iR), .int .i64 x.Mark]
instance : Cn ZT := ⟨fun x => cn x.Key + cn x.Yf + cn x.Mark⟩
instance : Sz ZT := ⟨fun n x => Sm n x.Yf, fun n => Sz.zero n, fun h k => Sz.mono h k⟩
@[simp] theorem ZT.T6 {x : ZT} (h : Sm n x) : Sm n x.Yf := h
@[simp] theorem ZT.U8 : Sm n (ZT.mk Key' aE Mark') = (Sm n aE) := rfl
structure ZU where
  ZJ : List ZT
  ZP : List ZZ
  deriving Inhabited, DecidableEq
variable {ee : List ZU} {dW : ZU}
@[simp] def ZU.row (x : ZU) : List Vm.D := [.sl 3 (x.ZJ.map ZT.row), .sl 5 (x.ZP.map ZZ.row)]
instance : Cn ZU := ⟨fun x => cn x.ZJ + cn x.ZP⟩
instance : Sz ZU := ⟨fun n x => Sm n x.ZJ /\ Sm n x.ZP, fun n => ⟨Sz.zero n, Sz.zero n⟩, fun h k => ⟨Sz.mono h k.1, Sz.mono h k.2⟩⟩
@[simp] theorem ZU.QC {x : ZU} (h : Sm n x) : Sm n x.ZJ := h.1
@[simp] theorem ZU.zo {x : ZU} (h : Sm n x) : Sm n x.ZP := h.2
@[simp] theorem ZU.U8 : Sm n (ZU.mk dV cg) = (Sm n dV /\ Sm n cg) := rfl
structure ZQ where
  Id : Int
  Y8 : Int
  Doc : ZN
  Sig : Zl
  ZK : ZU
  deriving Inhabited, DecidableEq
variable {fS : List ZQ}
@[simp] def ZQ.row (x : ZQ) : List Vm.D := [.int .i64 x.Id, .int .i64 x.Y8, .int .i64 x.Doc.UG, .sl 1 (x.Doc.Xn.map sR), .sl 1 (x.Doc.KW.map iR), .int .i64 x.Sig.Key, .int .i64 x.Sig.Zd, .int .i64 x.Sig.Method, .int .i64 x.Sig.QK, .int .i64 x.Sig.Vk, .int .i64 x.Sig.Org, .int .i64 x.Sig.UR, .int .i64 x.Sig.UT, .int .i64 x.Sig.Mark, .sl 3 (x.ZK.ZJ.map ZT.row), .sl 5 (x.ZK.ZP.map ZZ.row)]
instance : Cn ZQ := ⟨fun x => cn x.Id + cn x.Y8 + cn x.Doc + cn x.Sig + cn x.ZK⟩
instance : Sz ZQ := ⟨fun n x => Sm n x.Doc /\ Sm n x.ZK, fun n => ⟨Sz.zero n, Sz.zero n⟩, fun h k => ⟨Sz.mono h k.1, Sz.mono h k.2⟩⟩
@[simp] theorem ZQ.qp {x : ZQ} (h : Sm n x) : Sm n x.Doc := h.1
@[simp] theorem ZQ.Xk {x : ZQ} (h : Sm n x) : Sm n x.ZK := h.2
@[simp] theorem ZQ.U8 : Sm n (ZQ.mk Id' Keep' cj Sig' dW) = (Sm n cj /\ Sm n dW) := rfl
structure ZD where
  Id : Int
  ZC : List ZQ
  deriving Inhabited, DecidableEq
variable {eD : List ZD}
@[simp] def ZD.row (x : ZD) : List Vm.D := [.int .i64 x.Id, .sl 16 (x.ZC.map ZQ.row)]
instance : Cn ZD := ⟨fun x => cn x.Id + cn x.ZC⟩
instance : Sz ZD := ⟨fun n x => Sm n x.ZC, fun n => Sz.zero n, fun h k => Sz.mono h k⟩
@[simp] theorem ZD.Ye {x : ZD} (h : Sm n x) : Sm n x.ZC := h
@[simp] theorem ZD.U8 : Sm n (ZD.mk Id' fS) = (Sm n fS) := rfl
structure ZF where
  Frame : ZX
  ZY : List YX
  Zx : List Int
  ZA : List ZD
  Yt : List Int
  YO : List Int
  Next : Int
  YE : List Int
  deriving Inhabited, DecidableEq
variable {x : ZF}
@[simp] def ZF.row (x : ZF) : List Vm.D := [.sl 5 (x.Frame.Zo.map Yw.row), .sl 3 (x.Frame.ZB.map Zf.row), .sl 4 (x.Frame.Methods.map Z8.row), .int .i64 x.Frame.XT, .int .i64 x.Frame.Now, .sl 7 (x.ZY.map YX.row), .sl 1 (x.Zx.map iR), .sl 2 (x.ZA.map ZD.row), .sl 1 (x.Yt.map iR), .sl 1 (x.YO.map iR), .int .i64 x.Next, .sl 1 (x.YE.map iR)]
instance : Cn ZF := ⟨fun x => cn x.Frame + cn x.ZY + cn x.Zx + cn x.ZA + cn x.Yt + cn x.YO + cn x.Next + cn x.YE⟩
instance : Sz ZF := ⟨fun n x => Sm n x.Frame /\ Sm n x.ZY /\ Sm n x.Zx /\ Sm n x.ZA /\ Sm n x.Yt /\ Sm n x.YO /\ Sm n x.YE, fun n => ⟨Sz.zero n, Sz.zero n, Sz.zero n, Sz.zero n, Sz.zero n, Sz.zero n, Sz.zero n⟩, fun h k => ⟨Sz.mono h k.1, Sz.mono h k.2.1, Sz.mono h k.2.2.1, Sz.mono h k.2.2.2.1, Sz.mono h k.2.2.2.2.1, Sz.mono h k.2.2.2.2.2.1, Sz.mono h k.2.2.2.2.2.2⟩⟩
@[simp] theorem ZF.Y7 (h : Sm n x) : Sm n x.Frame := h.1
@[simp] theorem ZF.oY (h : Sm n x) : Sm n x.ZY := h.2.1
@[simp] theorem ZF.tN (h : Sm n x) : Sm n x.Zx := h.2.2.1
@[simp] theorem ZF.Yn (h : Sm n x) : Sm n x.ZA := h.2.2.2.1
@[simp] theorem ZF.wm (h : Sm n x) : Sm n x.Yt := h.2.2.2.2.1
@[simp] theorem ZF.tG (h : Sm n x) : Sm n x.YO := h.2.2.2.2.2.1
@[simp] theorem ZF.LR (h : Sm n x) : Sm n x.YE := h.2.2.2.2.2.2
@[simp] theorem ZF.U8 : Sm n (ZF.mk ck cm cp eD aF cq Next' dX) = (Sm n ck /\ Sm n cm /\ Sm n cp /\ Sm n eD /\ Sm n aF /\ Sm n cq /\ Sm n dX) := rfl
structure Zs where
  Kind : Int
  A : Int
  B : Int
  C : Int
  D : Int
  Doc : ZN
  Ids : List Int
  deriving Inhabited, DecidableEq
@[simp] def Zs.row (x : Zs) : List Vm.D := [.int .i64 x.Kind, .int .i64 x.A, .int .i64 x.B, .int .i64 x.C, .int .i64 x.D, .int .i64 x.Doc.UG, .sl 1 (x.Doc.Xn.map sR), .sl 1 (x.Doc.KW.map iR), .sl 1 (x.Ids.map iR)]
instance : Cn Zs := ⟨fun x => cn x.Kind + cn x.A + cn x.B + cn x.C + cn x.D + cn x.Doc + cn x.Ids⟩
instance : Sz Zs := ⟨fun n x => Sm n x.Doc /\ Sm n x.Ids, fun n => ⟨Sz.zero n, Sz.zero n⟩, fun h k => ⟨Sz.mono h k.1, Sz.mono h k.2⟩⟩
@[simp] theorem Zs.qp {x : Zs} (h : Sm n x) : Sm n x.Doc := h.1
@[simp] theorem Zs.Al {x : Zs} (h : Sm n x) : Sm n x.Ids := h.2
@[simp] theorem Zs.U8 : Sm n (Zs.mk Kind' A' B' C' D' cj Ids') = (Sm n cj /\ Sm n Ids') := rfl
structure Zg where
  X5 : Int
  To : Int
  deriving Inhabited, DecidableEq
@[simp] def Zg.row (x : Zg) : List Vm.D := [.int .i64 x.X5, .int .i64 x.To]
instance : Cn Zg := ⟨fun x => cn x.X5 + cn x.To⟩
instance : Sz Zg := ⟨fun _ _ => True, fun _ => trivial, fun _ h => h⟩
@[simp] theorem Zg.Tc {x : Zg} : Sm n x := trivial
structure QF where
  Code : Int
  Reason : Int
  Span : Zg
  deriving Inhabited, DecidableEq
@[simp] def QF.row (x : QF) : List Vm.D := [.int .i64 x.Code, .int .i64 x.Reason, .int .i64 x.Span.X5, .int .i64 x.Span.To]
instance : Cn QF := ⟨fun x => cn x.Code + cn x.Reason + cn x.Span⟩
instance : Sz QF := ⟨fun _ _ => True, fun _ => trivial, fun _ h => h⟩
@[simp] theorem QF.Tc {x : QF} : Sm n x := trivial
structure Jx where
  UG : Int
  Methods : List Int
  Shown : List Bool
  Xn : List ByteArray
  KW : List Int
  HN : List (List Int)
  deriving Inhabited, DecidableEq
@[simp] def Jx.row (x : Jx) : List Vm.D := [.int .i64 x.UG, .sl 1 (x.Methods.map iR), .sl 1 (x.Shown.map lR), .sl 1 (x.Xn.map sR), .sl 1 (x.KW.map iR), .sl 1 (x.HN.map (slR 1 iR))]
instance : Cn Jx := ⟨fun x => cn x.UG + cn x.Methods + cn x.Shown + cn x.Xn + cn x.KW + cn x.HN⟩
instance : Sz Jx := ⟨fun n x => Sm n x.Methods /\ Sm n x.Shown /\ Sm n x.Xn /\ Sm n x.KW /\ Sm n x.HN, fun n => ⟨Sz.zero n, Sz.zero n, Sz.zero n, Sz.zero n, Sz.zero n⟩, fun h k => ⟨Sz.mono h k.1, Sz.mono h k.2.1, Sz.mono h k.2.2.1, Sz.mono h k.2.2.2.1, Sz.mono h k.2.2.2.2⟩⟩
@[simp] theorem Jx.Xz {x : Jx} (h : Sm n x) : Sm n x.Methods := h.1
@[simp] theorem Jx.nJ {x : Jx} (h : Sm n x) : Sm n x.Shown := h.2.1
@[simp] theorem Jx.GZ {x : Jx} (h : Sm n x) : Sm n x.Xn := h.2.2.1
@[simp] theorem Jx.Cr {x : Jx} (h : Sm n x) : Sm n x.KW := h.2.2.2.1
@[simp] theorem Jx.oN {x : Jx} (h : Sm n x) : Sm n x.HN := h.2.2.2.2
@[simp] theorem Jx.U8 : Sm n (Jx.mk dK gP cr fQ fR ed) = (Sm n gP /\ Sm n cr /\ Sm n fQ /\ Sm n fR /\ Sm n ed) := rfl
structure Z0 where
  Zy : List ZU
  XA : List (List Zj)
  deriving Inhabited, DecidableEq
@[simp] def Z0.row (x : Z0) : List Vm.D := [.sl 2 (x.Zy.map ZU.row), .sl 1 (x.XA.map (slR 5 Zj.row))]
instance : Cn Z0 := ⟨fun x => cn x.Zy + cn x.XA⟩
instance : Sz Z0 := ⟨fun n x => Sm n x.Zy /\ Sm n x.XA, fun n => ⟨Sz.zero n, Sz.zero n⟩, fun h k => ⟨Sz.mono h k.1, Sz.mono h k.2⟩⟩
@[simp] theorem Z0.QY {x : Z0} (h : Sm n x) : Sm n x.Zy := h.1
@[simp] theorem Z0.Nw {x : Z0} (h : Sm n x) : Sm n x.XA := h.2
@[simp] theorem Z0.U8 : Sm n (Z0.mk ee cu) = (Sm n ee /\ Sm n cu) := rfl
structure Zn where
  Zd : Int
  kU : Int
  Zx : Int
  Z1 : Int
  Mark : Int
  deriving Inhabited, DecidableEq
@[simp] def Zn.row (x : Zn) : List Vm.D := [.int .i64 x.Zd, .int .i64 x.kU, .int .i64 x.Zx, .int .i64 x.Z1, .int .i64 x.Mark]
instance : Cn Zn := ⟨fun x => cn x.Zd + cn x.kU + cn x.Zx + cn x.Z1 + cn x.Mark⟩
instance : Sz Zn := ⟨fun _ _ => True, fun _ => trivial, fun _ h => h⟩
@[simp] theorem Zn.Tc {x : Zn} : Sm n x := trivial
structure YD where
  b : List UInt8
  i : Nat
  h : Int
  deriving Inhabited, DecidableEq
@[simp] def YD.row (x : YD) : List Vm.D := [.sl 1 (x.b.map bR), .int .i64 (x.i : Int), .int .i64 x.h]
instance : Sz YD := ⟨fun n x => Sm n x.b, fun n => Sz.zero n, fun h k => Sz.mono h k⟩
@[simp] theorem YD.mX {x : YD} (h : Sm n x) : Sm n x.b := h
@[simp] theorem YD.U8 : Sm n (YD.mk b' i' h') = (Sm n b') := rfl
structure YZ where
  X5 : Int
  To : Int
  ZC : List ZQ
  QK : Int
  deriving Inhabited, DecidableEq
@[simp] def YZ.row (x : YZ) : List Vm.D := [.int .i64 x.X5, .int .i64 x.To, .sl 16 (x.ZC.map ZQ.row), .int .i64 x.QK]
instance : Cn YZ := ⟨fun x => cn x.X5 + cn x.To + cn x.ZC + cn x.QK⟩
instance : Sz YZ := ⟨fun n x => Sm n x.ZC, fun n => Sz.zero n, fun h k => Sz.mono h k⟩
@[simp] theorem YZ.Ye {x : YZ} (h : Sm n x) : Sm n x.ZC := h
@[simp] theorem YZ.U8 : Sm n (YZ.mk From' To' fS bd) = (Sm n fS) := rfl
structure XV where
  Org : Int
  Mz : Int
  X5 : Int
  To : Int
  Key : Int
  Mark : Int
  deriving Inhabited, DecidableEq
@[simp] def XV.row (x : XV) : List Vm.D := [.int .i64 x.Org, .int .i64 x.Mz, .int .i64 x.X5, .int .i64 x.To, .int .i64 x.Key, .int .i64 x.Mark]
instance : Cn XV := ⟨fun x => cn x.Org + cn x.Mz + cn x.X5 + cn x.To + cn x.Key + cn x.Mark⟩
instance : Sz XV := ⟨fun _ _ => True, fun _ => trivial, fun _ h => h⟩
@[simp] theorem XV.Tc {x : XV} : Sm n x := trivial
open Go.Vm
variable {c : Nat -> Bool} {F : Nat -> Nat -> Sum Bool Unit} {rows : List (List Vm.D)} {r : List Vm.D}
theorem QS {α : Type} [Inhabited α] {l : List α} (h : i < l.length) : nth l i = l[i] := by simp [nth, h]
theorem jf {α : Type} [Inhabited α] {F : Nat -> List α -> Nat -> List α} {a : List α} {g : α -> α} (hg : ∀ x, g x = x)
    (h1 : ∀ n v i, F (n + 1) v i = bif decide ((i : Int) < (a.length : Int)) then F n (v ++ [g (nth a i)]) (i + 1) else v) :
    ∀ n v i, a.length < n + i -> i <= a.length -> F n v i = v ++ a.drop i := by
  intro n
  induction n with
  | zero => intro v i h2 h3; omega
  | succ n ih =>
    intro v i h2 h3
    rw [h1]
    by_cases hi : i < a.length
    · rw [show decide ((i : Int) < (a.length : Int)) = true by simp [hi], cond_true, ih _ _ zAA hi, hg, QS hi, List.append_assoc, List.singleton_append, <- List.drop_eq_getElem_cons hi]
    · rw [show decide ((i : Int) < (a.length : Int)) = false by simp; omega, cond_false, List.drop_eq_nil_of_le zAA, List.append_nil]
theorem kX {F : Nat -> Nat -> Sum Int Unit} (h0 : ∀ i, F 0 i = .inr ())
    (h1 : ∀ n i, F (n + 1) i = bif decide ((i : Int) < (L : Int)) then (bif c i then .inl (i : Int) else F n (i + 1)) else .inr ()) :
    ∀ n i, (match F n i with | .inl r => r | .inr _ => -1) < (L : Int) := by
  intro n
  induction n with
  | zero => intro i; rw [h0]; show (-1 : Int) < _; omega
  | succ n ih =>
    intro i
    rw [h1]
    by_cases hi : (i : Int) < (L : Int)
    · rw [show decide ((i : Int) < (L : Int)) = true by simpa using hi, cond_true]
      cases hc : c i with
      | true => simpa using hi
      | false => exact ih (i + 1)
    · rw [show decide ((i : Int) < (L : Int)) = false by simpa using hi, cond_false]
      show (-1 : Int) < _; omega
theorem XF (h : i < rows.length) : Vm.rowAt (rows.set i r) i = r := by simp [Vm.rowAt, h]
theorem Hu {α : Type} {p : α -> Prop} {l : List α} {a : α} (h1 : ∀ x ∈ l, p x) (h2 : p a) : ∀ x ∈ l.set i a, p x := by
  intro x hx
  rcases List.mem_or_eq_of_mem_set hx with h | h
  · exact h1 x h
  · rw [h]; exact h2
theorem Zi {α : Type} {p : α -> Prop} {c : Bool} {x y : α} (hx : p x) (hy : p y) : p (bif c then x else y) := by cases c; exact hy; exact hx
theorem Z4 {α : Type} {p : α -> Prop} {c : Bool} {x y : α} (hx : c = true -> p x) (hy : c = false -> p y) : p (bif c then x else y) := by cases c; exact hy rfl; exact hx rfl
theorem Rq {α : Type} {F : Nat -> List α -> Nat -> List α} {g : Nat -> α} (h0 : ∀ v i, F 0 v i = [])
    (h1 : ∀ n v i, F (n + 1) v i = bif decide ((i : Int) < (L : Int)) then (bif c i then F n (v ++ [g i]) (i + 1) else F n v (i + 1)) else v) : ∀ n v i, (F n v i).length <= v.length + (L - i) := by
  intro n
  induction n with
  | zero => intro v i; rw [h0]; simp
  | succ n ih =>
    intro v i
    rw [h1]
    by_cases hi : i < L
    · rw [show decide ((i : Int) < (L : Int)) = true by simp [hi], cond_true]
      cases c i with
      | true => have := ih (v ++ [g i]) (i + 1); rw [cond_true]; simp at this; omega
      | false => have := ih v (i + 1); rw [cond_false]; omega
    · rw [show decide ((i : Int) < (L : Int)) = false by simp; omega, cond_false]; omega
theorem Be {α : Type} {F : Nat -> List α -> Nat -> List α} {g : Nat -> α} (h0 : ∀ v i, F 0 v i = [])
    (h1 : ∀ n v i, F (n + 1) v i = bif decide ((i : Int) < (L : Int)) then F n (v ++ [g i]) (i + 1) else v) : ∀ n v i, (F n v i).length <= v.length + (L - i) := by
  intro n
  induction n with
  | zero => intro v i; rw [h0]; simp
  | succ n ih =>
    intro v i
    rw [h1]
    by_cases hi : i < L
    · rw [show decide ((i : Int) < (L : Int)) = true by simp [hi], cond_true]
      have := ih (v ++ [g i]) (i + 1); simp at this; omega
    · rw [show decide ((i : Int) < (L : Int)) = false by simp; omega, cond_false]; omega
theorem K7 {s : ZU} {r : ZZ} (hn : n + 1 <= m) (h : Sm n s) (hr : Sm m r) : Sm m (ZU.mk s.ZJ (s.ZP ++ [r])) := by
  refine ⟨ZM zAA h.1, ⟨?_, fun x hx => ?_⟩⟩
  · have := h.2.1; simp; omega
  · rcases List.mem_append.1 hx with hx | hx
    · exact ZM zAA (h.2.2 x hx)
    · simp at hx; subst hx; exact hr
open Go.Vm
open Go.Vm
theorem Y9 (n : Int) : W n = (n + 9223372036854775808) % 18446744073709551616 - 9223372036854775808 := IntKind.wrap_i64 n
theorem rW {α : Type} [Inhabited α] [DecidableEq α] {a b : List α} (hl : a.length = b.length) (hc : ∀ i, c i = !decide (nth a i = nth b i)) (h0 : ∀ i, F 0 i = .inr ())
    (h1 : ∀ n i, F (n + 1) i = bif decide ((i : Int) < (a.length : Int)) then (bif c i then .inl false else F n (i + 1)) else .inr ()) :
    F (a.length + 1) 0 = if a = b then .inr () else .inl false := by
  have key : ∀ n i, a.length < n + i -> F n i = if a.drop i = b.drop i then .inr () else .inl false := by
    intro n
    induction n with
    | zero =>
      intro i h
      rw [h0, List.drop_eq_nil_of_le zAA, List.drop_eq_nil_of_le zAA, if_pos rfl]
    | succ n ih =>
      intro i h
      rw [h1]
      by_cases hi : i < a.length
      · have hib : i < b.length := zAA
        rw [show decide ((i : Int) < (a.length : Int)) = true by simp [hi], cond_true, hc, List.drop_eq_getElem_cons hi, List.drop_eq_getElem_cons hib, QS hi, QS hib]
        by_cases he : a[i] = b[i]
        · rw [he, show decide (b[i] = b[i]) = true by simp, Bool.not_true, cond_false, ih _ zAA]
          simp only [List.cons.injEq, true_and]
        · rw [show decide (a[i] = b[i]) = false by simp [he], if_neg (fun hh => he (List.cons.inj hh).1)]
          rfl
      · rw [show decide ((i : Int) < (a.length : Int)) = false by simp; omega, cond_false, List.drop_eq_nil_of_le zAA, List.drop_eq_nil_of_le zAA, if_pos rfl]
  have := key (a.length + 1) 0 zAA
  simpa using this
theorem pW {α : Type} [Inhabited α] [DecidableEq α] {a b : List α} (hc : ∀ i, c i = !decide (nth a i = nth b i)) (h0 : ∀ i, F 0 i = .inr ())
    (h1 : ∀ n i, F (n + 1) i = bif decide ((i : Int) < (a.length : Int)) then (bif c i then .inl false else F n (i + 1)) else .inr ()) :
    (bif ((a.length : Int) != (b.length : Int)) then false else (match F (a.length + 1) 0 with | .inl r => r | .inr _ => true)) = decide (a = b) := by
  by_cases hl : a.length = b.length
  · rw [rW hl hc h0 h1]
    simp only [hl, bne_self_eq_false, cond_false]
    by_cases h : a = b <;> simp [h]
  · have lA : a ≠ b := fun h => hl (by rw [h])
    have : ((a.length : Int) != (b.length : Int)) = true := zAk
    rw [this, cond_true]; simp [lA]
open Go.Vm
theorem BA {α : Type} [Inhabited α] [Sz α] {f : α -> List D} {n : Nat} : ∀ {rows : List (List D)}, (∀ r, r ∈ rows -> ∃ x : α, r = f x /\ Sm n x) -> ∃ l : List α, rows = l.map f /\ ∀ x ∈ l, Sm n x
  | [], _ => ⟨[], rfl, fun _ h => by cases h⟩
  | r :: rows, h => by
    obtain ⟨x, hx, sx⟩ := h r zAF
    obtain ⟨l, hl, sl⟩ := BA (rows := rows) (fun r hr => h r zBx)
    refine ⟨x :: l, by simp [hx, hl], fun y hy => ?_⟩
    rcases List.mem_cons.1 hy with rfl | hy
    · exact sx
    · exact sl y hy
open Go.Vm
variable {P : Program} {ts : List TypeId}
theorem wM {t : TypeId} : ∀ {rows : List (List D)}, Eu P n (t :: ts) rows -> ∃ r rs, rows = r :: rs /\ TyR P n t r /\ Eu P n ts rs
  | r :: rs, h => ⟨r, rs, rfl, h.1, h.2⟩
  | [], h => h.elim
theorem vg : ∀ {rows : List (List D)}, Eu P n [] rows -> rows = []
  | [], _ => rfl
  | _ :: _, h => h.elim
open Go.Vm
@[simp] theorem mF (l : List UInt8) : zy l = l.map bR := rfl
@[simp] theorem oX (x : Int) : ((UInt8.ofInt x).toNat : Int) = IntKind.u8.wrap x := by
  rw [IntKind.wrap_u8]
  simp [UInt8.ofInt]
  omega
open Go.Vm
open Go.Vm
@[simp] theorem nL {α : Type} {l : List α} (h : l.length <= n) : List.take n l = l := List.take_of_length_le h
@[simp] theorem su {α β : Type} (f : α -> β) (l : List α) : List.take l.length (List.map f l) = List.map f l := List.take_of_length_le zAF
@[simp] theorem pY (n : Nat) : 1 + n = n + 1 := Nat.add_comm 1 n
@[simp] theorem nV {α β : Type} (f : α -> β) (l : List α) (x y : β) : List.take (2 + l.length) (x :: y :: List.map f l) = x :: y :: List.map f l := List.take_of_length_le zAk
@[simp] theorem nO {α β : Type} (f : α -> β) (l : List α) (x y z : β) : List.take (3 + l.length) (x :: y :: z :: List.map f l) = x :: y :: z :: List.map f l := List.take_of_length_le zAk
@[simp] theorem nR {α β : Type} (f : α -> β) (l : List α) (x y z u : β) : List.take (4 + l.length) (x :: y :: z :: u :: List.map f l) = x :: y :: z :: u :: List.map f l := List.take_of_length_le zAk
@[simp] theorem nN {α β : Type} (f : α -> β) (l : List α) (x y z u v : β) : List.take (5 + l.length) (x :: y :: z :: u :: v :: List.map f l) = x :: y :: z :: u :: v :: List.map f l := List.take_of_length_le zAk
@[simp] theorem nP {α β : Type} (f : α -> β) (l : List α) (x y z u v w : β) : List.take (6 + l.length) (x :: y :: z :: u :: v :: w :: List.map f l) = x :: y :: z :: u :: v :: w :: List.map f l := List.take_of_length_le zAk
theorem LJ (n : Nat) (h : n <= 9223372036854775807) : W ((n : Int) - 1) = (n : Int) - 1 := YN zAA zAA
@[simp] theorem nT (a : Array UInt8) : (ByteArray.mk a).size = a.size := rfl
@[simp] theorem o5 {α : Type} {l : List α} {x : α} {v : Nat} (h : l.length = n) : List.take (min v n + 1 + (n - v)) (List.take v l ++ x :: List.drop v l) = List.take v l ++ x :: List.drop v l := by
  apply List.take_of_length_le; simp; omega
@[simp] theorem nQ (a b : Nat) : (min a b + 1 + (b - a) = min a b + (b - a + 1)) = True := zAk
theorem PD {α : Type} [Inhabited α] [Sz α] {l : List α} {x : α} (h : Sm n l) (hx : Sm n x) : Sm n (l.set i x) :=
  ⟨by simpa using h.1, fun y hy => by
    rcases List.mem_or_eq_of_mem_set hy with hy | rfl
    · exact h.2 y hy
    · exact hx⟩
theorem w6 {α : Type} (a b : α) : cond true a b = a /\ cond false a b = b := ⟨rfl, rfl⟩
theorem Xd {α : Type} (a b : α) : cond true a b = a := (w6 a b).1
theorem Xa {α : Type} (a b : α) : cond false a b = b := (w6 a b).2
/-- a side condition that is found by itself -/
theorem bf {a : Bool} {c : Prop} (h : a = true -> c) : a = false \/ c := by cases a with | false => exact .inl rfl | true => exact .inr (h rfl)
theorem sd (h : b) (k : a := by (intros; first | omega | exact ⟨by assumption, fun k => ⟨by assumption, k⟩⟩ | exact bf (by assumption) | (simp only [decide_eq_true_eq, decide_eq_false_iff_not, beq_iff_eq, beq_eq_false_iff_ne, bne_iff_ne, ne_eq, Bool.or_eq_false_iff, Bool.or_eq_true, Bool.and_eq_true, Bool.not_eq_true', Bool.not_eq_false'] at *; omega) | ((try simp only [Go.Mo.Y9, show ∀ x, Go.IntKind.i64.wrap x = Go.Vm.W x from fun _ => rfl] at *); omega) | exact List.ne_nil_of_length_pos (by assumption))) : a /\ b := ⟨k, h⟩
theorem sdg (h : b) (k : a := by (intros; first | omega | (simp_all; done) | (simp_all; omega) | grind | ((try simp only [Go.Mo.Y9, show ∀ x, Go.IntKind.i64.wrap x = Go.Vm.W x from fun _ => rfl] at *); omega))) : a /\ b := ⟨k, h⟩
theorem il {a b : Nat} (h : a < b := by first | omega | (simp only [decide_eq_true_eq, decide_eq_false_iff_not, beq_iff_eq, beq_eq_false_iff_ne, bne_iff_ne, ne_eq, Bool.or_eq_false_iff, Bool.not_eq_true', Bool.not_eq_false'] at *; omega) | (simp_all [List.length_pos_iff]; done) | (simp; omega) | (simp_all; omega) | ((try simp only [Go.Mo.Y9, show ∀ x, Go.IntKind.i64.wrap x = Go.Vm.W x from fun _ => rfl] at *); omega) | (simp; (try simp only [Go.Mo.Y9, show ∀ x, Go.IntKind.i64.wrap x = Go.Vm.W x from fun _ => rfl] at *); omega)) : a < b := h
theorem ik {α : Type} (a : Nat) (l : List α) (h : a < l.length := by first | omega | (simp only [decide_eq_true_eq, decide_eq_false_iff_not, beq_iff_eq, beq_eq_false_iff_ne, bne_iff_ne, ne_eq, Bool.or_eq_false_iff, Bool.not_eq_true', Bool.not_eq_false'] at *; omega) | (simp_all [List.length_pos_iff]; done) | (simp; omega) | (simp_all; omega) | ((try simp only [Go.Mo.Y9, show ∀ x, Go.IntKind.i64.wrap x = Go.Vm.W x from fun _ => rfl] at *); omega) | (simp; (try simp only [Go.Mo.Y9, show ∀ x, Go.IntKind.i64.wrap x = Go.Vm.W x from fun _ => rfl] at *); omega)) : a < l.length := h
theorem sl {α : Type} [Inhabited α] [Sz α] (n : Nat) (l : List α) (u : q) (h : q -> Sm n l := by (intro u; simp (maxDischargeDepth := 12) [u])) : l.length <= n := YS (h u)
theorem sg {α : Type} [Inhabited α] [Sz α] {x : α} (h : Sm n x) (k : n <= m := by decide) : Sm m x := ZM k h
theorem PQ {α : Type} [Inhabited α] {l : List α} (h : i < l.length) : l.drop i = Vm.nth l i :: l.drop (i + 1) := by
  rw [List.drop_eq_getElem_cons h]; simp [Vm.nth, List.getD_eq_getElem?_getD, List.getElem?_eq_getElem h]
theorem El {α : Type} [Inhabited α] (c : α -> Nat) {l : List α} (h : i < l.length) : cnL c (l.drop i) = c (Vm.nth l i) + cnL c (l.drop (i + 1)) := by rw [PQ h]; rfl
theorem BN {α β : Type} (f : α -> List β) : ∀ l : List α, (l.flatMap f).length = cnL (fun x => (f x).length) l
  | [] => rfl
  | x :: l => by simp only [List.flatMap_cons, List.length_append, cnL, BN f l]
theorem R3 {α β : Type} [Inhabited α] {as : List α} (f : α -> List β) {F : Nat -> Nat -> List β -> List β} (h1 : ∀ n i l, F (n + 1) i l = bif decide ((i : Int) < (as.length : Int)) then F n (i + 1) (l ++ f (Vm.nth as i)) else l) : ∀ n i l, as.length < n + i -> i <= as.length -> F n i l = l ++ (as.drop i).flatMap f
  | 0, i, l, h, h2 => zAA
  | n + 1, i, l, h, h2 => by
    rw [h1]
    by_cases hi : i < as.length
    · rw [show decide ((i : Int) < (as.length : Int)) = true by simpa using hi, Xd, R3 f h1 n (i + 1) _ zAA hi, PQ hi]; simp
    · rw [show decide ((i : Int) < (as.length : Int)) = false by simpa using hi, Xa, List.drop_eq_nil_of_le zAA]; simp
theorem GY {α β : Type} (f : α -> β) : ∀ l : List α, l.flatMap (fun a => [f a]) = l.map f
  | [] => rfl
  | x :: l => by rw [List.flatMap_cons, GY f l]; rfl
theorem pg (h : ∀ x ∈ l, x.size <= m) (i : Nat) : (Vm.nth l i).size <= m := by
  by_cases hi : i < l.length
  · rw [show Vm.nth l i = l[i] by simp [Vm.nth, List.getD_eq_getElem?_getD, List.getElem?_eq_getElem hi]]; exact h _ (List.getElem_mem hi)
  · rw [show Vm.nth l i = default by simp [Vm.nth, List.getD_eq_getElem?_getD, List.getElem?_eq_none (Nat.le_of_not_lt hi)]]; exact Nat.zero_le _
theorem MC {α : Type} {p : α -> Prop} {l m : List α} (h : ∀ x ∈ l, p x) (k : ∀ x ∈ m, p x) : ∀ x ∈ l ++ m, p x := fun x hx => (List.mem_append.1 hx).elim (h x) (k x)
theorem all_cons {α : Type} {p : α -> Prop} {a : α} {l : List α} (h : p a) (k : ∀ x ∈ l, p x) : ∀ x ∈ a :: l, p x := fun x hx => (List.mem_cons.1 hx).elim (fun e => e ▸ h) (k x)
theorem all_nil {α : Type} {p : α -> Prop} : ∀ x ∈ ([] : List α), p x := fun x hx => zBp
end Go.Mo
