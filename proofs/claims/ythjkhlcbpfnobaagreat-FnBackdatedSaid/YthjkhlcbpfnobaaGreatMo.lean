/- The plain data of the program, typed, and mS they read as rows of the abstract machine. No condition. -/
import Derived.Test.YthjkhlcbpfnobaaGreatVe
import Derived.Laws.BitsLemmas
namespace Go.Mo
open Go.Vm
@[simp] def iR (n : Int) : List Vm.D := [.int .i64 n]
@[simp] def bR (b : UInt8) : List Vm.D := [.int .u8 (b.toNat : Int)]
@[simp] def lR (b : Bool) : List Vm.D := [.bool b]
@[simp] def sR (s : ByteArray) : List Vm.D := [.str s]
@[simp] def slR {α : Type} (n : Nat) (f : α -> List D) (m : List α) : List Vm.D := [.sl n (m.map f)]
/-- everything in it is at most so long -/
class Sz (α : Type) [Inhabited α] where
  sm : Nat -> α -> Prop
  zero : ∀ n, sm n default
  mono : ∀ {n m : Nat} {x : α}, n <= m -> sm n x -> sm m x
/-- mS many marks it takes -/
class Cn (α : Type) where
  cn : α -> Nat
abbrev cn {α : Type} [Cn α] (x : α) : Nat := Cn.cn x
def cnL {α : Type} (c : α -> Nat) : List α -> Nat
  | [] => 0
  | x :: l => c x + cnL c l
instance : Cn Int := ⟨fun _ => 1⟩
instance : Cn Bool := ⟨fun _ => 1⟩
instance : Cn UInt8 := ⟨fun _ => 1⟩
instance : Cn ByteArray := ⟨fun _ => 1⟩
instance {α : Type} [Cn α] : Cn (List α) := ⟨cnL Cn.cn⟩
abbrev Sm {α : Type} [Inhabited α] [Sz α] (n : Nat) (x : α) : Prop := Sz.sm n x
instance : Sz Int := ⟨fun _ _ => True, fun _ => trivial, fun _ h => h⟩
instance : Sz Bool := ⟨fun _ _ => True, fun _ => trivial, fun _ h => h⟩
instance : Sz UInt8 := ⟨fun _ _ => True, fun _ => trivial, fun _ h => h⟩
instance : Sz ByteArray := ⟨fun n s => s.size <= n, fun _ => Nat.zero_le _, fun h k => Nat.le_trans k h⟩
instance {α : Type} [Inhabited α] [Sz α] : Sz (List α) := ⟨fun n l => l.length <= n /\ ∀ x ∈ l, Sz.sm n x, fun _ => ⟨Nat.zero_le _, fun _ h => by cases h⟩, fun h k => ⟨Nat.le_trans k.1 h, fun x hx => Sz.mono h (k.2 x hx)⟩⟩
theorem Xo {α : Type} [Inhabited α] [Sz α] {n : Nat} {l : List α} : Sm n l = (l.length <= n /\ ∀ x ∈ l, Sm n x) := rfl
theorem XN {α : Type} [Inhabited α] [Sz α] {n : Nat} {l : List α} (h : Sm n l) : l.length <= n := h.1
theorem EG {n : Nat} {s : ByteArray} (h : Sm n s) : s.size <= n := h
@[simp] theorem s3 {n : Nat} {x : Int} : Sm n x := trivial
@[simp] theorem sX {n : Nat} {x : Bool} : Sm n x := trivial
@[simp] theorem rf {n : Nat} {x : UInt8} : Sm n x := trivial
@[simp] theorem Ph {α : Type} [Inhabited α] [Sz α] {n : Nat} : Sm n ([] : List α) := ⟨Nat.zero_le _, fun _ h => by cases h⟩
@[simp] theorem Z4 {α : Type} [Inhabited α] [Sz α] {n i : Nat} {l : List α} (h : Sm n l) : Sm n (nth l i) := by
  unfold nth
  rw [List.getD_eq_getElem?_getD]
  cases hh : l[i]? with
  | none => exact Sz.zero n
  | some x => exact h.2 x (List.mem_of_getElem? hh)
@[simp] theorem sf {α : Type} [Inhabited α] [Sz α] {n i : Nat} {l : List α} (h : Sm n l) : Sm n (l.take i) := ⟨Nat.le_trans (by simp; omega) h.1, fun x hx => h.2 x (List.mem_of_mem_take hx)⟩
@[simp] theorem sc {α : Type} [Inhabited α] [Sz α] {n i : Nat} {l : List α} (h : Sm n l) : Sm n (l.drop i) := ⟨Nat.le_trans (by simp) h.1, fun x hx => h.2 x (List.mem_of_mem_drop hx)⟩
theorem xB {α : Type} [Inhabited α] [Sz α] {n : Nat} {l m : List α} : Sm n (l ++ m) = (l.length + m.length <= n /\ (∀ x ∈ l, Sm n x) /\ ∀ x ∈ m, Sm n x) := by
  rw [Xo]; simp [or_imp, forall_and]
theorem Za {α : Type} [Inhabited α] [Sz α] {n m : Nat} {x : α} (h : n <= m) (k : Sm n x) : Sm m x := Sz.mono h k
structure Zf where
  Authority : Int
  Seq : Int
  Time : Int
  Yt : Int
  Mark : Int
  deriving Inhabited, DecidableEq
@[simp] def Zf.row (x : Zf) : List Vm.D := [.int .i64 x.Authority, .int .i64 x.Seq, .int .i64 x.Time, .int .i64 x.Yt, .int .i64 x.Mark]
instance : Cn Zf := ⟨fun x => cn x.Authority + cn x.Seq + cn x.Time + cn x.Yt + cn x.Mark⟩
instance : Sz Zf := ⟨fun _ _ => True, fun _ => trivial, fun _ h => h⟩
@[simp] theorem Zf.Uk {n : Nat} {x : Zf} : Sm n x := trivial
structure Xq where
  Yt : Int
  Left : Bool
  deriving Inhabited, DecidableEq
@[simp] def Xq.row (x : Xq) : List Vm.D := [.int .i64 x.Yt, .bool x.Left]
instance : Cn Xq := ⟨fun x => cn x.Yt + cn x.Left⟩
instance : Sz Xq := ⟨fun _ _ => True, fun _ => trivial, fun _ h => h⟩
@[simp] theorem Xq.Uk {n : Nat} {x : Xq} : Sm n x := trivial
structure ZV where
  Count : Int
  Method : Int
  H2 : Int
  Path : List Xq
  YI : List Zf
  deriving Inhabited, DecidableEq
@[simp] def ZV.row (x : ZV) : List Vm.D := [.int .i64 x.Count, .int .i64 x.Method, .int .i64 x.H2, .sl 2 (x.Path.map Xq.row), .sl 5 (x.YI.map Zf.row)]
instance : Cn ZV := ⟨fun x => cn x.Count + cn x.Method + cn x.H2 + cn x.Path + cn x.YI⟩
instance : Sz ZV := ⟨fun n x => Sm n x.Path /\ Sm n x.YI, fun n => ⟨Sz.zero n, Sz.zero n⟩, fun h k => ⟨Sz.mono h k.1, Sz.mono h k.2⟩⟩
@[simp] theorem ZV.sZ {n : Nat} {x : ZV} (h : Sm n x) : Sm n x.Path := h.1
@[simp] theorem ZV.G1 {n : Nat} {x : ZV} (h : Sm n x) : Sm n x.YI := h.2
@[simp] theorem ZV.Vw {n : Nat} {fv : Int} {gx : Int} {dh : Int} {fI : List Xq} {iP : List Zf} : Sm n (ZV.mk fv gx dh fI iP) = (Sm n fI /\ Sm n iP) := rfl
structure Yp where
  Number : Int
  Kr : Int
  Method : Int
  qK : Int
  jc : Int
  deriving Inhabited, DecidableEq
@[simp] def Yp.row (x : Yp) : List Vm.D := [.int .i64 x.Number, .int .i64 x.Kr, .int .i64 x.Method, .int .i64 x.qK, .int .i64 x.jc]
instance : Cn Yp := ⟨fun x => cn x.Number + cn x.Kr + cn x.Method + cn x.qK + cn x.jc⟩
instance : Sz Yp := ⟨fun _ _ => True, fun _ => trivial, fun _ h => h⟩
@[simp] theorem Yp.Uk {n : Nat} {x : Yp} : Sm n x := trivial
structure Zg where
  Id : Int
  Key : Int
  Error : Int
  deriving Inhabited, DecidableEq
@[simp] def Zg.row (x : Zg) : List Vm.D := [.int .i64 x.Id, .int .i64 x.Key, .int .i64 x.Error]
instance : Cn Zg := ⟨fun x => cn x.Id + cn x.Key + cn x.Error⟩
instance : Sz Zg := ⟨fun _ _ => True, fun _ => trivial, fun _ h => h⟩
@[simp] theorem Zg.Uk {n : Nat} {x : Zg} : Sm n x := trivial
structure Z5 where
  Id : Int
  Vp : Int
  Ends : Int
  jO : Int
  deriving Inhabited, DecidableEq
@[simp] def Z5.row (x : Z5) : List Vm.D := [.int .i64 x.Id, .int .i64 x.Vp, .int .i64 x.Ends, .int .i64 x.jO]
instance : Cn Z5 := ⟨fun x => cn x.Id + cn x.Vp + cn x.Ends + cn x.jO⟩
instance : Sz Z5 := ⟨fun _ _ => True, fun _ => trivial, fun _ h => h⟩
@[simp] theorem Z5.Uk {n : Nat} {x : Z5} : Sm n x := trivial
structure ZW where
  Zo : List Yp
  ZC : List Zg
  Methods : List Z5
  X8 : Int
  Now : Int
  deriving Inhabited, DecidableEq
@[simp] def ZW.row (x : ZW) : List Vm.D := [.sl 5 (x.Zo.map Yp.row), .sl 3 (x.ZC.map Zg.row), .sl 4 (x.Methods.map Z5.row), .int .i64 x.X8, .int .i64 x.Now]
instance : Cn ZW := ⟨fun x => cn x.Zo + cn x.ZC + cn x.Methods + cn x.X8 + cn x.Now⟩
instance : Sz ZW := ⟨fun n x => Sm n x.Zo /\ Sm n x.ZC /\ Sm n x.Methods, fun n => ⟨Sz.zero n, Sz.zero n, Sz.zero n⟩, fun h k => ⟨Sz.mono h k.1, Sz.mono h k.2.1, Sz.mono h k.2.2⟩⟩
@[simp] theorem ZW.XY {n : Nat} {x : ZW} (h : Sm n x) : Sm n x.Zo := h.1
@[simp] theorem ZW.XH {n : Nat} {x : ZW} (h : Sm n x) : Sm n x.ZC := h.2.1
@[simp] theorem ZW.Xm {n : Nat} {x : ZW} (h : Sm n x) : Sm n x.Methods := h.2.2
@[simp] theorem ZW.Vw {n : Nat} {fJ : List Yp} {nk : List Zg} {nQ : List Z5} {fx : Int} {aC : Int} : Sm n (ZW.mk fJ nk nQ fx aC) = (Sm n fJ /\ Sm n nk /\ Sm n nQ) := rfl
structure Yb where
  Zn : Int
  Key : Int
  Kr : Int
  X0 : Int
  To : Int
  Z6 : Int
  Mark : Int
  deriving Inhabited, DecidableEq
@[simp] def Yb.row (x : Yb) : List Vm.D := [.int .i64 x.Zn, .int .i64 x.Key, .int .i64 x.Kr, .int .i64 x.X0, .int .i64 x.To, .int .i64 x.Z6, .int .i64 x.Mark]
instance : Cn Yb := ⟨fun x => cn x.Zn + cn x.Key + cn x.Kr + cn x.X0 + cn x.To + cn x.Z6 + cn x.Mark⟩
instance : Sz Yb := ⟨fun _ _ => True, fun _ => trivial, fun _ h => h⟩
@[simp] theorem Yb.Uk {n : Nat} {x : Yb} : Sm n x := trivial
structure Ze where
  WB : Int
  XJ : List ByteArray
  Qs : List Int
  deriving Inhabited, DecidableEq
@[simp] def Ze.row (x : Ze) : List Vm.D := [.int .i64 x.WB, .sl 1 (x.XJ.map sR), .sl 1 (x.Qs.map iR)]
instance : Cn Ze := ⟨fun x => cn x.WB + cn x.XJ + cn x.Qs⟩
instance : Sz Ze := ⟨fun n x => Sm n x.XJ /\ Sm n x.Qs, fun n => ⟨Sz.zero n, Sz.zero n⟩, fun h k => ⟨Sz.mono h k.1, Sz.mono h k.2⟩⟩
@[simp] theorem Ze.Ij {n : Nat} {x : Ze} (h : Sm n x) : Sm n x.XJ := h.1
@[simp] theorem Ze.CX {n : Nat} {x : Ze} (h : Sm n x) : Sm n x.Qs := h.2
@[simp] theorem Ze.Vw {n : Nat} {iD : Int} {mP : List ByteArray} {mQ : List Int} : Sm n (Ze.mk iD mP mQ) = (Sm n mP /\ Sm n mQ) := rfl
structure Zq where
  Key : Int
  Zn : Int
  Method : Int
  Yt : Int
  xU : Int
  Org : Int
  xQ : Int
  qX : Int
  Mark : Int
  deriving Inhabited, DecidableEq
@[simp] def Zq.row (x : Zq) : List Vm.D := [.int .i64 x.Key, .int .i64 x.Zn, .int .i64 x.Method, .int .i64 x.Yt, .int .i64 x.xU, .int .i64 x.Org, .int .i64 x.xQ, .int .i64 x.qX, .int .i64 x.Mark]
instance : Cn Zq := ⟨fun x => cn x.Key + cn x.Zn + cn x.Method + cn x.Yt + cn x.xU + cn x.Org + cn x.xQ + cn x.qX + cn x.Mark⟩
instance : Sz Zq := ⟨fun _ _ => True, fun _ => trivial, fun _ h => h⟩
@[simp] theorem Zq.Uk {n : Nat} {x : Zq} : Sm n x := trivial
structure ZS where
  Key : Int
  YV : List Int
  Mark : Int
  deriving Inhabited, DecidableEq
@[simp] def ZS.row (x : ZS) : List Vm.D := [.int .i64 x.Key, .sl 1 (x.YV.map iR), .int .i64 x.Mark]
instance : Cn ZS := ⟨fun x => cn x.Key + cn x.YV + cn x.Mark⟩
instance : Sz ZS := ⟨fun n x => Sm n x.YV, fun n => Sz.zero n, fun h k => Sz.mono h k⟩
@[simp] theorem ZS.TQ {n : Nat} {x : ZS} (h : Sm n x) : Sm n x.YV := h
@[simp] theorem ZS.Vw {n : Nat} {aD : Int} {fK : List Int} {di : Int} : Sm n (ZS.mk aD fK di) = (Sm n fK) := rfl
structure ZQ where
  ZM : List ZS
  ZR : List ZV
  deriving Inhabited, DecidableEq
@[simp] def ZQ.row (x : ZQ) : List Vm.D := [.sl 3 (x.ZM.map ZS.row), .sl 5 (x.ZR.map ZV.row)]
instance : Cn ZQ := ⟨fun x => cn x.ZM + cn x.ZR⟩
instance : Sz ZQ := ⟨fun n x => Sm n x.ZM /\ Sm n x.ZR, fun n => ⟨Sz.zero n, Sz.zero n⟩, fun h k => ⟨Sz.mono h k.1, Sz.mono h k.2⟩⟩
@[simp] theorem ZQ.QB {n : Nat} {x : ZQ} (h : Sm n x) : Sm n x.ZM := h.1
@[simp] theorem ZQ.yq {n : Nat} {x : ZQ} (h : Sm n x) : Sm n x.ZR := h.2
@[simp] theorem ZQ.Vw {n : Nat} {iQ : List ZS} {gE : List ZV} : Sm n (ZQ.mk iQ gE) = (Sm n iQ /\ Sm n gE) := rfl
structure Zj where
  Id : Int
  XI : Int
  Doc : Ze
  Sig : Zq
  ZP : ZQ
  deriving Inhabited, DecidableEq
@[simp] def Zj.row (x : Zj) : List Vm.D := [.int .i64 x.Id, .int .i64 x.XI, .int .i64 x.Doc.WB, .sl 1 (x.Doc.XJ.map sR), .sl 1 (x.Doc.Qs.map iR), .int .i64 x.Sig.Key, .int .i64 x.Sig.Zn, .int .i64 x.Sig.Method, .int .i64 x.Sig.Yt, .int .i64 x.Sig.xU, .int .i64 x.Sig.Org, .int .i64 x.Sig.xQ, .int .i64 x.Sig.qX, .int .i64 x.Sig.Mark, .sl 3 (x.ZP.ZM.map ZS.row), .sl 5 (x.ZP.ZR.map ZV.row)]
instance : Cn Zj := ⟨fun x => cn x.Id + cn x.XI + cn x.Doc + cn x.Sig + cn x.ZP⟩
instance : Sz Zj := ⟨fun n x => Sm n x.Doc /\ Sm n x.ZP, fun n => ⟨Sz.zero n, Sz.zero n⟩, fun h k => ⟨Sz.mono h k.1, Sz.mono h k.2⟩⟩
@[simp] theorem Zj.W7 {n : Nat} {x : Zj} (h : Sm n x) : Sm n x.Doc := h.1
@[simp] theorem Zj.XS {n : Nat} {x : Zj} (h : Sm n x) : Sm n x.ZP := h.2
@[simp] theorem Zj.Vw {n : Nat} {aE : Int} {dk : Int} {gF : Ze} {aF : Zq} {iS : ZQ} : Sm n (Zj.mk aE dk gF aF iS) = (Sm n gF /\ Sm n iS) := rfl
structure ZJ where
  Id : Int
  ZD : List Zj
  deriving Inhabited, DecidableEq
@[simp] def ZJ.row (x : ZJ) : List Vm.D := [.int .i64 x.Id, .sl 16 (x.ZD.map Zj.row)]
instance : Cn ZJ := ⟨fun x => cn x.Id + cn x.ZD⟩
instance : Sz ZJ := ⟨fun n x => Sm n x.ZD, fun n => Sz.zero n, fun h k => Sz.mono h k⟩
@[simp] theorem ZJ.XQ {n : Nat} {x : ZJ} (h : Sm n x) : Sm n x.ZD := h
@[simp] theorem ZJ.Vw {n : Nat} {aE : Int} {mR : List Zj} : Sm n (ZJ.mk aE mR) = (Sm n mR) := rfl
structure ZG where
  Frame : ZW
  ZZ : List Yb
  YQ : List Int
  ZB : List ZJ
  YZ : List Int
  YR : List Int
  Next : Int
  YK : List Int
  deriving Inhabited, DecidableEq
@[simp] def ZG.row (x : ZG) : List Vm.D := [.sl 5 (x.Frame.Zo.map Yp.row), .sl 3 (x.Frame.ZC.map Zg.row), .sl 4 (x.Frame.Methods.map Z5.row), .int .i64 x.Frame.X8, .int .i64 x.Frame.Now, .sl 7 (x.ZZ.map Yb.row), .sl 1 (x.YQ.map iR), .sl 2 (x.ZB.map ZJ.row), .sl 1 (x.YZ.map iR), .sl 1 (x.YR.map iR), .int .i64 x.Next, .sl 1 (x.YK.map iR)]
instance : Cn ZG := ⟨fun x => cn x.Frame + cn x.ZZ + cn x.YQ + cn x.ZB + cn x.YZ + cn x.YR + cn x.Next + cn x.YK⟩
instance : Sz ZG := ⟨fun n x => Sm n x.Frame /\ Sm n x.ZZ /\ Sm n x.YQ /\ Sm n x.ZB /\ Sm n x.YZ /\ Sm n x.YR /\ Sm n x.YK, fun n => ⟨Sz.zero n, Sz.zero n, Sz.zero n, Sz.zero n, Sz.zero n, Sz.zero n, Sz.zero n⟩, fun h k => ⟨Sz.mono h k.1, Sz.mono h k.2.1, Sz.mono h k.2.2.1, Sz.mono h k.2.2.2.1, Sz.mono h k.2.2.2.2.1, Sz.mono h k.2.2.2.2.2.1, Sz.mono h k.2.2.2.2.2.2⟩⟩
@[simp] theorem ZG.Xk {n : Nat} {x : ZG} (h : Sm n x) : Sm n x.Frame := h.1
@[simp] theorem ZG.tn {n : Nat} {x : ZG} (h : Sm n x) : Sm n x.ZZ := h.2.1
@[simp] theorem ZG.wT {n : Nat} {x : ZG} (h : Sm n x) : Sm n x.YQ := h.2.2.1
@[simp] theorem ZG.Yq {n : Nat} {x : ZG} (h : Sm n x) : Sm n x.ZB := h.2.2.2.1
@[simp] theorem ZG.BW {n : Nat} {x : ZG} (h : Sm n x) : Sm n x.YZ := h.2.2.2.2.1
@[simp] theorem ZG.wy {n : Nat} {x : ZG} (h : Sm n x) : Sm n x.YR := h.2.2.2.2.2.1
@[simp] theorem ZG.FI {n : Nat} {x : ZG} (h : Sm n x) : Sm n x.YK := h.2.2.2.2.2.2
@[simp] theorem ZG.Vw {n : Nat} {gG : ZW} {gH : List Yb} {gI : List Int} {lA : List ZJ} {fL : List Int} {gJ : List Int} {dm : Int} {iT : List Int} : Sm n (ZG.mk gG gH gI lA fL gJ dm iT) = (Sm n gG /\ Sm n gH /\ Sm n gI /\ Sm n lA /\ Sm n fL /\ Sm n gJ /\ Sm n iT) := rfl
structure Ul where
  Kind : Int
  A : Int
  B : Int
  C : Int
  D : Int
  Doc : Ze
  Ids : List Int
  deriving Inhabited, DecidableEq
@[simp] def Ul.row (x : Ul) : List Vm.D := [.int .i64 x.Kind, .int .i64 x.A, .int .i64 x.B, .int .i64 x.C, .int .i64 x.D, .int .i64 x.Doc.WB, .sl 1 (x.Doc.XJ.map sR), .sl 1 (x.Doc.Qs.map iR), .sl 1 (x.Ids.map iR)]
instance : Cn Ul := ⟨fun x => cn x.Kind + cn x.A + cn x.B + cn x.C + cn x.D + cn x.Doc + cn x.Ids⟩
instance : Sz Ul := ⟨fun n x => Sm n x.Doc /\ Sm n x.Ids, fun n => ⟨Sz.zero n, Sz.zero n⟩, fun h k => ⟨Sz.mono h k.1, Sz.mono h k.2⟩⟩
@[simp] theorem Ul.W7 {n : Nat} {x : Ul} (h : Sm n x) : Sm n x.Doc := h.1
@[simp] theorem Ul.rA {n : Nat} {x : Ul} (h : Sm n x) : Sm n x.Ids := h.2
@[simp] theorem Ul.Vw {n : Nat} {dn : Int} {A' : Int} {B' : Int} {C' : Int} {D' : Int} {gF : Ze} {dq : List Int} : Sm n (Ul.mk dn A' B' C' D' gF dq) = (Sm n gF /\ Sm n dq) := rfl
structure Zl where
  X0 : Int
  To : Int
  deriving Inhabited, DecidableEq
@[simp] def Zl.row (x : Zl) : List Vm.D := [.int .i64 x.X0, .int .i64 x.To]
instance : Cn Zl := ⟨fun x => cn x.X0 + cn x.To⟩
instance : Sz Zl := ⟨fun _ _ => True, fun _ => trivial, fun _ h => h⟩
@[simp] theorem Zl.Uk {n : Nat} {x : Zl} : Sm n x := trivial
structure Jy where
  Code : Int
  Reason : Int
  Span : Zl
  deriving Inhabited, DecidableEq
@[simp] def Jy.row (x : Jy) : List Vm.D := [.int .i64 x.Code, .int .i64 x.Reason, .int .i64 x.Span.X0, .int .i64 x.Span.To]
instance : Cn Jy := ⟨fun x => cn x.Code + cn x.Reason + cn x.Span⟩
instance : Sz Jy := ⟨fun _ _ => True, fun _ => trivial, fun _ h => h⟩
@[simp] theorem Jy.Uk {n : Nat} {x : Jy} : Sm n x := trivial
structure JS where
  WB : Int
  Methods : List Int
  Shown : List Bool
  XJ : List ByteArray
  Qs : List Int
  Lk : List (List Int)
  deriving Inhabited, DecidableEq
@[simp] def JS.row (x : JS) : List Vm.D := [.int .i64 x.WB, .sl 1 (x.Methods.map iR), .sl 1 (x.Shown.map lR), .sl 1 (x.XJ.map sR), .sl 1 (x.Qs.map iR), .sl 1 (x.Lk.map (slR 1 iR))]
instance : Cn JS := ⟨fun x => cn x.WB + cn x.Methods + cn x.Shown + cn x.XJ + cn x.Qs + cn x.Lk⟩
instance : Sz JS := ⟨fun n x => Sm n x.Methods /\ Sm n x.Shown /\ Sm n x.XJ /\ Sm n x.Qs /\ Sm n x.Lk, fun n => ⟨Sz.zero n, Sz.zero n, Sz.zero n, Sz.zero n, Sz.zero n⟩, fun h k => ⟨Sz.mono h k.1, Sz.mono h k.2.1, Sz.mono h k.2.2.1, Sz.mono h k.2.2.2.1, Sz.mono h k.2.2.2.2⟩⟩
@[simp] theorem JS.Xm {n : Nat} {x : JS} (h : Sm n x) : Sm n x.Methods := h.1
@[simp] theorem JS.tv {n : Nat} {x : JS} (h : Sm n x) : Sm n x.Shown := h.2.1
@[simp] theorem JS.Ij {n : Nat} {x : JS} (h : Sm n x) : Sm n x.XJ := h.2.2.1
@[simp] theorem JS.CX {n : Nat} {x : JS} (h : Sm n x) : Sm n x.Qs := h.2.2.2.1
@[simp] theorem JS.u6 {n : Nat} {x : JS} (h : Sm n x) : Sm n x.Lk := h.2.2.2.2
@[simp] theorem JS.Vw {n : Nat} {iD : Int} {nQ : List Int} {gL : List Bool} {mP : List ByteArray} {mQ : List Int} {lW : List (List Int)} : Sm n (JS.mk iD nQ gL mP mQ lW) = (Sm n nQ /\ Sm n gL /\ Sm n mP /\ Sm n mQ /\ Sm n lW) := rfl
structure Zz where
  Zx : List ZQ
  Y1 : List (List Zf)
  deriving Inhabited, DecidableEq
@[simp] def Zz.row (x : Zz) : List Vm.D := [.sl 2 (x.Zx.map ZQ.row), .sl 1 (x.Y1.map (slR 5 Zf.row))]
instance : Cn Zz := ⟨fun x => cn x.Zx + cn x.Y1⟩
instance : Sz Zz := ⟨fun n x => Sm n x.Zx /\ Sm n x.Y1, fun n => ⟨Sz.zero n, Sz.zero n⟩, fun h k => ⟨Sz.mono h k.1, Sz.mono h k.2⟩⟩
@[simp] theorem Zz.QE {n : Nat} {x : Zz} (h : Sm n x) : Sm n x.Zx := h.1
@[simp] theorem Zz.OL {n : Nat} {x : Zz} (h : Sm n x) : Sm n x.Y1 := h.2
@[simp] theorem Zz.Vw {n : Nat} {lX : List ZQ} {gM : List (List Zf)} : Sm n (Zz.mk lX gM) = (Sm n lX /\ Sm n gM) := rfl
structure Zr where
  Zn : Int
  Ru : Int
  YQ : Int
  Z6 : Int
  Mark : Int
  deriving Inhabited, DecidableEq
@[simp] def Zr.row (x : Zr) : List Vm.D := [.int .i64 x.Zn, .int .i64 x.Ru, .int .i64 x.YQ, .int .i64 x.Z6, .int .i64 x.Mark]
instance : Cn Zr := ⟨fun x => cn x.Zn + cn x.Ru + cn x.YQ + cn x.Z6 + cn x.Mark⟩
instance : Sz Zr := ⟨fun _ _ => True, fun _ => trivial, fun _ h => h⟩
@[simp] theorem Zr.Uk {n : Nat} {x : Zr} : Sm n x := trivial
structure ZU where
  b : List UInt8
  i : Nat
  h : Int
  deriving Inhabited, DecidableEq
@[simp] def ZU.row (x : ZU) : List Vm.D := [.sl 1 (x.b.map bR), .int .i64 (x.i : Int), .int .i64 x.h]
instance : Sz ZU := ⟨fun n x => Sm n x.b, fun n => Sz.zero n, fun h k => Sz.mono h k⟩
@[simp] theorem ZU.rl {n : Nat} {x : ZU} (h : Sm n x) : Sm n x.b := h
@[simp] theorem ZU.Vw {n : Nat} {b' : List UInt8} {i' : Nat} {h' : Int} : Sm n (ZU.mk b' i' h') = (Sm n b') := rfl
structure UO where
  X0 : Int
  To : Int
  ZD : List Zj
  Yt : Int
  deriving Inhabited, DecidableEq
@[simp] def UO.row (x : UO) : List Vm.D := [.int .i64 x.X0, .int .i64 x.To, .sl 16 (x.ZD.map Zj.row), .int .i64 x.Yt]
instance : Cn UO := ⟨fun x => cn x.X0 + cn x.To + cn x.ZD + cn x.Yt⟩
instance : Sz UO := ⟨fun n x => Sm n x.ZD, fun n => Sz.zero n, fun h k => Sz.mono h k⟩
@[simp] theorem UO.XQ {n : Nat} {x : UO} (h : Sm n x) : Sm n x.ZD := h
@[simp] theorem UO.Vw {n : Nat} {dr : Int} {To' : Int} {mR : List Zj} {gy : Int} : Sm n (UO.mk dr To' mR gy) = (Sm n mR) := rfl
structure XL where
  Org : Int
  Ns : Int
  X0 : Int
  To : Int
  Key : Int
  Mark : Int
  deriving Inhabited, DecidableEq
@[simp] def XL.row (x : XL) : List Vm.D := [.int .i64 x.Org, .int .i64 x.Ns, .int .i64 x.X0, .int .i64 x.To, .int .i64 x.Key, .int .i64 x.Mark]
instance : Cn XL := ⟨fun x => cn x.Org + cn x.Ns + cn x.X0 + cn x.To + cn x.Key + cn x.Mark⟩
instance : Sz XL := ⟨fun _ _ => True, fun _ => trivial, fun _ h => h⟩
@[simp] theorem XL.Uk {n : Nat} {x : XL} : Sm n x := trivial
end Go.Mo
namespace Go.Mo
open Go.Vm
theorem X7 {α : Type} [Inhabited α] {l : List α} {i : Nat} (h : i < l.length) : nth l i = l[i] := by simp [nth, h]
theorem jK {α : Type} [Inhabited α] {F : Nat -> List α -> Nat -> List α} {a : List α} {g : α -> α} (hg : ∀ x, g x = x)
    (h1 : ∀ n v i, F (n + 1) v i = bif decide ((i : Int) < (a.length : Int)) then F n (v ++ [g (nth a i)]) (i + 1) else v) :
    ∀ n v i, a.length < n + i -> i <= a.length -> F n v i = v ++ a.drop i := by
  intro n
  induction n with
  | zero => intro v i h2 h3; omega
  | succ n ih =>
    intro v i h2 h3
    rw [h1]
    by_cases hi : i < a.length
    · rw [show decide ((i : Int) < (a.length : Int)) = true by simp [hi], cond_true, ih _ _ (by omega) hi, hg, X7 hi, List.append_assoc, List.singleton_append, <- List.drop_eq_getElem_cons hi]
    · rw [show decide ((i : Int) < (a.length : Int)) = false by simp; omega, cond_false, List.drop_eq_nil_of_le (by omega), List.append_nil]
theorem jR {F : Nat -> Nat -> Sum Int Unit} {L : Nat} {c : Nat -> Bool} (h0 : ∀ i, F 0 i = .inr ())
    (h1 : ∀ n i, F (n + 1) i = bif decide ((i : Int) < (L : Int)) then (bif c i then .inl (i : Int) else F n (i + 1)) else .inr ()) :
    ∀ n i, (match F n i with | .inl r => r | .inr _ => -1) < (L : Int) := by
  intro n
  induction n with
  | zero => intro i; rw [h0]; show (-1 : Int) < _; omega
  | succ n ih =>
    intro i
    rw [h1]
    by_cases hi : (i : Int) < (L : Int)
    · rw [show decide ((i : Int) < (L : Int)) = true by simpa using hi, cond_true]
      cases hc : c i with
      | true => simpa using hi
      | false => exact ih (i + 1)
    · rw [show decide ((i : Int) < (L : Int)) = false by simpa using hi, cond_false]
      show (-1 : Int) < _; omega
theorem Xy {rows : List (List Vm.D)} {i : Nat} {r : List Vm.D} (h : i < rows.length) : Vm.rowAt (rows.set i r) i = r := by simp [Vm.rowAt, h]
theorem Zs {α : Type} {p : α -> Prop} {c : Bool} {x y : α} (hx : p x) (hy : p y) : p (bif c then x else y) := by cases c; exact hy; exact hx
theorem Z7 {α : Type} {p : α -> Prop} {c : Bool} {x y : α} (hx : c = true -> p x) (hy : c = false -> p y) : p (bif c then x else y) := by cases c; exact hy rfl; exact hx rfl
theorem SZ {α : Type} {F : Nat -> List α -> Nat -> List α} {L : Nat} {c : Nat -> Bool} {g : Nat -> α} (h0 : ∀ v i, F 0 v i = [])
    (h1 : ∀ n v i, F (n + 1) v i = bif decide ((i : Int) < (L : Int)) then (bif c i then F n (v ++ [g i]) (i + 1) else F n v (i + 1)) else v) : ∀ n v i, (F n v i).length <= v.length + (L - i) := by
  intro n
  induction n with
  | zero => intro v i; rw [h0]; simp
  | succ n ih =>
    intro v i
    rw [h1]
    by_cases hi : i < L
    · rw [show decide ((i : Int) < (L : Int)) = true by simp [hi], cond_true]
      cases c i with
      | true => have := ih (v ++ [g i]) (i + 1); rw [cond_true]; simp at this; omega
      | false => have := ih v (i + 1); rw [cond_false]; omega
    · rw [show decide ((i : Int) < (L : Int)) = false by simp; omega, cond_false]; omega
theorem vK {α : Type} {F : Nat -> List α -> Nat -> List α} {L : Nat} {g : Nat -> α} (h0 : ∀ v i, F 0 v i = [])
    (h1 : ∀ n v i, F (n + 1) v i = bif decide ((i : Int) < (L : Int)) then F n (v ++ [g i]) (i + 1) else v) : ∀ n v i, (F n v i).length <= v.length + (L - i) := by
  intro n
  induction n with
  | zero => intro v i; rw [h0]; simp
  | succ n ih =>
    intro v i
    rw [h1]
    by_cases hi : i < L
    · rw [show decide ((i : Int) < (L : Int)) = true by simp [hi], cond_true]
      have := ih (v ++ [g i]) (i + 1); simp at this; omega
    · rw [show decide ((i : Int) < (L : Int)) = false by simp; omega, cond_false]; omega
theorem KU {n m : Nat} {s : ZQ} {r : ZV} (hn : n + 1 <= m) (h : Sm n s) (hr : Sm m r) : Sm m (ZQ.mk s.ZM (s.ZR ++ [r])) := by
  refine ⟨Za (by omega) h.1, ⟨?_, fun x hx => ?_⟩⟩
  · have := h.2.1; simp; omega
  · rcases List.mem_append.1 hx with hx | hx
    · exact Za (by omega) (h.2.2 x hx)
    · simp at hx; subst hx; exact hr
end Go.Mo
namespace Go.Mo
open Go.Vm
end Go.Mo
namespace Go.Mo
open Go.Vm
theorem X9 (n : Int) : W n = (n + 9223372036854775808) % 18446744073709551616 - 9223372036854775808 := IntKind.wrap_i64 n
theorem zN {α : Type} [Inhabited α] [DecidableEq α] {F : Nat -> Nat -> Sum Bool Unit} {a b : List α} {c : Nat -> Bool} (hl : a.length = b.length) (hc : ∀ i, c i = !decide (nth a i = nth b i)) (h0 : ∀ i, F 0 i = .inr ())
    (h1 : ∀ n i, F (n + 1) i = bif decide ((i : Int) < (a.length : Int)) then (bif c i then .inl false else F n (i + 1)) else .inr ()) :
    F (a.length + 1) 0 = if a = b then .inr () else .inl false := by
  have key : ∀ n i, a.length < n + i -> F n i = if a.drop i = b.drop i then .inr () else .inl false := by
    intro n
    induction n with
    | zero =>
      intro i h
      rw [h0, List.drop_eq_nil_of_le (by omega), List.drop_eq_nil_of_le (by omega), if_pos rfl]
    | succ n ih =>
      intro i h
      rw [h1]
      by_cases hi : i < a.length
      · have hib : i < b.length := by omega
        rw [show decide ((i : Int) < (a.length : Int)) = true by simp [hi], cond_true, hc, List.drop_eq_getElem_cons hi, List.drop_eq_getElem_cons hib, X7 hi, X7 hib]
        by_cases he : a[i] = b[i]
        · rw [he, show decide (b[i] = b[i]) = true by simp, Bool.not_true, cond_false, ih _ (by omega)]
          simp only [List.cons.injEq, true_and]
        · rw [show decide (a[i] = b[i]) = false by simp [he], if_neg (fun hh => he (List.cons.inj hh).1)]
          rfl
      · rw [show decide ((i : Int) < (a.length : Int)) = false by simp; omega, cond_false, List.drop_eq_nil_of_le (by omega), List.drop_eq_nil_of_le (by omega), if_pos rfl]
  have := key (a.length + 1) 0 (by omega)
  simpa using this
theorem Mc {α : Type} [Inhabited α] [DecidableEq α] {F : Nat -> Nat -> Sum Bool Unit} {a b : List α} {c : Nat -> Bool} (hc : ∀ i, c i = !decide (nth a i = nth b i)) (h0 : ∀ i, F 0 i = .inr ())
    (h1 : ∀ n i, F (n + 1) i = bif decide ((i : Int) < (a.length : Int)) then (bif c i then .inl false else F n (i + 1)) else .inr ()) :
    (bif ((a.length : Int) != (b.length : Int)) then false else (match F (a.length + 1) 0 with | .inl r => r | .inr _ => true)) = decide (a = b) := by
  by_cases hl : a.length = b.length
  · rw [zN hl hc h0 h1]
    simp only [hl, bne_self_eq_false, cond_false]
    by_cases h : a = b <;> simp [h]
  · have pS : a ≠ b := fun h => hl (by rw [h])
    have : ((a.length : Int) != (b.length : Int)) = true := by simp; omega
    rw [this, cond_true]; simp [pS]
end Go.Mo
namespace Go.Mo
open Go.Vm
theorem DA {α : Type} [Inhabited α] [Sz α] {f : α -> List D} {n : Nat} : ∀ {rows : List (List D)}, (∀ r, r ∈ rows -> ∃ x : α, r = f x /\ Sm n x) -> ∃ l : List α, rows = l.map f /\ ∀ x ∈ l, Sm n x
  | [], _ => ⟨[], rfl, fun _ h => by cases h⟩
  | r :: rows, h => by
    obtain ⟨x, hx, sx⟩ := h r (by simp)
    obtain ⟨l, hl, sl⟩ := DA (rows := rows) (fun r hr => h r (by simp [hr]))
    refine ⟨x :: l, by simp [hx, hl], fun y hy => ?_⟩
    rcases List.mem_cons.1 hy with rfl | hy
    · exact sx
    · exact sl y hy
end Go.Mo
namespace Go.Mo
open Go.Vm
theorem Hk {P : Program} {n : Nat} {t : TypeId} {ts : List TypeId} : ∀ {rows : List (List D)}, L9 P n (t :: ts) rows -> ∃ r rs, rows = r :: rs /\ TyR P n t r /\ L9 P n ts rs
  | r :: rs, h => ⟨r, rs, rfl, h.1, h.2⟩
  | [], h => h.elim
theorem FH {P : Program} {n : Nat} : ∀ {rows : List (List D)}, L9 P n [] rows -> rows = []
  | [], _ => rfl
  | _ :: _, h => h.elim
end Go.Mo
namespace Go.Mo
open Go.Vm
@[simp] theorem rU (l : List UInt8) : zK l = l.map bR := rfl
@[simp] theorem sO (x : Int) : ((UInt8.ofInt x).toNat : Int) = IntKind.u8.wrap x := by
  rw [IntKind.wrap_u8]
  simp [UInt8.ofInt]
  omega
end Go.Mo
namespace Go.Mo
open Go.Vm
end Go.Mo
namespace Go.Mo
open Go.Vm
@[simp] theorem sF {α : Type} {l : List α} {n : Nat} (h : l.length <= n) : List.take n l = l := List.take_of_length_le h
@[simp] theorem vj {α β : Type} (f : α -> β) (l : List α) : List.take l.length (List.map f l) = List.map f l := List.take_of_length_le (by simp)
@[simp] theorem uy (n : Nat) : 1 + n = n + 1 := Nat.add_comm 1 n
@[simp] theorem sh {α β : Type} (f : α -> β) (l : List α) (x y : β) : List.take (2 + l.length) (x :: y :: List.map f l) = x :: y :: List.map f l := List.take_of_length_le (by simp; omega)
@[simp] theorem sa {α β : Type} (f : α -> β) (l : List α) (x y z : β) : List.take (3 + l.length) (x :: y :: z :: List.map f l) = x :: y :: z :: List.map f l := List.take_of_length_le (by simp; omega)
@[simp] theorem se {α β : Type} (f : α -> β) (l : List α) (x y z u : β) : List.take (4 + l.length) (x :: y :: z :: u :: List.map f l) = x :: y :: z :: u :: List.map f l := List.take_of_length_le (by simp; omega)
@[simp] theorem sY {α β : Type} (f : α -> β) (l : List α) (x y z u v : β) : List.take (5 + l.length) (x :: y :: z :: u :: v :: List.map f l) = x :: y :: z :: u :: v :: List.map f l := List.take_of_length_le (by simp; omega)
@[simp] theorem sW {α β : Type} (f : α -> β) (l : List α) (x y z u v w : β) : List.take (6 + l.length) (x :: y :: z :: u :: v :: w :: List.map f l) = x :: y :: z :: u :: v :: w :: List.map f l := List.take_of_length_le (by simp; omega)
theorem Nu (n : Nat) (h : n <= 9223372036854775807) : W ((n : Int) - 1) = (n : Int) - 1 := XA (by omega) (by omega)
end Go.Mo
namespace Go.Mo
@[simp] theorem sj (a : Array UInt8) : (ByteArray.mk a).size = a.size := rfl
@[simp] theorem sU {α : Type} {l : List α} {x : α} {v n : Nat} (h : l.length = n) : List.take (min v n + 1 + (n - v)) (List.take v l ++ x :: List.drop v l) = List.take v l ++ x :: List.drop v l := by
  apply List.take_of_length_le; simp; omega
@[simp] theorem si (a b : Nat) : (min a b + 1 + (b - a) = min a b + (b - a + 1)) = True := by simp; omega
theorem TE {α : Type} [Inhabited α] [Sz α] {n i : Nat} {l : List α} {x : α} (h : Sm n l) (hx : Sm n x) : Sm n (l.set i x) :=
  ⟨by simpa using h.1, fun y hy => by
    rcases List.mem_or_eq_of_mem_set hy with hy | rfl
    · exact h.2 y hy
    · exact hx⟩
theorem BX {α : Type} (a b : α) : cond true a b = a /\ cond false a b = b := ⟨rfl, rfl⟩
theorem Yf {α : Type} (a b : α) : cond true a b = a := (BX a b).1
theorem YW {α : Type} (a b : α) : cond false a b = b := (BX a b).2
/-- a side condition that is found by itself -/
theorem bf {a : Bool} {c : Prop} (h : a = true -> c) : a = false \/ c := by cases a with | false => exact .inl rfl | true => exact .inr (h rfl)
theorem sd {a b : Prop} (h : b) (k : a := by (intros; first | omega | exact ⟨by assumption, fun k => ⟨by assumption, k⟩⟩ | exact bf (by assumption) | (simp only [decide_eq_true_eq, decide_eq_false_iff_not, beq_iff_eq, beq_eq_false_iff_ne, bne_iff_ne, ne_eq, Bool.or_eq_false_iff, Bool.or_eq_true, Bool.and_eq_true, Bool.not_eq_true', Bool.not_eq_false'] at *; omega) | ((try simp only [Go.Mo.X9, show ∀ x, Go.IntKind.i64.wrap x = Go.Vm.W x from fun _ => rfl] at *); omega) | exact List.ne_nil_of_length_pos (by assumption))) : a /\ b := ⟨k, h⟩
theorem sdg {a b : Prop} (h : b) (k : a := by (intros; first | omega | (simp_all; done) | (simp_all; omega) | grind | ((try simp only [Go.Mo.X9, show ∀ x, Go.IntKind.i64.wrap x = Go.Vm.W x from fun _ => rfl] at *); omega))) : a /\ b := ⟨k, h⟩
theorem il {a b : Nat} (h : a < b := by first | omega | (simp only [decide_eq_true_eq, decide_eq_false_iff_not, beq_iff_eq, beq_eq_false_iff_ne, bne_iff_ne, ne_eq, Bool.or_eq_false_iff, Bool.not_eq_true', Bool.not_eq_false'] at *; omega) | (simp_all [List.length_pos_iff]; done) | (simp; omega) | (simp_all; omega) | ((try simp only [Go.Mo.X9, show ∀ x, Go.IntKind.i64.wrap x = Go.Vm.W x from fun _ => rfl] at *); omega) | (simp; (try simp only [Go.Mo.X9, show ∀ x, Go.IntKind.i64.wrap x = Go.Vm.W x from fun _ => rfl] at *); omega)) : a < b := h
theorem ik {α : Type} (a : Nat) (l : List α) (h : a < l.length := by first | omega | (simp only [decide_eq_true_eq, decide_eq_false_iff_not, beq_iff_eq, beq_eq_false_iff_ne, bne_iff_ne, ne_eq, Bool.or_eq_false_iff, Bool.not_eq_true', Bool.not_eq_false'] at *; omega) | (simp_all [List.length_pos_iff]; done) | (simp; omega) | (simp_all; omega) | ((try simp only [Go.Mo.X9, show ∀ x, Go.IntKind.i64.wrap x = Go.Vm.W x from fun _ => rfl] at *); omega) | (simp; (try simp only [Go.Mo.X9, show ∀ x, Go.IntKind.i64.wrap x = Go.Vm.W x from fun _ => rfl] at *); omega)) : a < l.length := h
theorem sl {α : Type} [Inhabited α] [Sz α] (n : Nat) (l : List α) {q : Prop} (u : q) (h : q -> Sm n l := by (intro u; simp (maxDischargeDepth := 12) [u])) : l.length <= n := XN (h u)
theorem sg {α : Type} [Inhabited α] [Sz α] {n m : Nat} {x : α} (h : Sm n x) (k : n <= m := by decide) : Sm m x := Za k h
theorem FZ {α : Type} [Inhabited α] {l : List α} {i : Nat} (h : i < l.length) : l.drop i = Vm.nth l i :: l.drop (i + 1) := by
  rw [List.drop_eq_getElem_cons h]; simp [Vm.nth, List.getD_eq_getElem?_getD, List.getElem?_eq_getElem h]
theorem AR {α : Type} [Inhabited α] (c : α -> Nat) {l : List α} {i : Nat} (h : i < l.length) : cnL c (l.drop i) = c (Vm.nth l i) + cnL c (l.drop (i + 1)) := by rw [FZ h]; rfl
theorem HH {α β : Type} [Inhabited α] {as : List α} (f : α -> List β) {F : Nat -> Nat -> List β -> List β} (h1 : ∀ n i l, F (n + 1) i l = bif decide ((i : Int) < (as.length : Int)) then F n (i + 1) (l ++ f (Vm.nth as i)) else l) : ∀ n i l, as.length < n + i -> i <= as.length -> F n i l = l ++ (as.drop i).flatMap f
  | 0, i, l, h, h2 => by omega
  | n + 1, i, l, h, h2 => by
    rw [h1]
    by_cases hi : i < as.length
    · rw [show decide ((i : Int) < (as.length : Int)) = true by simpa using hi, Yf, HH f h1 n (i + 1) _ (by omega) hi, FZ hi]; simp
    · rw [show decide ((i : Int) < (as.length : Int)) = false by simpa using hi, YW, List.drop_eq_nil_of_le (by omega)]; simp
theorem Lz {α β : Type} (f : α -> β) : ∀ l : List α, l.flatMap (fun a => [f a]) = l.map f
  | [] => rfl
  | x :: l => by rw [List.flatMap_cons, Lz f l]; rfl
theorem tK {l : List ByteArray} {m : Nat} (h : ∀ x ∈ l, x.size <= m) (i : Nat) : (Vm.nth l i).size <= m := by
  by_cases hi : i < l.length
  · rw [show Vm.nth l i = l[i] by simp [Vm.nth, List.getD_eq_getElem?_getD, List.getElem?_eq_getElem hi]]; exact h _ (List.getElem_mem hi)
  · rw [show Vm.nth l i = default by simp [Vm.nth, List.getD_eq_getElem?_getD, List.getElem?_eq_none (Nat.le_of_not_lt hi)]]; exact Nat.zero_le _
theorem all_cons {α : Type} {p : α -> Prop} {a : α} {l : List α} (h : p a) (k : ∀ x ∈ l, p x) : ∀ x ∈ a :: l, p x := fun x hx => (List.mem_cons.1 hx).elim (fun e => e ▸ h) (k x)
end Go.Mo
