/- The plain data of the program, typed, and how they read as rows of the abstract machine. No condition. -/
import Derived.Test.YtfhmpplolpejnaaGreatVe
import Derived.Laws.BitsLemmas
namespace Go.Mo
open Go.Vm
@[simp] def iR (n : Int) : List Vm.D := [.int .i64 n]
@[simp] def bR (b : UInt8) : List Vm.D := [.int .u8 (b.toNat : Int)]
@[simp] def lR (b : Bool) : List Vm.D := [.bool b]
@[simp] def sR (s : ByteArray) : List Vm.D := [.str s]
@[simp] def slR {α : Type} (n : Nat) (f : α → List D) (m : List α) : List Vm.D := [.sl n (m.map f)]
/-- everything in it is at most so long -/
class Sz (α : Type) [Inhabited α] where
  sm : Nat → α → Prop
  zero : ∀ n, sm n default
  mono : ∀ {n m : Nat} {x : α}, n ≤ m → sm n x → sm m x
/-- how many marks it takes -/
class Cn (α : Type) where
  cn : α → Nat
abbrev cn {α : Type} [Cn α] (x : α) : Nat := Cn.cn x
def cnL {α : Type} (c : α → Nat) : List α → Nat
  | [] => 0
  | x :: l => c x + cnL c l
instance : Cn Int := ⟨fun _ => 1⟩
instance : Cn Bool := ⟨fun _ => 1⟩
instance : Cn UInt8 := ⟨fun _ => 1⟩
instance : Cn ByteArray := ⟨fun _ => 1⟩
instance {α : Type} [Cn α] : Cn (List α) := ⟨cnL Cn.cn⟩
theorem KH (x : Int) : cn x = 1 := rfl
theorem JD (x : Bool) : cn x = 1 := rfl
theorem T2 (x : UInt8) : cn x = 1 := rfl
theorem KK (x : ByteArray) : cn x = 1 := rfl
theorem P0 {α : Type} [Cn α] (x : List α) : cn x = cnL cn x := rfl
abbrev Sm {α : Type} [Inhabited α] [Sz α] (n : Nat) (x : α) : Prop := Sz.sm n x
instance : Sz Int := ⟨fun _ _ => True, fun _ => trivial, fun _ h => h⟩
instance : Sz Bool := ⟨fun _ _ => True, fun _ => trivial, fun _ h => h⟩
instance : Sz UInt8 := ⟨fun _ _ => True, fun _ => trivial, fun _ h => h⟩
instance : Sz ByteArray := ⟨fun n s => s.size ≤ n, fun _ => Nat.zero_le _, fun h k => Nat.le_trans k h⟩
instance {α : Type} [Inhabited α] [Sz α] : Sz (List α) := ⟨fun n l => l.length ≤ n ∧ ∀ x ∈ l, Sz.sm n x, fun _ => ⟨Nat.zero_le _, fun _ h => by cases h⟩, fun h k => ⟨Nat.le_trans k.1 h, fun x hx => Sz.mono h (k.2 x hx)⟩⟩
theorem X6 {α : Type} [Inhabited α] [Sz α] {n : Nat} {l : List α} : Sm n l = (l.length ≤ n ∧ ∀ x ∈ l, Sm n x) := rfl
theorem Yv {α : Type} [Inhabited α] [Sz α] {n : Nat} {l : List α} (h : Sm n l) : l.length ≤ n := h.1
theorem Cc {n : Nat} {s : ByteArray} (h : Sm n s) : s.size ≤ n := h
@[simp] theorem mD {n : Nat} {x : Int} : Sm n x := trivial
@[simp] theorem nm {n : Nat} {x : Bool} : Sm n x := trivial
@[simp] theorem mN {n : Nat} {x : UInt8} : Sm n x := trivial
@[simp] theorem mG {α : Type} [Inhabited α] [Sz α] {n : Nat} : Sm n ([] : List α) := ⟨Nat.zero_le _, fun _ h => by cases h⟩
@[simp] theorem Z3 {α : Type} [Inhabited α] [Sz α] {n i : Nat} {l : List α} (h : Sm n l) : Sm n (nth l i) := by
  unfold nth
  rw [List.getD_eq_getElem?_getD]
  cases hh : l[i]? with
  | none => exact Sz.zero n
  | some x => exact h.2 x (List.mem_of_getElem? hh)
@[simp] theorem ng {α : Type} [Inhabited α] [Sz α] {n i : Nat} {l : List α} (h : Sm n l) : Sm n (l.take i) := ⟨Nat.le_trans (by simp; omega) h.1, fun x hx => h.2 x (List.mem_of_mem_take hx)⟩
@[simp] theorem nk {α : Type} [Inhabited α] [Sz α] {n i : Nat} {l : List α} (h : Sm n l) : Sm n (l.drop i) := ⟨Nat.le_trans (by simp) h.1, fun x hx => h.2 x (List.mem_of_mem_drop hx)⟩
theorem KY {α : Type} [Inhabited α] [Sz α] {n : Nat} {l m : List α} : Sm n (l ++ m) = (l.length + m.length ≤ n ∧ (∀ x ∈ l, Sm n x) ∧ ∀ x ∈ m, Sm n x) := by
  rw [X6]; simp [or_imp, forall_and]
theorem Zi {α : Type} [Inhabited α] [Sz α] {n m : Nat} {x : α} (h : n ≤ m) (k : Sm n x) : Sm m x := Sz.mono h k
structure ZY where
  Authority : Int
  Seq : Int
  Time : Int
  Yz : Int
  Mark : Int
  deriving Inhabited, DecidableEq
@[simp] def ZY.row (x : ZY) : List Vm.D := [.int .i64 x.Authority, .int .i64 x.Seq, .int .i64 x.Time, .int .i64 x.Yz, .int .i64 x.Mark]
instance : Cn ZY := ⟨fun x => cn x.Authority + cn x.Seq + cn x.Time + cn x.Yz + cn x.Mark⟩
theorem ZY.X3 (x : ZY) : cn x = cn x.Authority + cn x.Seq + cn x.Time + cn x.Yz + cn x.Mark := rfl
instance : Sz ZY := ⟨fun _ _ => True, fun _ => trivial, fun _ h => h⟩
@[simp] theorem ZY.TP {n : Nat} {x : ZY} : Sm n x := trivial
structure Ya where
  Yz : Int
  Left : Bool
  deriving Inhabited, DecidableEq
@[simp] def Ya.row (x : Ya) : List Vm.D := [.int .i64 x.Yz, .bool x.Left]
instance : Cn Ya := ⟨fun x => cn x.Yz + cn x.Left⟩
theorem Ya.X3 (x : Ya) : cn x = cn x.Yz + cn x.Left := rfl
instance : Sz Ya := ⟨fun _ _ => True, fun _ => trivial, fun _ h => h⟩
@[simp] theorem Ya.TP {n : Nat} {x : Ya} : Sm n x := trivial
structure ZK where
  Count : Int
  Method : Int
  OY : Int
  Path : List Ya
  Zj : List ZY
  deriving Inhabited, DecidableEq
@[simp] def ZK.row (x : ZK) : List Vm.D := [.int .i64 x.Count, .int .i64 x.Method, .int .i64 x.OY, .sl 2 (x.Path.map Ya.row), .sl 5 (x.Zj.map ZY.row)]
instance : Cn ZK := ⟨fun x => cn x.Count + cn x.Method + cn x.OY + cn x.Path + cn x.Zj⟩
theorem ZK.X3 (x : ZK) : cn x = cn x.Count + cn x.Method + cn x.OY + cn x.Path + cn x.Zj := rfl
instance : Sz ZK := ⟨fun n x => Sm n x.Path ∧ Sm n x.Zj, fun n => ⟨Sz.zero n, Sz.zero n⟩, fun h k => ⟨Sz.mono h k.1, Sz.mono h k.2⟩⟩
@[simp] theorem ZK.rT {n : Nat} {x : ZK} (h : Sm n x) : Sm n x.Path := h.1
@[simp] theorem ZK.P1 {n : Nat} {x : ZK} (h : Sm n x) : Sm n x.Zj := h.2
@[simp] theorem ZK.PB {n : Nat} {Count' : Int} {Method' : Int} {Root' : Int} {Path' : List Ya} {Stamps' : List ZY} : Sm n (ZK.mk Count' Method' Root' Path' Stamps') = (Sm n Path' ∧ Sm n Stamps') := rfl
structure Zs where
  Number : Int
  Js : Int
  Method : Int
  OC : Int
  xg : Int
  deriving Inhabited, DecidableEq
@[simp] def Zs.row (x : Zs) : List Vm.D := [.int .i64 x.Number, .int .i64 x.Js, .int .i64 x.Method, .int .i64 x.OC, .int .i64 x.xg]
instance : Cn Zs := ⟨fun x => cn x.Number + cn x.Js + cn x.Method + cn x.OC + cn x.xg⟩
theorem Zs.X3 (x : Zs) : cn x = cn x.Number + cn x.Js + cn x.Method + cn x.OC + cn x.xg := rfl
instance : Sz Zs := ⟨fun _ _ => True, fun _ => trivial, fun _ h => h⟩
@[simp] theorem Zs.TP {n : Nat} {x : Zs} : Sm n x := trivial
structure ZG where
  Id : Int
  Key : Int
  Error : Int
  deriving Inhabited, DecidableEq
@[simp] def ZG.row (x : ZG) : List Vm.D := [.int .i64 x.Id, .int .i64 x.Key, .int .i64 x.Error]
instance : Cn ZG := ⟨fun x => cn x.Id + cn x.Key + cn x.Error⟩
theorem ZG.X3 (x : ZG) : cn x = cn x.Id + cn x.Key + cn x.Error := rfl
instance : Sz ZG := ⟨fun _ _ => True, fun _ => trivial, fun _ h => h⟩
@[simp] theorem ZG.TP {n : Nat} {x : ZG} : Sm n x := trivial
structure Zh where
  Id : Int
  Ui : Int
  Ends : Int
  qO : Int
  deriving Inhabited, DecidableEq
@[simp] def Zh.row (x : Zh) : List Vm.D := [.int .i64 x.Id, .int .i64 x.Ui, .int .i64 x.Ends, .int .i64 x.qO]
instance : Cn Zh := ⟨fun x => cn x.Id + cn x.Ui + cn x.Ends + cn x.qO⟩
theorem Zh.X3 (x : Zh) : cn x = cn x.Id + cn x.Ui + cn x.Ends + cn x.qO := rfl
instance : Sz Zh := ⟨fun _ _ => True, fun _ => trivial, fun _ h => h⟩
@[simp] theorem Zh.TP {n : Nat} {x : Zh} : Sm n x := trivial
structure ZI where
  YY : List Zs
  ZN : List ZG
  Methods : List Zh
  QR : Int
  Now : Int
  deriving Inhabited, DecidableEq
@[simp] def ZI.row (x : ZI) : List Vm.D := [.sl 5 (x.YY.map Zs.row), .sl 3 (x.ZN.map ZG.row), .sl 4 (x.Methods.map Zh.row), .int .i64 x.QR, .int .i64 x.Now]
instance : Cn ZI := ⟨fun x => cn x.YY + cn x.ZN + cn x.Methods + cn x.QR + cn x.Now⟩
theorem ZI.X3 (x : ZI) : cn x = cn x.YY + cn x.ZN + cn x.Methods + cn x.QR + cn x.Now := rfl
instance : Sz ZI := ⟨fun n x => Sm n x.YY ∧ Sm n x.ZN ∧ Sm n x.Methods, fun n => ⟨Sz.zero n, Sz.zero n, Sz.zero n⟩, fun h k => ⟨Sz.mono h k.1, Sz.mono h k.2.1, Sz.mono h k.2.2⟩⟩
@[simp] theorem ZI.Ye {n : Nat} {x : ZI} (h : Sm n x) : Sm n x.YY := h.1
@[simp] theorem ZI.Q7 {n : Nat} {x : ZI} (h : Sm n x) : Sm n x.ZN := h.2.1
@[simp] theorem ZI.YH {n : Nat} {x : ZI} (h : Sm n x) : Sm n x.Methods := h.2.2
@[simp] theorem ZI.PB {n : Nat} {Keys' : List Zs} {Authorities' : List ZG} {Methods' : List Zh} {Liars' : Int} {Now' : Int} : Sm n (ZI.mk Keys' Authorities' Methods' Liars' Now') = (Sm n Keys' ∧ Sm n Authorities' ∧ Sm n Methods') := rfl
structure Zn where
  YA : Int
  Key : Int
  Js : Int
  YN : Int
  To : Int
  Qd : Int
  Mark : Int
  deriving Inhabited, DecidableEq
@[simp] def Zn.row (x : Zn) : List Vm.D := [.int .i64 x.YA, .int .i64 x.Key, .int .i64 x.Js, .int .i64 x.YN, .int .i64 x.To, .int .i64 x.Qd, .int .i64 x.Mark]
instance : Cn Zn := ⟨fun x => cn x.YA + cn x.Key + cn x.Js + cn x.YN + cn x.To + cn x.Qd + cn x.Mark⟩
theorem Zn.X3 (x : Zn) : cn x = cn x.YA + cn x.Key + cn x.Js + cn x.YN + cn x.To + cn x.Qd + cn x.Mark := rfl
instance : Sz Zn := ⟨fun _ _ => True, fun _ => trivial, fun _ h => h⟩
@[simp] theorem Zn.TP {n : Nat} {x : Zn} : Sm n x := trivial
structure Zc where
  ji : Int
  ZQ : List ByteArray
  Zb : List Int
  deriving Inhabited, DecidableEq
@[simp] def Zc.row (x : Zc) : List Vm.D := [.int .i64 x.ji, .sl 1 (x.ZQ.map sR), .sl 1 (x.Zb.map iR)]
instance : Cn Zc := ⟨fun x => cn x.ji + cn x.ZQ + cn x.Zb⟩
theorem Zc.X3 (x : Zc) : cn x = cn x.ji + cn x.ZQ + cn x.Zb := rfl
instance : Sz Zc := ⟨fun n x => Sm n x.ZQ ∧ Sm n x.Zb, fun n => ⟨Sz.zero n, Sz.zero n⟩, fun h k => ⟨Sz.mono h k.1, Sz.mono h k.2⟩⟩
@[simp] theorem Zc.NA {n : Nat} {x : Zc} (h : Sm n x) : Sm n x.ZQ := h.1
@[simp] theorem Zc.Aa {n : Nat} {x : Zc} (h : Sm n x) : Sm n x.Zb := h.2
@[simp] theorem Zc.PB {n : Nat} {Title' : Int} {Parts' : List ByteArray} {Salts' : List Int} : Sm n (Zc.mk Title' Parts' Salts') = (Sm n Parts' ∧ Sm n Salts') := rfl
structure ZV where
  Key : Int
  YA : Int
  Method : Int
  Yz : Int
  qS : Int
  Org : Int
  y3 : Int
  Kd : Int
  Mark : Int
  deriving Inhabited, DecidableEq
@[simp] def ZV.row (x : ZV) : List Vm.D := [.int .i64 x.Key, .int .i64 x.YA, .int .i64 x.Method, .int .i64 x.Yz, .int .i64 x.qS, .int .i64 x.Org, .int .i64 x.y3, .int .i64 x.Kd, .int .i64 x.Mark]
instance : Cn ZV := ⟨fun x => cn x.Key + cn x.YA + cn x.Method + cn x.Yz + cn x.qS + cn x.Org + cn x.y3 + cn x.Kd + cn x.Mark⟩
theorem ZV.X3 (x : ZV) : cn x = cn x.Key + cn x.YA + cn x.Method + cn x.Yz + cn x.qS + cn x.Org + cn x.y3 + cn x.Kd + cn x.Mark := rfl
instance : Sz ZV := ⟨fun _ _ => True, fun _ => trivial, fun _ h => h⟩
@[simp] theorem ZV.TP {n : Nat} {x : ZV} : Sm n x := trivial
structure ZD where
  Key : Int
  Zg : List Int
  Mark : Int
  deriving Inhabited, DecidableEq
@[simp] def ZD.row (x : ZD) : List Vm.D := [.int .i64 x.Key, .sl 1 (x.Zg.map iR), .int .i64 x.Mark]
instance : Cn ZD := ⟨fun x => cn x.Key + cn x.Zg + cn x.Mark⟩
theorem ZD.X3 (x : ZD) : cn x = cn x.Key + cn x.Zg + cn x.Mark := rfl
instance : Sz ZD := ⟨fun n x => Sm n x.Zg, fun n => Sz.zero n, fun h k => Sz.mono h k⟩
@[simp] theorem ZD.VP {n : Nat} {x : ZD} (h : Sm n x) : Sm n x.Zg := h
@[simp] theorem ZD.PB {n : Nat} {Key' : Int} {Ints' : List Int} {Mark' : Int} : Sm n (ZD.mk Key' Ints' Mark') = (Sm n Ints') := rfl
structure ZP where
  Zd : List ZD
  ZX : List ZK
  deriving Inhabited, DecidableEq
@[simp] def ZP.row (x : ZP) : List Vm.D := [.sl 3 (x.Zd.map ZD.row), .sl 5 (x.ZX.map ZK.row)]
instance : Cn ZP := ⟨fun x => cn x.Zd + cn x.ZX⟩
theorem ZP.X3 (x : ZP) : cn x = cn x.Zd + cn x.ZX := rfl
instance : Sz ZP := ⟨fun n x => Sm n x.Zd ∧ Sm n x.ZX, fun n => ⟨Sz.zero n, Sz.zero n⟩, fun h k => ⟨Sz.mono h k.1, Sz.mono h k.2⟩⟩
@[simp] theorem ZP.Yy {n : Nat} {x : ZP} (h : Sm n x) : Sm n x.Zd := h.1
@[simp] theorem ZP.Qc {n : Nat} {x : ZP} (h : Sm n x) : Sm n x.ZX := h.2
@[simp] theorem ZP.PB {n : Nat} {Pieces' : List ZD} {Chain' : List ZK} : Sm n (ZP.mk Pieces' Chain') = (Sm n Pieces' ∧ Sm n Chain') := rfl
structure Zm where
  Id : Int
  Xu : Int
  Doc : Zc
  Sig : ZV
  Z0 : ZP
  deriving Inhabited, DecidableEq
@[simp] def Zm.row (x : Zm) : List Vm.D := [.int .i64 x.Id, .int .i64 x.Xu, .int .i64 x.Doc.ji, .sl 1 (x.Doc.ZQ.map sR), .sl 1 (x.Doc.Zb.map iR), .int .i64 x.Sig.Key, .int .i64 x.Sig.YA, .int .i64 x.Sig.Method, .int .i64 x.Sig.Yz, .int .i64 x.Sig.qS, .int .i64 x.Sig.Org, .int .i64 x.Sig.y3, .int .i64 x.Sig.Kd, .int .i64 x.Sig.Mark, .sl 3 (x.Z0.Zd.map ZD.row), .sl 5 (x.Z0.ZX.map ZK.row)]
instance : Cn Zm := ⟨fun x => cn x.Id + cn x.Xu + cn x.Doc + cn x.Sig + cn x.Z0⟩
theorem Zm.X3 (x : Zm) : cn x = cn x.Id + cn x.Xu + cn x.Doc + cn x.Sig + cn x.Z0 := rfl
instance : Sz Zm := ⟨fun n x => Sm n x.Doc ∧ Sm n x.Z0, fun n => ⟨Sz.zero n, Sz.zero n⟩, fun h k => ⟨Sz.mono h k.1, Sz.mono h k.2⟩⟩
@[simp] theorem Zm.Wt {n : Nat} {x : Zm} (h : Sm n x) : Sm n x.Doc := h.1
@[simp] theorem Zm.Xd {n : Nat} {x : Zm} (h : Sm n x) : Sm n x.Z0 := h.2
@[simp] theorem Zm.PB {n : Nat} {Id' : Int} {Keep' : Int} {Doc' : Zc} {Sig' : ZV} {Strand' : ZP} : Sm n (Zm.mk Id' Keep' Doc' Sig' Strand') = (Sm n Doc' ∧ Sm n Strand') := rfl
structure Zf where
  Id : Int
  YM : List Zm
  deriving Inhabited, DecidableEq
@[simp] def Zf.row (x : Zf) : List Vm.D := [.int .i64 x.Id, .sl 16 (x.YM.map Zm.row)]
instance : Cn Zf := ⟨fun x => cn x.Id + cn x.YM⟩
theorem Zf.X3 (x : Zf) : cn x = cn x.Id + cn x.YM := rfl
instance : Sz Zf := ⟨fun n x => Sm n x.YM, fun n => Sz.zero n, fun h k => Sz.mono h k⟩
@[simp] theorem Zf.Rs {n : Nat} {x : Zf} (h : Sm n x) : Sm n x.YM := h
@[simp] theorem Zf.PB {n : Nat} {Id' : Int} {Items' : List Zm} : Sm n (Zf.mk Id' Items') = (Sm n Items') := rfl
structure Zo where
  Frame : ZI
  Yg : List Zn
  YW : List Int
  ZJ : List Zf
  J8 : List Int
  Q6 : List Int
  Next : Int
  QP : List Int
  deriving Inhabited, DecidableEq
@[simp] def Zo.row (x : Zo) : List Vm.D := [.sl 5 (x.Frame.YY.map Zs.row), .sl 3 (x.Frame.ZN.map ZG.row), .sl 4 (x.Frame.Methods.map Zh.row), .int .i64 x.Frame.QR, .int .i64 x.Frame.Now, .sl 7 (x.Yg.map Zn.row), .sl 1 (x.YW.map iR), .sl 2 (x.ZJ.map Zf.row), .sl 1 (x.J8.map iR), .sl 1 (x.Q6.map iR), .int .i64 x.Next, .sl 1 (x.QP.map iR)]
instance : Cn Zo := ⟨fun x => cn x.Frame + cn x.Yg + cn x.YW + cn x.ZJ + cn x.J8 + cn x.Q6 + cn x.Next + cn x.QP⟩
theorem Zo.X3 (x : Zo) : cn x = cn x.Frame + cn x.Yg + cn x.YW + cn x.ZJ + cn x.J8 + cn x.Q6 + cn x.Next + cn x.QP := rfl
instance : Sz Zo := ⟨fun n x => Sm n x.Frame ∧ Sm n x.Yg ∧ Sm n x.YW ∧ Sm n x.ZJ ∧ Sm n x.J8 ∧ Sm n x.Q6 ∧ Sm n x.QP, fun n => ⟨Sz.zero n, Sz.zero n, Sz.zero n, Sz.zero n, Sz.zero n, Sz.zero n, Sz.zero n⟩, fun h k => ⟨Sz.mono h k.1, Sz.mono h k.2.1, Sz.mono h k.2.2.1, Sz.mono h k.2.2.2.1, Sz.mono h k.2.2.2.2.1, Sz.mono h k.2.2.2.2.2.1, Sz.mono h k.2.2.2.2.2.2⟩⟩
@[simp] theorem Zo.GC {n : Nat} {x : Zo} (h : Sm n x) : Sm n x.Frame := h.1
@[simp] theorem Zo.sS {n : Nat} {x : Zo} (h : Sm n x) : Sm n x.Yg := h.2.1
@[simp] theorem Zo.si {n : Nat} {x : Zo} (h : Sm n x) : Sm n x.YW := h.2.2.1
@[simp] theorem Zo.Uh {n : Nat} {x : Zo} (h : Sm n x) : Sm n x.ZJ := h.2.2.2.1
@[simp] theorem Zo.rl {n : Nat} {x : Zo} (h : Sm n x) : Sm n x.J8 := h.2.2.2.2.1
@[simp] theorem Zo.tE {n : Nat} {x : Zo} (h : Sm n x) : Sm n x.Q6 := h.2.2.2.2.2.1
@[simp] theorem Zo.uD {n : Nat} {x : Zo} (h : Sm n x) : Sm n x.QP := h.2.2.2.2.2.2
@[simp] theorem Zo.PB {n : Nat} {Frame' : ZI} {Certs' : List Zn} {Ended' : List Int} {Archives' : List Zf} {Seqs' : List Int} {Lying' : List Int} {Next' : Int} {Forged' : List Int} : Sm n (Zo.mk Frame' Certs' Ended' Archives' Seqs' Lying' Next' Forged') = (Sm n Frame' ∧ Sm n Certs' ∧ Sm n Ended' ∧ Sm n Archives' ∧ Sm n Seqs' ∧ Sm n Lying' ∧ Sm n Forged') := rfl
structure W3 where
  Kind : Int
  A : Int
  B : Int
  C : Int
  D : Int
  Doc : Zc
  Ids : List Int
  deriving Inhabited, DecidableEq
@[simp] def W3.row (x : W3) : List Vm.D := [.int .i64 x.Kind, .int .i64 x.A, .int .i64 x.B, .int .i64 x.C, .int .i64 x.D, .int .i64 x.Doc.ji, .sl 1 (x.Doc.ZQ.map sR), .sl 1 (x.Doc.Zb.map iR), .sl 1 (x.Ids.map iR)]
instance : Cn W3 := ⟨fun x => cn x.Kind + cn x.A + cn x.B + cn x.C + cn x.D + cn x.Doc + cn x.Ids⟩
theorem W3.X3 (x : W3) : cn x = cn x.Kind + cn x.A + cn x.B + cn x.C + cn x.D + cn x.Doc + cn x.Ids := rfl
instance : Sz W3 := ⟨fun n x => Sm n x.Doc ∧ Sm n x.Ids, fun n => ⟨Sz.zero n, Sz.zero n⟩, fun h k => ⟨Sz.mono h k.1, Sz.mono h k.2⟩⟩
@[simp] theorem W3.Wt {n : Nat} {x : W3} (h : Sm n x) : Sm n x.Doc := h.1
@[simp] theorem W3.nt {n : Nat} {x : W3} (h : Sm n x) : Sm n x.Ids := h.2
@[simp] theorem W3.PB {n : Nat} {Kind' : Int} {A' : Int} {B' : Int} {C' : Int} {D' : Int} {Doc' : Zc} {Ids' : List Int} : Sm n (W3.mk Kind' A' B' C' D' Doc' Ids') = (Sm n Doc' ∧ Sm n Ids') := rfl
structure ZF where
  YN : Int
  To : Int
  deriving Inhabited, DecidableEq
@[simp] def ZF.row (x : ZF) : List Vm.D := [.int .i64 x.YN, .int .i64 x.To]
instance : Cn ZF := ⟨fun x => cn x.YN + cn x.To⟩
theorem ZF.X3 (x : ZF) : cn x = cn x.YN + cn x.To := rfl
instance : Sz ZF := ⟨fun _ _ => True, fun _ => trivial, fun _ h => h⟩
@[simp] theorem ZF.TP {n : Nat} {x : ZF} : Sm n x := trivial
structure Y7 where
  Code : Int
  Reason : Int
  Span : ZF
  deriving Inhabited, DecidableEq
@[simp] def Y7.row (x : Y7) : List Vm.D := [.int .i64 x.Code, .int .i64 x.Reason, .int .i64 x.Span.YN, .int .i64 x.Span.To]
instance : Cn Y7 := ⟨fun x => cn x.Code + cn x.Reason + cn x.Span⟩
theorem Y7.X3 (x : Y7) : cn x = cn x.Code + cn x.Reason + cn x.Span := rfl
instance : Sz Y7 := ⟨fun _ _ => True, fun _ => trivial, fun _ h => h⟩
@[simp] theorem Y7.TP {n : Nat} {x : Y7} : Sm n x := trivial
structure QY where
  ji : Int
  Methods : List Int
  Shown : List Bool
  ZQ : List ByteArray
  Zb : List Int
  N8 : List (List Int)
  deriving Inhabited, DecidableEq
@[simp] def QY.row (x : QY) : List Vm.D := [.int .i64 x.ji, .sl 1 (x.Methods.map iR), .sl 1 (x.Shown.map lR), .sl 1 (x.ZQ.map sR), .sl 1 (x.Zb.map iR), .sl 1 (x.N8.map (slR 1 iR))]
instance : Cn QY := ⟨fun x => cn x.ji + cn x.Methods + cn x.Shown + cn x.ZQ + cn x.Zb + cn x.N8⟩
theorem QY.X3 (x : QY) : cn x = cn x.ji + cn x.Methods + cn x.Shown + cn x.ZQ + cn x.Zb + cn x.N8 := rfl
instance : Sz QY := ⟨fun n x => Sm n x.Methods ∧ Sm n x.Shown ∧ Sm n x.ZQ ∧ Sm n x.Zb ∧ Sm n x.N8, fun n => ⟨Sz.zero n, Sz.zero n, Sz.zero n, Sz.zero n, Sz.zero n⟩, fun h k => ⟨Sz.mono h k.1, Sz.mono h k.2.1, Sz.mono h k.2.2.1, Sz.mono h k.2.2.2.1, Sz.mono h k.2.2.2.2⟩⟩
@[simp] theorem QY.YH {n : Nat} {x : QY} (h : Sm n x) : Sm n x.Methods := h.1
@[simp] theorem QY.oc {n : Nat} {x : QY} (h : Sm n x) : Sm n x.Shown := h.2.1
@[simp] theorem QY.NA {n : Nat} {x : QY} (h : Sm n x) : Sm n x.ZQ := h.2.2.1
@[simp] theorem QY.Aa {n : Nat} {x : QY} (h : Sm n x) : Sm n x.Zb := h.2.2.2.1
@[simp] theorem QY.pc {n : Nat} {x : QY} (h : Sm n x) : Sm n x.N8 := h.2.2.2.2
@[simp] theorem QY.PB {n : Nat} {Title' : Int} {Methods' : List Int} {Shown' : List Bool} {Parts' : List ByteArray} {Salts' : List Int} {Digests' : List (List Int)} : Sm n (QY.mk Title' Methods' Shown' Parts' Salts' Digests') = (Sm n Methods' ∧ Sm n Shown' ∧ Sm n Parts' ∧ Sm n Salts' ∧ Sm n Digests') := rfl
structure ZL where
  ZO : List ZP
  Zv : List (List ZY)
  deriving Inhabited, DecidableEq
@[simp] def ZL.row (x : ZL) : List Vm.D := [.sl 2 (x.ZO.map ZP.row), .sl 1 (x.Zv.map (slR 5 ZY.row))]
instance : Cn ZL := ⟨fun x => cn x.ZO + cn x.Zv⟩
theorem ZL.X3 (x : ZL) : cn x = cn x.ZO + cn x.Zv := rfl
instance : Sz ZL := ⟨fun n x => Sm n x.ZO ∧ Sm n x.Zv, fun n => ⟨Sz.zero n, Sz.zero n⟩, fun h k => ⟨Sz.mono h k.1, Sz.mono h k.2⟩⟩
@[simp] theorem ZL.Yl {n : Nat} {x : ZL} (h : Sm n x) : Sm n x.ZO := h.1
@[simp] theorem ZL.jx {n : Nat} {x : ZL} (h : Sm n x) : Sm n x.Zv := h.2
@[simp] theorem ZL.PB {n : Nat} {Strands' : List ZP} {Fresh' : List (List ZY)} : Sm n (ZL.mk Strands' Fresh') = (Sm n Strands' ∧ Sm n Fresh') := rfl
structure Zu where
  YA : Int
  Cg : Int
  YW : Int
  Qd : Int
  Mark : Int
  deriving Inhabited, DecidableEq
@[simp] def Zu.row (x : Zu) : List Vm.D := [.int .i64 x.YA, .int .i64 x.Cg, .int .i64 x.YW, .int .i64 x.Qd, .int .i64 x.Mark]
instance : Cn Zu := ⟨fun x => cn x.YA + cn x.Cg + cn x.YW + cn x.Qd + cn x.Mark⟩
theorem Zu.X3 (x : Zu) : cn x = cn x.YA + cn x.Cg + cn x.YW + cn x.Qd + cn x.Mark := rfl
instance : Sz Zu := ⟨fun _ _ => True, fun _ => trivial, fun _ h => h⟩
@[simp] theorem Zu.TP {n : Nat} {x : Zu} : Sm n x := trivial
structure WC where
  YN : Int
  To : Int
  YM : List Zm
  Yz : Int
  deriving Inhabited, DecidableEq
@[simp] def WC.row (x : WC) : List Vm.D := [.int .i64 x.YN, .int .i64 x.To, .sl 16 (x.YM.map Zm.row), .int .i64 x.Yz]
instance : Cn WC := ⟨fun x => cn x.YN + cn x.To + cn x.YM + cn x.Yz⟩
theorem WC.X3 (x : WC) : cn x = cn x.YN + cn x.To + cn x.YM + cn x.Yz := rfl
instance : Sz WC := ⟨fun n x => Sm n x.YM, fun n => Sz.zero n, fun h k => Sz.mono h k⟩
@[simp] theorem WC.Rs {n : Nat} {x : WC} (h : Sm n x) : Sm n x.YM := h
@[simp] theorem WC.PB {n : Nat} {From' : Int} {To' : Int} {Items' : List Zm} {Digest' : Int} : Sm n (WC.mk From' To' Items' Digest') = (Sm n Items') := rfl
structure Zy where
  Org : Int
  V4 : Int
  YN : Int
  To : Int
  Key : Int
  Mark : Int
  deriving Inhabited, DecidableEq
@[simp] def Zy.row (x : Zy) : List Vm.D := [.int .i64 x.Org, .int .i64 x.V4, .int .i64 x.YN, .int .i64 x.To, .int .i64 x.Key, .int .i64 x.Mark]
instance : Cn Zy := ⟨fun x => cn x.Org + cn x.V4 + cn x.YN + cn x.To + cn x.Key + cn x.Mark⟩
theorem Zy.X3 (x : Zy) : cn x = cn x.Org + cn x.V4 + cn x.YN + cn x.To + cn x.Key + cn x.Mark := rfl
instance : Sz Zy := ⟨fun _ _ => True, fun _ => trivial, fun _ h => h⟩
@[simp] theorem Zy.TP {n : Nat} {x : Zy} : Sm n x := trivial
end Go.Mo
namespace Go.Mo
open Go.Vm
theorem Sj {α : Type} [Inhabited α] {l : List α} {i : Nat} (h : i < l.length) : nth l i = l[i] := by simp [nth, h]
theorem vt {α : Type} [Inhabited α] {l : List α} {i : Nat} (h : i < l.length) : nth l i ∈ l := by rw [Sj h]; exact List.getElem_mem h
theorem qn {α : Type} [Inhabited α] {F : Nat → Nat → List α → List α} {a : List α} {g : α → α} (hg : ∀ x, g x = x)
    (h1 : ∀ n i v, F (n + 1) i v = bif decide ((i : Int) < (a.length : Int)) then F n (i + 1) (v.set i (g (nth a i))) else v) :
    ∀ n i v, v.length = a.length → a.length < n + i → i ≤ a.length → (∀ j, j < i → v[j]? = a[j]?) → F n i v = a := by
  intro n
  induction n with
  | zero => intro i v _ h2 h3; omega
  | succ n ih =>
    intro i v hl h2 h3 hj
    rw [h1]
    by_cases hi : i < a.length
    · have : decide ((i : Int) < (a.length : Int)) = true := by simp [hi]
      rw [this, cond_true]
      refine ih _ _ (by simp [hl]) (by omega) hi (fun j hlt => ?_)
      rw [List.getElem?_set]
      by_cases hji : i = j
      · subst hji; simp [hl, hi, hg, Sj hi]
      · rw [if_neg hji]; exact hj j (by omega)
    · have : decide ((i : Int) < (a.length : Int)) = false := by simp; omega
      rw [this, cond_false]
      apply List.ext_getElem?
      intro j
      by_cases hji : j < i
      · exact hj j hji
      · rw [List.getElem?_eq_none (by omega), List.getElem?_eq_none (by omega)]
theorem Pj {α : Type} [Inhabited α] {F : Nat → List α → Nat → List α} {a : List α} {g : α → α} (hg : ∀ x, g x = x)
    (h1 : ∀ n v i, F (n + 1) v i = bif decide ((i : Int) < (a.length : Int)) then F n (v ++ [g (nth a i)]) (i + 1) else v) :
    ∀ n v i, a.length < n + i → i ≤ a.length → F n v i = v ++ a.drop i := by
  intro n
  induction n with
  | zero => intro v i h2 h3; omega
  | succ n ih =>
    intro v i h2 h3
    rw [h1]
    by_cases hi : i < a.length
    · rw [show decide ((i : Int) < (a.length : Int)) = true by simp [hi], cond_true, ih _ _ (by omega) hi, hg, Sj hi, List.append_assoc, List.singleton_append, ← List.drop_eq_getElem_cons hi]
    · rw [show decide ((i : Int) < (a.length : Int)) = false by simp; omega, cond_false, List.drop_eq_nil_of_le (by omega), List.append_nil]
theorem Us {F : Nat → Nat → Sum Int Unit} {L : Nat} {c : Nat → Bool} (h0 : ∀ i, F 0 i = .inr ())
    (h1 : ∀ n i, F (n + 1) i = bif decide ((i : Int) < (L : Int)) then (bif c i then .inl (i : Int) else F n (i + 1)) else .inr ()) :
    ∀ n i, (match F n i with | .inl r => r | .inr _ => -1) < (L : Int) := by
  intro n
  induction n with
  | zero => intro i; rw [h0]; show (-1 : Int) < _; omega
  | succ n ih =>
    intro i
    rw [h1]
    by_cases hi : (i : Int) < (L : Int)
    · rw [show decide ((i : Int) < (L : Int)) = true by simpa using hi, cond_true]
      cases hc : c i with
      | true => simpa using hi
      | false => exact ih (i + 1)
    · rw [show decide ((i : Int) < (L : Int)) = false by simpa using hi, cond_false]
      show (-1 : Int) < _; omega
theorem Z4 {rows : List (List Vm.D)} {i : Nat} {r : List Vm.D} (h : i < rows.length) : Vm.rowAt (rows.set i r) i = r := by simp [Vm.rowAt, h]
/-- marks, from left to right -/
def mkL {α : Type} (f : α → Int → α × Int) : List α → Int → List α × Int
  | [], k => ([], k)
  | x :: l, k => ((f x k).1 :: (mkL f l (f x k).2).1, (mkL f l (f x k).2).2)
theorem y4 {α : Type} (f : α → Int → α × Int) : ∀ (l : List α) (k : Int), (mkL f l k).1.length = l.length
  | [], _ => rfl
  | x :: l, k => by simp [mkL, y4 f l]
theorem Kv {α : Type} [Inhabited α] {F : Nat → Int → Nat → List α → Int × List α} {f : α → Int → α × Int}
    (h1 : ∀ n k i v, F (n + 1) k i v = bif decide ((i : Int) < (v.length : Int)) then F n (f (nth v i) k).2 (i + 1) (v.set i (f (nth v i) k).1) else (k, v)) :
    ∀ (l pre : List α) (n : Nat) (k : Int), l.length < n → F n k pre.length (pre ++ l) = ((mkL f l k).2, pre ++ (mkL f l k).1) := by
  intro l
  induction l with
  | nil =>
    intro pre n k hn
    obtain ⟨m, rfl⟩ : ∃ m, n = m + 1 := ⟨n - 1, by simp at hn; omega⟩
    rw [h1]; simp [mkL]
  | cons x l ih =>
    intro pre n k hn
    obtain ⟨m, rfl⟩ : ∃ m, n = m + 1 := ⟨n - 1, by simp at hn; omega⟩
    have hx : nth (pre ++ x :: l) pre.length = x := by simp [nth]
    have hs : ∀ y, (pre ++ x :: l).set pre.length y = (pre ++ [y]) ++ l := by intro y; simp
    have hd : decide ((pre.length : Int) < ((pre ++ x :: l).length : Int)) = true := by simp; omega
    rw [h1, hd, cond_true, hx, hs]
    have := ih (pre ++ [(f x k).1]) m (f x k).2 (by simp at hn; omega)
    rw [List.length_append, List.length_singleton] at this
    rw [this]; simp [mkL]
theorem y6 {α : Type} {f : α → Int → α × Int} {c : α → Nat} (hc : ∀ (x : α) (k : Int), 0 ≤ k → k + c x < 4611686018427387904 → (f x k).2 = k + c x) :
    ∀ (l : List α) (k : Int), 0 ≤ k → k + cnL c l < 4611686018427387904 → (mkL f l k).2 = k + cnL c l
  | [], k, _, _ => by simp [mkL, cnL]
  | x :: l, k, h0, h => by
    simp only [cnL, Int.natCast_add] at h
    have e := hc x k h0 (by omega)
    have := y6 hc l (f x k).2 (by omega) (by omega)
    show (mkL f l (f x k).2).2 = _
    rw [this, e]; simp only [cnL, Int.natCast_add]; omega
theorem vx {α : Type} [Inhabited α] {z : List α} {H : Nat → Int → Nat → Sum Int Int} {G : α → Int → (Int → Sum Int Int) → Sum Int Int} {f : α → Int → α × Int} {c : α → Nat}
    (h1 : ∀ n k i, H (n + 1) k i = bif decide ((i : Int) < (z.length : Int)) then G (nth z i) k (fun k' => H n k' (i + 1)) else .inr k)
    (hc : ∀ (x : α) (k : Int), 0 ≤ k → k + c x < 4611686018427387904 → (f x k).2 = k + c x) (hG : ∀ (x : α) (k : Int) (r : Int → Sum Int Int), 0 ≤ k → k + c x < 4611686018427387904 → G (f x k).1 k r = r (f x k).2) :
    ∀ (l pre : List α) (n : Nat) (k : Int), z = pre ++ (mkL f l k).1 → l.length < n → 0 ≤ k → k + cnL c l < 4611686018427387904 → H n k pre.length = .inr (mkL f l k).2 := by
  intro l
  induction l with
  | nil =>
    intro pre n k hz hn _ _
    obtain ⟨m, rfl⟩ : ∃ m, n = m + 1 := ⟨n - 1, by simp at hn; omega⟩
    rw [h1]; simp [mkL] at hz; subst hz; simp [mkL]
  | cons x l ih =>
    intro pre n k hz hn h0 h
    obtain ⟨m, rfl⟩ : ∃ m, n = m + 1 := ⟨n - 1, by simp at hn; omega⟩
    simp only [cnL, Int.natCast_add] at h
    have e := hc x k h0 (by omega)
    have hx : nth z pre.length = (f x k).1 := by rw [hz]; simp [nth, mkL]
    have hd : decide ((pre.length : Int) < (z.length : Int)) = true := by rw [hz]; simp [mkL]; omega
    rw [h1, hd, cond_true, hx, hG x k _ h0 (by omega)]
    have := ih (pre ++ [(f x k).1]) m (f x k).2 (by rw [hz]; simp [mkL]) (by simp at hn; omega) (by omega) (by omega)
    rw [List.length_append, List.length_singleton] at this
    rw [this]; rfl
/-- a length that is reckoned off a purse -/
def Wn {α : Type} [Inhabited α] [Sz α] (F : α → Int → Int) : Prop := ∀ a n, Sm maxLen a → 0 ≤ n → n ≤ 1048576 → ¬ F a n < 0 → Sm 1048576 a ∧ F a n ≤ 1048576
theorem E1 {n : Int} {l : Nat} (h0 : 0 ≤ n) (hn : n ≤ 1048576) (hl : l ≤ maxLen) : W (n - l) = n - l := by
  have hl : l ≤ 9223372036854775807 := hl
  exact Zk (by omega) (by omega)
theorem RC {α : Type} [Inhabited α] [Sz α] (hs : ∀ (n : Nat) (x : α), Sm n x) {F : List α → Int → Int} (hF : ∀ a n, F a n = bif decide (W (n - (a.length : Int)) < 0) then (-1) else W (n - (a.length : Int))) : Wn F := by
  intro a n hm h0 hn h
  rw [hF, E1 h0 hn hm.1] at h ⊢
  by_cases hc : n - (a.length : Int) < 0
  · rw [show decide (n - (a.length : Int) < 0) = true by simpa using hc, cond_true] at h; omega
  · rw [show decide (n - (a.length : Int) < 0) = false by simpa using hc, cond_false] at h ⊢
    exact ⟨⟨by omega, fun x _ => hs _ x⟩, by omega⟩
theorem ph {α : Type} [Inhabited α] [Sz α] {E : α → Int → Int} (hE : Wn E) {a : List α} (hm : Sm maxLen a) {G : Nat → Int → Nat → Sum Int Int}
    (h1 : ∀ n v i, G (n + 1) v i = bif decide ((i : Int) < (a.length : Int)) then (bif decide (E (nth a i) v < 0) then .inl (-1) else G n (E (nth a i) v) (i + 1)) else .inr v) :
    ∀ n v i, 0 ≤ v → v ≤ 1048576 → a.length < n + i → i ≤ a.length → ¬ (match G n v i with | .inl r => r | .inr z => z) < 0 → (∀ j, i ≤ j → j < a.length → Sm 1048576 (nth a j)) ∧ (match G n v i with | .inl r => r | .inr z => z) ≤ 1048576 := by
  intro n
  induction n with
  | zero => intro v i _ _ h2 h3; omega
  | succ n ih =>
    intro v i hv0 hv h2 h3 h
    rw [h1] at h ⊢
    by_cases hi : i < a.length
    · rw [show decide ((i : Int) < (a.length : Int)) = true by simp [hi], cond_true] at h ⊢
      by_cases hc : E (nth a i) v < 0
      · rw [show decide (E (nth a i) v < 0) = true by simpa using hc, cond_true] at h; simp at h
      · rw [show decide (E (nth a i) v < 0) = false by simpa using hc, cond_false] at h ⊢
        obtain ⟨e1, e2⟩ := hE (nth a i) v (hm.2 _ (vt hi)) hv0 hv hc
        obtain ⟨r1, r2⟩ := ih _ (i + 1) (by omega) e2 (by omega) hi h
        refine ⟨fun j hj hjl => ?_, r2⟩
        by_cases hji : j = i
        · subst hji; exact e1
        · exact r1 j (by omega) hjl
    · rw [show decide ((i : Int) < (a.length : Int)) = false by simp; omega, cond_false] at h ⊢
      exact ⟨fun j hj hjl => by omega, hv⟩
theorem O3 {α : Type} [Inhabited α] [Sz α] {E : α → Int → Int} (hE : Wn E) {F : List α → Int → Int} {G : List α → Nat → Int → Nat → Sum Int Int}
    (h1 : ∀ a n v i, G a (n + 1) v i = bif decide ((i : Int) < (a.length : Int)) then (bif decide (E (nth a i) v < 0) then .inl (-1) else G a n (E (nth a i) v) (i + 1)) else .inr v)
    (hF : ∀ a n, F a n = bif decide (W (n - (a.length : Int)) < 0) then (-1) else (match G a (a.length + 1) (W (n - (a.length : Int))) 0 with | .inl r => r | .inr z => z)) : Wn F := by
  intro a n hm h0 hn h
  rw [hF, E1 h0 hn hm.1] at h ⊢
  by_cases hc : n - (a.length : Int) < 0
  · rw [show decide (n - (a.length : Int) < 0) = true by simpa using hc, cond_true] at h; omega
  · rw [show decide (n - (a.length : Int) < 0) = false by simpa using hc, cond_false] at h ⊢
    obtain ⟨r1, r2⟩ := ph hE hm (h1 a) (a.length + 1) _ 0 (by omega) (by omega) (by omega) (by omega) h
    refine ⟨⟨by omega, fun x hx => ?_⟩, r2⟩
    obtain ⟨j, hj, rfl⟩ := List.mem_iff_getElem.1 hx
    rw [← Sj hj]; exact r1 j (by omega) hj
theorem uJ : Wn (fun (s : ByteArray) n => W (n - (s.size : Int))) := by
  intro a n hm h0 hn h
  have hm : a.size ≤ maxLen := hm
  dsimp only at h ⊢
  rw [E1 h0 hn hm] at h ⊢
  exact ⟨show a.size ≤ 1048576 by omega, by omega⟩
/-- the purse pays for the marks -/
def jk {α : Type} [Inhabited α] [Sz α] [Cn α] (F : α → Int → Int) (c : Nat) : Prop := ∀ a n, Sm maxLen a → 0 ≤ n → n ≤ 1048576 → ¬ F a n < 0 → (cn a : Int) ≤ 32 * (n - F a n) + c ∧ F a n ≤ n
theorem sV {α : Type} {c : α → Nat} {m : Nat} (h : ∀ x, c x ≤ m) : ∀ l : List α, cnL c l ≤ m * l.length
  | [] => by simp [cnL]
  | x :: l => by have := sV h l; have := h x; simp only [cnL, List.length_cons, Nat.mul_add]; omega
theorem tN {α : Type} {c : α → Nat} (h : ∀ x, 1 ≤ c x) : ∀ l : List α, l.length ≤ cnL c l
  | [] => by simp [cnL]
  | x :: l => by have := tN h l; have := h x; simp only [cnL, List.length_cons]; omega
theorem FV {α : Type} {c : α → Nat} {m : Nat} (h : ∀ x, c x = m) : ∀ l : List α, cnL c l = m * l.length
  | [] => by simp [cnL]
  | x :: l => by simp only [cnL, h, FV h l, List.length_cons, Nat.mul_add]; omega
theorem vV (l : List Int) : cn l = l.length := by rw [P0, FV (c := (cn : Int → Nat)) (m := 1) (fun _ => rfl)]; simp
theorem XU {α : Type} {p : α → Prop} {c : Bool} {x y : α} (hx : p x) (hy : p y) : p (bif c then x else y) := by cases c; exact hy; exact hx
theorem Tl {α : Type} {F : Nat → List α → Nat → List α} {L : Nat} {c : Nat → Bool} {g : Nat → α} (h0 : ∀ v i, F 0 v i = [])
    (h1 : ∀ n v i, F (n + 1) v i = bif decide ((i : Int) < (L : Int)) then (bif c i then F n (v ++ [g i]) (i + 1) else F n v (i + 1)) else v) : ∀ n v i, (F n v i).length ≤ v.length + (L - i) := by
  intro n
  induction n with
  | zero => intro v i; rw [h0]; simp
  | succ n ih =>
    intro v i
    rw [h1]
    by_cases hi : i < L
    · rw [show decide ((i : Int) < (L : Int)) = true by simp [hi], cond_true]
      cases c i with
      | true => have := ih (v ++ [g i]) (i + 1); rw [cond_true]; simp at this; omega
      | false => have := ih v (i + 1); rw [cond_false]; omega
    · rw [show decide ((i : Int) < (L : Int)) = false by simp; omega, cond_false]; omega
theorem Sh {α : Type} [Inhabited α] [Sz α] [Cn α] (hs : ∀ x : α, cn x ≤ 32) {F : List α → Int → Int} (hF : ∀ a n, F a n = bif decide (W (n - (a.length : Int)) < 0) then (-1) else W (n - (a.length : Int))) : jk F 0 := by
  intro a n hm h0 hn h
  rw [hF, E1 h0 hn hm.1] at h ⊢
  by_cases hc : n - (a.length : Int) < 0
  · rw [show decide (n - (a.length : Int) < 0) = true by simpa using hc, cond_true] at h; omega
  · rw [show decide (n - (a.length : Int) < 0) = false by simpa using hc, cond_false] at h ⊢
    have := sV hs a
    rw [P0]; omega
theorem pq {α : Type} [Inhabited α] [Sz α] [Cn α] {E : α → Int → Int} {c : Nat} (hE : jk E c) (hcc : c ≤ 32) {a : List α} (hm : Sm maxLen a) {G : Nat → Int → Nat → Sum Int Int}
    (h1 : ∀ n v i, G (n + 1) v i = bif decide ((i : Int) < (a.length : Int)) then (bif decide (E (nth a i) v < 0) then .inl (-1) else G n (E (nth a i) v) (i + 1)) else .inr v) :
    ∀ n v i, 0 ≤ v → v ≤ 1048576 → a.length < n + i → i ≤ a.length → ¬ (match G n v i with | .inl r => r | .inr z => z) < 0 →
      (cnL cn (a.drop i) : Int) ≤ 32 * (v - (match G n v i with | .inl r => r | .inr z => z)) + 32 * ((a.length : Int) - i) ∧ (match G n v i with | .inl r => r | .inr z => z) ≤ v := by
  intro n
  induction n with
  | zero => intro v i _ _ h2 h3; omega
  | succ n ih =>
    intro v i hv0 hv h2 h3 h
    rw [h1] at h ⊢
    by_cases hi : i < a.length
    · rw [show decide ((i : Int) < (a.length : Int)) = true by simp [hi], cond_true] at h ⊢
      by_cases hc : E (nth a i) v < 0
      · rw [show decide (E (nth a i) v < 0) = true by simpa using hc, cond_true] at h; simp at h
      · rw [show decide (E (nth a i) v < 0) = false by simpa using hc, cond_false] at h ⊢
        obtain ⟨e1, e2⟩ := hE (nth a i) v (hm.2 _ (vt hi)) hv0 hv hc
        obtain ⟨r1, r2⟩ := ih _ (i + 1) (by omega) (by omega) (by omega) hi h
        rw [List.drop_eq_getElem_cons hi, cnL, ← Sj hi]
        refine ⟨?_, by omega⟩
        simp only [Int.natCast_add] at r1 ⊢
        omega
    · rw [show decide ((i : Int) < (a.length : Int)) = false by simp; omega, cond_false] at h ⊢
      rw [List.drop_eq_nil_of_le (by omega)]
      simp only [cnL]
      exact ⟨by omega, by omega⟩
theorem RH {α : Type} [Inhabited α] [Sz α] [Cn α] {E : α → Int → Int} {c : Nat} (hE : jk E c) (hcc : c ≤ 32) {F : List α → Int → Int} {G : List α → Nat → Int → Nat → Sum Int Int}
    (h1 : ∀ a n v i, G a (n + 1) v i = bif decide ((i : Int) < (a.length : Int)) then (bif decide (E (nth a i) v < 0) then .inl (-1) else G a n (E (nth a i) v) (i + 1)) else .inr v)
    (hF : ∀ a n, F a n = bif decide (W (n - (a.length : Int)) < 0) then (-1) else (match G a (a.length + 1) (W (n - (a.length : Int))) 0 with | .inl r => r | .inr z => z)) : jk F 0 := by
  intro a n hm h0 hn h
  rw [hF, E1 h0 hn hm.1] at h ⊢
  by_cases hc : n - (a.length : Int) < 0
  · rw [show decide (n - (a.length : Int) < 0) = true by simpa using hc, cond_true] at h; omega
  · rw [show decide (n - (a.length : Int) < 0) = false by simpa using hc, cond_false] at h ⊢
    obtain ⟨r1, r2⟩ := pq hE hcc hm (h1 a) (a.length + 1) _ 0 (by omega) (by omega) (by omega) (by omega) h
    rw [List.drop_zero] at r1
    rw [P0]
    exact ⟨by omega, by omega⟩
theorem uc : jk (fun (s : ByteArray) n => W (n - (s.size : Int))) 1 := by
  intro a n hm h0 hn h
  have hm : a.size ≤ maxLen := hm
  dsimp only at h ⊢
  rw [E1 h0 hn hm] at h ⊢
  rw [KK]
  exact ⟨by omega, by omega⟩
end Go.Mo
namespace Go.Mo
open Go.Vm
theorem qp {F : Nat → Nat → Sum Bool Unit} {L : Nat} {c : Nat → Bool} (hc : ∀ i, c i = false) (h0 : ∀ i, F 0 i = .inr ())
    (h1 : ∀ n i, F (n + 1) i = bif decide ((i : Int) < (L : Int)) then (bif c i then .inl false else F n (i + 1)) else .inr ()) : ∀ n i, F n i = .inr () := by
  intro n
  induction n with
  | zero => exact h0
  | succ n ih =>
    intro i
    rw [h1, hc, cond_false, ih]
    cases decide ((i : Int) < (L : Int)) <;> rfl
end Go.Mo
namespace Go.Mo
open Go.Vm
theorem Kb (n : Int) : W n = (n + 9223372036854775808) % 18446744073709551616 - 9223372036854775808 := IntKind.wrap_i64 n
theorem re {α : Type} [Inhabited α] [DecidableEq α] {F : Nat → Nat → Sum Bool Unit} {a b : List α} {c : Nat → Bool} (hl : a.length = b.length) (hc : ∀ i, c i = !decide (nth a i = nth b i)) (h0 : ∀ i, F 0 i = .inr ())
    (h1 : ∀ n i, F (n + 1) i = bif decide ((i : Int) < (a.length : Int)) then (bif c i then .inl false else F n (i + 1)) else .inr ()) :
    F (a.length + 1) 0 = if a = b then .inr () else .inl false := by
  have key : ∀ n i, a.length < n + i → F n i = if a.drop i = b.drop i then .inr () else .inl false := by
    intro n
    induction n with
    | zero =>
      intro i h
      rw [h0, List.drop_eq_nil_of_le (by omega), List.drop_eq_nil_of_le (by omega), if_pos rfl]
    | succ n ih =>
      intro i h
      rw [h1]
      by_cases hi : i < a.length
      · have hib : i < b.length := by omega
        rw [show decide ((i : Int) < (a.length : Int)) = true by simp [hi], cond_true, hc, List.drop_eq_getElem_cons hi, List.drop_eq_getElem_cons hib, Sj hi, Sj hib]
        by_cases he : a[i] = b[i]
        · rw [he, show decide (b[i] = b[i]) = true by simp, Bool.not_true, cond_false, ih _ (by omega)]
          simp only [List.cons.injEq, true_and]
        · rw [show decide (a[i] = b[i]) = false by simp [he], if_neg (fun hh => he (List.cons.inj hh).1)]
          rfl
      · rw [show decide ((i : Int) < (a.length : Int)) = false by simp; omega, cond_false, List.drop_eq_nil_of_le (by omega), List.drop_eq_nil_of_le (by omega), if_pos rfl]
  have := key (a.length + 1) 0 (by omega)
  simpa using this
theorem pH {α : Type} [Inhabited α] [DecidableEq α] {F : Nat → Nat → Sum Bool Unit} {a b : List α} {c : Nat → Bool} (hc : ∀ i, c i = !decide (nth a i = nth b i)) (h0 : ∀ i, F 0 i = .inr ())
    (h1 : ∀ n i, F (n + 1) i = bif decide ((i : Int) < (a.length : Int)) then (bif c i then .inl false else F n (i + 1)) else .inr ()) :
    (bif ((a.length : Int) != (b.length : Int)) then false else (match F (a.length + 1) 0 with | .inl r => r | .inr _ => true)) = decide (a = b) := by
  by_cases hl : a.length = b.length
  · rw [re hl hc h0 h1]
    simp only [hl, bne_self_eq_false, cond_false]
    by_cases h : a = b <;> simp [h]
  · have hne : a ≠ b := fun h => hl (by rw [h])
    have : ((a.length : Int) != (b.length : Int)) = true := by simp; omega
    rw [this, cond_true]; simp [hne]
end Go.Mo
namespace Go.Mo
open Go.Vm
theorem zn {α : Type} [Inhabited α] [Sz α] {f : α → List D} {n : Nat} : ∀ {rows : List (List D)}, (∀ r, r ∈ rows → ∃ x : α, r = f x ∧ Sm n x) → ∃ l : List α, rows = l.map f ∧ ∀ x ∈ l, Sm n x
  | [], _ => ⟨[], rfl, fun _ h => by cases h⟩
  | r :: rows, h => by
    obtain ⟨x, hx, sx⟩ := h r (by simp)
    obtain ⟨l, hl, sl⟩ := zn (rows := rows) (fun r hr => h r (by simp [hr]))
    refine ⟨x :: l, by simp [hx, hl], fun y hy => ?_⟩
    rcases List.mem_cons.1 hy with rfl | hy
    · exact sx
    · exact sl y hy
theorem Z1 (row : List D) (o s : Nat) : row.drop o = cut row o s ++ row.drop (o + s) := by
  rw [← List.drop_drop, cut, List.take_append_drop]
end Go.Mo
namespace Go.Mo
open Go.Vm
theorem Hn {P : Program} {n : Nat} {t : TypeId} {ts : List TypeId} : ∀ {rows : List (List D)}, Gg P n (t :: ts) rows → ∃ r rs, rows = r :: rs ∧ TyR P n t r ∧ Gg P n ts rs
  | r :: rs, h => ⟨r, rs, rfl, h.1, h.2⟩
  | [], h => h.elim
theorem E4 {P : Program} {n : Nat} : ∀ {rows : List (List D)}, Gg P n [] rows → rows = []
  | [], _ => rfl
  | _ :: _, h => h.elim
end Go.Mo
namespace Go.Mo
open Go.Vm
@[simp] theorem nF (l : List UInt8) : KA l = l.map bR := rfl
@[simp] theorem oZ (x : Int) : ((UInt8.ofInt x).toNat : Int) = IntKind.u8.wrap x := by
  rw [IntKind.wrap_u8]
  simp [UInt8.ofInt]
  omega
theorem sL (x : Int) : (W (Int.tdiv x 10)).natAbs ≤ 9223372036854775808 ∧ (W (Int.tdiv x 10)).natAbs ≤ x.natAbs / 10 := by
  rw [Kb]
  have : (Int.tdiv x 10).natAbs = x.natAbs / 10 := by rw [Int.natAbs_tdiv]; rfl
  omega
theorem su {x : Int} {n : Nat} (h : n + 1 = 21 ∨ x.natAbs < 10 ^ (n + 1)) : (W (Int.tdiv x 10)).natAbs < 10 ^ n := by
  obtain ⟨h1, h2⟩ := sL x
  rcases h with h | h
  · have : n = 20 := by omega
    subst this
    have : (10 : Nat) ^ 20 = 100000000000000000000 := by decide
    omega
  · rw [Nat.pow_succ] at h; omega
end Go.Mo
namespace Go.Mo
open Go.Vm
theorem nK {p : Nat} {x : Int} (hj : p + 1 = 22 ∨ x.natAbs < 10 ^ (p + 1 - 1)) (hx : (x != 0) = true) : 1 ≤ p ∧ (p = 22 ∨ (W (Int.tdiv x 10)).natAbs < 10 ^ (p - 1)) := by
  have hx : x ≠ 0 := by simpa using hx
  have hp : 1 ≤ p := by
    rcases hj with h | h
    · omega
    · rcases Nat.eq_zero_or_pos p with hz | hz
      · subst hz; simp at h; exact absurd h hx
      · exact hz
  refine ⟨hp, .inr ?_⟩
  obtain ⟨q, rfl⟩ : ∃ q, p = q + 1 := ⟨p - 1, by omega⟩
  exact su (x := x) (n := q) (hj.elim (fun h => .inl (by omega)) (fun h => .inr (by simpa using h)))
end Go.Mo
namespace Go.Mo
open Go.Vm
@[simp] theorem oo {α : Type} {l : List α} {n : Nat} (h : l.length ≤ n) : List.take n l = l := List.take_of_length_le h
@[simp] theorem rN {α β : Type} (f : α → β) (l : List α) : List.take l.length (List.map f l) = List.map f l := List.take_of_length_le (by simp)
@[simp] theorem pX (n : Nat) : 1 + n = n + 1 := Nat.add_comm 1 n
@[simp] theorem nf {α β : Type} (f : α → β) (l : List α) (x y : β) : List.take (2 + l.length) (x :: y :: List.map f l) = x :: y :: List.map f l := List.take_of_length_le (by simp; omega)
@[simp] theorem nd {α β : Type} (f : α → β) (l : List α) (x y z : β) : List.take (3 + l.length) (x :: y :: z :: List.map f l) = x :: y :: z :: List.map f l := List.take_of_length_le (by simp; omega)
@[simp] theorem nn {α β : Type} (f : α → β) (l : List α) (x y z u : β) : List.take (4 + l.length) (x :: y :: z :: u :: List.map f l) = x :: y :: z :: u :: List.map f l := List.take_of_length_le (by simp; omega)
@[simp] theorem nj {α β : Type} (f : α → β) (l : List α) (x y z u v : β) : List.take (5 + l.length) (x :: y :: z :: u :: v :: List.map f l) = x :: y :: z :: u :: v :: List.map f l := List.take_of_length_le (by simp; omega)
@[simp] theorem np {α β : Type} (f : α → β) (l : List α) (x y z u v w : β) : List.take (6 + l.length) (x :: y :: z :: u :: v :: w :: List.map f l) = x :: y :: z :: u :: v :: w :: List.map f l := List.take_of_length_le (by simp; omega)
theorem Rz (n : Nat) (h : n ≤ 9223372036854775807) : W ((n : Int) - 1) = (n : Int) - 1 := Zk (by omega) (by omega)
end Go.Mo
namespace Go.Mo
@[simp] theorem nh (a : Array UInt8) : (ByteArray.mk a).size = a.size := rfl
@[simp] theorem nN {α : Type} {l : List α} {x : α} {v n : Nat} (h : l.length = n) : List.take (min v n + 1 + (n - v)) (List.take v l ++ x :: List.drop v l) = List.take v l ++ x :: List.drop v l := by
  apply List.take_of_length_le; simp; omega
@[simp] theorem ni (a b : Nat) : (min a b + 1 + (b - a) = min a b + (b - a + 1)) = True := by simp; omega
theorem vE {α : Type} (a b : α) : cond true a b = a ∧ cond false a b = b := ⟨rfl, rfl⟩
theorem Xf {α : Type} (a b : α) : cond true a b = a := (vE a b).1
theorem Xg {α : Type} (a b : α) : cond false a b = b := (vE a b).2
/-- a side condition that is found by itself -/
theorem sd {a b : Prop} (h : b) (k : a := by (intros; first | omega | (simp only [decide_eq_true_eq, decide_eq_false_iff_not, beq_iff_eq, beq_eq_false_iff_ne, bne_iff_ne, ne_eq, Bool.or_eq_false_iff, Bool.or_eq_true, Bool.and_eq_true, Bool.not_eq_true', Bool.not_eq_false'] at *; omega) | ((try simp only [Go.Mo.Kb, show ∀ x, Go.IntKind.i64.wrap x = Go.Vm.W x from fun _ => rfl] at *); omega))) : a ∧ b := ⟨k, h⟩
theorem sdg {a b : Prop} (h : b) (k : a := by (intros; first | omega | (simp_all; done) | (simp_all; omega) | grind | ((try simp only [Go.Mo.Kb, show ∀ x, Go.IntKind.i64.wrap x = Go.Vm.W x from fun _ => rfl] at *); omega))) : a ∧ b := ⟨k, h⟩
theorem il {a b : Nat} (h : a < b := by first | omega | (simp only [decide_eq_true_eq, decide_eq_false_iff_not, beq_iff_eq, beq_eq_false_iff_ne, bne_iff_ne, ne_eq, Bool.or_eq_false_iff, Bool.not_eq_true', Bool.not_eq_false'] at *; omega) | (simp_all [List.length_pos_iff]; done) | (simp; omega) | (simp_all; omega) | ((try simp only [Go.Mo.Kb, show ∀ x, Go.IntKind.i64.wrap x = Go.Vm.W x from fun _ => rfl] at *); omega) | (simp; (try simp only [Go.Mo.Kb, show ∀ x, Go.IntKind.i64.wrap x = Go.Vm.W x from fun _ => rfl] at *); omega)) : a < b := h
theorem ik {α : Type} (a : Nat) (l : List α) (h : a < l.length := by first | omega | (simp only [decide_eq_true_eq, decide_eq_false_iff_not, beq_iff_eq, beq_eq_false_iff_ne, bne_iff_ne, ne_eq, Bool.or_eq_false_iff, Bool.not_eq_true', Bool.not_eq_false'] at *; omega) | (simp_all [List.length_pos_iff]; done) | (simp; omega) | (simp_all; omega) | ((try simp only [Go.Mo.Kb, show ∀ x, Go.IntKind.i64.wrap x = Go.Vm.W x from fun _ => rfl] at *); omega) | (simp; (try simp only [Go.Mo.Kb, show ∀ x, Go.IntKind.i64.wrap x = Go.Vm.W x from fun _ => rfl] at *); omega)) : a < l.length := h
theorem sl {α : Type} [Inhabited α] [Sz α] (n : Nat) (l : List α) {q : Prop} (u : q) (h : q → Sm n l := by (intro u; simp (maxDischargeDepth := 12) [u])) : l.length ≤ n := Yv (h u)
theorem sg {α : Type} [Inhabited α] [Sz α] {n m : Nat} {x : α} (h : Sm n x) (k : n ≤ m := by decide) : Sm m x := Zi k h
theorem kd {α : Type} [Inhabited α] {l : List α} {i : Nat} (h : i < l.length) : l.drop i = Vm.nth l i :: l.drop (i + 1) := by
  rw [List.drop_eq_getElem_cons h]; simp [Vm.nth, List.getD_eq_getElem?_getD, List.getElem?_eq_getElem h]
theorem DU {α : Type} [Inhabited α] (c : α → Nat) {l : List α} {i : Nat} (h : i < l.length) : cnL c (l.drop i) = c (Vm.nth l i) + cnL c (l.drop (i + 1)) := by rw [kd h]; rfl
theorem B4 {α : Type} {c d : α → Nat} (h : ∀ x, c x ≤ d x) : ∀ l : List α, cnL c l ≤ cnL d l
  | [] => Nat.le_refl _
  | x :: l => Nat.add_le_add (h x) (B4 h l)
theorem AH {α β : Type} (f : α → List β) : ∀ l : List α, (l.flatMap f).length = cnL (fun x => (f x).length) l
  | [] => rfl
  | x :: l => by simp only [List.flatMap_cons, List.length_append, cnL, AH f l]
theorem NY {α β : Type} [Inhabited α] {as : List α} (f : α → List β) {F : Nat → Nat → List β → List β} (h1 : ∀ n i l, F (n + 1) i l = bif decide ((i : Int) < (as.length : Int)) then F n (i + 1) (l ++ f (Vm.nth as i)) else l) : ∀ n i l, as.length < n + i → i ≤ as.length → F n i l = l ++ (as.drop i).flatMap f
  | 0, i, l, h, h2 => by omega
  | n + 1, i, l, h, h2 => by
    rw [h1]
    by_cases hi : i < as.length
    · rw [show decide ((i : Int) < (as.length : Int)) = true by simpa using hi, Xf, NY f h1 n (i + 1) _ (by omega) hi, kd hi]; simp
    · rw [show decide ((i : Int) < (as.length : Int)) = false by simpa using hi, Xg, List.drop_eq_nil_of_le (by omega)]; simp
end Go.Mo
