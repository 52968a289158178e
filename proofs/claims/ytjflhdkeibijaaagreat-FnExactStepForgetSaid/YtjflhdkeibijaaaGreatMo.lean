/- The plain data of the program, typed, and how they read as rows of the abstract machine. No condition. -/
import Derived.Test.YtjflhdkeibijaaaGreatVe
import Derived.Laws.BitsLemmas
namespace Go.Mo
open Go.Vm
@[simp] def iR (n : Int) : List Vm.D := [.int .i64 n]
@[simp] def bR (b : UInt8) : List Vm.D := [.int .u8 (b.toNat : Int)]
@[simp] def lR (b : Bool) : List Vm.D := [.bool b]
@[simp] def sR (s : ByteArray) : List Vm.D := [.str s]
@[simp] def slR {α : Type} (n : Nat) (f : α → List D) (m : List α) : List Vm.D := [.sl n (m.map f)]
/-- everything in it is at most so long -/
class Sz (α : Type) [Inhabited α] where
  sm : Nat → α → Prop
  zero : ∀ n, sm n default
  mono : ∀ {n m : Nat} {x : α}, n ≤ m → sm n x → sm m x
/-- how many marks it takes -/
class Cn (α : Type) where
  cn : α → Nat
abbrev cn {α : Type} [Cn α] (x : α) : Nat := Cn.cn x
def cnL {α : Type} (c : α → Nat) : List α → Nat
  | [] => 0
  | x :: l => c x + cnL c l
instance : Cn Int := ⟨fun _ => 1⟩
instance : Cn Bool := ⟨fun _ => 1⟩
instance : Cn UInt8 := ⟨fun _ => 1⟩
instance : Cn ByteArray := ⟨fun _ => 1⟩
instance {α : Type} [Cn α] : Cn (List α) := ⟨cnL Cn.cn⟩
theorem XL (x : Int) : cn x = 1 := rfl
theorem XC (x : Bool) : cn x = 1 := rfl
theorem KS (x : UInt8) : cn x = 1 := rfl
theorem XW (x : ByteArray) : cn x = 1 := rfl
theorem Xf {α : Type} [Cn α] (x : List α) : cn x = cnL cn x := rfl
abbrev Sm {α : Type} [Inhabited α] [Sz α] (n : Nat) (x : α) : Prop := Sz.sm n x
instance : Sz Int := ⟨fun _ _ => True, fun _ => trivial, fun _ h => h⟩
instance : Sz Bool := ⟨fun _ _ => True, fun _ => trivial, fun _ h => h⟩
instance : Sz UInt8 := ⟨fun _ _ => True, fun _ => trivial, fun _ h => h⟩
instance : Sz ByteArray := ⟨fun n s => s.size ≤ n, fun _ => Nat.zero_le _, fun h k => Nat.le_trans k h⟩
instance {α : Type} [Inhabited α] [Sz α] : Sz (List α) := ⟨fun n l => l.length ≤ n ∧ ∀ x ∈ l, Sz.sm n x, fun _ => ⟨Nat.zero_le _, fun _ h => by cases h⟩, fun h k => ⟨Nat.le_trans k.1 h, fun x hx => Sz.mono h (k.2 x hx)⟩⟩
theorem XS {α : Type} [Inhabited α] [Sz α] {n : Nat} {l : List α} : Sm n l = (l.length ≤ n ∧ ∀ x ∈ l, Sm n x) := rfl
theorem zF {α : Type} [Inhabited α] [Sz α] {n : Nat} {l : List α} (h : Sm n l) : l.length ≤ n := h.1
theorem Lm {n : Nat} {s : ByteArray} (h : Sm n s) : s.size ≤ n := h
@[simp] theorem AW {n : Nat} {x : Int} : Sm n x := trivial
@[simp] theorem AJ {n : Nat} {x : Bool} : Sm n x := trivial
@[simp] theorem Ao {n : Nat} {x : UInt8} : Sm n x := trivial
@[simp] theorem AV {α : Type} [Inhabited α] [Sz α] {n : Nat} : Sm n ([] : List α) := ⟨Nat.zero_le _, fun _ h => by cases h⟩
@[simp] theorem Xm {α : Type} [Inhabited α] [Sz α] {n i : Nat} {l : List α} (h : Sm n l) : Sm n (nth l i) := by
  unfold nth
  rw [List.getD_eq_getElem?_getD]
  cases hh : l[i]? with
  | none => exact Sz.zero n
  | some x => exact h.2 x (List.mem_of_getElem? hh)
@[simp] theorem AK {α : Type} [Inhabited α] [Sz α] {n i : Nat} {l : List α} (h : Sm n l) : Sm n (l.take i) := ⟨Nat.le_trans (by simp; omega) h.1, fun x hx => h.2 x (List.mem_of_mem_take hx)⟩
@[simp] theorem AP {α : Type} [Inhabited α] [Sz α] {n i : Nat} {l : List α} (h : Sm n l) : Sm n (l.drop i) := ⟨Nat.le_trans (by simp) h.1, fun x hx => h.2 x (List.mem_of_mem_drop hx)⟩
theorem Kx {α : Type} [Inhabited α] [Sz α] {n : Nat} {l m : List α} : Sm n (l ++ m) = (l.length + m.length ≤ n ∧ (∀ x ∈ l, Sm n x) ∧ ∀ x ∈ m, Sm n x) := by
  rw [XS]; simp [or_imp, forall_and]
theorem Zr {α : Type} [Inhabited α] [Sz α] {n m : Nat} {x : α} (h : n ≤ m) (k : Sm n x) : Sm m x := Sz.mono h k
structure ZQ where
  Authority : Int
  Seq : Int
  Time : Int
  Yz : Int
  Mark : Int
  deriving Inhabited, DecidableEq
@[simp] def ZQ.row (x : ZQ) : List Vm.D := [.int .i64 x.Authority, .int .i64 x.Seq, .int .i64 x.Time, .int .i64 x.Yz, .int .i64 x.Mark]
instance : Cn ZQ := ⟨fun x => cn x.Authority + cn x.Seq + cn x.Time + cn x.Yz + cn x.Mark⟩
theorem ZQ.Yn (x : ZQ) : cn x = cn x.Authority + cn x.Seq + cn x.Time + cn x.Yz + cn x.Mark := rfl
instance : Sz ZQ := ⟨fun _ _ => True, fun _ => trivial, fun _ h => h⟩
@[simp] theorem ZQ.jx {n : Nat} {x : ZQ} : Sm n x := trivial
structure Zk where
  Yz : Int
  Left : Bool
  deriving Inhabited, DecidableEq
@[simp] def Zk.row (x : Zk) : List Vm.D := [.int .i64 x.Yz, .bool x.Left]
instance : Cn Zk := ⟨fun x => cn x.Yz + cn x.Left⟩
theorem Zk.Yn (x : Zk) : cn x = cn x.Yz + cn x.Left := rfl
instance : Sz Zk := ⟨fun _ _ => True, fun _ => trivial, fun _ h => h⟩
@[simp] theorem Zk.jx {n : Nat} {x : Zk} : Sm n x := trivial
structure ZG where
  Count : Int
  Method : Int
  TA : Int
  Path : List Zk
  Zx : List ZQ
  deriving Inhabited, DecidableEq
@[simp] def ZG.row (x : ZG) : List Vm.D := [.int .i64 x.Count, .int .i64 x.Method, .int .i64 x.TA, .sl 2 (x.Path.map Zk.row), .sl 5 (x.Zx.map ZQ.row)]
instance : Cn ZG := ⟨fun x => cn x.Count + cn x.Method + cn x.TA + cn x.Path + cn x.Zx⟩
theorem ZG.Yn (x : ZG) : cn x = cn x.Count + cn x.Method + cn x.TA + cn x.Path + cn x.Zx := rfl
instance : Sz ZG := ⟨fun n x => Sm n x.Path ∧ Sm n x.Zx, fun n => ⟨Sz.zero n, Sz.zero n⟩, fun h k => ⟨Sz.mono h k.1, Sz.mono h k.2⟩⟩
@[simp] theorem ZG.CF {n : Nat} {x : ZG} (h : Sm n x) : Sm n x.Path := h.1
@[simp] theorem ZG.LF {n : Nat} {x : ZG} (h : Sm n x) : Sm n x.Zx := h.2
@[simp] theorem ZG.VT {n : Nat} {Count' : Int} {Method' : Int} {Root' : Int} {Path' : List Zk} {Stamps' : List ZQ} : Sm n (ZG.mk Count' Method' Root' Path' Stamps') = (Sm n Path' ∧ Sm n Stamps') := rfl
structure YG where
  Number : Int
  zx : Int
  Method : Int
  VF : Int
  zE : Int
  deriving Inhabited, DecidableEq
@[simp] def YG.row (x : YG) : List Vm.D := [.int .i64 x.Number, .int .i64 x.zx, .int .i64 x.Method, .int .i64 x.VF, .int .i64 x.zE]
instance : Cn YG := ⟨fun x => cn x.Number + cn x.zx + cn x.Method + cn x.VF + cn x.zE⟩
theorem YG.Yn (x : YG) : cn x = cn x.Number + cn x.zx + cn x.Method + cn x.VF + cn x.zE := rfl
instance : Sz YG := ⟨fun _ _ => True, fun _ => trivial, fun _ h => h⟩
@[simp] theorem YG.jx {n : Nat} {x : YG} : Sm n x := trivial
structure ZJ where
  Id : Int
  Key : Int
  Error : Int
  deriving Inhabited, DecidableEq
@[simp] def ZJ.row (x : ZJ) : List Vm.D := [.int .i64 x.Id, .int .i64 x.Key, .int .i64 x.Error]
instance : Cn ZJ := ⟨fun x => cn x.Id + cn x.Key + cn x.Error⟩
theorem ZJ.Yn (x : ZJ) : cn x = cn x.Id + cn x.Key + cn x.Error := rfl
instance : Sz ZJ := ⟨fun _ _ => True, fun _ => trivial, fun _ h => h⟩
@[simp] theorem ZJ.jx {n : Nat} {x : ZJ} : Sm n x := trivial
structure Zc where
  Id : Int
  Vp : Int
  Ends : Int
  jE : Int
  deriving Inhabited, DecidableEq
@[simp] def Zc.row (x : Zc) : List Vm.D := [.int .i64 x.Id, .int .i64 x.Vp, .int .i64 x.Ends, .int .i64 x.jE]
instance : Cn Zc := ⟨fun x => cn x.Id + cn x.Vp + cn x.Ends + cn x.jE⟩
theorem Zc.Yn (x : Zc) : cn x = cn x.Id + cn x.Vp + cn x.Ends + cn x.jE := rfl
instance : Sz Zc := ⟨fun _ _ => True, fun _ => trivial, fun _ h => h⟩
@[simp] theorem Zc.jx {n : Nat} {x : Zc} : Sm n x := trivial
structure YF where
  YV : List YG
  ZC : List ZJ
  Methods : List Zc
  zN : Int
  Now : Int
  deriving Inhabited, DecidableEq
@[simp] def YF.row (x : YF) : List Vm.D := [.sl 5 (x.YV.map YG.row), .sl 3 (x.ZC.map ZJ.row), .sl 4 (x.Methods.map Zc.row), .int .i64 x.zN, .int .i64 x.Now]
instance : Cn YF := ⟨fun x => cn x.YV + cn x.ZC + cn x.Methods + cn x.zN + cn x.Now⟩
theorem YF.Yn (x : YF) : cn x = cn x.YV + cn x.ZC + cn x.Methods + cn x.zN + cn x.Now := rfl
instance : Sz YF := ⟨fun n x => Sm n x.YV ∧ Sm n x.ZC ∧ Sm n x.Methods, fun n => ⟨Sz.zero n, Sz.zero n, Sz.zero n⟩, fun h k => ⟨Sz.mono h k.1, Sz.mono h k.2.1, Sz.mono h k.2.2⟩⟩
@[simp] theorem YF.WV {n : Nat} {x : YF} (h : Sm n x) : Sm n x.YV := h.1
@[simp] theorem YF.Qq {n : Nat} {x : YF} (h : Sm n x) : Sm n x.ZC := h.2.1
@[simp] theorem YF.OA {n : Nat} {x : YF} (h : Sm n x) : Sm n x.Methods := h.2.2
@[simp] theorem YF.VT {n : Nat} {Keys' : List YG} {Authorities' : List ZJ} {Methods' : List Zc} {Liars' : Int} {Now' : Int} : Sm n (YF.mk Keys' Authorities' Methods' Liars' Now') = (Sm n Keys' ∧ Sm n Authorities' ∧ Sm n Methods') := rfl
structure Z0 where
  QY : Int
  Key : Int
  zx : Int
  qQ : Int
  To : Int
  Kc : Int
  Mark : Int
  deriving Inhabited, DecidableEq
@[simp] def Z0.row (x : Z0) : List Vm.D := [.int .i64 x.QY, .int .i64 x.Key, .int .i64 x.zx, .int .i64 x.qQ, .int .i64 x.To, .int .i64 x.Kc, .int .i64 x.Mark]
instance : Cn Z0 := ⟨fun x => cn x.QY + cn x.Key + cn x.zx + cn x.qQ + cn x.To + cn x.Kc + cn x.Mark⟩
theorem Z0.Yn (x : Z0) : cn x = cn x.QY + cn x.Key + cn x.zx + cn x.qQ + cn x.To + cn x.Kc + cn x.Mark := rfl
instance : Sz Z0 := ⟨fun _ _ => True, fun _ => trivial, fun _ h => h⟩
@[simp] theorem Z0.jx {n : Nat} {x : Z0} : Sm n x := trivial
structure ZV where
  K9 : Int
  ZE : List ByteArray
  ZH : List Int
  deriving Inhabited, DecidableEq
@[simp] def ZV.row (x : ZV) : List Vm.D := [.int .i64 x.K9, .sl 1 (x.ZE.map sR), .sl 1 (x.ZH.map iR)]
instance : Cn ZV := ⟨fun x => cn x.K9 + cn x.ZE + cn x.ZH⟩
theorem ZV.Yn (x : ZV) : cn x = cn x.K9 + cn x.ZE + cn x.ZH := rfl
instance : Sz ZV := ⟨fun n x => Sm n x.ZE ∧ Sm n x.ZH, fun n => ⟨Sz.zero n, Sz.zero n⟩, fun h k => ⟨Sz.mono h k.1, Sz.mono h k.2⟩⟩
@[simp] theorem ZV.Tq {n : Nat} {x : ZV} (h : Sm n x) : Sm n x.ZE := h.1
@[simp] theorem ZV.O3 {n : Nat} {x : ZV} (h : Sm n x) : Sm n x.ZH := h.2
@[simp] theorem ZV.VT {n : Nat} {Title' : Int} {Parts' : List ByteArray} {Salts' : List Int} : Sm n (ZV.mk Title' Parts' Salts') = (Sm n Parts' ∧ Sm n Salts') := rfl
structure Zh where
  Key : Int
  QY : Int
  Method : Int
  Yz : Int
  zj : Int
  Org : Int
  KU : Int
  yw : Int
  Mark : Int
  deriving Inhabited, DecidableEq
@[simp] def Zh.row (x : Zh) : List Vm.D := [.int .i64 x.Key, .int .i64 x.QY, .int .i64 x.Method, .int .i64 x.Yz, .int .i64 x.zj, .int .i64 x.Org, .int .i64 x.KU, .int .i64 x.yw, .int .i64 x.Mark]
instance : Cn Zh := ⟨fun x => cn x.Key + cn x.QY + cn x.Method + cn x.Yz + cn x.zj + cn x.Org + cn x.KU + cn x.yw + cn x.Mark⟩
theorem Zh.Yn (x : Zh) : cn x = cn x.Key + cn x.QY + cn x.Method + cn x.Yz + cn x.zj + cn x.Org + cn x.KU + cn x.yw + cn x.Mark := rfl
instance : Sz Zh := ⟨fun _ _ => True, fun _ => trivial, fun _ h => h⟩
@[simp] theorem Zh.jx {n : Nat} {x : Zh} : Sm n x := trivial
structure ZN where
  Key : Int
  Y7 : List Int
  Mark : Int
  deriving Inhabited, DecidableEq
@[simp] def ZN.row (x : ZN) : List Vm.D := [.int .i64 x.Key, .sl 1 (x.Y7.map iR), .int .i64 x.Mark]
instance : Cn ZN := ⟨fun x => cn x.Key + cn x.Y7 + cn x.Mark⟩
theorem ZN.Yn (x : ZN) : cn x = cn x.Key + cn x.Y7 + cn x.Mark := rfl
instance : Sz ZN := ⟨fun n x => Sm n x.Y7, fun n => Sz.zero n, fun h k => Sz.mono h k⟩
@[simp] theorem ZN.Fi {n : Nat} {x : ZN} (h : Sm n x) : Sm n x.Y7 := h
@[simp] theorem ZN.VT {n : Nat} {Key' : Int} {Ints' : List Int} {Mark' : Int} : Sm n (ZN.mk Key' Ints' Mark') = (Sm n Ints') := rfl
structure Za where
  ZO : List ZN
  ZX : List ZG
  deriving Inhabited, DecidableEq
@[simp] def Za.row (x : Za) : List Vm.D := [.sl 3 (x.ZO.map ZN.row), .sl 5 (x.ZX.map ZG.row)]
instance : Cn Za := ⟨fun x => cn x.ZO + cn x.ZX⟩
theorem Za.Yn (x : Za) : cn x = cn x.ZO + cn x.ZX := rfl
instance : Sz Za := ⟨fun n x => Sm n x.ZO ∧ Sm n x.ZX, fun n => ⟨Sz.zero n, Sz.zero n⟩, fun h k => ⟨Sz.mono h k.1, Sz.mono h k.2⟩⟩
@[simp] theorem Za.kI {n : Nat} {x : Za} (h : Sm n x) : Sm n x.ZO := h.1
@[simp] theorem Za.xp {n : Nat} {x : Za} (h : Sm n x) : Sm n x.ZX := h.2
@[simp] theorem Za.VT {n : Nat} {Pieces' : List ZN} {Chain' : List ZG} : Sm n (Za.mk Pieces' Chain') = (Sm n Pieces' ∧ Sm n Chain') := rfl
structure ZY where
  Id : Int
  Y8 : Int
  Doc : ZV
  Sig : Zh
  ZL : Za
  deriving Inhabited, DecidableEq
@[simp] def ZY.row (x : ZY) : List Vm.D := [.int .i64 x.Id, .int .i64 x.Y8, .int .i64 x.Doc.K9, .sl 1 (x.Doc.ZE.map sR), .sl 1 (x.Doc.ZH.map iR), .int .i64 x.Sig.Key, .int .i64 x.Sig.QY, .int .i64 x.Sig.Method, .int .i64 x.Sig.Yz, .int .i64 x.Sig.zj, .int .i64 x.Sig.Org, .int .i64 x.Sig.KU, .int .i64 x.Sig.yw, .int .i64 x.Sig.Mark, .sl 3 (x.ZL.ZO.map ZN.row), .sl 5 (x.ZL.ZX.map ZG.row)]
instance : Cn ZY := ⟨fun x => cn x.Id + cn x.Y8 + cn x.Doc + cn x.Sig + cn x.ZL⟩
theorem ZY.Yn (x : ZY) : cn x = cn x.Id + cn x.Y8 + cn x.Doc + cn x.Sig + cn x.ZL := rfl
instance : Sz ZY := ⟨fun n x => Sm n x.Doc ∧ Sm n x.ZL, fun n => ⟨Sz.zero n, Sz.zero n⟩, fun h k => ⟨Sz.mono h k.1, Sz.mono h k.2⟩⟩
@[simp] theorem ZY.SF {n : Nat} {x : ZY} (h : Sm n x) : Sm n x.Doc := h.1
@[simp] theorem ZY.KF {n : Nat} {x : ZY} (h : Sm n x) : Sm n x.ZL := h.2
@[simp] theorem ZY.VT {n : Nat} {Id' : Int} {Keep' : Int} {Doc' : ZV} {Sig' : Zh} {Strand' : Za} : Sm n (ZY.mk Id' Keep' Doc' Sig' Strand') = (Sm n Doc' ∧ Sm n Strand') := rfl
structure ZF where
  Id : Int
  ZM : List ZY
  deriving Inhabited, DecidableEq
@[simp] def ZF.row (x : ZF) : List Vm.D := [.int .i64 x.Id, .sl 16 (x.ZM.map ZY.row)]
instance : Cn ZF := ⟨fun x => cn x.Id + cn x.ZM⟩
theorem ZF.Yn (x : ZF) : cn x = cn x.Id + cn x.ZM := rfl
instance : Sz ZF := ⟨fun n x => Sm n x.ZM, fun n => Sz.zero n, fun h k => Sz.mono h k⟩
@[simp] theorem ZF.Kk {n : Nat} {x : ZF} (h : Sm n x) : Sm n x.ZM := h
@[simp] theorem ZF.VT {n : Nat} {Id' : Int} {Items' : List ZY} : Sm n (ZF.mk Id' Items') = (Sm n Items') := rfl
structure ZZ where
  Frame : YF
  Zy : List Z0
  Z3 : List Int
  ZI : List ZF
  YZ : List Int
  Yl : List Int
  Next : Int
  Ym : List Int
  deriving Inhabited, DecidableEq
@[simp] def ZZ.row (x : ZZ) : List Vm.D := [.sl 5 (x.Frame.YV.map YG.row), .sl 3 (x.Frame.ZC.map ZJ.row), .sl 4 (x.Frame.Methods.map Zc.row), .int .i64 x.Frame.zN, .int .i64 x.Frame.Now, .sl 7 (x.Zy.map Z0.row), .sl 1 (x.Z3.map iR), .sl 2 (x.ZI.map ZF.row), .sl 1 (x.YZ.map iR), .sl 1 (x.Yl.map iR), .int .i64 x.Next, .sl 1 (x.Ym.map iR)]
instance : Cn ZZ := ⟨fun x => cn x.Frame + cn x.Zy + cn x.Z3 + cn x.ZI + cn x.YZ + cn x.Yl + cn x.Next + cn x.Ym⟩
theorem ZZ.Yn (x : ZZ) : cn x = cn x.Frame + cn x.Zy + cn x.Z3 + cn x.ZI + cn x.YZ + cn x.Yl + cn x.Next + cn x.Ym := rfl
instance : Sz ZZ := ⟨fun n x => Sm n x.Frame ∧ Sm n x.Zy ∧ Sm n x.Z3 ∧ Sm n x.ZI ∧ Sm n x.YZ ∧ Sm n x.Yl ∧ Sm n x.Ym, fun n => ⟨Sz.zero n, Sz.zero n, Sz.zero n, Sz.zero n, Sz.zero n, Sz.zero n, Sz.zero n⟩, fun h k => ⟨Sz.mono h k.1, Sz.mono h k.2.1, Sz.mono h k.2.2.1, Sz.mono h k.2.2.2.1, Sz.mono h k.2.2.2.2.1, Sz.mono h k.2.2.2.2.2.1, Sz.mono h k.2.2.2.2.2.2⟩⟩
@[simp] theorem ZZ.Qx {n : Nat} {x : ZZ} (h : Sm n x) : Sm n x.Frame := h.1
@[simp] theorem ZZ.E3 {n : Nat} {x : ZZ} (h : Sm n x) : Sm n x.Zy := h.2.1
@[simp] theorem ZZ.Ho {n : Nat} {x : ZZ} (h : Sm n x) : Sm n x.Z3 := h.2.2.1
@[simp] theorem ZZ.QO {n : Nat} {x : ZZ} (h : Sm n x) : Sm n x.ZI := h.2.2.2.1
@[simp] theorem ZZ.FT {n : Nat} {x : ZZ} (h : Sm n x) : Sm n x.YZ := h.2.2.2.2.1
@[simp] theorem ZZ.Ha {n : Nat} {x : ZZ} (h : Sm n x) : Sm n x.Yl := h.2.2.2.2.2.1
@[simp] theorem ZZ.M6 {n : Nat} {x : ZZ} (h : Sm n x) : Sm n x.Ym := h.2.2.2.2.2.2
@[simp] theorem ZZ.VT {n : Nat} {Frame' : YF} {Certs' : List Z0} {Ended' : List Int} {Archives' : List ZF} {Seqs' : List Int} {Lying' : List Int} {Next' : Int} {Forged' : List Int} : Sm n (ZZ.mk Frame' Certs' Ended' Archives' Seqs' Lying' Next' Forged') = (Sm n Frame' ∧ Sm n Certs' ∧ Sm n Ended' ∧ Sm n Archives' ∧ Sm n Seqs' ∧ Sm n Lying' ∧ Sm n Forged') := rfl
structure qB where
  Kind : Int
  A : Int
  B : Int
  C : Int
  D : Int
  Doc : ZV
  Ids : List Int
  deriving Inhabited, DecidableEq
@[simp] def qB.row (x : qB) : List Vm.D := [.int .i64 x.Kind, .int .i64 x.A, .int .i64 x.B, .int .i64 x.C, .int .i64 x.D, .int .i64 x.Doc.K9, .sl 1 (x.Doc.ZE.map sR), .sl 1 (x.Doc.ZH.map iR), .sl 1 (x.Ids.map iR)]
instance : Cn qB := ⟨fun x => cn x.Kind + cn x.A + cn x.B + cn x.C + cn x.D + cn x.Doc + cn x.Ids⟩
theorem qB.Yn (x : qB) : cn x = cn x.Kind + cn x.A + cn x.B + cn x.C + cn x.D + cn x.Doc + cn x.Ids := rfl
instance : Sz qB := ⟨fun n x => Sm n x.Doc ∧ Sm n x.Ids, fun n => ⟨Sz.zero n, Sz.zero n⟩, fun h k => ⟨Sz.mono h k.1, Sz.mono h k.2⟩⟩
@[simp] theorem qB.SF {n : Nat} {x : qB} (h : Sm n x) : Sm n x.Doc := h.1
@[simp] theorem qB.Ae {n : Nat} {x : qB} (h : Sm n x) : Sm n x.Ids := h.2
@[simp] theorem qB.VT {n : Nat} {Kind' : Int} {A' : Int} {B' : Int} {C' : Int} {D' : Int} {Doc' : ZV} {Ids' : List Int} : Sm n (qB.mk Kind' A' B' C' D' Doc' Ids') = (Sm n Doc' ∧ Sm n Ids') := rfl
structure TF where
  qQ : Int
  To : Int
  deriving Inhabited, DecidableEq
@[simp] def TF.row (x : TF) : List Vm.D := [.int .i64 x.qQ, .int .i64 x.To]
instance : Cn TF := ⟨fun x => cn x.qQ + cn x.To⟩
theorem TF.Yn (x : TF) : cn x = cn x.qQ + cn x.To := rfl
instance : Sz TF := ⟨fun _ _ => True, fun _ => trivial, fun _ h => h⟩
@[simp] theorem TF.jx {n : Nat} {x : TF} : Sm n x := trivial
structure xl where
  Code : Int
  Reason : Int
  Span : TF
  deriving Inhabited, DecidableEq
@[simp] def xl.row (x : xl) : List Vm.D := [.int .i64 x.Code, .int .i64 x.Reason, .int .i64 x.Span.qQ, .int .i64 x.Span.To]
instance : Cn xl := ⟨fun x => cn x.Code + cn x.Reason + cn x.Span⟩
theorem xl.Yn (x : xl) : cn x = cn x.Code + cn x.Reason + cn x.Span := rfl
instance : Sz xl := ⟨fun _ _ => True, fun _ => trivial, fun _ h => h⟩
@[simp] theorem xl.jx {n : Nat} {x : xl} : Sm n x := trivial
structure Xk where
  K9 : Int
  Methods : List Int
  Shown : List Bool
  ZE : List ByteArray
  ZH : List Int
  TZ : List (List Int)
  deriving Inhabited, DecidableEq
@[simp] def Xk.row (x : Xk) : List Vm.D := [.int .i64 x.K9, .sl 1 (x.Methods.map iR), .sl 1 (x.Shown.map lR), .sl 1 (x.ZE.map sR), .sl 1 (x.ZH.map iR), .sl 1 (x.TZ.map (slR 1 iR))]
instance : Cn Xk := ⟨fun x => cn x.K9 + cn x.Methods + cn x.Shown + cn x.ZE + cn x.ZH + cn x.TZ⟩
theorem Xk.Yn (x : Xk) : cn x = cn x.K9 + cn x.Methods + cn x.Shown + cn x.ZE + cn x.ZH + cn x.TZ := rfl
instance : Sz Xk := ⟨fun n x => Sm n x.Methods ∧ Sm n x.Shown ∧ Sm n x.ZE ∧ Sm n x.ZH ∧ Sm n x.TZ, fun n => ⟨Sz.zero n, Sz.zero n, Sz.zero n, Sz.zero n, Sz.zero n⟩, fun h k => ⟨Sz.mono h k.1, Sz.mono h k.2.1, Sz.mono h k.2.2.1, Sz.mono h k.2.2.2.1, Sz.mono h k.2.2.2.2⟩⟩
@[simp] theorem Xk.OA {n : Nat} {x : Xk} (h : Sm n x) : Sm n x.Methods := h.1
@[simp] theorem Xk.B1 {n : Nat} {x : Xk} (h : Sm n x) : Sm n x.Shown := h.2.1
@[simp] theorem Xk.Tq {n : Nat} {x : Xk} (h : Sm n x) : Sm n x.ZE := h.2.2.1
@[simp] theorem Xk.O3 {n : Nat} {x : Xk} (h : Sm n x) : Sm n x.ZH := h.2.2.2.1
@[simp] theorem Xk.BE {n : Nat} {x : Xk} (h : Sm n x) : Sm n x.TZ := h.2.2.2.2
@[simp] theorem Xk.VT {n : Nat} {Title' : Int} {Methods' : List Int} {Shown' : List Bool} {Parts' : List ByteArray} {Salts' : List Int} {Digests' : List (List Int)} : Sm n (Xk.mk Title' Methods' Shown' Parts' Salts' Digests') = (Sm n Methods' ∧ Sm n Shown' ∧ Sm n Parts' ∧ Sm n Salts' ∧ Sm n Digests') := rfl
structure JE where
  Tg : List Za
  GL : List (List ZQ)
  deriving Inhabited, DecidableEq
@[simp] def JE.row (x : JE) : List Vm.D := [.sl 2 (x.Tg.map Za.row), .sl 1 (x.GL.map (slR 5 ZQ.row))]
instance : Cn JE := ⟨fun x => cn x.Tg + cn x.GL⟩
theorem JE.Yn (x : JE) : cn x = cn x.Tg + cn x.GL := rfl
instance : Sz JE := ⟨fun n x => Sm n x.Tg ∧ Sm n x.GL, fun n => ⟨Sz.zero n, Sz.zero n⟩, fun h k => ⟨Sz.mono h k.1, Sz.mono h k.2⟩⟩
@[simp] theorem JE.BQ {n : Nat} {x : JE} (h : Sm n x) : Sm n x.Tg := h.1
@[simp] theorem JE.By {n : Nat} {x : JE} (h : Sm n x) : Sm n x.GL := h.2
@[simp] theorem JE.VT {n : Nat} {Strands' : List Za} {Fresh' : List (List ZQ)} : Sm n (JE.mk Strands' Fresh') = (Sm n Strands' ∧ Sm n Fresh') := rfl
structure jb where
  QY : Int
  Cr : Int
  Z3 : Int
  Kc : Int
  Mark : Int
  deriving Inhabited, DecidableEq
@[simp] def jb.row (x : jb) : List Vm.D := [.int .i64 x.QY, .int .i64 x.Cr, .int .i64 x.Z3, .int .i64 x.Kc, .int .i64 x.Mark]
instance : Cn jb := ⟨fun x => cn x.QY + cn x.Cr + cn x.Z3 + cn x.Kc + cn x.Mark⟩
theorem jb.Yn (x : jb) : cn x = cn x.QY + cn x.Cr + cn x.Z3 + cn x.Kc + cn x.Mark := rfl
instance : Sz jb := ⟨fun _ _ => True, fun _ => trivial, fun _ h => h⟩
@[simp] theorem jb.jx {n : Nat} {x : jb} : Sm n x := trivial
structure xg where
  qQ : Int
  To : Int
  ZM : List ZY
  Yz : Int
  deriving Inhabited, DecidableEq
@[simp] def xg.row (x : xg) : List Vm.D := [.int .i64 x.qQ, .int .i64 x.To, .sl 16 (x.ZM.map ZY.row), .int .i64 x.Yz]
instance : Cn xg := ⟨fun x => cn x.qQ + cn x.To + cn x.ZM + cn x.Yz⟩
theorem xg.Yn (x : xg) : cn x = cn x.qQ + cn x.To + cn x.ZM + cn x.Yz := rfl
instance : Sz xg := ⟨fun n x => Sm n x.ZM, fun n => Sz.zero n, fun h k => Sz.mono h k⟩
@[simp] theorem xg.Kk {n : Nat} {x : xg} (h : Sm n x) : Sm n x.ZM := h
@[simp] theorem xg.VT {n : Nat} {From' : Int} {To' : Int} {Items' : List ZY} {Digest' : Int} : Sm n (xg.mk From' To' Items' Digest') = (Sm n Items') := rfl
structure xo where
  Org : Int
  Gk : Int
  qQ : Int
  To : Int
  Key : Int
  Mark : Int
  deriving Inhabited, DecidableEq
@[simp] def xo.row (x : xo) : List Vm.D := [.int .i64 x.Org, .int .i64 x.Gk, .int .i64 x.qQ, .int .i64 x.To, .int .i64 x.Key, .int .i64 x.Mark]
instance : Cn xo := ⟨fun x => cn x.Org + cn x.Gk + cn x.qQ + cn x.To + cn x.Key + cn x.Mark⟩
theorem xo.Yn (x : xo) : cn x = cn x.Org + cn x.Gk + cn x.qQ + cn x.To + cn x.Key + cn x.Mark := rfl
instance : Sz xo := ⟨fun _ _ => True, fun _ => trivial, fun _ h => h⟩
@[simp] theorem xo.jx {n : Nat} {x : xo} : Sm n x := trivial
end Go.Mo
namespace Go.Mo
open Go.Vm
theorem Ub {α : Type} [Inhabited α] {l : List α} {i : Nat} (h : i < l.length) : nth l i = l[i] := by simp [nth, h]
theorem Fp {α : Type} [Inhabited α] {l : List α} {i : Nat} (h : i < l.length) : nth l i ∈ l := by rw [Ub h]; exact List.getElem_mem h
theorem zZ {α : Type} [Inhabited α] {F : Nat → Nat → List α → List α} {a : List α} {g : α → α} (hg : ∀ x, g x = x)
    (h1 : ∀ n i v, F (n + 1) i v = bif decide ((i : Int) < (a.length : Int)) then F n (i + 1) (v.set i (g (nth a i))) else v) :
    ∀ n i v, v.length = a.length → a.length < n + i → i ≤ a.length → (∀ j, j < i → v[j]? = a[j]?) → F n i v = a := by
  intro n
  induction n with
  | zero => intro i v _ h2 h3; omega
  | succ n ih =>
    intro i v hl h2 h3 hj
    rw [h1]
    by_cases hi : i < a.length
    · have : decide ((i : Int) < (a.length : Int)) = true := by simp [hi]
      rw [this, cond_true]
      refine ih _ _ (by simp [hl]) (by omega) hi (fun j hlt => ?_)
      rw [List.getElem?_set]
      by_cases hji : i = j
      · subst hji; simp [hl, hi, hg, Ub hi]
      · rw [if_neg hji]; exact hj j (by omega)
    · have : decide ((i : Int) < (a.length : Int)) = false := by simp; omega
      rw [this, cond_false]
      apply List.ext_getElem?
      intro j
      by_cases hji : j < i
      · exact hj j hji
      · rw [List.getElem?_eq_none (by omega), List.getElem?_eq_none (by omega)]
theorem z8 {α : Type} [Inhabited α] {F : Nat → List α → Nat → List α} {a : List α} {g : α → α} (hg : ∀ x, g x = x)
    (h1 : ∀ n v i, F (n + 1) v i = bif decide ((i : Int) < (a.length : Int)) then F n (v ++ [g (nth a i)]) (i + 1) else v) :
    ∀ n v i, a.length < n + i → i ≤ a.length → F n v i = v ++ a.drop i := by
  intro n
  induction n with
  | zero => intro v i h2 h3; omega
  | succ n ih =>
    intro v i h2 h3
    rw [h1]
    by_cases hi : i < a.length
    · rw [show decide ((i : Int) < (a.length : Int)) = true by simp [hi], cond_true, ih _ _ (by omega) hi, hg, Ub hi, List.append_assoc, List.singleton_append, ← List.drop_eq_getElem_cons hi]
    · rw [show decide ((i : Int) < (a.length : Int)) = false by simp; omega, cond_false, List.drop_eq_nil_of_le (by omega), List.append_nil]
theorem PX {F : Nat → Nat → Sum Int Unit} {L : Nat} {c : Nat → Bool} (h0 : ∀ i, F 0 i = .inr ())
    (h1 : ∀ n i, F (n + 1) i = bif decide ((i : Int) < (L : Int)) then (bif c i then .inl (i : Int) else F n (i + 1)) else .inr ()) :
    ∀ n i, (match F n i with | .inl r => r | .inr _ => -1) < (L : Int) := by
  intro n
  induction n with
  | zero => intro i; rw [h0]; show (-1 : Int) < _; omega
  | succ n ih =>
    intro i
    rw [h1]
    by_cases hi : (i : Int) < (L : Int)
    · rw [show decide ((i : Int) < (L : Int)) = true by simpa using hi, cond_true]
      cases hc : c i with
      | true => simpa using hi
      | false => exact ih (i + 1)
    · rw [show decide ((i : Int) < (L : Int)) = false by simpa using hi, cond_false]
      show (-1 : Int) < _; omega
theorem Zl {rows : List (List Vm.D)} {i : Nat} {r : List Vm.D} (h : i < rows.length) : Vm.rowAt (rows.set i r) i = r := by simp [Vm.rowAt, h]
/-- marks, from left to right -/
def mkL {α : Type} (f : α → Int → α × Int) : List α → Int → List α × Int
  | [], k => ([], k)
  | x :: l, k => ((f x k).1 :: (mkL f l (f x k).2).1, (mkL f l (f x k).2).2)
theorem Xq {α : Type} (f : α → Int → α × Int) : ∀ (l : List α) (k : Int), (mkL f l k).1.length = l.length
  | [], _ => rfl
  | x :: l, k => by simp [mkL, Xq f l]
theorem Q9 {α : Type} [Inhabited α] {F : Nat → Int → Nat → List α → Int × List α} {f : α → Int → α × Int}
    (h1 : ∀ n k i v, F (n + 1) k i v = bif decide ((i : Int) < (v.length : Int)) then F n (f (nth v i) k).2 (i + 1) (v.set i (f (nth v i) k).1) else (k, v)) :
    ∀ (l pre : List α) (n : Nat) (k : Int), l.length < n → F n k pre.length (pre ++ l) = ((mkL f l k).2, pre ++ (mkL f l k).1) := by
  intro l
  induction l with
  | nil =>
    intro pre n k hn
    obtain ⟨m, rfl⟩ : ∃ m, n = m + 1 := ⟨n - 1, by simp at hn; omega⟩
    rw [h1]; simp [mkL]
  | cons x l ih =>
    intro pre n k hn
    obtain ⟨m, rfl⟩ : ∃ m, n = m + 1 := ⟨n - 1, by simp at hn; omega⟩
    have hx : nth (pre ++ x :: l) pre.length = x := by simp [nth]
    have hs : ∀ y, (pre ++ x :: l).set pre.length y = (pre ++ [y]) ++ l := by intro y; simp
    have hd : decide ((pre.length : Int) < ((pre ++ x :: l).length : Int)) = true := by simp; omega
    rw [h1, hd, cond_true, hx, hs]
    have := ih (pre ++ [(f x k).1]) m (f x k).2 (by simp at hn; omega)
    rw [List.length_append, List.length_singleton] at this
    rw [this]; simp [mkL]
theorem Xs {α : Type} {f : α → Int → α × Int} {c : α → Nat} (hc : ∀ (x : α) (k : Int), 0 ≤ k → k + c x < 4611686018427387904 → (f x k).2 = k + c x) :
    ∀ (l : List α) (k : Int), 0 ≤ k → k + cnL c l < 4611686018427387904 → (mkL f l k).2 = k + cnL c l
  | [], k, _, _ => by simp [mkL, cnL]
  | x :: l, k, h0, h => by
    simp only [cnL, Int.natCast_add] at h
    have e := hc x k h0 (by omega)
    have := Xs hc l (f x k).2 (by omega) (by omega)
    show (mkL f l (f x k).2).2 = _
    rw [this, e]; simp only [cnL, Int.natCast_add]; omega
theorem JB {α : Type} [Inhabited α] {z : List α} {H : Nat → Int → Nat → Sum Int Int} {G : α → Int → (Int → Sum Int Int) → Sum Int Int} {f : α → Int → α × Int} {c : α → Nat}
    (h1 : ∀ n k i, H (n + 1) k i = bif decide ((i : Int) < (z.length : Int)) then G (nth z i) k (fun k' => H n k' (i + 1)) else .inr k)
    (hc : ∀ (x : α) (k : Int), 0 ≤ k → k + c x < 4611686018427387904 → (f x k).2 = k + c x) (hG : ∀ (x : α) (k : Int) (r : Int → Sum Int Int), 0 ≤ k → k + c x < 4611686018427387904 → G (f x k).1 k r = r (f x k).2) :
    ∀ (l pre : List α) (n : Nat) (k : Int), z = pre ++ (mkL f l k).1 → l.length < n → 0 ≤ k → k + cnL c l < 4611686018427387904 → H n k pre.length = .inr (mkL f l k).2 := by
  intro l
  induction l with
  | nil =>
    intro pre n k hz hn _ _
    obtain ⟨m, rfl⟩ : ∃ m, n = m + 1 := ⟨n - 1, by simp at hn; omega⟩
    rw [h1]; simp [mkL] at hz; subst hz; simp [mkL]
  | cons x l ih =>
    intro pre n k hz hn h0 h
    obtain ⟨m, rfl⟩ : ∃ m, n = m + 1 := ⟨n - 1, by simp at hn; omega⟩
    simp only [cnL, Int.natCast_add] at h
    have e := hc x k h0 (by omega)
    have hx : nth z pre.length = (f x k).1 := by rw [hz]; simp [nth, mkL]
    have hd : decide ((pre.length : Int) < (z.length : Int)) = true := by rw [hz]; simp [mkL]; omega
    rw [h1, hd, cond_true, hx, hG x k _ h0 (by omega)]
    have := ih (pre ++ [(f x k).1]) m (f x k).2 (by rw [hz]; simp [mkL]) (by simp at hn; omega) (by omega) (by omega)
    rw [List.length_append, List.length_singleton] at this
    rw [this]; rfl
/-- a length that is reckoned off a purse -/
def xx {α : Type} [Inhabited α] [Sz α] (F : α → Int → Int) : Prop := ∀ a n, Sm maxLen a → 0 ≤ n → n ≤ 1048576 → ¬ F a n < 0 → Sm 1048576 a ∧ F a n ≤ 1048576
theorem M1 {n : Int} {l : Nat} (h0 : 0 ≤ n) (hn : n ≤ 1048576) (hl : l ≤ maxLen) : W (n - l) = n - l := by
  have hl : l ≤ 9223372036854775807 := hl
  exact ZW (by omega) (by omega)
theorem WH {α : Type} [Inhabited α] [Sz α] (hs : ∀ (n : Nat) (x : α), Sm n x) {F : List α → Int → Int} (hF : ∀ a n, F a n = bif decide (W (n - (a.length : Int)) < 0) then (-1) else W (n - (a.length : Int))) : xx F := by
  intro a n hm h0 hn h
  rw [hF, M1 h0 hn hm.1] at h ⊢
  by_cases hc : n - (a.length : Int) < 0
  · rw [show decide (n - (a.length : Int) < 0) = true by simpa using hc, cond_true] at h; omega
  · rw [show decide (n - (a.length : Int) < 0) = false by simpa using hc, cond_false] at h ⊢
    exact ⟨⟨by omega, fun x _ => hs _ x⟩, by omega⟩
theorem BI {α : Type} [Inhabited α] [Sz α] {E : α → Int → Int} (hE : xx E) {a : List α} (hm : Sm maxLen a) {G : Nat → Int → Nat → Sum Int Int}
    (h1 : ∀ n v i, G (n + 1) v i = bif decide ((i : Int) < (a.length : Int)) then (bif decide (E (nth a i) v < 0) then .inl (-1) else G n (E (nth a i) v) (i + 1)) else .inr v) :
    ∀ n v i, 0 ≤ v → v ≤ 1048576 → a.length < n + i → i ≤ a.length → ¬ (match G n v i with | .inl r => r | .inr z => z) < 0 → (∀ j, i ≤ j → j < a.length → Sm 1048576 (nth a j)) ∧ (match G n v i with | .inl r => r | .inr z => z) ≤ 1048576 := by
  intro n
  induction n with
  | zero => intro v i _ _ h2 h3; omega
  | succ n ih =>
    intro v i hv0 hv h2 h3 h
    rw [h1] at h ⊢
    by_cases hi : i < a.length
    · rw [show decide ((i : Int) < (a.length : Int)) = true by simp [hi], cond_true] at h ⊢
      by_cases hc : E (nth a i) v < 0
      · rw [show decide (E (nth a i) v < 0) = true by simpa using hc, cond_true] at h; simp at h
      · rw [show decide (E (nth a i) v < 0) = false by simpa using hc, cond_false] at h ⊢
        obtain ⟨e1, e2⟩ := hE (nth a i) v (hm.2 _ (Fp hi)) hv0 hv hc
        obtain ⟨r1, r2⟩ := ih _ (i + 1) (by omega) e2 (by omega) hi h
        refine ⟨fun j hj hjl => ?_, r2⟩
        by_cases hji : j = i
        · subst hji; exact e1
        · exact r1 j (by omega) hjl
    · rw [show decide ((i : Int) < (a.length : Int)) = false by simp; omega, cond_false] at h ⊢
      exact ⟨fun j hj hjl => by omega, hv⟩
theorem Tb {α : Type} [Inhabited α] [Sz α] {E : α → Int → Int} (hE : xx E) {F : List α → Int → Int} {G : List α → Nat → Int → Nat → Sum Int Int}
    (h1 : ∀ a n v i, G a (n + 1) v i = bif decide ((i : Int) < (a.length : Int)) then (bif decide (E (nth a i) v < 0) then .inl (-1) else G a n (E (nth a i) v) (i + 1)) else .inr v)
    (hF : ∀ a n, F a n = bif decide (W (n - (a.length : Int)) < 0) then (-1) else (match G a (a.length + 1) (W (n - (a.length : Int))) 0 with | .inl r => r | .inr z => z)) : xx F := by
  intro a n hm h0 hn h
  rw [hF, M1 h0 hn hm.1] at h ⊢
  by_cases hc : n - (a.length : Int) < 0
  · rw [show decide (n - (a.length : Int) < 0) = true by simpa using hc, cond_true] at h; omega
  · rw [show decide (n - (a.length : Int) < 0) = false by simpa using hc, cond_false] at h ⊢
    obtain ⟨r1, r2⟩ := BI hE hm (h1 a) (a.length + 1) _ 0 (by omega) (by omega) (by omega) (by omega) h
    refine ⟨⟨by omega, fun x hx => ?_⟩, r2⟩
    obtain ⟨j, hj, rfl⟩ := List.mem_iff_getElem.1 hx
    rw [← Ub hj]; exact r1 j (by omega) hj
theorem F3 : xx (fun (s : ByteArray) n => W (n - (s.size : Int))) := by
  intro a n hm h0 hn h
  have hm : a.size ≤ maxLen := hm
  dsimp only at h ⊢
  rw [M1 h0 hn hm] at h ⊢
  exact ⟨show a.size ≤ 1048576 by omega, by omega⟩
/-- the purse pays for the marks -/
def qH {α : Type} [Inhabited α] [Sz α] [Cn α] (F : α → Int → Int) (c : Nat) : Prop := ∀ a n, Sm maxLen a → 0 ≤ n → n ≤ 1048576 → ¬ F a n < 0 → (cn a : Int) ≤ 32 * (n - F a n) + c ∧ F a n ≤ n
theorem Gj {α : Type} {c : α → Nat} {m : Nat} (h : ∀ x, c x ≤ m) : ∀ l : List α, cnL c l ≤ m * l.length
  | [] => by simp [cnL]
  | x :: l => by have := Gj h l; have := h x; simp only [cnL, List.length_cons, Nat.mul_add]; omega
theorem Di {α : Type} {c : α → Nat} (h : ∀ x, 1 ≤ c x) : ∀ l : List α, l.length ≤ cnL c l
  | [] => by simp [cnL]
  | x :: l => by have := Di h l; have := h x; simp only [cnL, List.length_cons]; omega
theorem Od {α : Type} {c : α → Nat} {m : Nat} (h : ∀ x, c x = m) : ∀ l : List α, cnL c l = m * l.length
  | [] => by simp [cnL]
  | x :: l => by simp only [cnL, h, Od h l, List.length_cons, Nat.mul_add]; omega
theorem L0 (l : List Int) : cn l = l.length := by rw [Xf, Od (c := (cn : Int → Nat)) (m := 1) (fun _ => rfl)]; simp
theorem XB {α : Type} {p : α → Prop} {c : Bool} {x y : α} (hx : p x) (hy : p y) : p (bif c then x else y) := by cases c; exact hy; exact hx
theorem HA {α : Type} {p : α → Prop} {c : Bool} {x y : α} (hx : c = true → p x) (hy : c = false → p y) : p (bif c then x else y) := by cases c; exact hy rfl; exact hx rfl
theorem GN {α : Type} {F : Nat → List α → Nat → List α} {L : Nat} {g : Nat → α} (h0 : ∀ v i, F 0 v i = [])
    (h1 : ∀ n v i, F (n + 1) v i = bif decide ((i : Int) < (L : Int)) then F n (v ++ [g i]) (i + 1) else v) : ∀ n v i, (F n v i).length ≤ v.length + (L - i) := by
  intro n
  induction n with
  | zero => intro v i; rw [h0]; simp
  | succ n ih =>
    intro v i
    rw [h1]
    by_cases hi : i < L
    · rw [show decide ((i : Int) < (L : Int)) = true by simp [hi], cond_true]
      have := ih (v ++ [g i]) (i + 1); simp at this; omega
    · rw [show decide ((i : Int) < (L : Int)) = false by simp; omega, cond_false]; omega
theorem Qn {n m : Nat} {s : Za} {r : ZG} (hn : n + 1 ≤ m) (h : Sm n s) (hr : Sm m r) : Sm m (Za.mk s.ZO (s.ZX ++ [r])) := by
  refine ⟨Zr (by omega) h.1, ⟨?_, fun x hx => ?_⟩⟩
  · have := h.2.1; simp; omega
  · rcases List.mem_append.1 hx with hx | hx
    · exact Zr (by omega) (h.2.2 x hx)
    · simp at hx; subst hx; exact hr
theorem WB {α : Type} [Inhabited α] [Sz α] [Cn α] (hs : ∀ x : α, cn x ≤ 32) {F : List α → Int → Int} (hF : ∀ a n, F a n = bif decide (W (n - (a.length : Int)) < 0) then (-1) else W (n - (a.length : Int))) : qH F 0 := by
  intro a n hm h0 hn h
  rw [hF, M1 h0 hn hm.1] at h ⊢
  by_cases hc : n - (a.length : Int) < 0
  · rw [show decide (n - (a.length : Int) < 0) = true by simpa using hc, cond_true] at h; omega
  · rw [show decide (n - (a.length : Int) < 0) = false by simpa using hc, cond_false] at h ⊢
    have := Gj hs a
    rw [Xf]; omega
theorem BO {α : Type} [Inhabited α] [Sz α] [Cn α] {E : α → Int → Int} {c : Nat} (hE : qH E c) (hcc : c ≤ 32) {a : List α} (hm : Sm maxLen a) {G : Nat → Int → Nat → Sum Int Int}
    (h1 : ∀ n v i, G (n + 1) v i = bif decide ((i : Int) < (a.length : Int)) then (bif decide (E (nth a i) v < 0) then .inl (-1) else G n (E (nth a i) v) (i + 1)) else .inr v) :
    ∀ n v i, 0 ≤ v → v ≤ 1048576 → a.length < n + i → i ≤ a.length → ¬ (match G n v i with | .inl r => r | .inr z => z) < 0 →
      (cnL cn (a.drop i) : Int) ≤ 32 * (v - (match G n v i with | .inl r => r | .inr z => z)) + 32 * ((a.length : Int) - i) ∧ (match G n v i with | .inl r => r | .inr z => z) ≤ v := by
  intro n
  induction n with
  | zero => intro v i _ _ h2 h3; omega
  | succ n ih =>
    intro v i hv0 hv h2 h3 h
    rw [h1] at h ⊢
    by_cases hi : i < a.length
    · rw [show decide ((i : Int) < (a.length : Int)) = true by simp [hi], cond_true] at h ⊢
      by_cases hc : E (nth a i) v < 0
      · rw [show decide (E (nth a i) v < 0) = true by simpa using hc, cond_true] at h; simp at h
      · rw [show decide (E (nth a i) v < 0) = false by simpa using hc, cond_false] at h ⊢
        obtain ⟨e1, e2⟩ := hE (nth a i) v (hm.2 _ (Fp hi)) hv0 hv hc
        obtain ⟨r1, r2⟩ := ih _ (i + 1) (by omega) (by omega) (by omega) hi h
        rw [List.drop_eq_getElem_cons hi, cnL, ← Ub hi]
        refine ⟨?_, by omega⟩
        simp only [Int.natCast_add] at r1 ⊢
        omega
    · rw [show decide ((i : Int) < (a.length : Int)) = false by simp; omega, cond_false] at h ⊢
      rw [List.drop_eq_nil_of_le (by omega)]
      simp only [cnL]
      exact ⟨by omega, by omega⟩
theorem T1 {α : Type} [Inhabited α] [Sz α] [Cn α] {E : α → Int → Int} {c : Nat} (hE : qH E c) (hcc : c ≤ 32) {F : List α → Int → Int} {G : List α → Nat → Int → Nat → Sum Int Int}
    (h1 : ∀ a n v i, G a (n + 1) v i = bif decide ((i : Int) < (a.length : Int)) then (bif decide (E (nth a i) v < 0) then .inl (-1) else G a n (E (nth a i) v) (i + 1)) else .inr v)
    (hF : ∀ a n, F a n = bif decide (W (n - (a.length : Int)) < 0) then (-1) else (match G a (a.length + 1) (W (n - (a.length : Int))) 0 with | .inl r => r | .inr z => z)) : qH F 0 := by
  intro a n hm h0 hn h
  rw [hF, M1 h0 hn hm.1] at h ⊢
  by_cases hc : n - (a.length : Int) < 0
  · rw [show decide (n - (a.length : Int) < 0) = true by simpa using hc, cond_true] at h; omega
  · rw [show decide (n - (a.length : Int) < 0) = false by simpa using hc, cond_false] at h ⊢
    obtain ⟨r1, r2⟩ := BO hE hcc hm (h1 a) (a.length + 1) _ 0 (by omega) (by omega) (by omega) (by omega) h
    rw [List.drop_zero] at r1
    rw [Xf]
    exact ⟨by omega, by omega⟩
theorem Fz : qH (fun (s : ByteArray) n => W (n - (s.size : Int))) 1 := by
  intro a n hm h0 hn h
  have hm : a.size ≤ maxLen := hm
  dsimp only at h ⊢
  rw [M1 h0 hn hm] at h ⊢
  rw [XW]
  exact ⟨by omega, by omega⟩
end Go.Mo
namespace Go.Mo
open Go.Vm
theorem zW {F : Nat → Nat → Sum Bool Unit} {L : Nat} {c : Nat → Bool} (hc : ∀ i, c i = false) (h0 : ∀ i, F 0 i = .inr ())
    (h1 : ∀ n i, F (n + 1) i = bif decide ((i : Int) < (L : Int)) then (bif c i then .inl false else F n (i + 1)) else .inr ()) : ∀ n i, F n i = .inr () := by
  intro n
  induction n with
  | zero => exact h0
  | succ n ih =>
    intro i
    rw [h1, hc, cond_false, ih]
    cases decide ((i : Int) < (L : Int)) <;> rfl
end Go.Mo
namespace Go.Mo
open Go.Vm
theorem yv (n : Int) : W n = (n + 9223372036854775808) % 18446744073709551616 - 9223372036854775808 := IntKind.wrap_i64 n
theorem Dy {α : Type} [Inhabited α] [DecidableEq α] {F : Nat → Nat → Sum Bool Unit} {a b : List α} {c : Nat → Bool} (hl : a.length = b.length) (hc : ∀ i, c i = !decide (nth a i = nth b i)) (h0 : ∀ i, F 0 i = .inr ())
    (h1 : ∀ n i, F (n + 1) i = bif decide ((i : Int) < (a.length : Int)) then (bif c i then .inl false else F n (i + 1)) else .inr ()) :
    F (a.length + 1) 0 = if a = b then .inr () else .inl false := by
  have key : ∀ n i, a.length < n + i → F n i = if a.drop i = b.drop i then .inr () else .inl false := by
    intro n
    induction n with
    | zero =>
      intro i h
      rw [h0, List.drop_eq_nil_of_le (by omega), List.drop_eq_nil_of_le (by omega), if_pos rfl]
    | succ n ih =>
      intro i h
      rw [h1]
      by_cases hi : i < a.length
      · have hib : i < b.length := by omega
        rw [show decide ((i : Int) < (a.length : Int)) = true by simp [hi], cond_true, hc, List.drop_eq_getElem_cons hi, List.drop_eq_getElem_cons hib, Ub hi, Ub hib]
        by_cases he : a[i] = b[i]
        · rw [he, show decide (b[i] = b[i]) = true by simp, Bool.not_true, cond_false, ih _ (by omega)]
          simp only [List.cons.injEq, true_and]
        · rw [show decide (a[i] = b[i]) = false by simp [he], if_neg (fun hh => he (List.cons.inj hh).1)]
          rfl
      · rw [show decide ((i : Int) < (a.length : Int)) = false by simp; omega, cond_false, List.drop_eq_nil_of_le (by omega), List.drop_eq_nil_of_le (by omega), if_pos rfl]
  have := key (a.length + 1) 0 (by omega)
  simpa using this
theorem Cl {α : Type} [Inhabited α] [DecidableEq α] {F : Nat → Nat → Sum Bool Unit} {a b : List α} {c : Nat → Bool} (hc : ∀ i, c i = !decide (nth a i = nth b i)) (h0 : ∀ i, F 0 i = .inr ())
    (h1 : ∀ n i, F (n + 1) i = bif decide ((i : Int) < (a.length : Int)) then (bif c i then .inl false else F n (i + 1)) else .inr ()) :
    (bif ((a.length : Int) != (b.length : Int)) then false else (match F (a.length + 1) 0 with | .inl r => r | .inr _ => true)) = decide (a = b) := by
  by_cases hl : a.length = b.length
  · rw [Dy hl hc h0 h1]
    simp only [hl, bne_self_eq_false, cond_false]
    by_cases h : a = b <;> simp [h]
  · have hne : a ≠ b := fun h => hl (by rw [h])
    have : ((a.length : Int) != (b.length : Int)) = true := by simp; omega
    rw [this, cond_true]; simp [hne]
end Go.Mo
namespace Go.Mo
open Go.Vm
theorem Jk {α : Type} [Inhabited α] [Sz α] {f : α → List D} {n : Nat} : ∀ {rows : List (List D)}, (∀ r, r ∈ rows → ∃ x : α, r = f x ∧ Sm n x) → ∃ l : List α, rows = l.map f ∧ ∀ x ∈ l, Sm n x
  | [], _ => ⟨[], rfl, fun _ h => by cases h⟩
  | r :: rows, h => by
    obtain ⟨x, hx, sx⟩ := h r (by simp)
    obtain ⟨l, hl, sl⟩ := Jk (rows := rows) (fun r hr => h r (by simp [hr]))
    refine ⟨x :: l, by simp [hx, hl], fun y hy => ?_⟩
    rcases List.mem_cons.1 hy with rfl | hy
    · exact sx
    · exact sl y hy
theorem Zn (row : List D) (o s : Nat) : row.drop o = cut row o s ++ row.drop (o + s) := by
  rw [← List.drop_drop, cut, List.take_append_drop]
end Go.Mo
namespace Go.Mo
open Go.Vm
theorem y6 {P : Program} {n : Nat} {t : TypeId} {ts : List TypeId} : ∀ {rows : List (List D)}, Oq P n (t :: ts) rows → ∃ r rs, rows = r :: rs ∧ TyR P n t r ∧ Oq P n ts rs
  | r :: rs, h => ⟨r, rs, rfl, h.1, h.2⟩
  | [], h => h.elim
theorem Mp {P : Program} {n : Nat} : ∀ {rows : List (List D)}, Oq P n [] rows → rows = []
  | [], _ => rfl
  | _ :: _, h => h.elim
end Go.Mo
namespace Go.Mo
open Go.Vm
@[simp] theorem B4 (l : List UInt8) : QZ l = l.map bR := rfl
@[simp] theorem AH (x : Int) : ((UInt8.ofInt x).toNat : Int) = IntKind.u8.wrap x := by
  rw [IntKind.wrap_u8]
  simp [UInt8.ofInt]
  omega
theorem DO (x : Int) : (W (Int.tdiv x 10)).natAbs ≤ 9223372036854775808 ∧ (W (Int.tdiv x 10)).natAbs ≤ x.natAbs / 10 := by
  rw [yv]
  have : (Int.tdiv x 10).natAbs = x.natAbs / 10 := by rw [Int.natAbs_tdiv]; rfl
  omega
theorem E6 {x : Int} {n : Nat} (h : n + 1 = 21 ∨ x.natAbs < 10 ^ (n + 1)) : (W (Int.tdiv x 10)).natAbs < 10 ^ n := by
  obtain ⟨h1, h2⟩ := DO x
  rcases h with h | h
  · have : n = 20 := by omega
    subst this
    have : (10 : Nat) ^ 20 = 100000000000000000000 := by decide
    omega
  · rw [Nat.pow_succ] at h; omega
end Go.Mo
namespace Go.Mo
open Go.Vm
theorem Bu {p : Nat} {x : Int} (hj : p + 1 = 22 ∨ x.natAbs < 10 ^ (p + 1 - 1)) (hx : (x != 0) = true) : 1 ≤ p ∧ (p = 22 ∨ (W (Int.tdiv x 10)).natAbs < 10 ^ (p - 1)) := by
  have hx : x ≠ 0 := by simpa using hx
  have hp : 1 ≤ p := by
    rcases hj with h | h
    · omega
    · rcases Nat.eq_zero_or_pos p with hz | hz
      · subst hz; simp at h; exact absurd h hx
      · exact hz
  refine ⟨hp, .inr ?_⟩
  obtain ⟨q, rfl⟩ : ∃ q, p = q + 1 := ⟨p - 1, by omega⟩
  exact E6 (x := x) (n := q) (hj.elim (fun h => .inl (by omega)) (fun h => .inr (by simpa using h)))
end Go.Mo
namespace Go.Mo
open Go.Vm
@[simp] theorem Bo {α : Type} {l : List α} {n : Nat} (h : l.length ≤ n) : List.take n l = l := List.take_of_length_le h
@[simp] theorem D5 {α β : Type} (f : α → β) (l : List α) : List.take l.length (List.map f l) = List.map f l := List.take_of_length_le (by simp)
@[simp] theorem Ck (n : Nat) : 1 + n = n + 1 := Nat.add_comm 1 n
@[simp] theorem AL {α β : Type} (f : α → β) (l : List α) (x y : β) : List.take (2 + l.length) (x :: y :: List.map f l) = x :: y :: List.map f l := List.take_of_length_le (by simp; omega)
@[simp] theorem AI {α β : Type} (f : α → β) (l : List α) (x y z : β) : List.take (3 + l.length) (x :: y :: z :: List.map f l) = x :: y :: z :: List.map f l := List.take_of_length_le (by simp; omega)
@[simp] theorem AO {α β : Type} (f : α → β) (l : List α) (x y z u : β) : List.take (4 + l.length) (x :: y :: z :: u :: List.map f l) = x :: y :: z :: u :: List.map f l := List.take_of_length_le (by simp; omega)
@[simp] theorem AN {α β : Type} (f : α → β) (l : List α) (x y z u v : β) : List.take (5 + l.length) (x :: y :: z :: u :: v :: List.map f l) = x :: y :: z :: u :: v :: List.map f l := List.take_of_length_le (by simp; omega)
@[simp] theorem AQ {α β : Type} (f : α → β) (l : List α) (x y z u v w : β) : List.take (6 + l.length) (x :: y :: z :: u :: v :: w :: List.map f l) = x :: y :: z :: u :: v :: w :: List.map f l := List.take_of_length_le (by simp; omega)
theorem Dd (n : Nat) (h : n ≤ 9223372036854775807) : W ((n : Int) - 1) = (n : Int) - 1 := ZW (by omega) (by omega)
end Go.Mo
namespace Go.Mo
@[simp] theorem AM (a : Array UInt8) : (ByteArray.mk a).size = a.size := rfl
@[simp] theorem AG {α : Type} {l : List α} {x : α} {v n : Nat} (h : l.length = n) : List.take (min v n + 1 + (n - v)) (List.take v l ++ x :: List.drop v l) = List.take v l ++ x :: List.drop v l := by
  apply List.take_of_length_le; simp; omega
@[simp] theorem AR (a b : Nat) : (min a b + 1 + (b - a) = min a b + (b - a + 1)) = True := by simp; omega
theorem Fb {α : Type} (a b : α) : cond true a b = a ∧ cond false a b = b := ⟨rfl, rfl⟩
theorem Yy {α : Type} (a b : α) : cond true a b = a := (Fb a b).1
theorem Yk {α : Type} (a b : α) : cond false a b = b := (Fb a b).2
/-- a side condition that is found by itself -/
theorem sd {a b : Prop} (h : b) (k : a := by (intros; first | omega | (simp only [decide_eq_true_eq, decide_eq_false_iff_not, beq_iff_eq, beq_eq_false_iff_ne, bne_iff_ne, ne_eq, Bool.or_eq_false_iff, Bool.or_eq_true, Bool.and_eq_true, Bool.not_eq_true', Bool.not_eq_false'] at *; omega) | ((try simp only [Go.Mo.yv, show ∀ x, Go.IntKind.i64.wrap x = Go.Vm.W x from fun _ => rfl] at *); omega))) : a ∧ b := ⟨k, h⟩
theorem sdg {a b : Prop} (h : b) (k : a := by (intros; first | omega | (simp_all; done) | (simp_all; omega) | grind | ((try simp only [Go.Mo.yv, show ∀ x, Go.IntKind.i64.wrap x = Go.Vm.W x from fun _ => rfl] at *); omega))) : a ∧ b := ⟨k, h⟩
theorem il {a b : Nat} (h : a < b := by first | omega | (simp only [decide_eq_true_eq, decide_eq_false_iff_not, beq_iff_eq, beq_eq_false_iff_ne, bne_iff_ne, ne_eq, Bool.or_eq_false_iff, Bool.not_eq_true', Bool.not_eq_false'] at *; omega) | (simp_all [List.length_pos_iff]; done) | (simp; omega) | (simp_all; omega) | ((try simp only [Go.Mo.yv, show ∀ x, Go.IntKind.i64.wrap x = Go.Vm.W x from fun _ => rfl] at *); omega) | (simp; (try simp only [Go.Mo.yv, show ∀ x, Go.IntKind.i64.wrap x = Go.Vm.W x from fun _ => rfl] at *); omega)) : a < b := h
theorem ik {α : Type} (a : Nat) (l : List α) (h : a < l.length := by first | omega | (simp only [decide_eq_true_eq, decide_eq_false_iff_not, beq_iff_eq, beq_eq_false_iff_ne, bne_iff_ne, ne_eq, Bool.or_eq_false_iff, Bool.not_eq_true', Bool.not_eq_false'] at *; omega) | (simp_all [List.length_pos_iff]; done) | (simp; omega) | (simp_all; omega) | ((try simp only [Go.Mo.yv, show ∀ x, Go.IntKind.i64.wrap x = Go.Vm.W x from fun _ => rfl] at *); omega) | (simp; (try simp only [Go.Mo.yv, show ∀ x, Go.IntKind.i64.wrap x = Go.Vm.W x from fun _ => rfl] at *); omega)) : a < l.length := h
theorem sl {α : Type} [Inhabited α] [Sz α] (n : Nat) (l : List α) {q : Prop} (u : q) (h : q → Sm n l := by (intro u; simp (maxDischargeDepth := 12) [u])) : l.length ≤ n := zF (h u)
theorem sg {α : Type} [Inhabited α] [Sz α] {n m : Nat} {x : α} (h : Sm n x) (k : n ≤ m := by decide) : Sm m x := Zr k h
theorem Pa {α : Type} (c : α → Nat) : ∀ (l : List α) (i : Nat) (x : α), cnL c (l.set i x) ≤ cnL c l + c x
  | [], _, _ => by simp [cnL]
  | y :: l, 0, x => by simp only [List.set_cons_zero, cnL]; omega
  | y :: l, i + 1, x => by have := Pa c l i x; simp only [List.set_cons_succ, cnL]; omega
theorem Lq {α : Type} [Inhabited α] (c : α → Nat) : ∀ (l : List α) (i : Nat), c (Vm.nth l i) ≤ cnL c l + c default
  | [], _ => by simp [Vm.nth, cnL]
  | y :: l, 0 => by simp only [Vm.nth, List.getD_cons_zero, cnL]; omega
  | y :: l, i + 1 => by have := Lq c l i; simp only [Vm.nth, List.getD_cons_succ, cnL] at this ⊢; omega
theorem WT {α : Type} (c : α → Nat) : ∀ (l m : List α), cnL c (l ++ m) = cnL c l + cnL c m
  | [], m => by simp [cnL]
  | y :: l, m => by have := WT c l m; simp only [List.cons_append, cnL]; omega
theorem Ie (a0 : ZZ) (i : Nat) (x : ZF) (b : Bool) : cn ((ZZ.mk a0.Frame a0.Zy a0.Z3 (a0.ZI.set i x) a0.YZ a0.Yl a0.Next a0.Ym), b).1 ≤ cn a0 + cn x := by
  have := Pa (cn : ZF → Nat) a0.ZI i x
  simp only [ZZ.Yn, Xf] at this ⊢; omega
theorem Io (a0 : ZZ) (i : Nat) : cn (Vm.nth a0.ZI i) ≤ cn a0 + 100 := by
  have h1 := Lq (cn : ZF → Nat) a0.ZI i
  have hd : cn (default : ZF) ≤ 100 := Nat.le_of_ble_eq_true rfl
  simp only [ZZ.Yn, Xf] at h1 ⊢; omega
theorem LK {α : Type} [Inhabited α] {l : List α} {i : Nat} (h : i < l.length) : l.drop i = Vm.nth l i :: l.drop (i + 1) := by
  rw [List.drop_eq_getElem_cons h]; simp [Vm.nth, List.getD_eq_getElem?_getD, List.getElem?_eq_getElem h]
theorem Fw {α : Type} [Inhabited α] (c : α → Nat) {l : List α} {i : Nat} (h : i < l.length) : cnL c (l.drop i) = c (Vm.nth l i) + cnL c (l.drop (i + 1)) := by rw [LK h]; rfl
theorem HC {α β : Type} [Inhabited α] {as : List α} (f : α → List β) {F : Nat → Nat → List β → List β} (h1 : ∀ n i l, F (n + 1) i l = bif decide ((i : Int) < (as.length : Int)) then F n (i + 1) (l ++ f (Vm.nth as i)) else l) : ∀ n i l, as.length < n + i → i ≤ as.length → F n i l = l ++ (as.drop i).flatMap f
  | 0, i, l, h, h2 => by omega
  | n + 1, i, l, h, h2 => by
    rw [h1]
    by_cases hi : i < as.length
    · rw [show decide ((i : Int) < (as.length : Int)) = true by simpa using hi, Yy, HC f h1 n (i + 1) _ (by omega) hi, LK hi]; simp
    · rw [show decide ((i : Int) < (as.length : Int)) = false by simpa using hi, Yk, List.drop_eq_nil_of_le (by omega)]; simp
theorem Hu {α β : Type} (f : α → β) : ∀ l : List α, l.flatMap (fun a => [f a]) = l.map f
  | [] => rfl
  | x :: l => by rw [List.flatMap_cons, Hu f l]; rfl
end Go.Mo
