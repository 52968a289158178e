/- The plain data of the program, typed, and how they read as rows of the abstract machine. No condition. -/
import Derived.Test.YtfhmpplolpejnaaGreatVe
import Derived.Laws.BitsLemmas
namespace Go.Mo
open Go.Vm
@[simp] def iR (n : Int) : List Vm.D := [.int .i64 n]
@[simp] def bR (b : UInt8) : List Vm.D := [.int .u8 (b.toNat : Int)]
@[simp] def lR (b : Bool) : List Vm.D := [.bool b]
@[simp] def sR (s : ByteArray) : List Vm.D := [.str s]
@[simp] def slR {α : Type} (n : Nat) (f : α → List D) (m : List α) : List Vm.D := [.sl n (m.map f)]
/-- everything in it is at most so long -/
class Sz (α : Type) [Inhabited α] where
  sm : Nat → α → Prop
  zero : ∀ n, sm n default
  mono : ∀ {n m : Nat} {x : α}, n ≤ m → sm n x → sm m x
/-- how many marks it takes -/
class Cn (α : Type) where
  cn : α → Nat
abbrev cn {α : Type} [Cn α] (x : α) : Nat := Cn.cn x
def cnL {α : Type} (c : α → Nat) : List α → Nat
  | [] => 0
  | x :: l => c x + cnL c l
instance : Cn Int := ⟨fun _ => 1⟩
instance : Cn Bool := ⟨fun _ => 1⟩
instance : Cn UInt8 := ⟨fun _ => 1⟩
instance : Cn ByteArray := ⟨fun _ => 1⟩
instance {α : Type} [Cn α] : Cn (List α) := ⟨cnL Cn.cn⟩
theorem ZFq (x : Int) : cn x = 1 := rfl
theorem ZCl (x : Bool) : cn x = 1 := rfl
theorem ZD6 (x : ByteArray) : cn x = 1 := rfl
theorem ZSr {α : Type} [Cn α] (x : List α) : cn x = cnL cn x := rfl
abbrev Sm {α : Type} [Inhabited α] [Sz α] (n : Nat) (x : α) : Prop := Sz.sm n x
instance : Sz Int := ⟨fun _ _ => True, fun _ => trivial, fun _ h => h⟩
instance : Sz Bool := ⟨fun _ _ => True, fun _ => trivial, fun _ h => h⟩
instance : Sz UInt8 := ⟨fun _ _ => True, fun _ => trivial, fun _ h => h⟩
instance : Sz ByteArray := ⟨fun n s => s.size ≤ n, fun _ => Nat.zero_le _, fun h k => Nat.le_trans k h⟩
instance {α : Type} [Inhabited α] [Sz α] : Sz (List α) := ⟨fun n l => l.length ≤ n ∧ ∀ x ∈ l, Sz.sm n x, fun _ => ⟨Nat.zero_le _, fun _ h => by cases h⟩, fun h k => ⟨Nat.le_trans k.1 h, fun x hx => Sz.mono h (k.2 x hx)⟩⟩
theorem Xr {α : Type} [Inhabited α] [Sz α] {n : Nat} {l : List α} : Sm n l = (l.length ≤ n ∧ ∀ x ∈ l, Sm n x) := rfl
theorem Yw {α : Type} [Inhabited α] [Sz α] {n : Nat} {l : List α} (h : Sm n l) : l.length ≤ n := h.1
theorem ZPl {n : Nat} {s : ByteArray} (h : Sm n s) : s.size ≤ n := h
@[simp] theorem ZXn {n : Nat} {x : Int} : Sm n x := trivial
@[simp] theorem ZXW {n : Nat} {x : Bool} : Sm n x := trivial
@[simp] theorem ZYF {n : Nat} {x : UInt8} : Sm n x := trivial
@[simp] theorem ZXm {α : Type} [Inhabited α] [Sz α] {n : Nat} : Sm n ([] : List α) := ⟨Nat.zero_le _, fun _ h => by cases h⟩
@[simp] theorem Z2 {α : Type} [Inhabited α] [Sz α] {n i : Nat} {l : List α} (h : Sm n l) : Sm n (nth l i) := by
  unfold nth
  rw [List.getD_eq_getElem?_getD]
  cases hh : l[i]? with
  | none => exact Sz.zero n
  | some x => exact h.2 x (List.mem_of_getElem? hh)
@[simp] theorem ZXX {α : Type} [Inhabited α] [Sz α] {n i : Nat} {l : List α} (h : Sm n l) : Sm n (l.take i) := ⟨Nat.le_trans (by simp; omega) h.1, fun x hx => h.2 x (List.mem_of_mem_take hx)⟩
@[simp] theorem ZXU {α : Type} [Inhabited α] [Sz α] {n i : Nat} {l : List α} (h : Sm n l) : Sm n (l.drop i) := ⟨Nat.le_trans (by simp) h.1, fun x hx => h.2 x (List.mem_of_mem_drop hx)⟩
theorem KD {α : Type} [Inhabited α] [Sz α] {n : Nat} {l m : List α} : Sm n (l ++ m) = (l.length + m.length ≤ n ∧ (∀ x ∈ l, Sm n x) ∧ ∀ x ∈ m, Sm n x) := by
  rw [Xr]; simp [or_imp, forall_and]
theorem ZX {α : Type} [Inhabited α] [Sz α] {n m : Nat} {x : α} (h : n ≤ m) (k : Sm n x) : Sm m x := Sz.mono h k
structure Za where
  Authority : Int
  Seq : Int
  Time : Int
  XC : Int
  Mark : Int
  deriving Inhabited, DecidableEq
@[simp] def Za.row (x : Za) : List Vm.D := [.int .i64 x.Authority, .int .i64 x.Seq, .int .i64 x.Time, .int .i64 x.XC, .int .i64 x.Mark]
instance : Cn Za := ⟨fun x => cn x.Authority + cn x.Seq + cn x.Time + cn x.XC + cn x.Mark⟩
theorem Za.KR (x : Za) : cn x = cn x.Authority + cn x.Seq + cn x.Time + cn x.XC + cn x.Mark := rfl
instance : Sz Za := ⟨fun _ _ => True, fun _ => trivial, fun _ h => h⟩
@[simp] theorem Za.ZCr {n : Nat} {x : Za} : Sm n x := trivial
structure XG where
  XC : Int
  Left : Bool
  deriving Inhabited, DecidableEq
@[simp] def XG.row (x : XG) : List Vm.D := [.int .i64 x.XC, .bool x.Left]
instance : Cn XG := ⟨fun x => cn x.XC + cn x.Left⟩
theorem XG.KR (x : XG) : cn x = cn x.XC + cn x.Left := rfl
instance : Sz XG := ⟨fun _ _ => True, fun _ => trivial, fun _ h => h⟩
@[simp] theorem XG.ZCr {n : Nat} {x : XG} : Sm n x := trivial
structure ZS where
  Count : Int
  Method : Int
  ZIY : Int
  Path : List XG
  Zi : List Za
  deriving Inhabited, DecidableEq
@[simp] def ZS.row (x : ZS) : List Vm.D := [.int .i64 x.Count, .int .i64 x.Method, .int .i64 x.ZIY, .sl 2 (x.Path.map XG.row), .sl 5 (x.Zi.map Za.row)]
instance : Cn ZS := ⟨fun x => cn x.Count + cn x.Method + cn x.ZIY + cn x.Path + cn x.Zi⟩
theorem ZS.KR (x : ZS) : cn x = cn x.Count + cn x.Method + cn x.ZIY + cn x.Path + cn x.Zi := rfl
instance : Sz ZS := ⟨fun n x => Sm n x.Path ∧ Sm n x.Zi, fun n => ⟨Sz.zero n, Sz.zero n⟩, fun h k => ⟨Sz.mono h k.1, Sz.mono h k.2⟩⟩
@[simp] theorem ZS.ZVA {n : Nat} {x : ZS} (h : Sm n x) : Sm n x.Path := h.1
@[simp] theorem ZS.ZF3 {n : Nat} {x : ZS} (h : Sm n x) : Sm n x.Zi := h.2
@[simp] theorem ZS.ZFj {n : Nat} {Count' : Int} {Method' : Int} {Root' : Int} {Path' : List XG} {Stamps' : List Za} : Sm n (ZS.mk Count' Method' Root' Path' Stamps') = (Sm n Path' ∧ Sm n Stamps') := rfl
structure YC where
  Number : Int
  Kb : Int
  Method : Int
  ZIX : Int
  kp : Int
  deriving Inhabited, DecidableEq
@[simp] def YC.row (x : YC) : List Vm.D := [.int .i64 x.Number, .int .i64 x.Kb, .int .i64 x.Method, .int .i64 x.ZIX, .int .i64 x.kp]
instance : Cn YC := ⟨fun x => cn x.Number + cn x.Kb + cn x.Method + cn x.ZIX + cn x.kp⟩
theorem YC.KR (x : YC) : cn x = cn x.Number + cn x.Kb + cn x.Method + cn x.ZIX + cn x.kp := rfl
instance : Sz YC := ⟨fun _ _ => True, fun _ => trivial, fun _ h => h⟩
@[simp] theorem YC.ZCr {n : Nat} {x : YC} : Sm n x := trivial
structure ZE where
  Id : Int
  Key : Int
  Error : Int
  deriving Inhabited, DecidableEq
@[simp] def ZE.row (x : ZE) : List Vm.D := [.int .i64 x.Id, .int .i64 x.Key, .int .i64 x.Error]
instance : Cn ZE := ⟨fun x => cn x.Id + cn x.Key + cn x.Error⟩
theorem ZE.KR (x : ZE) : cn x = cn x.Id + cn x.Key + cn x.Error := rfl
instance : Sz ZE := ⟨fun _ _ => True, fun _ => trivial, fun _ h => h⟩
@[simp] theorem ZE.ZCr {n : Nat} {x : ZE} : Sm n x := trivial
structure Zl where
  Id : Int
  ZDY : Int
  Ends : Int
  kj : Int
  deriving Inhabited, DecidableEq
@[simp] def Zl.row (x : Zl) : List Vm.D := [.int .i64 x.Id, .int .i64 x.ZDY, .int .i64 x.Ends, .int .i64 x.kj]
instance : Cn Zl := ⟨fun x => cn x.Id + cn x.ZDY + cn x.Ends + cn x.kj⟩
theorem Zl.KR (x : Zl) : cn x = cn x.Id + cn x.ZDY + cn x.Ends + cn x.kj := rfl
instance : Sz Zl := ⟨fun _ _ => True, fun _ => trivial, fun _ h => h⟩
@[simp] theorem Zl.ZCr {n : Nat} {x : Zl} : Sm n x := trivial
structure ZF where
  Y3 : List YC
  ZT : List ZE
  Methods : List Zl
  Q6 : Int
  Now : Int
  deriving Inhabited, DecidableEq
@[simp] def ZF.row (x : ZF) : List Vm.D := [.sl 5 (x.Y3.map YC.row), .sl 3 (x.ZT.map ZE.row), .sl 4 (x.Methods.map Zl.row), .int .i64 x.Q6, .int .i64 x.Now]
instance : Cn ZF := ⟨fun x => cn x.Y3 + cn x.ZT + cn x.Methods + cn x.Q6 + cn x.Now⟩
theorem ZF.KR (x : ZF) : cn x = cn x.Y3 + cn x.ZT + cn x.Methods + cn x.Q6 + cn x.Now := rfl
instance : Sz ZF := ⟨fun n x => Sm n x.Y3 ∧ Sm n x.ZT ∧ Sm n x.Methods, fun n => ⟨Sz.zero n, Sz.zero n, Sz.zero n⟩, fun h k => ⟨Sz.mono h k.1, Sz.mono h k.2.1, Sz.mono h k.2.2⟩⟩
@[simp] theorem ZF.Ym {n : Nat} {x : ZF} (h : Sm n x) : Sm n x.Y3 := h.1
@[simp] theorem ZF.Qf {n : Nat} {x : ZF} (h : Sm n x) : Sm n x.ZT := h.2.1
@[simp] theorem ZF.YS {n : Nat} {x : ZF} (h : Sm n x) : Sm n x.Methods := h.2.2
@[simp] theorem ZF.ZFj {n : Nat} {Keys' : List YC} {Authorities' : List ZE} {Methods' : List Zl} {Liars' : Int} {Now' : Int} : Sm n (ZF.mk Keys' Authorities' Methods' Liars' Now') = (Sm n Keys' ∧ Sm n Authorities' ∧ Sm n Methods') := rfl
structure YH where
  YO : Int
  Key : Int
  Kb : Int
  YQ : Int
  To : Int
  Qs : Int
  Mark : Int
  deriving Inhabited, DecidableEq
@[simp] def YH.row (x : YH) : List Vm.D := [.int .i64 x.YO, .int .i64 x.Key, .int .i64 x.Kb, .int .i64 x.YQ, .int .i64 x.To, .int .i64 x.Qs, .int .i64 x.Mark]
instance : Cn YH := ⟨fun x => cn x.YO + cn x.Key + cn x.Kb + cn x.YQ + cn x.To + cn x.Qs + cn x.Mark⟩
theorem YH.KR (x : YH) : cn x = cn x.YO + cn x.Key + cn x.Kb + cn x.YQ + cn x.To + cn x.Qs + cn x.Mark := rfl
instance : Sz YH := ⟨fun _ _ => True, fun _ => trivial, fun _ h => h⟩
@[simp] theorem YH.ZCr {n : Nat} {x : YH} : Sm n x := trivial
structure Zg where
  kW : Int
  Yx : List ByteArray
  Xl : List Int
  deriving Inhabited, DecidableEq
@[simp] def Zg.row (x : Zg) : List Vm.D := [.int .i64 x.kW, .sl 1 (x.Yx.map sR), .sl 1 (x.Xl.map iR)]
instance : Cn Zg := ⟨fun x => cn x.kW + cn x.Yx + cn x.Xl⟩
theorem Zg.KR (x : Zg) : cn x = cn x.kW + cn x.Yx + cn x.Xl := rfl
instance : Sz Zg := ⟨fun n x => Sm n x.Yx ∧ Sm n x.Xl, fun n => ⟨Sz.zero n, Sz.zero n⟩, fun h k => ⟨Sz.mono h k.1, Sz.mono h k.2⟩⟩
@[simp] theorem Zg.ZH5 {n : Nat} {x : Zg} (h : Sm n x) : Sm n x.Yx := h.1
@[simp] theorem Zg.ZQO {n : Nat} {x : Zg} (h : Sm n x) : Sm n x.Xl := h.2
@[simp] theorem Zg.ZFj {n : Nat} {Title' : Int} {Parts' : List ByteArray} {Salts' : List Int} : Sm n (Zg.mk Title' Parts' Salts') = (Sm n Parts' ∧ Sm n Salts') := rfl
structure ZY where
  Key : Int
  YO : Int
  Method : Int
  XC : Int
  ZAx : Int
  Org : Int
  ZA1 : Int
  xD : Int
  Mark : Int
  deriving Inhabited, DecidableEq
@[simp] def ZY.row (x : ZY) : List Vm.D := [.int .i64 x.Key, .int .i64 x.YO, .int .i64 x.Method, .int .i64 x.XC, .int .i64 x.ZAx, .int .i64 x.Org, .int .i64 x.ZA1, .int .i64 x.xD, .int .i64 x.Mark]
instance : Cn ZY := ⟨fun x => cn x.Key + cn x.YO + cn x.Method + cn x.XC + cn x.ZAx + cn x.Org + cn x.ZA1 + cn x.xD + cn x.Mark⟩
theorem ZY.KR (x : ZY) : cn x = cn x.Key + cn x.YO + cn x.Method + cn x.XC + cn x.ZAx + cn x.Org + cn x.ZA1 + cn x.xD + cn x.Mark := rfl
instance : Sz ZY := ⟨fun _ _ => True, fun _ => trivial, fun _ h => h⟩
@[simp] theorem ZY.ZCr {n : Nat} {x : ZY} : Sm n x := trivial
structure ZB where
  Key : Int
  Zb : List Int
  Mark : Int
  deriving Inhabited, DecidableEq
@[simp] def ZB.row (x : ZB) : List Vm.D := [.int .i64 x.Key, .sl 1 (x.Zb.map iR), .int .i64 x.Mark]
instance : Cn ZB := ⟨fun x => cn x.Key + cn x.Zb + cn x.Mark⟩
theorem ZB.KR (x : ZB) : cn x = cn x.Key + cn x.Zb + cn x.Mark := rfl
instance : Sz ZB := ⟨fun n x => Sm n x.Zb, fun n => Sz.zero n, fun h k => Sz.mono h k⟩
@[simp] theorem ZB.ZBN {n : Nat} {x : ZB} (h : Sm n x) : Sm n x.Zb := h
@[simp] theorem ZB.ZFj {n : Nat} {Key' : Int} {Ints' : List Int} {Mark' : Int} : Sm n (ZB.mk Key' Ints' Mark') = (Sm n Ints') := rfl
structure ZN where
  ZZ : List ZB
  ZR : List ZS
  deriving Inhabited, DecidableEq
@[simp] def ZN.row (x : ZN) : List Vm.D := [.sl 3 (x.ZZ.map ZB.row), .sl 5 (x.ZR.map ZS.row)]
instance : Cn ZN := ⟨fun x => cn x.ZZ + cn x.ZR⟩
theorem ZN.KR (x : ZN) : cn x = cn x.ZZ + cn x.ZR := rfl
instance : Sz ZN := ⟨fun n x => Sm n x.ZZ ∧ Sm n x.ZR, fun n => ⟨Sz.zero n, Sz.zero n⟩, fun h k => ⟨Sz.mono h k.1, Sz.mono h k.2⟩⟩
@[simp] theorem ZN.Y4 {n : Nat} {x : ZN} (h : Sm n x) : Sm n x.ZZ := h.1
@[simp] theorem ZN.QG {n : Nat} {x : ZN} (h : Sm n x) : Sm n x.ZR := h.2
@[simp] theorem ZN.ZFj {n : Nat} {Pieces' : List ZB} {Chain' : List ZS} : Sm n (ZN.mk Pieces' Chain') = (Sm n Pieces' ∧ Sm n Chain') := rfl
structure Z3 where
  Id : Int
  Xq : Int
  Doc : Zg
  Sig : ZY
  Y7 : ZN
  deriving Inhabited, DecidableEq
@[simp] def Z3.row (x : Z3) : List Vm.D := [.int .i64 x.Id, .int .i64 x.Xq, .int .i64 x.Doc.kW, .sl 1 (x.Doc.Yx.map sR), .sl 1 (x.Doc.Xl.map iR), .int .i64 x.Sig.Key, .int .i64 x.Sig.YO, .int .i64 x.Sig.Method, .int .i64 x.Sig.XC, .int .i64 x.Sig.ZAx, .int .i64 x.Sig.Org, .int .i64 x.Sig.ZA1, .int .i64 x.Sig.xD, .int .i64 x.Sig.Mark, .sl 3 (x.Y7.ZZ.map ZB.row), .sl 5 (x.Y7.ZR.map ZS.row)]
instance : Cn Z3 := ⟨fun x => cn x.Id + cn x.Xq + cn x.Doc + cn x.Sig + cn x.Y7⟩
theorem Z3.KR (x : Z3) : cn x = cn x.Id + cn x.Xq + cn x.Doc + cn x.Sig + cn x.Y7 := rfl
instance : Sz Z3 := ⟨fun n x => Sm n x.Doc ∧ Sm n x.Y7, fun n => ⟨Sz.zero n, Sz.zero n⟩, fun h k => ⟨Sz.mono h k.1, Sz.mono h k.2⟩⟩
@[simp] theorem Z3.ZAz {n : Nat} {x : Z3} (h : Sm n x) : Sm n x.Doc := h.1
@[simp] theorem Z3.XZ {n : Nat} {x : Z3} (h : Sm n x) : Sm n x.Y7 := h.2
@[simp] theorem Z3.ZFj {n : Nat} {Id' : Int} {Keep' : Int} {Doc' : Zg} {Sig' : ZY} {Strand' : ZN} : Sm n (Z3.mk Id' Keep' Doc' Sig' Strand') = (Sm n Doc' ∧ Sm n Strand') := rfl
structure Zc where
  Id : Int
  Z5 : List Z3
  deriving Inhabited, DecidableEq
@[simp] def Zc.row (x : Zc) : List Vm.D := [.int .i64 x.Id, .sl 16 (x.Z5.map Z3.row)]
instance : Cn Zc := ⟨fun x => cn x.Id + cn x.Z5⟩
theorem Zc.KR (x : Zc) : cn x = cn x.Id + cn x.Z5 := rfl
instance : Sz Zc := ⟨fun n x => Sm n x.Z5, fun n => Sz.zero n, fun h k => Sz.mono h k⟩
@[simp] theorem Zc.qt {n : Nat} {x : Zc} (h : Sm n x) : Sm n x.Z5 := h
@[simp] theorem Zc.ZFj {n : Nat} {Id' : Int} {Items' : List Z3} : Sm n (Zc.mk Id' Items') = (Sm n Items') := rfl
structure YD where
  Frame : ZF
  Xg : List YH
  XH : List Int
  ZH : List Zc
  kX : List Int
  xU : List Int
  Next : Int
  KW : List Int
  deriving Inhabited, DecidableEq
@[simp] def YD.row (x : YD) : List Vm.D := [.sl 5 (x.Frame.Y3.map YC.row), .sl 3 (x.Frame.ZT.map ZE.row), .sl 4 (x.Frame.Methods.map Zl.row), .int .i64 x.Frame.Q6, .int .i64 x.Frame.Now, .sl 7 (x.Xg.map YH.row), .sl 1 (x.XH.map iR), .sl 2 (x.ZH.map Zc.row), .sl 1 (x.kX.map iR), .sl 1 (x.xU.map iR), .int .i64 x.Next, .sl 1 (x.KW.map iR)]
instance : Cn YD := ⟨fun x => cn x.Frame + cn x.Xg + cn x.XH + cn x.ZH + cn x.kX + cn x.xU + cn x.Next + cn x.KW⟩
theorem YD.KR (x : YD) : cn x = cn x.Frame + cn x.Xg + cn x.XH + cn x.ZH + cn x.kX + cn x.xU + cn x.Next + cn x.KW := rfl
instance : Sz YD := ⟨fun n x => Sm n x.Frame ∧ Sm n x.Xg ∧ Sm n x.XH ∧ Sm n x.ZH ∧ Sm n x.kX ∧ Sm n x.xU ∧ Sm n x.KW, fun n => ⟨Sz.zero n, Sz.zero n, Sz.zero n, Sz.zero n, Sz.zero n, Sz.zero n, Sz.zero n⟩, fun h k => ⟨Sz.mono h k.1, Sz.mono h k.2.1, Sz.mono h k.2.2.1, Sz.mono h k.2.2.2.1, Sz.mono h k.2.2.2.2.1, Sz.mono h k.2.2.2.2.2.1, Sz.mono h k.2.2.2.2.2.2⟩⟩
@[simp] theorem YD.ZMi {n : Nat} {x : YD} (h : Sm n x) : Sm n x.Frame := h.1
@[simp] theorem YD.ZTn {n : Nat} {x : YD} (h : Sm n x) : Sm n x.Xg := h.2.1
@[simp] theorem YD.ZUI {n : Nat} {x : YD} (h : Sm n x) : Sm n x.XH := h.2.2.1
@[simp] theorem YD.ZCm {n : Nat} {x : YD} (h : Sm n x) : Sm n x.ZH := h.2.2.2.1
@[simp] theorem YD.ZVb {n : Nat} {x : YD} (h : Sm n x) : Sm n x.kX := h.2.2.2.2.1
@[simp] theorem YD.ZTi {n : Nat} {x : YD} (h : Sm n x) : Sm n x.xU := h.2.2.2.2.2.1
@[simp] theorem YD.ZTN {n : Nat} {x : YD} (h : Sm n x) : Sm n x.KW := h.2.2.2.2.2.2
@[simp] theorem YD.ZFj {n : Nat} {Frame' : ZF} {Certs' : List YH} {Ended' : List Int} {Archives' : List Zc} {Seqs' : List Int} {Lying' : List Int} {Next' : Int} {Forged' : List Int} : Sm n (YD.mk Frame' Certs' Ended' Archives' Seqs' Lying' Next' Forged') = (Sm n Frame' ∧ Sm n Certs' ∧ Sm n Ended' ∧ Sm n Archives' ∧ Sm n Seqs' ∧ Sm n Lying' ∧ Sm n Forged') := rfl
structure ZA0 where
  Kind : Int
  A : Int
  B : Int
  C : Int
  D : Int
  Doc : Zg
  Ids : List Int
  deriving Inhabited, DecidableEq
@[simp] def ZA0.row (x : ZA0) : List Vm.D := [.int .i64 x.Kind, .int .i64 x.A, .int .i64 x.B, .int .i64 x.C, .int .i64 x.D, .int .i64 x.Doc.kW, .sl 1 (x.Doc.Yx.map sR), .sl 1 (x.Doc.Xl.map iR), .sl 1 (x.Ids.map iR)]
instance : Cn ZA0 := ⟨fun x => cn x.Kind + cn x.A + cn x.B + cn x.C + cn x.D + cn x.Doc + cn x.Ids⟩
theorem ZA0.KR (x : ZA0) : cn x = cn x.Kind + cn x.A + cn x.B + cn x.C + cn x.D + cn x.Doc + cn x.Ids := rfl
instance : Sz ZA0 := ⟨fun n x => Sm n x.Doc ∧ Sm n x.Ids, fun n => ⟨Sz.zero n, Sz.zero n⟩, fun h k => ⟨Sz.mono h k.1, Sz.mono h k.2⟩⟩
@[simp] theorem ZA0.ZAz {n : Nat} {x : ZA0} (h : Sm n x) : Sm n x.Doc := h.1
@[simp] theorem ZA0.ZXr {n : Nat} {x : ZA0} (h : Sm n x) : Sm n x.Ids := h.2
@[simp] theorem ZA0.ZFj {n : Nat} {Kind' : Int} {A' : Int} {B' : Int} {C' : Int} {D' : Int} {Doc' : Zg} {Ids' : List Int} : Sm n (ZA0.mk Kind' A' B' C' D' Doc' Ids') = (Sm n Doc' ∧ Sm n Ids') := rfl
structure ZD where
  YQ : Int
  To : Int
  deriving Inhabited, DecidableEq
@[simp] def ZD.row (x : ZD) : List Vm.D := [.int .i64 x.YQ, .int .i64 x.To]
instance : Cn ZD := ⟨fun x => cn x.YQ + cn x.To⟩
theorem ZD.KR (x : ZD) : cn x = cn x.YQ + cn x.To := rfl
instance : Sz ZD := ⟨fun _ _ => True, fun _ => trivial, fun _ h => h⟩
@[simp] theorem ZD.ZCr {n : Nat} {x : ZD} : Sm n x := trivial
structure Yf where
  Code : Int
  Reason : Int
  Span : ZD
  deriving Inhabited, DecidableEq
@[simp] def Yf.row (x : Yf) : List Vm.D := [.int .i64 x.Code, .int .i64 x.Reason, .int .i64 x.Span.YQ, .int .i64 x.Span.To]
instance : Cn Yf := ⟨fun x => cn x.Code + cn x.Reason + cn x.Span⟩
theorem Yf.KR (x : Yf) : cn x = cn x.Code + cn x.Reason + cn x.Span := rfl
instance : Sz Yf := ⟨fun _ _ => True, fun _ => trivial, fun _ h => h⟩
@[simp] theorem Yf.ZCr {n : Nat} {x : Yf} : Sm n x := trivial
structure QB where
  kW : Int
  Methods : List Int
  Shown : List Bool
  Yx : List ByteArray
  Xl : List Int
  ZHw : List (List Int)
  deriving Inhabited, DecidableEq
@[simp] def QB.row (x : QB) : List Vm.D := [.int .i64 x.kW, .sl 1 (x.Methods.map iR), .sl 1 (x.Shown.map lR), .sl 1 (x.Yx.map sR), .sl 1 (x.Xl.map iR), .sl 1 (x.ZHw.map (slR 1 iR))]
instance : Cn QB := ⟨fun x => cn x.kW + cn x.Methods + cn x.Shown + cn x.Yx + cn x.Xl + cn x.ZHw⟩
theorem QB.KR (x : QB) : cn x = cn x.kW + cn x.Methods + cn x.Shown + cn x.Yx + cn x.Xl + cn x.ZHw := rfl
instance : Sz QB := ⟨fun n x => Sm n x.Methods ∧ Sm n x.Shown ∧ Sm n x.Yx ∧ Sm n x.Xl ∧ Sm n x.ZHw, fun n => ⟨Sz.zero n, Sz.zero n, Sz.zero n, Sz.zero n, Sz.zero n⟩, fun h k => ⟨Sz.mono h k.1, Sz.mono h k.2.1, Sz.mono h k.2.2.1, Sz.mono h k.2.2.2.1, Sz.mono h k.2.2.2.2⟩⟩
@[simp] theorem QB.YS {n : Nat} {x : QB} (h : Sm n x) : Sm n x.Methods := h.1
@[simp] theorem QB.ZWv {n : Nat} {x : QB} (h : Sm n x) : Sm n x.Shown := h.2.1
@[simp] theorem QB.ZH5 {n : Nat} {x : QB} (h : Sm n x) : Sm n x.Yx := h.2.2.1
@[simp] theorem QB.ZQO {n : Nat} {x : QB} (h : Sm n x) : Sm n x.Xl := h.2.2.2.1
@[simp] theorem QB.ZWY {n : Nat} {x : QB} (h : Sm n x) : Sm n x.ZHw := h.2.2.2.2
@[simp] theorem QB.ZFj {n : Nat} {Title' : Int} {Methods' : List Int} {Shown' : List Bool} {Parts' : List ByteArray} {Salts' : List Int} {Digests' : List (List Int)} : Sm n (QB.mk Title' Methods' Shown' Parts' Salts' Digests') = (Sm n Methods' ∧ Sm n Shown' ∧ Sm n Parts' ∧ Sm n Salts' ∧ Sm n Digests') := rfl
structure ZI where
  ZK : List ZN
  Zz : List (List Za)
  deriving Inhabited, DecidableEq
@[simp] def ZI.row (x : ZI) : List Vm.D := [.sl 2 (x.ZK.map ZN.row), .sl 1 (x.Zz.map (slR 5 Za.row))]
instance : Cn ZI := ⟨fun x => cn x.ZK + cn x.Zz⟩
theorem ZI.KR (x : ZI) : cn x = cn x.ZK + cn x.Zz := rfl
instance : Sz ZI := ⟨fun n x => Sm n x.ZK ∧ Sm n x.Zz, fun n => ⟨Sz.zero n, Sz.zero n⟩, fun h k => ⟨Sz.mono h k.1, Sz.mono h k.2⟩⟩
@[simp] theorem ZI.Yr {n : Nat} {x : ZI} (h : Sm n x) : Sm n x.ZK := h.1
@[simp] theorem ZI.j9 {n : Nat} {x : ZI} (h : Sm n x) : Sm n x.Zz := h.2
@[simp] theorem ZI.ZFj {n : Nat} {Strands' : List ZN} {Fresh' : List (List Za)} : Sm n (ZI.mk Strands' Fresh') = (Sm n Strands' ∧ Sm n Fresh') := rfl
structure Zy where
  YO : Int
  ZO7 : Int
  XH : Int
  Qs : Int
  Mark : Int
  deriving Inhabited, DecidableEq
@[simp] def Zy.row (x : Zy) : List Vm.D := [.int .i64 x.YO, .int .i64 x.ZO7, .int .i64 x.XH, .int .i64 x.Qs, .int .i64 x.Mark]
instance : Cn Zy := ⟨fun x => cn x.YO + cn x.ZO7 + cn x.XH + cn x.Qs + cn x.Mark⟩
theorem Zy.KR (x : Zy) : cn x = cn x.YO + cn x.ZO7 + cn x.XH + cn x.Qs + cn x.Mark := rfl
instance : Sz Zy := ⟨fun _ _ => True, fun _ => trivial, fun _ h => h⟩
@[simp] theorem Zy.ZCr {n : Nat} {x : Zy} : Sm n x := trivial
structure ZAE where
  YQ : Int
  To : Int
  Z5 : List Z3
  XC : Int
  deriving Inhabited, DecidableEq
@[simp] def ZAE.row (x : ZAE) : List Vm.D := [.int .i64 x.YQ, .int .i64 x.To, .sl 16 (x.Z5.map Z3.row), .int .i64 x.XC]
instance : Cn ZAE := ⟨fun x => cn x.YQ + cn x.To + cn x.Z5 + cn x.XC⟩
theorem ZAE.KR (x : ZAE) : cn x = cn x.YQ + cn x.To + cn x.Z5 + cn x.XC := rfl
instance : Sz ZAE := ⟨fun n x => Sm n x.Z5, fun n => Sz.zero n, fun h k => Sz.mono h k⟩
@[simp] theorem ZAE.qt {n : Nat} {x : ZAE} (h : Sm n x) : Sm n x.Z5 := h
@[simp] theorem ZAE.ZFj {n : Nat} {From' : Int} {To' : Int} {Items' : List Z3} {Digest' : Int} : Sm n (ZAE.mk From' To' Items' Digest') = (Sm n Items') := rfl
structure Z1 where
  Org : Int
  ZCC : Int
  YQ : Int
  To : Int
  Key : Int
  Mark : Int
  deriving Inhabited, DecidableEq
@[simp] def Z1.row (x : Z1) : List Vm.D := [.int .i64 x.Org, .int .i64 x.ZCC, .int .i64 x.YQ, .int .i64 x.To, .int .i64 x.Key, .int .i64 x.Mark]
instance : Cn Z1 := ⟨fun x => cn x.Org + cn x.ZCC + cn x.YQ + cn x.To + cn x.Key + cn x.Mark⟩
theorem Z1.KR (x : Z1) : cn x = cn x.Org + cn x.ZCC + cn x.YQ + cn x.To + cn x.Key + cn x.Mark := rfl
instance : Sz Z1 := ⟨fun _ _ => True, fun _ => trivial, fun _ h => h⟩
@[simp] theorem Z1.ZCr {n : Nat} {x : Z1} : Sm n x := trivial
end Go.Mo
namespace Go.Mo
open Go.Vm
theorem ZEd {α : Type} [Inhabited α] {l : List α} {i : Nat} (h : i < l.length) : nth l i = l[i] := by simp [nth, h]
theorem ZSf {α : Type} [Inhabited α] {l : List α} {i : Nat} (h : i < l.length) : nth l i ∈ l := by rw [ZEd h]; exact List.getElem_mem h
theorem qy {α : Type} [Inhabited α] {F : Nat → Nat → List α → List α} {a : List α} {g : α → α} (hg : ∀ x, g x = x)
    (h1 : ∀ n i v, F (n + 1) i v = bif decide ((i : Int) < (a.length : Int)) then F n (i + 1) (v.set i (g (nth a i))) else v) :
    ∀ n i v, v.length = a.length → a.length < n + i → i ≤ a.length → (∀ j, j < i → v[j]? = a[j]?) → F n i v = a := by
  intro n
  induction n with
  | zero => intro i v _ h2 h3; omega
  | succ n ih =>
    intro i v hl h2 h3 hj
    rw [h1]
    by_cases hi : i < a.length
    · have : decide ((i : Int) < (a.length : Int)) = true := by simp [hi]
      rw [this, cond_true]
      refine ih _ _ (by simp [hl]) (by omega) hi (fun j hlt => ?_)
      rw [List.getElem?_set]
      by_cases hji : i = j
      · subst hji; simp [hl, hi, hg, ZEd hi]
      · rw [if_neg hji]; exact hj j (by omega)
    · have : decide ((i : Int) < (a.length : Int)) = false := by simp; omega
      rw [this, cond_false]
      apply List.ext_getElem?
      intro j
      by_cases hji : j < i
      · exact hj j hji
      · rw [List.getElem?_eq_none (by omega), List.getElem?_eq_none (by omega)]
theorem ZFy {α : Type} [Inhabited α] {F : Nat → List α → Nat → List α} {a : List α} {g : α → α} (hg : ∀ x, g x = x)
    (h1 : ∀ n v i, F (n + 1) v i = bif decide ((i : Int) < (a.length : Int)) then F n (v ++ [g (nth a i)]) (i + 1) else v) :
    ∀ n v i, a.length < n + i → i ≤ a.length → F n v i = v ++ a.drop i := by
  intro n
  induction n with
  | zero => intro v i h2 h3; omega
  | succ n ih =>
    intro v i h2 h3
    rw [h1]
    by_cases hi : i < a.length
    · rw [show decide ((i : Int) < (a.length : Int)) = true by simp [hi], cond_true, ih _ _ (by omega) hi, hg, ZEd hi, List.append_assoc, List.singleton_append, ← List.drop_eq_getElem_cons hi]
    · rw [show decide ((i : Int) < (a.length : Int)) = false by simp; omega, cond_false, List.drop_eq_nil_of_le (by omega), List.append_nil]
theorem ZCg {F : Nat → Nat → Sum Int Unit} {L : Nat} {c : Nat → Bool} (h0 : ∀ i, F 0 i = .inr ())
    (h1 : ∀ n i, F (n + 1) i = bif decide ((i : Int) < (L : Int)) then (bif c i then .inl (i : Int) else F n (i + 1)) else .inr ()) :
    ∀ n i, (match F n i with | .inl r => r | .inr _ => -1) < (L : Int) := by
  intro n
  induction n with
  | zero => intro i; rw [h0]; show (-1 : Int) < _; omega
  | succ n ih =>
    intro i
    rw [h1]
    by_cases hi : (i : Int) < (L : Int)
    · rw [show decide ((i : Int) < (L : Int)) = true by simpa using hi, cond_true]
      cases hc : c i with
      | true => simpa using hi
      | false => exact ih (i + 1)
    · rw [show decide ((i : Int) < (L : Int)) = false by simpa using hi, cond_false]
      show (-1 : Int) < _; omega
theorem jj {rows : List (List Vm.D)} {i : Nat} {r : List Vm.D} (h : i < rows.length) : Vm.rowAt (rows.set i r) i = r := by simp [Vm.rowAt, h]
/-- a length that is reckoned off a purse -/
def ZAv {α : Type} [Inhabited α] [Sz α] (F : α → Int → Int) : Prop := ∀ a n, Sm maxLen a → 0 ≤ n → n ≤ 1048576 → ¬ F a n < 0 → Sm 1048576 a ∧ F a n ≤ 1048576
theorem ZNu {n : Int} {l : Nat} (h0 : 0 ≤ n) (hn : n ≤ 1048576) (hl : l ≤ maxLen) : W (n - l) = n - l := by
  have hl : l ≤ 9223372036854775807 := hl
  exact Yd (by omega) (by omega)
theorem ZD4 {α : Type} [Inhabited α] [Sz α] (hs : ∀ (n : Nat) (x : α), Sm n x) {F : List α → Int → Int} (hF : ∀ a n, F a n = bif decide (W (n - (a.length : Int)) < 0) then (-1) else W (n - (a.length : Int))) : ZAv F := by
  intro a n hm h0 hn h
  rw [hF, ZNu h0 hn hm.1] at h ⊢
  by_cases hc : n - (a.length : Int) < 0
  · rw [show decide (n - (a.length : Int) < 0) = true by simpa using hc, cond_true] at h; omega
  · rw [show decide (n - (a.length : Int) < 0) = false by simpa using hc, cond_false] at h ⊢
    exact ⟨⟨by omega, fun x _ => hs _ x⟩, by omega⟩
theorem ZWE {α : Type} [Inhabited α] [Sz α] {E : α → Int → Int} (hE : ZAv E) {a : List α} (hm : Sm maxLen a) {G : Nat → Int → Nat → Sum Int Int}
    (h1 : ∀ n v i, G (n + 1) v i = bif decide ((i : Int) < (a.length : Int)) then (bif decide (E (nth a i) v < 0) then .inl (-1) else G n (E (nth a i) v) (i + 1)) else .inr v) :
    ∀ n v i, 0 ≤ v → v ≤ 1048576 → a.length < n + i → i ≤ a.length → ¬ (match G n v i with | .inl r => r | .inr z => z) < 0 → (∀ j, i ≤ j → j < a.length → Sm 1048576 (nth a j)) ∧ (match G n v i with | .inl r => r | .inr z => z) ≤ 1048576 := by
  intro n
  induction n with
  | zero => intro v i _ _ h2 h3; omega
  | succ n ih =>
    intro v i hv0 hv h2 h3 h
    rw [h1] at h ⊢
    by_cases hi : i < a.length
    · rw [show decide ((i : Int) < (a.length : Int)) = true by simp [hi], cond_true] at h ⊢
      by_cases hc : E (nth a i) v < 0
      · rw [show decide (E (nth a i) v < 0) = true by simpa using hc, cond_true] at h; simp at h
      · rw [show decide (E (nth a i) v < 0) = false by simpa using hc, cond_false] at h ⊢
        obtain ⟨e1, e2⟩ := hE (nth a i) v (hm.2 _ (ZSf hi)) hv0 hv hc
        obtain ⟨r1, r2⟩ := ih _ (i + 1) (by omega) e2 (by omega) hi h
        refine ⟨fun j hj hjl => ?_, r2⟩
        by_cases hji : j = i
        · subst hji; exact e1
        · exact r1 j (by omega) hjl
    · rw [show decide ((i : Int) < (a.length : Int)) = false by simp; omega, cond_false] at h ⊢
      exact ⟨fun j hj hjl => by omega, hv⟩
theorem ZH0 {α : Type} [Inhabited α] [Sz α] {E : α → Int → Int} (hE : ZAv E) {F : List α → Int → Int} {G : List α → Nat → Int → Nat → Sum Int Int}
    (h1 : ∀ a n v i, G a (n + 1) v i = bif decide ((i : Int) < (a.length : Int)) then (bif decide (E (nth a i) v < 0) then .inl (-1) else G a n (E (nth a i) v) (i + 1)) else .inr v)
    (hF : ∀ a n, F a n = bif decide (W (n - (a.length : Int)) < 0) then (-1) else (match G a (a.length + 1) (W (n - (a.length : Int))) 0 with | .inl r => r | .inr z => z)) : ZAv F := by
  intro a n hm h0 hn h
  rw [hF, ZNu h0 hn hm.1] at h ⊢
  by_cases hc : n - (a.length : Int) < 0
  · rw [show decide (n - (a.length : Int) < 0) = true by simpa using hc, cond_true] at h; omega
  · rw [show decide (n - (a.length : Int) < 0) = false by simpa using hc, cond_false] at h ⊢
    obtain ⟨r1, r2⟩ := ZWE hE hm (h1 a) (a.length + 1) _ 0 (by omega) (by omega) (by omega) (by omega) h
    refine ⟨⟨by omega, fun x hx => ?_⟩, r2⟩
    obtain ⟨j, hj, rfl⟩ := List.mem_iff_getElem.1 hx
    rw [← ZEd hj]; exact r1 j (by omega) hj
theorem ZSx : ZAv (fun (s : ByteArray) n => W (n - (s.size : Int))) := by
  intro a n hm h0 hn h
  have hm : a.size ≤ maxLen := hm
  dsimp only at h ⊢
  rw [ZNu h0 hn hm] at h ⊢
  exact ⟨show a.size ≤ 1048576 by omega, by omega⟩
/-- the purse pays for the marks -/
def kG {α : Type} [Inhabited α] [Sz α] [Cn α] (F : α → Int → Int) (c : Nat) : Prop := ∀ a n, Sm maxLen a → 0 ≤ n → n ≤ 1048576 → ¬ F a n < 0 → (cn a : Int) ≤ 32 * (n - F a n) + c ∧ F a n ≤ n
theorem ZUS {α : Type} {c : α → Nat} {m : Nat} (h : ∀ x, c x ≤ m) : ∀ l : List α, cnL c l ≤ m * l.length
  | [] => by simp [cnL]
  | x :: l => by have := ZUS h l; have := h x; simp only [cnL, List.length_cons, Nat.mul_add]; omega
theorem ZQn {α : Type} {c : α → Nat} {m : Nat} (h : ∀ x, c x = m) : ∀ l : List α, cnL c l = m * l.length
  | [] => by simp [cnL]
  | x :: l => by simp only [cnL, h, ZQn h l, List.length_cons, Nat.mul_add]; omega
theorem Yy {α : Type} {p : α → Prop} {c : Bool} {x y : α} (hx : p x) (hy : p y) : p (bif c then x else y) := by cases c; exact hy; exact hx
theorem ZDW {α : Type} {F : Nat → List α → Nat → List α} {L : Nat} {c : Nat → Bool} {g : Nat → α} (h0 : ∀ v i, F 0 v i = [])
    (h1 : ∀ n v i, F (n + 1) v i = bif decide ((i : Int) < (L : Int)) then (bif c i then F n (v ++ [g i]) (i + 1) else F n v (i + 1)) else v) : ∀ n v i, (F n v i).length ≤ v.length + (L - i) := by
  intro n
  induction n with
  | zero => intro v i; rw [h0]; simp
  | succ n ih =>
    intro v i
    rw [h1]
    by_cases hi : i < L
    · rw [show decide ((i : Int) < (L : Int)) = true by simp [hi], cond_true]
      cases c i with
      | true => have := ih (v ++ [g i]) (i + 1); rw [cond_true]; simp at this; omega
      | false => have := ih v (i + 1); rw [cond_false]; omega
    · rw [show decide ((i : Int) < (L : Int)) = false by simp; omega, cond_false]; omega
theorem ZDv {α : Type} [Inhabited α] [Sz α] [Cn α] (hs : ∀ x : α, cn x ≤ 32) {F : List α → Int → Int} (hF : ∀ a n, F a n = bif decide (W (n - (a.length : Int)) < 0) then (-1) else W (n - (a.length : Int))) : kG F 0 := by
  intro a n hm h0 hn h
  rw [hF, ZNu h0 hn hm.1] at h ⊢
  by_cases hc : n - (a.length : Int) < 0
  · rw [show decide (n - (a.length : Int) < 0) = true by simpa using hc, cond_true] at h; omega
  · rw [show decide (n - (a.length : Int) < 0) = false by simpa using hc, cond_false] at h ⊢
    have := ZUS hs a
    rw [ZSr]; omega
theorem ZWd {α : Type} [Inhabited α] [Sz α] [Cn α] {E : α → Int → Int} {c : Nat} (hE : kG E c) (hcc : c ≤ 32) {a : List α} (hm : Sm maxLen a) {G : Nat → Int → Nat → Sum Int Int}
    (h1 : ∀ n v i, G (n + 1) v i = bif decide ((i : Int) < (a.length : Int)) then (bif decide (E (nth a i) v < 0) then .inl (-1) else G n (E (nth a i) v) (i + 1)) else .inr v) :
    ∀ n v i, 0 ≤ v → v ≤ 1048576 → a.length < n + i → i ≤ a.length → ¬ (match G n v i with | .inl r => r | .inr z => z) < 0 →
      (cnL cn (a.drop i) : Int) ≤ 32 * (v - (match G n v i with | .inl r => r | .inr z => z)) + 32 * ((a.length : Int) - i) ∧ (match G n v i with | .inl r => r | .inr z => z) ≤ v := by
  intro n
  induction n with
  | zero => intro v i _ _ h2 h3; omega
  | succ n ih =>
    intro v i hv0 hv h2 h3 h
    rw [h1] at h ⊢
    by_cases hi : i < a.length
    · rw [show decide ((i : Int) < (a.length : Int)) = true by simp [hi], cond_true] at h ⊢
      by_cases hc : E (nth a i) v < 0
      · rw [show decide (E (nth a i) v < 0) = true by simpa using hc, cond_true] at h; simp at h
      · rw [show decide (E (nth a i) v < 0) = false by simpa using hc, cond_false] at h ⊢
        obtain ⟨e1, e2⟩ := hE (nth a i) v (hm.2 _ (ZSf hi)) hv0 hv hc
        obtain ⟨r1, r2⟩ := ih _ (i + 1) (by omega) (by omega) (by omega) hi h
        rw [List.drop_eq_getElem_cons hi, cnL, ← ZEd hi]
        refine ⟨?_, by omega⟩
        simp only [Int.natCast_add] at r1 ⊢
        omega
    · rw [show decide ((i : Int) < (a.length : Int)) = false by simp; omega, cond_false] at h ⊢
      rw [List.drop_eq_nil_of_le (by omega)]
      simp only [cnL]
      exact ⟨by omega, by omega⟩
theorem ZDy {α : Type} [Inhabited α] [Sz α] [Cn α] {E : α → Int → Int} {c : Nat} (hE : kG E c) (hcc : c ≤ 32) {F : List α → Int → Int} {G : List α → Nat → Int → Nat → Sum Int Int}
    (h1 : ∀ a n v i, G a (n + 1) v i = bif decide ((i : Int) < (a.length : Int)) then (bif decide (E (nth a i) v < 0) then .inl (-1) else G a n (E (nth a i) v) (i + 1)) else .inr v)
    (hF : ∀ a n, F a n = bif decide (W (n - (a.length : Int)) < 0) then (-1) else (match G a (a.length + 1) (W (n - (a.length : Int))) 0 with | .inl r => r | .inr z => z)) : kG F 0 := by
  intro a n hm h0 hn h
  rw [hF, ZNu h0 hn hm.1] at h ⊢
  by_cases hc : n - (a.length : Int) < 0
  · rw [show decide (n - (a.length : Int) < 0) = true by simpa using hc, cond_true] at h; omega
  · rw [show decide (n - (a.length : Int) < 0) = false by simpa using hc, cond_false] at h ⊢
    obtain ⟨r1, r2⟩ := ZWd hE hcc hm (h1 a) (a.length + 1) _ 0 (by omega) (by omega) (by omega) (by omega) h
    rw [List.drop_zero] at r1
    rw [ZSr]
    exact ⟨by omega, by omega⟩
theorem ZTU : kG (fun (s : ByteArray) n => W (n - (s.size : Int))) 1 := by
  intro a n hm h0 hn h
  have hm : a.size ≤ maxLen := hm
  dsimp only at h ⊢
  rw [ZNu h0 hn hm] at h ⊢
  rw [ZD6]
  exact ⟨by omega, by omega⟩
end Go.Mo
namespace Go.Mo
open Go.Vm
theorem jA {F : Nat → Nat → Sum Bool Unit} {L : Nat} {c : Nat → Bool} (hc : ∀ i, c i = false) (h0 : ∀ i, F 0 i = .inr ())
    (h1 : ∀ n i, F (n + 1) i = bif decide ((i : Int) < (L : Int)) then (bif c i then .inl false else F n (i + 1)) else .inr ()) : ∀ n i, F n i = .inr () := by
  intro n
  induction n with
  | zero => exact h0
  | succ n ih =>
    intro i
    rw [h1, hc, cond_false, ih]
    cases decide ((i : Int) < (L : Int)) <;> rfl
end Go.Mo
namespace Go.Mo
open Go.Vm
theorem J7 (n : Int) : W n = (n + 9223372036854775808) % 18446744073709551616 - 9223372036854775808 := IntKind.wrap_i64 n
theorem ZVc {α : Type} [Inhabited α] [DecidableEq α] {F : Nat → Nat → Sum Bool Unit} {a b : List α} {c : Nat → Bool} (hl : a.length = b.length) (hc : ∀ i, c i = !decide (nth a i = nth b i)) (h0 : ∀ i, F 0 i = .inr ())
    (h1 : ∀ n i, F (n + 1) i = bif decide ((i : Int) < (a.length : Int)) then (bif c i then .inl false else F n (i + 1)) else .inr ()) :
    F (a.length + 1) 0 = if a = b then .inr () else .inl false := by
  have key : ∀ n i, a.length < n + i → F n i = if a.drop i = b.drop i then .inr () else .inl false := by
    intro n
    induction n with
    | zero =>
      intro i h
      rw [h0, List.drop_eq_nil_of_le (by omega), List.drop_eq_nil_of_le (by omega), if_pos rfl]
    | succ n ih =>
      intro i h
      rw [h1]
      by_cases hi : i < a.length
      · have hib : i < b.length := by omega
        rw [show decide ((i : Int) < (a.length : Int)) = true by simp [hi], cond_true, hc, List.drop_eq_getElem_cons hi, List.drop_eq_getElem_cons hib, ZEd hi, ZEd hib]
        by_cases he : a[i] = b[i]
        · rw [he, show decide (b[i] = b[i]) = true by simp, Bool.not_true, cond_false, ih _ (by omega)]
          simp only [List.cons.injEq, true_and]
        · rw [show decide (a[i] = b[i]) = false by simp [he], if_neg (fun hh => he (List.cons.inj hh).1)]
          rfl
      · rw [show decide ((i : Int) < (a.length : Int)) = false by simp; omega, cond_false, List.drop_eq_nil_of_le (by omega), List.drop_eq_nil_of_le (by omega), if_pos rfl]
  have := key (a.length + 1) 0 (by omega)
  simpa using this
theorem ZVf {α : Type} [Inhabited α] [DecidableEq α] {F : Nat → Nat → Sum Bool Unit} {a b : List α} {c : Nat → Bool} (hc : ∀ i, c i = !decide (nth a i = nth b i)) (h0 : ∀ i, F 0 i = .inr ())
    (h1 : ∀ n i, F (n + 1) i = bif decide ((i : Int) < (a.length : Int)) then (bif c i then .inl false else F n (i + 1)) else .inr ()) :
    (bif ((a.length : Int) != (b.length : Int)) then false else (match F (a.length + 1) 0 with | .inl r => r | .inr _ => true)) = decide (a = b) := by
  by_cases hl : a.length = b.length
  · rw [ZVc hl hc h0 h1]
    simp only [hl, bne_self_eq_false, cond_false]
    by_cases h : a = b <;> simp [h]
  · have hne : a ≠ b := fun h => hl (by rw [h])
    have : ((a.length : Int) != (b.length : Int)) = true := by simp; omega
    rw [this, cond_true]; simp [hne]
end Go.Mo
namespace Go.Mo
open Go.Vm
theorem zo {α : Type} [Inhabited α] [Sz α] {f : α → List D} {n : Nat} : ∀ {rows : List (List D)}, (∀ r, r ∈ rows → ∃ x : α, r = f x ∧ Sm n x) → ∃ l : List α, rows = l.map f ∧ ∀ x ∈ l, Sm n x
  | [], _ => ⟨[], rfl, fun _ h => by cases h⟩
  | r :: rows, h => by
    obtain ⟨x, hx, sx⟩ := h r (by simp)
    obtain ⟨l, hl, sl⟩ := zo (rows := rows) (fun r hr => h r (by simp [hr]))
    refine ⟨x :: l, by simp [hx, hl], fun y hy => ?_⟩
    rcases List.mem_cons.1 hy with rfl | hy
    · exact sx
    · exact sl y hy
theorem Z9 (row : List D) (o s : Nat) : row.drop o = cut row o s ++ row.drop (o + s) := by
  rw [← List.drop_drop, cut, List.take_append_drop]
end Go.Mo
namespace Go.Mo
open Go.Vm
theorem yd {P : Program} {n : Nat} {t : TypeId} {ts : List TypeId} : ∀ {rows : List (List D)}, ZGS P n (t :: ts) rows → ∃ r rs, rows = r :: rs ∧ TyR P n t r ∧ ZGS P n ts rs
  | r :: rs, h => ⟨r, rs, rfl, h.1, h.2⟩
  | [], h => h.elim
theorem ZDc {P : Program} {n : Nat} : ∀ {rows : List (List D)}, ZGS P n [] rows → rows = []
  | [], _ => rfl
  | _ :: _, h => h.elim
end Go.Mo
namespace Go.Mo
open Go.Vm
@[simp] theorem ZN1 (l : List UInt8) : Jr l = l.map bR := rfl
@[simp] theorem ZW9 (x : Int) : ((UInt8.ofInt x).toNat : Int) = IntKind.u8.wrap x := by
  rw [IntKind.wrap_u8]
  simp [UInt8.ofInt]
  omega
theorem ZTk (x : Int) : (W (Int.tdiv x 10)).natAbs ≤ 9223372036854775808 ∧ (W (Int.tdiv x 10)).natAbs ≤ x.natAbs / 10 := by
  rw [J7]
  have : (Int.tdiv x 10).natAbs = x.natAbs / 10 := by rw [Int.natAbs_tdiv]; rfl
  omega
theorem ZLm {x : Int} {n : Nat} (h : n + 1 = 21 ∨ x.natAbs < 10 ^ (n + 1)) : (W (Int.tdiv x 10)).natAbs < 10 ^ n := by
  obtain ⟨h1, h2⟩ := ZTk x
  rcases h with h | h
  · have : n = 20 := by omega
    subst this
    have : (10 : Nat) ^ 20 = 100000000000000000000 := by decide
    omega
  · rw [Nat.pow_succ] at h; omega
end Go.Mo
namespace Go.Mo
open Go.Vm
theorem ZV1 {p : Nat} {x : Int} (hj : p + 1 = 22 ∨ x.natAbs < 10 ^ (p + 1 - 1)) (hx : (x != 0) = true) : 1 ≤ p ∧ (p = 22 ∨ (W (Int.tdiv x 10)).natAbs < 10 ^ (p - 1)) := by
  have hx : x ≠ 0 := by simpa using hx
  have hp : 1 ≤ p := by
    rcases hj with h | h
    · omega
    · rcases Nat.eq_zero_or_pos p with hz | hz
      · subst hz; simp at h; exact absurd h hx
      · exact hz
  refine ⟨hp, .inr ?_⟩
  obtain ⟨q, rfl⟩ : ∃ q, p = q + 1 := ⟨p - 1, by omega⟩
  exact ZLm (x := x) (n := q) (hj.elim (fun h => .inl (by omega)) (fun h => .inr (by simpa using h)))
theorem ZVy {p : Nat} {x : Int} (hj : p + 1 = 21 ∨ x.natAbs < 10 ^ (p + 1)) (hx : ((W (Int.tdiv x 10)) == 0) = false) : 1 ≤ p ∧ (p = 21 ∨ (W (Int.tdiv x 10)).natAbs < 10 ^ p) := by
  have hx : W (Int.tdiv x 10) ≠ 0 := by simpa using hx
  have h := ZLm hj
  refine ⟨?_, .inr h⟩
  rcases Nat.eq_zero_or_pos p with hz | hz
  · subst hz; simp at h; exact absurd h hx
  · exact hz
end Go.Mo
namespace Go.Mo
open Go.Vm
@[simp] theorem ZXP {α : Type} {l : List α} {n : Nat} (h : l.length ≤ n) : List.take n l = l := List.take_of_length_le h
@[simp] theorem ZVY {α β : Type} (f : α → β) (l : List α) : List.take l.length (List.map f l) = List.map f l := List.take_of_length_le (by simp)
@[simp] theorem ZV4 (n : Nat) : 1 + n = n + 1 := Nat.add_comm 1 n
@[simp] theorem ZXc {α β : Type} (f : α → β) (l : List α) (x y : β) : List.take (2 + l.length) (x :: y :: List.map f l) = x :: y :: List.map f l := List.take_of_length_le (by simp; omega)
@[simp] theorem ZXZ {α β : Type} (f : α → β) (l : List α) (x y z : β) : List.take (3 + l.length) (x :: y :: z :: List.map f l) = x :: y :: z :: List.map f l := List.take_of_length_le (by simp; omega)
@[simp] theorem ZXa {α β : Type} (f : α → β) (l : List α) (x y z u : β) : List.take (4 + l.length) (x :: y :: z :: u :: List.map f l) = x :: y :: z :: u :: List.map f l := List.take_of_length_le (by simp; omega)
@[simp] theorem ZXV {α β : Type} (f : α → β) (l : List α) (x y z u v : β) : List.take (5 + l.length) (x :: y :: z :: u :: v :: List.map f l) = x :: y :: z :: u :: v :: List.map f l := List.take_of_length_le (by simp; omega)
@[simp] theorem ZXb {α β : Type} (f : α → β) (l : List α) (x y z u v w : β) : List.take (6 + l.length) (x :: y :: z :: u :: v :: w :: List.map f l) = x :: y :: z :: u :: v :: w :: List.map f l := List.take_of_length_le (by simp; omega)
theorem ZFZ (n : Nat) (h : n ≤ 9223372036854775807) : W ((n : Int) - 1) = (n : Int) - 1 := Yd (by omega) (by omega)
end Go.Mo
namespace Go.Mo
@[simp] theorem ZU9 (a : Array UInt8) : (ByteArray.mk a).size = a.size := rfl
@[simp] theorem ZXS {α : Type} {l : List α} {x : α} {v n : Nat} (h : l.length = n) : List.take (min v n + 1 + (n - v)) (List.take v l ++ x :: List.drop v l) = List.take v l ++ x :: List.drop v l := by
  apply List.take_of_length_le; simp; omega
@[simp] theorem ZXY (a b : Nat) : (min a b + 1 + (b - a) = min a b + (b - a + 1)) = True := by simp; omega
theorem ZST {α : Type} (a b : α) : cond true a b = a ∧ cond false a b = b := ⟨rfl, rfl⟩
theorem ZC2 {α : Type} (a b : α) : cond true a b = a := (ZST a b).1
theorem ZCz {α : Type} (a b : α) : cond false a b = b := (ZST a b).2
/-- a side condition that is found by itself -/
theorem sd {a b : Prop} (h : b) (k : a := by (intros; first | omega | (simp only [decide_eq_true_eq, decide_eq_false_iff_not, beq_iff_eq, beq_eq_false_iff_ne, bne_iff_ne, ne_eq, Bool.or_eq_false_iff, Bool.or_eq_true, Bool.and_eq_true, Bool.not_eq_true', Bool.not_eq_false'] at *; omega) | ((try simp only [Go.Mo.J7, show ∀ x, Go.IntKind.i64.wrap x = Go.Vm.W x from fun _ => rfl] at *); omega))) : a ∧ b := ⟨k, h⟩
theorem sdg {a b : Prop} (h : b) (k : a := by (intros; first | omega | (simp_all; done) | (simp_all; omega) | grind | ((try simp only [Go.Mo.J7, show ∀ x, Go.IntKind.i64.wrap x = Go.Vm.W x from fun _ => rfl] at *); omega))) : a ∧ b := ⟨k, h⟩
theorem il {a b : Nat} (h : a < b := by first | omega | (simp only [decide_eq_true_eq, decide_eq_false_iff_not, beq_iff_eq, beq_eq_false_iff_ne, bne_iff_ne, ne_eq, Bool.or_eq_false_iff, Bool.not_eq_true', Bool.not_eq_false'] at *; omega) | (simp_all [List.length_pos_iff]; done) | (simp; omega) | (simp_all; omega) | ((try simp only [Go.Mo.J7, show ∀ x, Go.IntKind.i64.wrap x = Go.Vm.W x from fun _ => rfl] at *); omega) | (simp; (try simp only [Go.Mo.J7, show ∀ x, Go.IntKind.i64.wrap x = Go.Vm.W x from fun _ => rfl] at *); omega)) : a < b := h
theorem ik {α : Type} (a : Nat) (l : List α) (h : a < l.length := by first | omega | (simp only [decide_eq_true_eq, decide_eq_false_iff_not, beq_iff_eq, beq_eq_false_iff_ne, bne_iff_ne, ne_eq, Bool.or_eq_false_iff, Bool.not_eq_true', Bool.not_eq_false'] at *; omega) | (simp_all [List.length_pos_iff]; done) | (simp; omega) | (simp_all; omega) | ((try simp only [Go.Mo.J7, show ∀ x, Go.IntKind.i64.wrap x = Go.Vm.W x from fun _ => rfl] at *); omega) | (simp; (try simp only [Go.Mo.J7, show ∀ x, Go.IntKind.i64.wrap x = Go.Vm.W x from fun _ => rfl] at *); omega)) : a < l.length := h
theorem sl {α : Type} [Inhabited α] [Sz α] (n : Nat) (l : List α) {q : Prop} (u : q) (h : q → Sm n l := by (intro u; simp (maxDischargeDepth := 12) [u])) : l.length ≤ n := Yw (h u)
theorem sg {α : Type} [Inhabited α] [Sz α] {n m : Nat} {x : α} (h : Sm n x) (k : n ≤ m := by decide) : Sm m x := ZX k h
theorem ky {α : Type} [Inhabited α] {l : List α} {i : Nat} (h : i < l.length) : l.drop i = Vm.nth l i :: l.drop (i + 1) := by
  rw [List.drop_eq_getElem_cons h]; simp [Vm.nth, List.getD_eq_getElem?_getD, List.getElem?_eq_getElem h]
theorem ZOG {α : Type} [Inhabited α] (c : α → Nat) {l : List α} {i : Nat} (h : i < l.length) : cnL c (l.drop i) = c (Vm.nth l i) + cnL c (l.drop (i + 1)) := by rw [ky h]; rfl
theorem ZL4 {α β : Type} (f : α → List β) : ∀ l : List α, (l.flatMap f).length = cnL (fun x => (f x).length) l
  | [] => rfl
  | x :: l => by simp only [List.flatMap_cons, List.length_append, cnL, ZL4 f l]
theorem ZDm {α β : Type} [Inhabited α] {as : List α} (f : α → List β) {F : Nat → Nat → List β → List β} (h1 : ∀ n i l, F (n + 1) i l = bif decide ((i : Int) < (as.length : Int)) then F n (i + 1) (l ++ f (Vm.nth as i)) else l) : ∀ n i l, as.length < n + i → i ≤ as.length → F n i l = l ++ (as.drop i).flatMap f
  | 0, i, l, h, h2 => by omega
  | n + 1, i, l, h, h2 => by
    rw [h1]
    by_cases hi : i < as.length
    · rw [show decide ((i : Int) < (as.length : Int)) = true by simpa using hi, ZC2, ZDm f h1 n (i + 1) _ (by omega) hi, ky hi]; simp
    · rw [show decide ((i : Int) < (as.length : Int)) = false by simpa using hi, ZCz, List.drop_eq_nil_of_le (by omega)]; simp
theorem ZIB {α β : Type} (f : α → β) : ∀ l : List α, l.flatMap (fun a => [f a]) = l.map f
  | [] => rfl
  | x :: l => by rw [List.flatMap_cons, ZIB f l]; rfl
theorem ZMh {l : List ByteArray} {m : Nat} (h : ∀ x ∈ l, x.size ≤ m) (i : Nat) : (Vm.nth l i).size ≤ m := by
  by_cases hi : i < l.length
  · rw [show Vm.nth l i = l[i] by simp [Vm.nth, List.getD_eq_getElem?_getD, List.getElem?_eq_getElem hi]]; exact h _ (List.getElem_mem hi)
  · rw [show Vm.nth l i = default by simp [Vm.nth, List.getD_eq_getElem?_getD, List.getElem?_eq_none (Nat.le_of_not_lt hi)]]; exact Nat.zero_le _
end Go.Mo
