/- The plain data of the program, typed, and how they read as rows of the abstract machine. No condition. -/
import Derived.Test.YtjflhdkeibijaaaGreatVe
import Derived.Laws.BitsLemmas
namespace Go.Mo
open Go.Vm
@[simp] def iR (n : Int) : List Vm.D := [.int .i64 n]
@[simp] def bR (b : UInt8) : List Vm.D := [.int .u8 (b.toNat : Int)]
@[simp] def lR (b : Bool) : List Vm.D := [.bool b]
@[simp] def sR (s : ByteArray) : List Vm.D := [.str s]
@[simp] def slR {α : Type} (n : Nat) (f : α → List D) (m : List α) : List Vm.D := [.sl n (m.map f)]
/-- everything in it is at most so long -/
class Sz (α : Type) [Inhabited α] where
  sm : Nat → α → Prop
  zero : ∀ n, sm n default
  mono : ∀ {n m : Nat} {x : α}, n ≤ m → sm n x → sm m x
/-- how many marks it takes -/
class Cn (α : Type) where
  cn : α → Nat
abbrev cn {α : Type} [Cn α] (x : α) : Nat := Cn.cn x
def cnL {α : Type} (c : α → Nat) : List α → Nat
  | [] => 0
  | x :: l => c x + cnL c l
instance : Cn Int := ⟨fun _ => 1⟩
instance : Cn Bool := ⟨fun _ => 1⟩
instance : Cn UInt8 := ⟨fun _ => 1⟩
instance : Cn ByteArray := ⟨fun _ => 1⟩
instance {α : Type} [Cn α] : Cn (List α) := ⟨cnL Cn.cn⟩
theorem Y3 (x : Int) : cn x = 1 := rfl
theorem Yj (x : Bool) : cn x = 1 := rfl
theorem KN (x : UInt8) : cn x = 1 := rfl
theorem Y4 (x : ByteArray) : cn x = 1 := rfl
theorem Qm {α : Type} [Cn α] (x : List α) : cn x = cnL cn x := rfl
abbrev Sm {α : Type} [Inhabited α] [Sz α] (n : Nat) (x : α) : Prop := Sz.sm n x
instance : Sz Int := ⟨fun _ _ => True, fun _ => trivial, fun _ h => h⟩
instance : Sz Bool := ⟨fun _ _ => True, fun _ => trivial, fun _ h => h⟩
instance : Sz UInt8 := ⟨fun _ _ => True, fun _ => trivial, fun _ h => h⟩
instance : Sz ByteArray := ⟨fun n s => s.size ≤ n, fun _ => Nat.zero_le _, fun h k => Nat.le_trans k h⟩
instance {α : Type} [Inhabited α] [Sz α] : Sz (List α) := ⟨fun n l => l.length ≤ n ∧ ∀ x ∈ l, Sz.sm n x, fun _ => ⟨Nat.zero_le _, fun _ h => by cases h⟩, fun h k => ⟨Nat.le_trans k.1 h, fun x hx => Sz.mono h (k.2 x hx)⟩⟩
theorem Xd {α : Type} [Inhabited α] [Sz α] {n : Nat} {l : List α} : Sm n l = (l.length ≤ n ∧ ∀ x ∈ l, Sm n x) := rfl
theorem zM {α : Type} [Inhabited α] [Sz α] {n : Nat} {l : List α} (h : Sm n l) : l.length ≤ n := h.1
theorem LK {n : Nat} {s : ByteArray} (h : Sm n s) : s.size ≤ n := h
@[simp] theorem Ag {n : Nat} {x : Int} : Sm n x := trivial
@[simp] theorem AK {n : Nat} {x : Bool} : Sm n x := trivial
@[simp] theorem Al {n : Nat} {x : UInt8} : Sm n x := trivial
@[simp] theorem AU {α : Type} [Inhabited α] [Sz α] {n : Nat} : Sm n ([] : List α) := ⟨Nat.zero_le _, fun _ h => by cases h⟩
@[simp] theorem Yl {α : Type} [Inhabited α] [Sz α] {n i : Nat} {l : List α} (h : Sm n l) : Sm n (nth l i) := by
  unfold nth
  rw [List.getD_eq_getElem?_getD]
  cases hh : l[i]? with
  | none => exact Sz.zero n
  | some x => exact h.2 x (List.mem_of_getElem? hh)
@[simp] theorem AO {α : Type} [Inhabited α] [Sz α] {n i : Nat} {l : List α} (h : Sm n l) : Sm n (l.take i) := ⟨Nat.le_trans (by simp; omega) h.1, fun x hx => h.2 x (List.mem_of_mem_take hx)⟩
@[simp] theorem AN {α : Type} [Inhabited α] [Sz α] {n i : Nat} {l : List α} (h : Sm n l) : Sm n (l.drop i) := ⟨Nat.le_trans (by simp) h.1, fun x hx => h.2 x (List.mem_of_mem_drop hx)⟩
theorem yl {α : Type} [Inhabited α] [Sz α] {n : Nat} {l m : List α} : Sm n (l ++ m) = (l.length + m.length ≤ n ∧ (∀ x ∈ l, Sm n x) ∧ ∀ x ∈ m, Sm n x) := by
  rw [Xd]; simp [or_imp, forall_and]
theorem YL {α : Type} [Inhabited α] [Sz α] {n m : Nat} {x : α} (h : n ≤ m) (k : Sm n x) : Sm m x := Sz.mono h k
structure Za where
  Authority : Int
  Seq : Int
  Time : Int
  YZ : Int
  Mark : Int
  deriving Inhabited, DecidableEq
@[simp] def Za.row (x : Za) : List Vm.D := [.int .i64 x.Authority, .int .i64 x.Seq, .int .i64 x.Time, .int .i64 x.YZ, .int .i64 x.Mark]
instance : Cn Za := ⟨fun x => cn x.Authority + cn x.Seq + cn x.Time + cn x.YZ + cn x.Mark⟩
theorem Za.Ya (x : Za) : cn x = cn x.Authority + cn x.Seq + cn x.Time + cn x.YZ + cn x.Mark := rfl
instance : Sz Za := ⟨fun _ _ => True, fun _ => trivial, fun _ h => h⟩
@[simp] theorem Za.jR {n : Nat} {x : Za} : Sm n x := trivial
structure Z4 where
  YZ : Int
  Left : Bool
  deriving Inhabited, DecidableEq
@[simp] def Z4.row (x : Z4) : List Vm.D := [.int .i64 x.YZ, .bool x.Left]
instance : Cn Z4 := ⟨fun x => cn x.YZ + cn x.Left⟩
theorem Z4.Ya (x : Z4) : cn x = cn x.YZ + cn x.Left := rfl
instance : Sz Z4 := ⟨fun _ _ => True, fun _ => trivial, fun _ h => h⟩
@[simp] theorem Z4.jR {n : Nat} {x : Z4} : Sm n x := trivial
structure ZL where
  Count : Int
  Method : Int
  Ud : Int
  Path : List Z4
  Zu : List Za
  deriving Inhabited, DecidableEq
@[simp] def ZL.row (x : ZL) : List Vm.D := [.int .i64 x.Count, .int .i64 x.Method, .int .i64 x.Ud, .sl 2 (x.Path.map Z4.row), .sl 5 (x.Zu.map Za.row)]
instance : Cn ZL := ⟨fun x => cn x.Count + cn x.Method + cn x.Ud + cn x.Path + cn x.Zu⟩
theorem ZL.Ya (x : ZL) : cn x = cn x.Count + cn x.Method + cn x.Ud + cn x.Path + cn x.Zu := rfl
instance : Sz ZL := ⟨fun n x => Sm n x.Path ∧ Sm n x.Zu, fun n => ⟨Sz.zero n, Sz.zero n⟩, fun h k => ⟨Sz.mono h k.1, Sz.mono h k.2⟩⟩
@[simp] theorem ZL.D1 {n : Nat} {x : ZL} (h : Sm n x) : Sm n x.Path := h.1
@[simp] theorem ZL.M4 {n : Nat} {x : ZL} (h : Sm n x) : Sm n x.Zu := h.2
@[simp] theorem ZL.WB {n : Nat} {Count' : Int} {Method' : Int} {Root' : Int} {Path' : List Z4} {Stamps' : List Za} : Sm n (ZL.mk Count' Method' Root' Path' Stamps') = (Sm n Path' ∧ Sm n Stamps') := rfl
structure YQ where
  Number : Int
  ze : Int
  Method : Int
  Oz : Int
  xf : Int
  deriving Inhabited, DecidableEq
@[simp] def YQ.row (x : YQ) : List Vm.D := [.int .i64 x.Number, .int .i64 x.ze, .int .i64 x.Method, .int .i64 x.Oz, .int .i64 x.xf]
instance : Cn YQ := ⟨fun x => cn x.Number + cn x.ze + cn x.Method + cn x.Oz + cn x.xf⟩
theorem YQ.Ya (x : YQ) : cn x = cn x.Number + cn x.ze + cn x.Method + cn x.Oz + cn x.xf := rfl
instance : Sz YQ := ⟨fun _ _ => True, fun _ => trivial, fun _ h => h⟩
@[simp] theorem YQ.jR {n : Nat} {x : YQ} : Sm n x := trivial
structure ZN where
  Id : Int
  Key : Int
  Error : Int
  deriving Inhabited, DecidableEq
@[simp] def ZN.row (x : ZN) : List Vm.D := [.int .i64 x.Id, .int .i64 x.Key, .int .i64 x.Error]
instance : Cn ZN := ⟨fun x => cn x.Id + cn x.Key + cn x.Error⟩
theorem ZN.Ya (x : ZN) : cn x = cn x.Id + cn x.Key + cn x.Error := rfl
instance : Sz ZN := ⟨fun _ _ => True, fun _ => trivial, fun _ h => h⟩
@[simp] theorem ZN.jR {n : Nat} {x : ZN} : Sm n x := trivial
structure ZV where
  Id : Int
  WX : Int
  Ends : Int
  qd : Int
  deriving Inhabited, DecidableEq
@[simp] def ZV.row (x : ZV) : List Vm.D := [.int .i64 x.Id, .int .i64 x.WX, .int .i64 x.Ends, .int .i64 x.qd]
instance : Cn ZV := ⟨fun x => cn x.Id + cn x.WX + cn x.Ends + cn x.qd⟩
theorem ZV.Ya (x : ZV) : cn x = cn x.Id + cn x.WX + cn x.Ends + cn x.qd := rfl
instance : Sz ZV := ⟨fun _ _ => True, fun _ => trivial, fun _ h => h⟩
@[simp] theorem ZV.jR {n : Nat} {x : ZV} : Sm n x := trivial
structure YJ where
  XE : List YQ
  Zc : List ZN
  Methods : List ZV
  xh : Int
  Now : Int
  deriving Inhabited, DecidableEq
@[simp] def YJ.row (x : YJ) : List Vm.D := [.sl 5 (x.XE.map YQ.row), .sl 3 (x.Zc.map ZN.row), .sl 4 (x.Methods.map ZV.row), .int .i64 x.xh, .int .i64 x.Now]
instance : Cn YJ := ⟨fun x => cn x.XE + cn x.Zc + cn x.Methods + cn x.xh + cn x.Now⟩
theorem YJ.Ya (x : YJ) : cn x = cn x.XE + cn x.Zc + cn x.Methods + cn x.xh + cn x.Now := rfl
instance : Sz YJ := ⟨fun n x => Sm n x.XE ∧ Sm n x.Zc ∧ Sm n x.Methods, fun n => ⟨Sz.zero n, Sz.zero n, Sz.zero n⟩, fun h k => ⟨Sz.mono h k.1, Sz.mono h k.2.1, Sz.mono h k.2.2⟩⟩
@[simp] theorem YJ.D6 {n : Nat} {x : YJ} (h : Sm n x) : Sm n x.XE := h.1
@[simp] theorem YJ.PC {n : Nat} {x : YJ} (h : Sm n x) : Sm n x.Zc := h.2.1
@[simp] theorem YJ.Pk {n : Nat} {x : YJ} (h : Sm n x) : Sm n x.Methods := h.2.2
@[simp] theorem YJ.WB {n : Nat} {Keys' : List YQ} {Authorities' : List ZN} {Methods' : List ZV} {Liars' : Int} {Now' : Int} : Sm n (YJ.mk Keys' Authorities' Methods' Liars' Now') = (Sm n Keys' ∧ Sm n Authorities' ∧ Sm n Methods') := rfl
structure Zz where
  QM : Int
  Key : Int
  ze : Int
  xo : Int
  To : Int
  KW : Int
  Mark : Int
  deriving Inhabited, DecidableEq
@[simp] def Zz.row (x : Zz) : List Vm.D := [.int .i64 x.QM, .int .i64 x.Key, .int .i64 x.ze, .int .i64 x.xo, .int .i64 x.To, .int .i64 x.KW, .int .i64 x.Mark]
instance : Cn Zz := ⟨fun x => cn x.QM + cn x.Key + cn x.ze + cn x.xo + cn x.To + cn x.KW + cn x.Mark⟩
theorem Zz.Ya (x : Zz) : cn x = cn x.QM + cn x.Key + cn x.ze + cn x.xo + cn x.To + cn x.KW + cn x.Mark := rfl
instance : Sz Zz := ⟨fun _ _ => True, fun _ => trivial, fun _ h => h⟩
@[simp] theorem Zz.jR {n : Nat} {x : Zz} : Sm n x := trivial
structure ZR where
  K4 : Int
  ZE : List ByteArray
  ZG : List Int
  deriving Inhabited, DecidableEq
@[simp] def ZR.row (x : ZR) : List Vm.D := [.int .i64 x.K4, .sl 1 (x.ZE.map sR), .sl 1 (x.ZG.map iR)]
instance : Cn ZR := ⟨fun x => cn x.K4 + cn x.ZE + cn x.ZG⟩
theorem ZR.Ya (x : ZR) : cn x = cn x.K4 + cn x.ZE + cn x.ZG := rfl
instance : Sz ZR := ⟨fun n x => Sm n x.ZE ∧ Sm n x.ZG, fun n => ⟨Sz.zero n, Sz.zero n⟩, fun h k => ⟨Sz.mono h k.1, Sz.mono h k.2⟩⟩
@[simp] theorem ZR.TS {n : Nat} {x : ZR} (h : Sm n x) : Sm n x.ZE := h.1
@[simp] theorem ZR.Ok {n : Nat} {x : ZR} (h : Sm n x) : Sm n x.ZG := h.2
@[simp] theorem ZR.WB {n : Nat} {Title' : Int} {Parts' : List ByteArray} {Salts' : List Int} : Sm n (ZR.mk Title' Parts' Salts') = (Sm n Parts' ∧ Sm n Salts') := rfl
structure Zb where
  Key : Int
  QM : Int
  Method : Int
  YZ : Int
  zP : Int
  Org : Int
  KY : Int
  yZ : Int
  Mark : Int
  deriving Inhabited, DecidableEq
@[simp] def Zb.row (x : Zb) : List Vm.D := [.int .i64 x.Key, .int .i64 x.QM, .int .i64 x.Method, .int .i64 x.YZ, .int .i64 x.zP, .int .i64 x.Org, .int .i64 x.KY, .int .i64 x.yZ, .int .i64 x.Mark]
instance : Cn Zb := ⟨fun x => cn x.Key + cn x.QM + cn x.Method + cn x.YZ + cn x.zP + cn x.Org + cn x.KY + cn x.yZ + cn x.Mark⟩
theorem Zb.Ya (x : Zb) : cn x = cn x.Key + cn x.QM + cn x.Method + cn x.YZ + cn x.zP + cn x.Org + cn x.KY + cn x.yZ + cn x.Mark := rfl
instance : Sz Zb := ⟨fun _ _ => True, fun _ => trivial, fun _ h => h⟩
@[simp] theorem Zb.jR {n : Nat} {x : Zb} : Sm n x := trivial
structure ZM where
  Key : Int
  Yh : List Int
  Mark : Int
  deriving Inhabited, DecidableEq
@[simp] def ZM.row (x : ZM) : List Vm.D := [.int .i64 x.Key, .sl 1 (x.Yh.map iR), .int .i64 x.Mark]
instance : Cn ZM := ⟨fun x => cn x.Key + cn x.Yh + cn x.Mark⟩
theorem ZM.Ya (x : ZM) : cn x = cn x.Key + cn x.Yh + cn x.Mark := rfl
instance : Sz ZM := ⟨fun n x => Sm n x.Yh, fun n => Sz.zero n, fun h k => Sz.mono h k⟩
@[simp] theorem ZM.FA {n : Nat} {x : ZM} (h : Sm n x) : Sm n x.Yh := h
@[simp] theorem ZM.WB {n : Nat} {Key' : Int} {Ints' : List Int} {Mark' : Int} : Sm n (ZM.mk Key' Ints' Mark') = (Sm n Ints') := rfl
structure Zf where
  ZS : List ZM
  Zj : List ZL
  deriving Inhabited, DecidableEq
@[simp] def Zf.row (x : Zf) : List Vm.D := [.sl 3 (x.ZS.map ZM.row), .sl 5 (x.Zj.map ZL.row)]
instance : Cn Zf := ⟨fun x => cn x.ZS + cn x.Zj⟩
theorem Zf.Ya (x : Zf) : cn x = cn x.ZS + cn x.Zj := rfl
instance : Sz Zf := ⟨fun n x => Sm n x.ZS ∧ Sm n x.Zj, fun n => ⟨Sz.zero n, Sz.zero n⟩, fun h k => ⟨Sz.mono h k.1, Sz.mono h k.2⟩⟩
@[simp] theorem Zf.jt {n : Nat} {x : Zf} (h : Sm n x) : Sm n x.ZS := h.1
@[simp] theorem Zf.Wh {n : Nat} {x : Zf} (h : Sm n x) : Sm n x.Zj := h.2
@[simp] theorem Zf.WB {n : Nat} {Pieces' : List ZM} {Chain' : List ZL} : Sm n (Zf.mk Pieces' Chain') = (Sm n Pieces' ∧ Sm n Chain') := rfl
structure ZI where
  Id : Int
  Yo : Int
  Doc : ZR
  Sig : Zb
  ZQ : Zf
  deriving Inhabited, DecidableEq
@[simp] def ZI.row (x : ZI) : List Vm.D := [.int .i64 x.Id, .int .i64 x.Yo, .int .i64 x.Doc.K4, .sl 1 (x.Doc.ZE.map sR), .sl 1 (x.Doc.ZG.map iR), .int .i64 x.Sig.Key, .int .i64 x.Sig.QM, .int .i64 x.Sig.Method, .int .i64 x.Sig.YZ, .int .i64 x.Sig.zP, .int .i64 x.Sig.Org, .int .i64 x.Sig.KY, .int .i64 x.Sig.yZ, .int .i64 x.Sig.Mark, .sl 3 (x.ZQ.ZS.map ZM.row), .sl 5 (x.ZQ.Zj.map ZL.row)]
instance : Cn ZI := ⟨fun x => cn x.Id + cn x.Yo + cn x.Doc + cn x.Sig + cn x.ZQ⟩
theorem ZI.Ya (x : ZI) : cn x = cn x.Id + cn x.Yo + cn x.Doc + cn x.Sig + cn x.ZQ := rfl
instance : Sz ZI := ⟨fun n x => Sm n x.Doc ∧ Sm n x.ZQ, fun n => ⟨Sz.zero n, Sz.zero n⟩, fun h k => ⟨Sz.mono h k.1, Sz.mono h k.2⟩⟩
@[simp] theorem ZI.TU {n : Nat} {x : ZI} (h : Sm n x) : Sm n x.Doc := h.1
@[simp] theorem ZI.yp {n : Nat} {x : ZI} (h : Sm n x) : Sm n x.ZQ := h.2
@[simp] theorem ZI.WB {n : Nat} {Id' : Int} {Keep' : Int} {Doc' : ZR} {Sig' : Zb} {Strand' : Zf} : Sm n (ZI.mk Id' Keep' Doc' Sig' Strand') = (Sm n Doc' ∧ Sm n Strand') := rfl
structure ZC where
  Id : Int
  ZF : List ZI
  deriving Inhabited, DecidableEq
@[simp] def ZC.row (x : ZC) : List Vm.D := [.int .i64 x.Id, .sl 16 (x.ZF.map ZI.row)]
instance : Cn ZC := ⟨fun x => cn x.Id + cn x.ZF⟩
theorem ZC.Ya (x : ZC) : cn x = cn x.Id + cn x.ZF := rfl
instance : Sz ZC := ⟨fun n x => Sm n x.ZF, fun n => Sz.zero n, fun h k => Sz.mono h k⟩
@[simp] theorem ZC.YW {n : Nat} {x : ZC} (h : Sm n x) : Sm n x.ZF := h
@[simp] theorem ZC.WB {n : Nat} {Id' : Int} {Items' : List ZI} : Sm n (ZC.mk Id' Items') = (Sm n Items') := rfl
structure Ze where
  Frame : YJ
  Zy : List Zz
  Z6 : List Int
  ZH : List ZC
  XC : List Int
  Yq : List Int
  Next : Int
  Ym : List Int
  deriving Inhabited, DecidableEq
@[simp] def Ze.row (x : Ze) : List Vm.D := [.sl 5 (x.Frame.XE.map YQ.row), .sl 3 (x.Frame.Zc.map ZN.row), .sl 4 (x.Frame.Methods.map ZV.row), .int .i64 x.Frame.xh, .int .i64 x.Frame.Now, .sl 7 (x.Zy.map Zz.row), .sl 1 (x.Z6.map iR), .sl 2 (x.ZH.map ZC.row), .sl 1 (x.XC.map iR), .sl 1 (x.Yq.map iR), .int .i64 x.Next, .sl 1 (x.Ym.map iR)]
instance : Cn Ze := ⟨fun x => cn x.Frame + cn x.Zy + cn x.Z6 + cn x.ZH + cn x.XC + cn x.Yq + cn x.Next + cn x.Ym⟩
theorem Ze.Ya (x : Ze) : cn x = cn x.Frame + cn x.Zy + cn x.Z6 + cn x.ZH + cn x.XC + cn x.Yq + cn x.Next + cn x.Ym := rfl
instance : Sz Ze := ⟨fun n x => Sm n x.Frame ∧ Sm n x.Zy ∧ Sm n x.Z6 ∧ Sm n x.ZH ∧ Sm n x.XC ∧ Sm n x.Yq ∧ Sm n x.Ym, fun n => ⟨Sz.zero n, Sz.zero n, Sz.zero n, Sz.zero n, Sz.zero n, Sz.zero n, Sz.zero n⟩, fun h k => ⟨Sz.mono h k.1, Sz.mono h k.2.1, Sz.mono h k.2.2.1, Sz.mono h k.2.2.2.1, Sz.mono h k.2.2.2.2.1, Sz.mono h k.2.2.2.2.2.1, Sz.mono h k.2.2.2.2.2.2⟩⟩
@[simp] theorem Ze.PH {n : Nat} {x : Ze} (h : Sm n x) : Sm n x.Frame := h.1
@[simp] theorem Ze.DU {n : Nat} {x : Ze} (h : Sm n x) : Sm n x.Zy := h.2.1
@[simp] theorem Ze.H4 {n : Nat} {x : Ze} (h : Sm n x) : Sm n x.Z6 := h.2.2.1
@[simp] theorem Ze.Jo {n : Nat} {x : Ze} (h : Sm n x) : Sm n x.ZH := h.2.2.2.1
@[simp] theorem Ze.G6 {n : Nat} {x : Ze} (h : Sm n x) : Sm n x.XC := h.2.2.2.2.1
@[simp] theorem Ze.H6 {n : Nat} {x : Ze} (h : Sm n x) : Sm n x.Yq := h.2.2.2.2.2.1
@[simp] theorem Ze.M5 {n : Nat} {x : Ze} (h : Sm n x) : Sm n x.Ym := h.2.2.2.2.2.2
@[simp] theorem Ze.WB {n : Nat} {Frame' : YJ} {Certs' : List Zz} {Ended' : List Int} {Archives' : List ZC} {Seqs' : List Int} {Lying' : List Int} {Next' : Int} {Forged' : List Int} : Sm n (Ze.mk Frame' Certs' Ended' Archives' Seqs' Lying' Next' Forged') = (Sm n Frame' ∧ Sm n Certs' ∧ Sm n Ended' ∧ Sm n Archives' ∧ Sm n Seqs' ∧ Sm n Lying' ∧ Sm n Forged') := rfl
structure xZ where
  Kind : Int
  A : Int
  B : Int
  C : Int
  D : Int
  Doc : ZR
  Ids : List Int
  deriving Inhabited, DecidableEq
@[simp] def xZ.row (x : xZ) : List Vm.D := [.int .i64 x.Kind, .int .i64 x.A, .int .i64 x.B, .int .i64 x.C, .int .i64 x.D, .int .i64 x.Doc.K4, .sl 1 (x.Doc.ZE.map sR), .sl 1 (x.Doc.ZG.map iR), .sl 1 (x.Ids.map iR)]
instance : Cn xZ := ⟨fun x => cn x.Kind + cn x.A + cn x.B + cn x.C + cn x.D + cn x.Doc + cn x.Ids⟩
theorem xZ.Ya (x : xZ) : cn x = cn x.Kind + cn x.A + cn x.B + cn x.C + cn x.D + cn x.Doc + cn x.Ids := rfl
instance : Sz xZ := ⟨fun n x => Sm n x.Doc ∧ Sm n x.Ids, fun n => ⟨Sz.zero n, Sz.zero n⟩, fun h k => ⟨Sz.mono h k.1, Sz.mono h k.2⟩⟩
@[simp] theorem xZ.TU {n : Nat} {x : xZ} (h : Sm n x) : Sm n x.Doc := h.1
@[simp] theorem xZ.Aa {n : Nat} {x : xZ} (h : Sm n x) : Sm n x.Ids := h.2
@[simp] theorem xZ.WB {n : Nat} {Kind' : Int} {A' : Int} {B' : Int} {C' : Int} {D' : Int} {Doc' : ZR} {Ids' : List Int} : Sm n (xZ.mk Kind' A' B' C' D' Doc' Ids') = (Sm n Doc' ∧ Sm n Ids') := rfl
structure UP where
  xo : Int
  To : Int
  deriving Inhabited, DecidableEq
@[simp] def UP.row (x : UP) : List Vm.D := [.int .i64 x.xo, .int .i64 x.To]
instance : Cn UP := ⟨fun x => cn x.xo + cn x.To⟩
theorem UP.Ya (x : UP) : cn x = cn x.xo + cn x.To := rfl
instance : Sz UP := ⟨fun _ _ => True, fun _ => trivial, fun _ h => h⟩
@[simp] theorem UP.jR {n : Nat} {x : UP} : Sm n x := trivial
structure xG where
  Code : Int
  Reason : Int
  Span : UP
  deriving Inhabited, DecidableEq
@[simp] def xG.row (x : xG) : List Vm.D := [.int .i64 x.Code, .int .i64 x.Reason, .int .i64 x.Span.xo, .int .i64 x.Span.To]
instance : Cn xG := ⟨fun x => cn x.Code + cn x.Reason + cn x.Span⟩
theorem xG.Ya (x : xG) : cn x = cn x.Code + cn x.Reason + cn x.Span := rfl
instance : Sz xG := ⟨fun _ _ => True, fun _ => trivial, fun _ h => h⟩
@[simp] theorem xG.jR {n : Nat} {x : xG} : Sm n x := trivial
structure XI where
  K4 : Int
  Methods : List Int
  Shown : List Bool
  ZE : List ByteArray
  ZG : List Int
  Uf : List (List Int)
  deriving Inhabited, DecidableEq
@[simp] def XI.row (x : XI) : List Vm.D := [.int .i64 x.K4, .sl 1 (x.Methods.map iR), .sl 1 (x.Shown.map lR), .sl 1 (x.ZE.map sR), .sl 1 (x.ZG.map iR), .sl 1 (x.Uf.map (slR 1 iR))]
instance : Cn XI := ⟨fun x => cn x.K4 + cn x.Methods + cn x.Shown + cn x.ZE + cn x.ZG + cn x.Uf⟩
theorem XI.Ya (x : XI) : cn x = cn x.K4 + cn x.Methods + cn x.Shown + cn x.ZE + cn x.ZG + cn x.Uf := rfl
instance : Sz XI := ⟨fun n x => Sm n x.Methods ∧ Sm n x.Shown ∧ Sm n x.ZE ∧ Sm n x.ZG ∧ Sm n x.Uf, fun n => ⟨Sz.zero n, Sz.zero n, Sz.zero n, Sz.zero n, Sz.zero n⟩, fun h k => ⟨Sz.mono h k.1, Sz.mono h k.2.1, Sz.mono h k.2.2.1, Sz.mono h k.2.2.2.1, Sz.mono h k.2.2.2.2⟩⟩
@[simp] theorem XI.Pk {n : Nat} {x : XI} (h : Sm n x) : Sm n x.Methods := h.1
@[simp] theorem XI.AD {n : Nat} {x : XI} (h : Sm n x) : Sm n x.Shown := h.2.1
@[simp] theorem XI.TS {n : Nat} {x : XI} (h : Sm n x) : Sm n x.ZE := h.2.2.1
@[simp] theorem XI.Ok {n : Nat} {x : XI} (h : Sm n x) : Sm n x.ZG := h.2.2.2.1
@[simp] theorem XI.Cw {n : Nat} {x : XI} (h : Sm n x) : Sm n x.Uf := h.2.2.2.2
@[simp] theorem XI.WB {n : Nat} {Title' : Int} {Methods' : List Int} {Shown' : List Bool} {Parts' : List ByteArray} {Salts' : List Int} {Digests' : List (List Int)} : Sm n (XI.mk Title' Methods' Shown' Parts' Salts' Digests') = (Sm n Methods' ∧ Sm n Shown' ∧ Sm n Parts' ∧ Sm n Salts' ∧ Sm n Digests') := rfl
structure Qv where
  UZ : List Zf
  GB : List (List Za)
  deriving Inhabited, DecidableEq
@[simp] def Qv.row (x : Qv) : List Vm.D := [.sl 2 (x.UZ.map Zf.row), .sl 1 (x.GB.map (slR 5 Za.row))]
instance : Cn Qv := ⟨fun x => cn x.UZ + cn x.GB⟩
theorem Qv.Ya (x : Qv) : cn x = cn x.UZ + cn x.GB := rfl
instance : Sz Qv := ⟨fun n x => Sm n x.UZ ∧ Sm n x.GB, fun n => ⟨Sz.zero n, Sz.zero n⟩, fun h k => ⟨Sz.mono h k.1, Sz.mono h k.2⟩⟩
@[simp] theorem Qv.C6 {n : Nat} {x : Qv} (h : Sm n x) : Sm n x.UZ := h.1
@[simp] theorem Qv.Bv {n : Nat} {x : Qv} (h : Sm n x) : Sm n x.GB := h.2
@[simp] theorem Qv.WB {n : Nat} {Strands' : List Zf} {Fresh' : List (List Za)} : Sm n (Qv.mk Strands' Fresh') = (Sm n Strands' ∧ Sm n Fresh') := rfl
structure qx where
  QM : Int
  BW : Int
  Z6 : Int
  KW : Int
  Mark : Int
  deriving Inhabited, DecidableEq
@[simp] def qx.row (x : qx) : List Vm.D := [.int .i64 x.QM, .int .i64 x.BW, .int .i64 x.Z6, .int .i64 x.KW, .int .i64 x.Mark]
instance : Cn qx := ⟨fun x => cn x.QM + cn x.BW + cn x.Z6 + cn x.KW + cn x.Mark⟩
theorem qx.Ya (x : qx) : cn x = cn x.QM + cn x.BW + cn x.Z6 + cn x.KW + cn x.Mark := rfl
instance : Sz qx := ⟨fun _ _ => True, fun _ => trivial, fun _ h => h⟩
@[simp] theorem qx.jR {n : Nat} {x : qx} : Sm n x := trivial
structure UA where
  b : List UInt8
  i : Nat
  h : Int
  deriving Inhabited, DecidableEq
@[simp] def UA.row (x : UA) : List Vm.D := [.sl 1 (x.b.map bR), .int .i64 (x.i : Int), .int .i64 x.h]
instance : Sz UA := ⟨fun n x => Sm n x.b, fun n => Sz.zero n, fun h k => Sz.mono h k⟩
@[simp] theorem UA.wK {n : Nat} {x : UA} (h : Sm n x) : Sm n x.b := h
@[simp] theorem UA.WB {n : Nat} {b' : List UInt8} {i' : Nat} {h' : Int} : Sm n (UA.mk b' i' h') = (Sm n b') := rfl
structure Z1 where
  xo : Int
  To : Int
  ZF : List ZI
  YZ : Int
  deriving Inhabited, DecidableEq
@[simp] def Z1.row (x : Z1) : List Vm.D := [.int .i64 x.xo, .int .i64 x.To, .sl 16 (x.ZF.map ZI.row), .int .i64 x.YZ]
instance : Cn Z1 := ⟨fun x => cn x.xo + cn x.To + cn x.ZF + cn x.YZ⟩
theorem Z1.Ya (x : Z1) : cn x = cn x.xo + cn x.To + cn x.ZF + cn x.YZ := rfl
instance : Sz Z1 := ⟨fun n x => Sm n x.ZF, fun n => Sz.zero n, fun h k => Sz.mono h k⟩
@[simp] theorem Z1.YW {n : Nat} {x : Z1} (h : Sm n x) : Sm n x.ZF := h
@[simp] theorem Z1.WB {n : Nat} {From' : Int} {To' : Int} {Items' : List ZI} {Digest' : Int} : Sm n (Z1.mk From' To' Items' Digest') = (Sm n Items') := rfl
structure xK where
  Org : Int
  Gd : Int
  xo : Int
  To : Int
  Key : Int
  Mark : Int
  deriving Inhabited, DecidableEq
@[simp] def xK.row (x : xK) : List Vm.D := [.int .i64 x.Org, .int .i64 x.Gd, .int .i64 x.xo, .int .i64 x.To, .int .i64 x.Key, .int .i64 x.Mark]
instance : Cn xK := ⟨fun x => cn x.Org + cn x.Gd + cn x.xo + cn x.To + cn x.Key + cn x.Mark⟩
theorem xK.Ya (x : xK) : cn x = cn x.Org + cn x.Gd + cn x.xo + cn x.To + cn x.Key + cn x.Mark := rfl
instance : Sz xK := ⟨fun _ _ => True, fun _ => trivial, fun _ h => h⟩
@[simp] theorem xK.jR {n : Nat} {x : xK} : Sm n x := trivial
end Go.Mo
namespace Go.Mo
open Go.Vm
theorem V0 {α : Type} [Inhabited α] {l : List α} {i : Nat} (h : i < l.length) : nth l i = l[i] := by simp [nth, h]
theorem FU {α : Type} [Inhabited α] {l : List α} {i : Nat} (h : i < l.length) : nth l i ∈ l := by rw [V0 h]; exact List.getElem_mem h
theorem zK {α : Type} [Inhabited α] {F : Nat → Nat → List α → List α} {a : List α} {g : α → α} (hg : ∀ x, g x = x)
    (h1 : ∀ n i v, F (n + 1) i v = bif decide ((i : Int) < (a.length : Int)) then F n (i + 1) (v.set i (g (nth a i))) else v) :
    ∀ n i v, v.length = a.length → a.length < n + i → i ≤ a.length → (∀ j, j < i → v[j]? = a[j]?) → F n i v = a := by
  intro n
  induction n with
  | zero => intro i v _ h2 h3; omega
  | succ n ih =>
    intro i v hl h2 h3 hj
    rw [h1]
    by_cases hi : i < a.length
    · have : decide ((i : Int) < (a.length : Int)) = true := by simp [hi]
      rw [this, cond_true]
      refine ih _ _ (by simp [hl]) (by omega) hi (fun j hlt => ?_)
      rw [List.getElem?_set]
      by_cases hji : i = j
      · subst hji; simp [hl, hi, hg, V0 hi]
      · rw [if_neg hji]; exact hj j (by omega)
    · have : decide ((i : Int) < (a.length : Int)) = false := by simp; omega
      rw [this, cond_false]
      apply List.ext_getElem?
      intro j
      by_cases hji : j < i
      · exact hj j hji
      · rw [List.getElem?_eq_none (by omega), List.getElem?_eq_none (by omega)]
theorem zm {α : Type} [Inhabited α] {F : Nat → List α → Nat → List α} {a : List α} {g : α → α} (hg : ∀ x, g x = x)
    (h1 : ∀ n v i, F (n + 1) v i = bif decide ((i : Int) < (a.length : Int)) then F n (v ++ [g (nth a i)]) (i + 1) else v) :
    ∀ n v i, a.length < n + i → i ≤ a.length → F n v i = v ++ a.drop i := by
  intro n
  induction n with
  | zero => intro v i h2 h3; omega
  | succ n ih =>
    intro v i h2 h3
    rw [h1]
    by_cases hi : i < a.length
    · rw [show decide ((i : Int) < (a.length : Int)) = true by simp [hi], cond_true, ih _ _ (by omega) hi, hg, V0 hi, List.append_assoc, List.singleton_append, ← List.drop_eq_getElem_cons hi]
    · rw [show decide ((i : Int) < (a.length : Int)) = false by simp; omega, cond_false, List.drop_eq_nil_of_le (by omega), List.append_nil]
theorem FH {F : Nat → Nat → Sum Int Unit} {L : Nat} {c : Nat → Bool} (h0 : ∀ i, F 0 i = .inr ())
    (h1 : ∀ n i, F (n + 1) i = bif decide ((i : Int) < (L : Int)) then (bif c i then .inl (i : Int) else F n (i + 1)) else .inr ()) :
    ∀ n i, (match F n i with | .inl r => r | .inr _ => -1) < (L : Int) := by
  intro n
  induction n with
  | zero => intro i; rw [h0]; show (-1 : Int) < _; omega
  | succ n ih =>
    intro i
    rw [h1]
    by_cases hi : (i : Int) < (L : Int)
    · rw [show decide ((i : Int) < (L : Int)) = true by simpa using hi, cond_true]
      cases hc : c i with
      | true => simpa using hi
      | false => exact ih (i + 1)
    · rw [show decide ((i : Int) < (L : Int)) = false by simpa using hi, cond_false]
      show (-1 : Int) < _; omega
theorem Zh {rows : List (List Vm.D)} {i : Nat} {r : List Vm.D} (h : i < rows.length) : Vm.rowAt (rows.set i r) i = r := by simp [Vm.rowAt, h]
/-- marks, from left to right -/
def mkL {α : Type} (f : α → Int → α × Int) : List α → Int → List α × Int
  | [], k => ([], k)
  | x :: l, k => ((f x k).1 :: (mkL f l (f x k).2).1, (mkL f l (f x k).2).2)
theorem XR {α : Type} (f : α → Int → α × Int) : ∀ (l : List α) (k : Int), (mkL f l k).1.length = l.length
  | [], _ => rfl
  | x :: l, k => by simp [mkL, XR f l]
theorem Qw {α : Type} [Inhabited α] {F : Nat → Int → Nat → List α → Int × List α} {f : α → Int → α × Int}
    (h1 : ∀ n k i v, F (n + 1) k i v = bif decide ((i : Int) < (v.length : Int)) then F n (f (nth v i) k).2 (i + 1) (v.set i (f (nth v i) k).1) else (k, v)) :
    ∀ (l pre : List α) (n : Nat) (k : Int), l.length < n → F n k pre.length (pre ++ l) = ((mkL f l k).2, pre ++ (mkL f l k).1) := by
  intro l
  induction l with
  | nil =>
    intro pre n k hn
    obtain ⟨m, rfl⟩ : ∃ m, n = m + 1 := ⟨n - 1, by simp at hn; omega⟩
    rw [h1]; simp [mkL]
  | cons x l ih =>
    intro pre n k hn
    obtain ⟨m, rfl⟩ : ∃ m, n = m + 1 := ⟨n - 1, by simp at hn; omega⟩
    have hx : nth (pre ++ x :: l) pre.length = x := by simp [nth]
    have hs : ∀ y, (pre ++ x :: l).set pre.length y = (pre ++ [y]) ++ l := by intro y; simp
    have hd : decide ((pre.length : Int) < ((pre ++ x :: l).length : Int)) = true := by simp; omega
    rw [h1, hd, cond_true, hx, hs]
    have := ih (pre ++ [(f x k).1]) m (f x k).2 (by simp at hn; omega)
    rw [List.length_append, List.length_singleton] at this
    rw [this]; simp [mkL]
theorem XP {α : Type} {f : α → Int → α × Int} {c : α → Nat} (hc : ∀ (x : α) (k : Int), 0 ≤ k → k + c x < 4611686018427387904 → (f x k).2 = k + c x) :
    ∀ (l : List α) (k : Int), 0 ≤ k → k + cnL c l < 4611686018427387904 → (mkL f l k).2 = k + cnL c l
  | [], k, _, _ => by simp [mkL, cnL]
  | x :: l, k, h0, h => by
    simp only [cnL, Int.natCast_add] at h
    have e := hc x k h0 (by omega)
    have := XP hc l (f x k).2 (by omega) (by omega)
    show (mkL f l (f x k).2).2 = _
    rw [this, e]; simp only [cnL, Int.natCast_add]; omega
theorem Qu {α : Type} [Inhabited α] {z : List α} {H : Nat → Int → Nat → Sum Int Int} {G : α → Int → (Int → Sum Int Int) → Sum Int Int} {f : α → Int → α × Int} {c : α → Nat}
    (h1 : ∀ n k i, H (n + 1) k i = bif decide ((i : Int) < (z.length : Int)) then G (nth z i) k (fun k' => H n k' (i + 1)) else .inr k)
    (hc : ∀ (x : α) (k : Int), 0 ≤ k → k + c x < 4611686018427387904 → (f x k).2 = k + c x) (hG : ∀ (x : α) (k : Int) (r : Int → Sum Int Int), 0 ≤ k → k + c x < 4611686018427387904 → G (f x k).1 k r = r (f x k).2) :
    ∀ (l pre : List α) (n : Nat) (k : Int), z = pre ++ (mkL f l k).1 → l.length < n → 0 ≤ k → k + cnL c l < 4611686018427387904 → H n k pre.length = .inr (mkL f l k).2 := by
  intro l
  induction l with
  | nil =>
    intro pre n k hz hn _ _
    obtain ⟨m, rfl⟩ : ∃ m, n = m + 1 := ⟨n - 1, by simp at hn; omega⟩
    rw [h1]; simp [mkL] at hz; subst hz; simp [mkL]
  | cons x l ih =>
    intro pre n k hz hn h0 h
    obtain ⟨m, rfl⟩ : ∃ m, n = m + 1 := ⟨n - 1, by simp at hn; omega⟩
    simp only [cnL, Int.natCast_add] at h
    have e := hc x k h0 (by omega)
    have hx : nth z pre.length = (f x k).1 := by rw [hz]; simp [nth, mkL]
    have hd : decide ((pre.length : Int) < (z.length : Int)) = true := by rw [hz]; simp [mkL]; omega
    rw [h1, hd, cond_true, hx, hG x k _ h0 (by omega)]
    have := ih (pre ++ [(f x k).1]) m (f x k).2 (by rw [hz]; simp [mkL]) (by simp at hn; omega) (by omega) (by omega)
    rw [List.length_append, List.length_singleton] at this
    rw [this]; rfl
/-- a length that is reckoned off a purse -/
def xd {α : Type} [Inhabited α] [Sz α] (F : α → Int → Int) : Prop := ∀ a n, Sm maxLen a → 0 ≤ n → n ≤ 1048576 → ¬ F a n < 0 → Sm 1048576 a ∧ F a n ≤ 1048576
theorem MR {n : Int} {l : Nat} (h0 : 0 ≤ n) (hn : n ≤ 1048576) (hl : l ≤ maxLen) : W (n - l) = n - l := by
  have hl : l ≤ 9223372036854775807 := hl
  exact ZT (by omega) (by omega)
theorem kL {α : Type} [Inhabited α] [Sz α] (hs : ∀ (n : Nat) (x : α), Sm n x) {F : List α → Int → Int} (hF : ∀ a n, F a n = bif decide (W (n - (a.length : Int)) < 0) then (-1) else W (n - (a.length : Int))) : xd F := by
  intro a n hm h0 hn h
  rw [hF, MR h0 hn hm.1] at h ⊢
  by_cases hc : n - (a.length : Int) < 0
  · rw [show decide (n - (a.length : Int) < 0) = true by simpa using hc, cond_true] at h; omega
  · rw [show decide (n - (a.length : Int) < 0) = false by simpa using hc, cond_false] at h ⊢
    exact ⟨⟨by omega, fun x _ => hs _ x⟩, by omega⟩
theorem BF {α : Type} [Inhabited α] [Sz α] {E : α → Int → Int} (hE : xd E) {a : List α} (hm : Sm maxLen a) {G : Nat → Int → Nat → Sum Int Int}
    (h1 : ∀ n v i, G (n + 1) v i = bif decide ((i : Int) < (a.length : Int)) then (bif decide (E (nth a i) v < 0) then .inl (-1) else G n (E (nth a i) v) (i + 1)) else .inr v) :
    ∀ n v i, 0 ≤ v → v ≤ 1048576 → a.length < n + i → i ≤ a.length → ¬ (match G n v i with | .inl r => r | .inr z => z) < 0 → (∀ j, i ≤ j → j < a.length → Sm 1048576 (nth a j)) ∧ (match G n v i with | .inl r => r | .inr z => z) ≤ 1048576 := by
  intro n
  induction n with
  | zero => intro v i _ _ h2 h3; omega
  | succ n ih =>
    intro v i hv0 hv h2 h3 h
    rw [h1] at h ⊢
    by_cases hi : i < a.length
    · rw [show decide ((i : Int) < (a.length : Int)) = true by simp [hi], cond_true] at h ⊢
      by_cases hc : E (nth a i) v < 0
      · rw [show decide (E (nth a i) v < 0) = true by simpa using hc, cond_true] at h; simp at h
      · rw [show decide (E (nth a i) v < 0) = false by simpa using hc, cond_false] at h ⊢
        obtain ⟨e1, e2⟩ := hE (nth a i) v (hm.2 _ (FU hi)) hv0 hv hc
        obtain ⟨r1, r2⟩ := ih _ (i + 1) (by omega) e2 (by omega) hi h
        refine ⟨fun j hj hjl => ?_, r2⟩
        by_cases hji : j = i
        · subst hji; exact e1
        · exact r1 j (by omega) hjl
    · rw [show decide ((i : Int) < (a.length : Int)) = false by simp; omega, cond_false] at h ⊢
      exact ⟨fun j hj hjl => by omega, hv⟩
theorem TK {α : Type} [Inhabited α] [Sz α] {E : α → Int → Int} (hE : xd E) {F : List α → Int → Int} {G : List α → Nat → Int → Nat → Sum Int Int}
    (h1 : ∀ a n v i, G a (n + 1) v i = bif decide ((i : Int) < (a.length : Int)) then (bif decide (E (nth a i) v < 0) then .inl (-1) else G a n (E (nth a i) v) (i + 1)) else .inr v)
    (hF : ∀ a n, F a n = bif decide (W (n - (a.length : Int)) < 0) then (-1) else (match G a (a.length + 1) (W (n - (a.length : Int))) 0 with | .inl r => r | .inr z => z)) : xd F := by
  intro a n hm h0 hn h
  rw [hF, MR h0 hn hm.1] at h ⊢
  by_cases hc : n - (a.length : Int) < 0
  · rw [show decide (n - (a.length : Int) < 0) = true by simpa using hc, cond_true] at h; omega
  · rw [show decide (n - (a.length : Int) < 0) = false by simpa using hc, cond_false] at h ⊢
    obtain ⟨r1, r2⟩ := BF hE hm (h1 a) (a.length + 1) _ 0 (by omega) (by omega) (by omega) (by omega) h
    refine ⟨⟨by omega, fun x hx => ?_⟩, r2⟩
    obtain ⟨j, hj, rfl⟩ := List.mem_iff_getElem.1 hx
    rw [← V0 hj]; exact r1 j (by omega) hj
theorem FZ : xd (fun (s : ByteArray) n => W (n - (s.size : Int))) := by
  intro a n hm h0 hn h
  have hm : a.size ≤ maxLen := hm
  dsimp only at h ⊢
  rw [MR h0 hn hm] at h ⊢
  exact ⟨show a.size ≤ 1048576 by omega, by omega⟩
/-- the purse pays for the marks -/
def xb {α : Type} [Inhabited α] [Sz α] [Cn α] (F : α → Int → Int) (c : Nat) : Prop := ∀ a n, Sm maxLen a → 0 ≤ n → n ≤ 1048576 → ¬ F a n < 0 → (cn a : Int) ≤ 32 * (n - F a n) + c ∧ F a n ≤ n
theorem Ei {α : Type} {c : α → Nat} {m : Nat} (h : ∀ x, c x ≤ m) : ∀ l : List α, cnL c l ≤ m * l.length
  | [] => by simp [cnL]
  | x :: l => by have := Ei h l; have := h x; simp only [cnL, List.length_cons, Nat.mul_add]; omega
theorem DL {α : Type} {c : α → Nat} (h : ∀ x, 1 ≤ c x) : ∀ l : List α, l.length ≤ cnL c l
  | [] => by simp [cnL]
  | x :: l => by have := DL h l; have := h x; simp only [cnL, List.length_cons]; omega
theorem YS {α : Type} {p : α → Prop} {c : Bool} {x y : α} (hx : p x) (hy : p y) : p (bif c then x else y) := by cases c; exact hy; exact hx
theorem xQ {α : Type} {p : α → Prop} {c : Bool} {x y : α} (hx : c = true → p x) (hy : c = false → p y) : p (bif c then x else y) := by cases c; exact hy rfl; exact hx rfl
theorem ki {α : Type} [Inhabited α] [Sz α] [Cn α] (hs : ∀ x : α, cn x ≤ 32) {F : List α → Int → Int} (hF : ∀ a n, F a n = bif decide (W (n - (a.length : Int)) < 0) then (-1) else W (n - (a.length : Int))) : xb F 0 := by
  intro a n hm h0 hn h
  rw [hF, MR h0 hn hm.1] at h ⊢
  by_cases hc : n - (a.length : Int) < 0
  · rw [show decide (n - (a.length : Int) < 0) = true by simpa using hc, cond_true] at h; omega
  · rw [show decide (n - (a.length : Int) < 0) = false by simpa using hc, cond_false] at h ⊢
    have := Ei hs a
    rw [Qm]; omega
theorem BL {α : Type} [Inhabited α] [Sz α] [Cn α] {E : α → Int → Int} {c : Nat} (hE : xb E c) (hcc : c ≤ 32) {a : List α} (hm : Sm maxLen a) {G : Nat → Int → Nat → Sum Int Int}
    (h1 : ∀ n v i, G (n + 1) v i = bif decide ((i : Int) < (a.length : Int)) then (bif decide (E (nth a i) v < 0) then .inl (-1) else G n (E (nth a i) v) (i + 1)) else .inr v) :
    ∀ n v i, 0 ≤ v → v ≤ 1048576 → a.length < n + i → i ≤ a.length → ¬ (match G n v i with | .inl r => r | .inr z => z) < 0 →
      (cnL cn (a.drop i) : Int) ≤ 32 * (v - (match G n v i with | .inl r => r | .inr z => z)) + 32 * ((a.length : Int) - i) ∧ (match G n v i with | .inl r => r | .inr z => z) ≤ v := by
  intro n
  induction n with
  | zero => intro v i _ _ h2 h3; omega
  | succ n ih =>
    intro v i hv0 hv h2 h3 h
    rw [h1] at h ⊢
    by_cases hi : i < a.length
    · rw [show decide ((i : Int) < (a.length : Int)) = true by simp [hi], cond_true] at h ⊢
      by_cases hc : E (nth a i) v < 0
      · rw [show decide (E (nth a i) v < 0) = true by simpa using hc, cond_true] at h; simp at h
      · rw [show decide (E (nth a i) v < 0) = false by simpa using hc, cond_false] at h ⊢
        obtain ⟨e1, e2⟩ := hE (nth a i) v (hm.2 _ (FU hi)) hv0 hv hc
        obtain ⟨r1, r2⟩ := ih _ (i + 1) (by omega) (by omega) (by omega) hi h
        rw [List.drop_eq_getElem_cons hi, cnL, ← V0 hi]
        refine ⟨?_, by omega⟩
        simp only [Int.natCast_add] at r1 ⊢
        omega
    · rw [show decide ((i : Int) < (a.length : Int)) = false by simp; omega, cond_false] at h ⊢
      rw [List.drop_eq_nil_of_le (by omega)]
      simp only [cnL]
      exact ⟨by omega, by omega⟩
theorem U4 {α : Type} [Inhabited α] [Sz α] [Cn α] {E : α → Int → Int} {c : Nat} (hE : xb E c) (hcc : c ≤ 32) {F : List α → Int → Int} {G : List α → Nat → Int → Nat → Sum Int Int}
    (h1 : ∀ a n v i, G a (n + 1) v i = bif decide ((i : Int) < (a.length : Int)) then (bif decide (E (nth a i) v < 0) then .inl (-1) else G a n (E (nth a i) v) (i + 1)) else .inr v)
    (hF : ∀ a n, F a n = bif decide (W (n - (a.length : Int)) < 0) then (-1) else (match G a (a.length + 1) (W (n - (a.length : Int))) 0 with | .inl r => r | .inr z => z)) : xb F 0 := by
  intro a n hm h0 hn h
  rw [hF, MR h0 hn hm.1] at h ⊢
  by_cases hc : n - (a.length : Int) < 0
  · rw [show decide (n - (a.length : Int) < 0) = true by simpa using hc, cond_true] at h; omega
  · rw [show decide (n - (a.length : Int) < 0) = false by simpa using hc, cond_false] at h ⊢
    obtain ⟨r1, r2⟩ := BL hE hcc hm (h1 a) (a.length + 1) _ 0 (by omega) (by omega) (by omega) (by omega) h
    rw [List.drop_zero] at r1
    rw [Qm]
    exact ⟨by omega, by omega⟩
theorem Fo : xb (fun (s : ByteArray) n => W (n - (s.size : Int))) 1 := by
  intro a n hm h0 hn h
  have hm : a.size ≤ maxLen := hm
  dsimp only at h ⊢
  rw [MR h0 hn hm] at h ⊢
  rw [Y4]
  exact ⟨by omega, by omega⟩
end Go.Mo
namespace Go.Mo
open Go.Vm
theorem zI {F : Nat → Nat → Sum Bool Unit} {L : Nat} {c : Nat → Bool} (hc : ∀ i, c i = false) (h0 : ∀ i, F 0 i = .inr ())
    (h1 : ∀ n i, F (n + 1) i = bif decide ((i : Int) < (L : Int)) then (bif c i then .inl false else F n (i + 1)) else .inr ()) : ∀ n i, F n i = .inr () := by
  intro n
  induction n with
  | zero => exact h0
  | succ n ih =>
    intro i
    rw [h1, hc, cond_false, ih]
    cases decide ((i : Int) < (L : Int)) <;> rfl
end Go.Mo
namespace Go.Mo
open Go.Vm
theorem SU (n : Int) : W n = (n + 9223372036854775808) % 18446744073709551616 - 9223372036854775808 := IntKind.wrap_i64 n
theorem D0 {α : Type} [Inhabited α] [DecidableEq α] {F : Nat → Nat → Sum Bool Unit} {a b : List α} {c : Nat → Bool} (hl : a.length = b.length) (hc : ∀ i, c i = !decide (nth a i = nth b i)) (h0 : ∀ i, F 0 i = .inr ())
    (h1 : ∀ n i, F (n + 1) i = bif decide ((i : Int) < (a.length : Int)) then (bif c i then .inl false else F n (i + 1)) else .inr ()) :
    F (a.length + 1) 0 = if a = b then .inr () else .inl false := by
  have key : ∀ n i, a.length < n + i → F n i = if a.drop i = b.drop i then .inr () else .inl false := by
    intro n
    induction n with
    | zero =>
      intro i h
      rw [h0, List.drop_eq_nil_of_le (by omega), List.drop_eq_nil_of_le (by omega), if_pos rfl]
    | succ n ih =>
      intro i h
      rw [h1]
      by_cases hi : i < a.length
      · have hib : i < b.length := by omega
        rw [show decide ((i : Int) < (a.length : Int)) = true by simp [hi], cond_true, hc, List.drop_eq_getElem_cons hi, List.drop_eq_getElem_cons hib, V0 hi, V0 hib]
        by_cases he : a[i] = b[i]
        · rw [he, show decide (b[i] = b[i]) = true by simp, Bool.not_true, cond_false, ih _ (by omega)]
          simp only [List.cons.injEq, true_and]
        · rw [show decide (a[i] = b[i]) = false by simp [he], if_neg (fun hh => he (List.cons.inj hh).1)]
          rfl
      · rw [show decide ((i : Int) < (a.length : Int)) = false by simp; omega, cond_false, List.drop_eq_nil_of_le (by omega), List.drop_eq_nil_of_le (by omega), if_pos rfl]
  have := key (a.length + 1) 0 (by omega)
  simpa using this
theorem CW {α : Type} [Inhabited α] [DecidableEq α] {F : Nat → Nat → Sum Bool Unit} {a b : List α} {c : Nat → Bool} (hc : ∀ i, c i = !decide (nth a i = nth b i)) (h0 : ∀ i, F 0 i = .inr ())
    (h1 : ∀ n i, F (n + 1) i = bif decide ((i : Int) < (a.length : Int)) then (bif c i then .inl false else F n (i + 1)) else .inr ()) :
    (bif ((a.length : Int) != (b.length : Int)) then false else (match F (a.length + 1) 0 with | .inl r => r | .inr _ => true)) = decide (a = b) := by
  by_cases hl : a.length = b.length
  · rw [D0 hl hc h0 h1]
    simp only [hl, bne_self_eq_false, cond_false]
    by_cases h : a = b <;> simp [h]
  · have hne : a ≠ b := fun h => hl (by rw [h])
    have : ((a.length : Int) != (b.length : Int)) = true := by simp; omega
    rw [this, cond_true]; simp [hne]
end Go.Mo
namespace Go.Mo
open Go.Vm
theorem Jf {α : Type} [Inhabited α] [Sz α] {f : α → List D} {n : Nat} : ∀ {rows : List (List D)}, (∀ r, r ∈ rows → ∃ x : α, r = f x ∧ Sm n x) → ∃ l : List α, rows = l.map f ∧ ∀ x ∈ l, Sm n x
  | [], _ => ⟨[], rfl, fun _ h => by cases h⟩
  | r :: rows, h => by
    obtain ⟨x, hx, sx⟩ := h r (by simp)
    obtain ⟨l, hl, sl⟩ := Jf (rows := rows) (fun r hr => h r (by simp [hr]))
    refine ⟨x :: l, by simp [hx, hl], fun y hy => ?_⟩
    rcases List.mem_cons.1 hy with rfl | hy
    · exact sx
    · exact sl y hy
theorem Zk (row : List D) (o s : Nat) : row.drop o = cut row o s ++ row.drop (o + s) := by
  rw [← List.drop_drop, cut, List.take_append_drop]
end Go.Mo
namespace Go.Mo
open Go.Vm
theorem kJ {P : Program} {n : Nat} {t : TypeId} {ts : List TypeId} : ∀ {rows : List (List D)}, M1 P n (t :: ts) rows → ∃ r rs, rows = r :: rs ∧ TyR P n t r ∧ M1 P n ts rs
  | r :: rs, h => ⟨r, rs, rfl, h.1, h.2⟩
  | [], h => h.elim
theorem Fq {P : Program} {n : Nat} : ∀ {rows : List (List D)}, M1 P n [] rows → rows = []
  | [], _ => rfl
  | _ :: _, h => h.elim
end Go.Mo
namespace Go.Mo
open Go.Vm
@[simp] theorem Bk (l : List UInt8) : QN l = l.map bR := rfl
@[simp] theorem AA (x : Int) : ((UInt8.ofInt x).toNat : Int) = IntKind.u8.wrap x := by
  rw [IntKind.wrap_u8]
  simp [UInt8.ofInt]
  omega
theorem Ed (x : Int) : (W (Int.tdiv x 10)).natAbs ≤ 9223372036854775808 ∧ (W (Int.tdiv x 10)).natAbs ≤ x.natAbs / 10 := by
  rw [SU]
  have : (Int.tdiv x 10).natAbs = x.natAbs / 10 := by rw [Int.natAbs_tdiv]; rfl
  omega
theorem Eo {x : Int} {n : Nat} (h : n + 1 = 21 ∨ x.natAbs < 10 ^ (n + 1)) : (W (Int.tdiv x 10)).natAbs < 10 ^ n := by
  obtain ⟨h1, h2⟩ := Ed x
  rcases h with h | h
  · have : n = 20 := by omega
    subst this
    have : (10 : Nat) ^ 20 = 100000000000000000000 := by decide
    omega
  · rw [Nat.pow_succ] at h; omega
end Go.Mo
namespace Go.Mo
open Go.Vm
theorem Bl {p : Nat} {x : Int} (hj : p + 1 = 22 ∨ x.natAbs < 10 ^ (p + 1 - 1)) (hx : (x != 0) = true) : 1 ≤ p ∧ (p = 22 ∨ (W (Int.tdiv x 10)).natAbs < 10 ^ (p - 1)) := by
  have hx : x ≠ 0 := by simpa using hx
  have hp : 1 ≤ p := by
    rcases hj with h | h
    · omega
    · rcases Nat.eq_zero_or_pos p with hz | hz
      · subst hz; simp at h; exact absurd h hx
      · exact hz
  refine ⟨hp, .inr ?_⟩
  obtain ⟨q, rfl⟩ : ∃ q, p = q + 1 := ⟨p - 1, by omega⟩
  exact Eo (x := x) (n := q) (hj.elim (fun h => .inl (by omega)) (fun h => .inr (by simpa using h)))
end Go.Mo
namespace Go.Mo
open Go.Vm
@[simp] theorem Bh {α : Type} {l : List α} {n : Nat} (h : l.length ≤ n) : List.take n l = l := List.take_of_length_le h
@[simp] theorem Dm {α β : Type} (f : α → β) (l : List α) : List.take l.length (List.map f l) = List.map f l := List.take_of_length_le (by simp)
@[simp] theorem CU (n : Nat) : 1 + n = n + 1 := Nat.add_comm 1 n
@[simp] theorem AL {α β : Type} (f : α → β) (l : List α) (x y : β) : List.take (2 + l.length) (x :: y :: List.map f l) = x :: y :: List.map f l := List.take_of_length_le (by simp; omega)
@[simp] theorem AJ {α β : Type} (f : α → β) (l : List α) (x y z : β) : List.take (3 + l.length) (x :: y :: z :: List.map f l) = x :: y :: z :: List.map f l := List.take_of_length_le (by simp; omega)
@[simp] theorem AM {α β : Type} (f : α → β) (l : List α) (x y z u : β) : List.take (4 + l.length) (x :: y :: z :: u :: List.map f l) = x :: y :: z :: u :: List.map f l := List.take_of_length_le (by simp; omega)
@[simp] theorem AP {α β : Type} (f : α → β) (l : List α) (x y z u v : β) : List.take (5 + l.length) (x :: y :: z :: u :: v :: List.map f l) = x :: y :: z :: u :: v :: List.map f l := List.take_of_length_le (by simp; omega)
@[simp] theorem AI {α β : Type} (f : α → β) (l : List α) (x y z u v w : β) : List.take (6 + l.length) (x :: y :: z :: u :: v :: w :: List.map f l) = x :: y :: z :: u :: v :: w :: List.map f l := List.take_of_length_le (by simp; omega)
end Go.Mo
namespace Go.Mo
@[simp] theorem AH (a : Array UInt8) : (ByteArray.mk a).size = a.size := rfl
@[simp] theorem By {α : Type} {l : List α} {x : α} {v n : Nat} (h : l.length = n) : List.take (min v n + 1 + (n - v)) (List.take v l ++ x :: List.drop v l) = List.take v l ++ x :: List.drop v l := by
  apply List.take_of_length_le; simp; omega
@[simp] theorem AQ (a b : Nat) : (min a b + 1 + (b - a) = min a b + (b - a + 1)) = True := by simp; omega
theorem FB {α : Type} (a b : α) : cond true a b = a ∧ cond false a b = b := ⟨rfl, rfl⟩
theorem Ye {α : Type} (a b : α) : cond true a b = a := (FB a b).1
theorem YR {α : Type} (a b : α) : cond false a b = b := (FB a b).2
/-- a side condition that is found by itself -/
theorem sd {a b : Prop} (h : b) (k : a := by (intros; first | omega | (simp only [decide_eq_true_eq, decide_eq_false_iff_not, beq_iff_eq, beq_eq_false_iff_ne, bne_iff_ne, ne_eq, Bool.or_eq_false_iff, Bool.or_eq_true, Bool.and_eq_true, Bool.not_eq_true', Bool.not_eq_false'] at *; omega) | ((try simp only [Go.Mo.SU, show ∀ x, Go.IntKind.i64.wrap x = Go.Vm.W x from fun _ => rfl] at *); omega))) : a ∧ b := ⟨k, h⟩
theorem sdg {a b : Prop} (h : b) (k : a := by (intros; first | omega | (simp_all; done) | (simp_all; omega) | grind | ((try simp only [Go.Mo.SU, show ∀ x, Go.IntKind.i64.wrap x = Go.Vm.W x from fun _ => rfl] at *); omega))) : a ∧ b := ⟨k, h⟩
theorem il {a b : Nat} (h : a < b := by first | omega | (simp only [decide_eq_true_eq, decide_eq_false_iff_not, beq_iff_eq, beq_eq_false_iff_ne, bne_iff_ne, ne_eq, Bool.or_eq_false_iff, Bool.not_eq_true', Bool.not_eq_false'] at *; omega) | (simp_all [List.length_pos_iff]; done) | (simp; omega) | (simp_all; omega) | ((try simp only [Go.Mo.SU, show ∀ x, Go.IntKind.i64.wrap x = Go.Vm.W x from fun _ => rfl] at *); omega) | (simp; (try simp only [Go.Mo.SU, show ∀ x, Go.IntKind.i64.wrap x = Go.Vm.W x from fun _ => rfl] at *); omega)) : a < b := h
theorem ik {α : Type} (a : Nat) (l : List α) (h : a < l.length := by first | omega | (simp only [decide_eq_true_eq, decide_eq_false_iff_not, beq_iff_eq, beq_eq_false_iff_ne, bne_iff_ne, ne_eq, Bool.or_eq_false_iff, Bool.not_eq_true', Bool.not_eq_false'] at *; omega) | (simp_all [List.length_pos_iff]; done) | (simp; omega) | (simp_all; omega) | ((try simp only [Go.Mo.SU, show ∀ x, Go.IntKind.i64.wrap x = Go.Vm.W x from fun _ => rfl] at *); omega) | (simp; (try simp only [Go.Mo.SU, show ∀ x, Go.IntKind.i64.wrap x = Go.Vm.W x from fun _ => rfl] at *); omega)) : a < l.length := h
theorem sl {α : Type} [Inhabited α] [Sz α] (n : Nat) (l : List α) {q : Prop} (u : q) (h : q → Sm n l := by (intro u; simp (maxDischargeDepth := 12) [u])) : l.length ≤ n := zM (h u)
theorem sg {α : Type} [Inhabited α] [Sz α] {n m : Nat} {x : α} (h : Sm n x) (k : n ≤ m := by decide) : Sm m x := YL k h
theorem LV {α : Type} (c : α → Nat) : ∀ (l : List α) (i : Nat) (x : α), cnL c (l.set i x) ≤ cnL c l + c x
  | [], _, _ => by simp [cnL]
  | y :: l, 0, x => by simp only [List.set_cons_zero, cnL]; omega
  | y :: l, i + 1, x => by have := LV c l i x; simp only [List.set_cons_succ, cnL]; omega
theorem Lc {α : Type} [Inhabited α] (c : α → Nat) : ∀ (l : List α) (i : Nat), c (Vm.nth l i) ≤ cnL c l + c default
  | [], _ => by simp [Vm.nth, cnL]
  | y :: l, 0 => by simp only [Vm.nth, List.getD_cons_zero, cnL]; omega
  | y :: l, i + 1 => by have := Lc c l i; simp only [Vm.nth, List.getD_cons_succ, cnL] at this ⊢; omega
theorem yj {α : Type} (c : α → Nat) : ∀ (l m : List α), cnL c (l ++ m) = cnL c l + cnL c m
  | [], m => by simp [cnL]
  | y :: l, m => by have := yj c l m; simp only [List.cons_append, cnL]; omega
theorem T3 {α : Type} [Inhabited α] {l : List α} {i : Nat} (h : i < l.length) : l.drop i = Vm.nth l i :: l.drop (i + 1) := by
  rw [List.drop_eq_getElem_cons h]; simp [Vm.nth, List.getD_eq_getElem?_getD, List.getElem?_eq_getElem h]
theorem M3 {α : Type} [Inhabited α] (c : α → Nat) {l : List α} {i : Nat} (h : i < l.length) : cnL c (l.drop i) = c (Vm.nth l i) + cnL c (l.drop (i + 1)) := by rw [T3 h]; rfl
end Go.Mo
