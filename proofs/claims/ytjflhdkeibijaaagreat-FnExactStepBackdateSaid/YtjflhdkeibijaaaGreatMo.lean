/- The plain data of the program, typed, and how they read as rows of the abstract machine. No condition. -/
import Derived.Test.YtjflhdkeibijaaaGreatVe
import Derived.Laws.BitsLemmas
namespace Go.Mo
open Go.Vm
@[simp] def iR (n : Int) : List Vm.D := [.int .i64 n]
@[simp] def bR (b : UInt8) : List Vm.D := [.int .u8 (b.toNat : Int)]
@[simp] def lR (b : Bool) : List Vm.D := [.bool b]
@[simp] def sR (s : ByteArray) : List Vm.D := [.str s]
@[simp] def slR {α : Type} (n : Nat) (f : α → List D) (m : List α) : List Vm.D := [.sl n (m.map f)]
/-- everything in it is at most so long -/
class Sz (α : Type) [Inhabited α] where
  sm : Nat → α → Prop
  zero : ∀ n, sm n default
  mono : ∀ {n m : Nat} {x : α}, n ≤ m → sm n x → sm m x
/-- how many marks it takes -/
class Cn (α : Type) where
  cn : α → Nat
abbrev cn {α : Type} [Cn α] (x : α) : Nat := Cn.cn x
def cnL {α : Type} (c : α → Nat) : List α → Nat
  | [] => 0
  | x :: l => c x + cnL c l
instance : Cn Int := ⟨fun _ => 1⟩
instance : Cn Bool := ⟨fun _ => 1⟩
instance : Cn UInt8 := ⟨fun _ => 1⟩
instance : Cn ByteArray := ⟨fun _ => 1⟩
instance {α : Type} [Cn α] : Cn (List α) := ⟨cnL Cn.cn⟩
theorem Y0 (x : Int) : cn x = 1 := rfl
theorem Yf (x : Bool) : cn x = 1 := rfl
theorem J2 (x : UInt8) : cn x = 1 := rfl
theorem Y1 (x : ByteArray) : cn x = 1 := rfl
theorem XT {α : Type} [Cn α] (x : List α) : cn x = cnL cn x := rfl
abbrev Sm {α : Type} [Inhabited α] [Sz α] (n : Nat) (x : α) : Prop := Sz.sm n x
instance : Sz Int := ⟨fun _ _ => True, fun _ => trivial, fun _ h => h⟩
instance : Sz Bool := ⟨fun _ _ => True, fun _ => trivial, fun _ h => h⟩
instance : Sz UInt8 := ⟨fun _ _ => True, fun _ => trivial, fun _ h => h⟩
instance : Sz ByteArray := ⟨fun n s => s.size ≤ n, fun _ => Nat.zero_le _, fun h k => Nat.le_trans k h⟩
instance {α : Type} [Inhabited α] [Sz α] : Sz (List α) := ⟨fun n l => l.length ≤ n ∧ ∀ x ∈ l, Sz.sm n x, fun _ => ⟨Nat.zero_le _, fun _ h => by cases h⟩, fun h k => ⟨Nat.le_trans k.1 h, fun x hx => Sz.mono h (k.2 x hx)⟩⟩
theorem X0 {α : Type} [Inhabited α] [Sz α] {n : Nat} {l : List α} : Sm n l = (l.length ≤ n ∧ ∀ x ∈ l, Sm n x) := rfl
theorem JQ {α : Type} [Inhabited α] [Sz α] {n : Nat} {l : List α} (h : Sm n l) : l.length ≤ n := h.1
theorem MR {n : Nat} {s : ByteArray} (h : Sm n s) : s.size ≤ n := h
@[simp] theorem BH {n : Nat} {x : Int} : Sm n x := trivial
@[simp] theorem Cz {n : Nat} {x : Bool} : Sm n x := trivial
@[simp] theorem BW {n : Nat} {x : UInt8} : Sm n x := trivial
@[simp] theorem BI {α : Type} [Inhabited α] [Sz α] {n : Nat} : Sm n ([] : List α) := ⟨Nat.zero_le _, fun _ h => by cases h⟩
@[simp] theorem QU {α : Type} [Inhabited α] [Sz α] {n i : Nat} {l : List α} (h : Sm n l) : Sm n (nth l i) := by
  unfold nth
  rw [List.getD_eq_getElem?_getD]
  cases hh : l[i]? with
  | none => exact Sz.zero n
  | some x => exact h.2 x (List.mem_of_getElem? hh)
@[simp] theorem C2 {α : Type} [Inhabited α] [Sz α] {n i : Nat} {l : List α} (h : Sm n l) : Sm n (l.take i) := ⟨Nat.le_trans (by simp; omega) h.1, fun x hx => h.2 x (List.mem_of_mem_take hx)⟩
@[simp] theorem C5 {α : Type} [Inhabited α] [Sz α] {n i : Nat} {l : List α} (h : Sm n l) : Sm n (l.drop i) := ⟨Nat.le_trans (by simp) h.1, fun x hx => h.2 x (List.mem_of_mem_drop hx)⟩
theorem z8 {α : Type} [Inhabited α] [Sz α] {n : Nat} {l m : List α} : Sm n (l ++ m) = (l.length + m.length ≤ n ∧ (∀ x ∈ l, Sm n x) ∧ ∀ x ∈ m, Sm n x) := by
  rw [X0]; simp [or_imp, forall_and]
theorem YO {α : Type} [Inhabited α] [Sz α] {n m : Nat} {x : α} (h : n ≤ m) (k : Sm n x) : Sm m x := Sz.mono h k
structure ZX where
  Authority : Int
  Seq : Int
  Time : Int
  YY : Int
  Mark : Int
  deriving Inhabited, DecidableEq
@[simp] def ZX.row (x : ZX) : List Vm.D := [.int .i64 x.Authority, .int .i64 x.Seq, .int .i64 x.Time, .int .i64 x.YY, .int .i64 x.Mark]
instance : Cn ZX := ⟨fun x => cn x.Authority + cn x.Seq + cn x.Time + cn x.YY + cn x.Mark⟩
theorem ZX.YP (x : ZX) : cn x = cn x.Authority + cn x.Seq + cn x.Time + cn x.YY + cn x.Mark := rfl
instance : Sz ZX := ⟨fun _ _ => True, fun _ => trivial, fun _ h => h⟩
@[simp] theorem ZX.qn {n : Nat} {x : ZX} : Sm n x := trivial
structure Zq where
  YY : Int
  Left : Bool
  deriving Inhabited, DecidableEq
@[simp] def Zq.row (x : Zq) : List Vm.D := [.int .i64 x.YY, .bool x.Left]
instance : Cn Zq := ⟨fun x => cn x.YY + cn x.Left⟩
theorem Zq.YP (x : Zq) : cn x = cn x.YY + cn x.Left := rfl
instance : Sz Zq := ⟨fun _ _ => True, fun _ => trivial, fun _ h => h⟩
@[simp] theorem Zq.qn {n : Nat} {x : Zq} : Sm n x := trivial
structure ZF where
  Count : Int
  Method : Int
  V4 : Int
  Path : List Zq
  Zv : List ZX
  deriving Inhabited, DecidableEq
@[simp] def ZF.row (x : ZF) : List Vm.D := [.int .i64 x.Count, .int .i64 x.Method, .int .i64 x.V4, .sl 2 (x.Path.map Zq.row), .sl 5 (x.Zv.map ZX.row)]
instance : Cn ZF := ⟨fun x => cn x.Count + cn x.Method + cn x.V4 + cn x.Path + cn x.Zv⟩
theorem ZF.YP (x : ZF) : cn x = cn x.Count + cn x.Method + cn x.V4 + cn x.Path + cn x.Zv := rfl
instance : Sz ZF := ⟨fun n x => Sm n x.Path ∧ Sm n x.Zv, fun n => ⟨Sz.zero n, Sz.zero n⟩, fun h k => ⟨Sz.mono h k.1, Sz.mono h k.2⟩⟩
@[simp] theorem ZF.Eb {n : Nat} {x : ZF} (h : Sm n x) : Sm n x.Path := h.1
@[simp] theorem ZF.Nq {n : Nat} {x : ZF} (h : Sm n x) : Sm n x.Zv := h.2
@[simp] theorem ZF.kP {n : Nat} {Count' : Int} {Method' : Int} {Root' : Int} {Path' : List Zq} {Stamps' : List ZX} : Sm n (ZF.mk Count' Method' Root' Path' Stamps') = (Sm n Path' ∧ Sm n Stamps') := rfl
structure YD where
  Number : Int
  K8 : Int
  Method : Int
  RY : Int
  Kb : Int
  deriving Inhabited, DecidableEq
@[simp] def YD.row (x : YD) : List Vm.D := [.int .i64 x.Number, .int .i64 x.K8, .int .i64 x.Method, .int .i64 x.RY, .int .i64 x.Kb]
instance : Cn YD := ⟨fun x => cn x.Number + cn x.K8 + cn x.Method + cn x.RY + cn x.Kb⟩
theorem YD.YP (x : YD) : cn x = cn x.Number + cn x.K8 + cn x.Method + cn x.RY + cn x.Kb := rfl
instance : Sz YD := ⟨fun _ _ => True, fun _ => trivial, fun _ h => h⟩
@[simp] theorem YD.qn {n : Nat} {x : YD} : Sm n x := trivial
structure ZI where
  Id : Int
  Key : Int
  Error : Int
  deriving Inhabited, DecidableEq
@[simp] def ZI.row (x : ZI) : List Vm.D := [.int .i64 x.Id, .int .i64 x.Key, .int .i64 x.Error]
instance : Cn ZI := ⟨fun x => cn x.Id + cn x.Key + cn x.Error⟩
theorem ZI.YP (x : ZI) : cn x = cn x.Id + cn x.Key + cn x.Error := rfl
instance : Sz ZI := ⟨fun _ _ => True, fun _ => trivial, fun _ h => h⟩
@[simp] theorem ZI.qn {n : Nat} {x : ZI} : Sm n x := trivial
structure ZU where
  Id : Int
  kr : Int
  Ends : Int
  yN : Int
  deriving Inhabited, DecidableEq
@[simp] def ZU.row (x : ZU) : List Vm.D := [.int .i64 x.Id, .int .i64 x.kr, .int .i64 x.Ends, .int .i64 x.yN]
instance : Cn ZU := ⟨fun x => cn x.Id + cn x.kr + cn x.Ends + cn x.yN⟩
theorem ZU.YP (x : ZU) : cn x = cn x.Id + cn x.kr + cn x.Ends + cn x.yN := rfl
instance : Sz ZU := ⟨fun _ _ => True, fun _ => trivial, fun _ h => h⟩
@[simp] theorem ZU.qn {n : Nat} {x : ZU} : Sm n x := trivial
structure Z4 where
  YR : List YD
  ZL : List ZI
  Methods : List ZU
  zu : Int
  Now : Int
  deriving Inhabited, DecidableEq
@[simp] def Z4.row (x : Z4) : List Vm.D := [.sl 5 (x.YR.map YD.row), .sl 3 (x.ZL.map ZI.row), .sl 4 (x.Methods.map ZU.row), .int .i64 x.zu, .int .i64 x.Now]
instance : Cn Z4 := ⟨fun x => cn x.YR + cn x.ZL + cn x.Methods + cn x.zu + cn x.Now⟩
theorem Z4.YP (x : Z4) : cn x = cn x.YR + cn x.ZL + cn x.Methods + cn x.zu + cn x.Now := rfl
instance : Sz Z4 := ⟨fun n x => Sm n x.YR ∧ Sm n x.ZL ∧ Sm n x.Methods, fun n => ⟨Sz.zero n, Sz.zero n, Sz.zero n⟩, fun h k => ⟨Sz.mono h k.1, Sz.mono h k.2.1, Sz.mono h k.2.2⟩⟩
@[simp] theorem Z4.MH {n : Nat} {x : Z4} (h : Sm n x) : Sm n x.YR := h.1
@[simp] theorem Z4.XR {n : Nat} {x : Z4} (h : Sm n x) : Sm n x.ZL := h.2.1
@[simp] theorem Z4.Px {n : Nat} {x : Z4} (h : Sm n x) : Sm n x.Methods := h.2.2
@[simp] theorem Z4.kP {n : Nat} {Keys' : List YD} {Authorities' : List ZI} {Methods' : List ZU} {Liars' : Int} {Now' : Int} : Sm n (Z4.mk Keys' Authorities' Methods' Liars' Now') = (Sm n Keys' ∧ Sm n Authorities' ∧ Sm n Methods') := rfl
structure Z0 where
  QO : Int
  Key : Int
  K8 : Int
  xQ : Int
  To : Int
  J9 : Int
  Mark : Int
  deriving Inhabited, DecidableEq
@[simp] def Z0.row (x : Z0) : List Vm.D := [.int .i64 x.QO, .int .i64 x.Key, .int .i64 x.K8, .int .i64 x.xQ, .int .i64 x.To, .int .i64 x.J9, .int .i64 x.Mark]
instance : Cn Z0 := ⟨fun x => cn x.QO + cn x.Key + cn x.K8 + cn x.xQ + cn x.To + cn x.J9 + cn x.Mark⟩
theorem Z0.YP (x : Z0) : cn x = cn x.QO + cn x.Key + cn x.K8 + cn x.xQ + cn x.To + cn x.J9 + cn x.Mark := rfl
instance : Sz Z0 := ⟨fun _ _ => True, fun _ => trivial, fun _ h => h⟩
@[simp] theorem Z0.qn {n : Nat} {x : Z0} : Sm n x := trivial
structure ZT where
  Ka : Int
  ZE : List ByteArray
  ZG : List Int
  deriving Inhabited, DecidableEq
@[simp] def ZT.row (x : ZT) : List Vm.D := [.int .i64 x.Ka, .sl 1 (x.ZE.map sR), .sl 1 (x.ZG.map iR)]
instance : Cn ZT := ⟨fun x => cn x.Ka + cn x.ZE + cn x.ZG⟩
theorem ZT.YP (x : ZT) : cn x = cn x.Ka + cn x.ZE + cn x.ZG := rfl
instance : Sz ZT := ⟨fun n x => Sm n x.ZE ∧ Sm n x.ZG, fun n => ⟨Sz.zero n, Sz.zero n⟩, fun h k => ⟨Sz.mono h k.1, Sz.mono h k.2⟩⟩
@[simp] theorem ZT.Us {n : Nat} {x : ZT} (h : Sm n x) : Sm n x.ZE := h.1
@[simp] theorem ZT.PN {n : Nat} {x : ZT} (h : Sm n x) : Sm n x.ZG := h.2
@[simp] theorem ZT.kP {n : Nat} {Title' : Int} {Parts' : List ByteArray} {Salts' : List Int} : Sm n (ZT.mk Title' Parts' Salts') = (Sm n Parts' ∧ Sm n Salts') := rfl
structure Zm where
  Key : Int
  QO : Int
  Method : Int
  YY : Int
  yB : Int
  Org : Int
  Ky : Int
  xG : Int
  Mark : Int
  deriving Inhabited, DecidableEq
@[simp] def Zm.row (x : Zm) : List Vm.D := [.int .i64 x.Key, .int .i64 x.QO, .int .i64 x.Method, .int .i64 x.YY, .int .i64 x.yB, .int .i64 x.Org, .int .i64 x.Ky, .int .i64 x.xG, .int .i64 x.Mark]
instance : Cn Zm := ⟨fun x => cn x.Key + cn x.QO + cn x.Method + cn x.YY + cn x.yB + cn x.Org + cn x.Ky + cn x.xG + cn x.Mark⟩
theorem Zm.YP (x : Zm) : cn x = cn x.Key + cn x.QO + cn x.Method + cn x.YY + cn x.yB + cn x.Org + cn x.Ky + cn x.xG + cn x.Mark := rfl
instance : Sz Zm := ⟨fun _ _ => True, fun _ => trivial, fun _ h => h⟩
@[simp] theorem Zm.qn {n : Nat} {x : Zm} : Sm n x := trivial
structure ZO where
  Key : Int
  Ye : List Int
  Mark : Int
  deriving Inhabited, DecidableEq
@[simp] def ZO.row (x : ZO) : List Vm.D := [.int .i64 x.Key, .sl 1 (x.Ye.map iR), .int .i64 x.Mark]
instance : Cn ZO := ⟨fun x => cn x.Key + cn x.Ye + cn x.Mark⟩
theorem ZO.YP (x : ZO) : cn x = cn x.Key + cn x.Ye + cn x.Mark := rfl
instance : Sz ZO := ⟨fun n x => Sm n x.Ye, fun n => Sz.zero n, fun h k => Sz.mono h k⟩
@[simp] theorem ZO.GF {n : Nat} {x : ZO} (h : Sm n x) : Sm n x.Ye := h
@[simp] theorem ZO.kP {n : Nat} {Key' : Int} {Ints' : List Int} {Mark' : Int} : Sm n (ZO.mk Key' Ints' Mark') = (Sm n Ints') := rfl
structure ZY where
  ZR : List ZO
  ZV : List ZF
  deriving Inhabited, DecidableEq
@[simp] def ZY.row (x : ZY) : List Vm.D := [.sl 3 (x.ZR.map ZO.row), .sl 5 (x.ZV.map ZF.row)]
instance : Cn ZY := ⟨fun x => cn x.ZR + cn x.ZV⟩
theorem ZY.YP (x : ZY) : cn x = cn x.ZR + cn x.ZV := rfl
instance : Sz ZY := ⟨fun n x => Sm n x.ZR ∧ Sm n x.ZV, fun n => ⟨Sz.zero n, Sz.zero n⟩, fun h k => ⟨Sz.mono h k.1, Sz.mono h k.2⟩⟩
@[simp] theorem ZY.jF {n : Nat} {x : ZY} (h : Sm n x) : Sm n x.ZR := h.1
@[simp] theorem ZY.yp {n : Nat} {x : ZY} (h : Sm n x) : Sm n x.ZV := h.2
@[simp] theorem ZY.kP {n : Nat} {Pieces' : List ZO} {Chain' : List ZF} : Sm n (ZY.mk Pieces' Chain') = (Sm n Pieces' ∧ Sm n Chain') := rfl
structure Zb where
  Id : Int
  Yk : Int
  Doc : ZT
  Sig : Zm
  ZK : ZY
  deriving Inhabited, DecidableEq
@[simp] def Zb.row (x : Zb) : List Vm.D := [.int .i64 x.Id, .int .i64 x.Yk, .int .i64 x.Doc.Ka, .sl 1 (x.Doc.ZE.map sR), .sl 1 (x.Doc.ZG.map iR), .int .i64 x.Sig.Key, .int .i64 x.Sig.QO, .int .i64 x.Sig.Method, .int .i64 x.Sig.YY, .int .i64 x.Sig.yB, .int .i64 x.Sig.Org, .int .i64 x.Sig.Ky, .int .i64 x.Sig.xG, .int .i64 x.Sig.Mark, .sl 3 (x.ZK.ZR.map ZO.row), .sl 5 (x.ZK.ZV.map ZF.row)]
instance : Cn Zb := ⟨fun x => cn x.Id + cn x.Yk + cn x.Doc + cn x.Sig + cn x.ZK⟩
theorem Zb.YP (x : Zb) : cn x = cn x.Id + cn x.Yk + cn x.Doc + cn x.Sig + cn x.ZK := rfl
instance : Sz Zb := ⟨fun n x => Sm n x.Doc ∧ Sm n x.ZK, fun n => ⟨Sz.zero n, Sz.zero n⟩, fun h k => ⟨Sz.mono h k.1, Sz.mono h k.2⟩⟩
@[simp] theorem Zb.U3 {n : Nat} {x : Zb} (h : Sm n x) : Sm n x.Doc := h.1
@[simp] theorem Zb.zI {n : Nat} {x : Zb} (h : Sm n x) : Sm n x.ZK := h.2
@[simp] theorem Zb.kP {n : Nat} {Id' : Int} {Keep' : Int} {Doc' : ZT} {Sig' : Zm} {Strand' : ZY} : Sm n (Zb.mk Id' Keep' Doc' Sig' Strand') = (Sm n Doc' ∧ Sm n Strand') := rfl
structure ZH where
  Id : Int
  ZS : List Zb
  deriving Inhabited, DecidableEq
@[simp] def ZH.row (x : ZH) : List Vm.D := [.int .i64 x.Id, .sl 16 (x.ZS.map Zb.row)]
instance : Cn ZH := ⟨fun x => cn x.Id + cn x.ZS⟩
theorem ZH.YP (x : ZH) : cn x = cn x.Id + cn x.ZS := rfl
instance : Sz ZH := ⟨fun n x => Sm n x.ZS, fun n => Sz.zero n, fun h k => Sz.mono h k⟩
@[simp] theorem ZH.xk {n : Nat} {x : ZH} (h : Sm n x) : Sm n x.ZS := h
@[simp] theorem ZH.kP {n : Nat} {Id' : Int} {Items' : List Zb} : Sm n (ZH.mk Id' Items') = (Sm n Items') := rfl
structure Zc where
  Frame : Z4
  Zx : List Z0
  Z5 : List Int
  ZC : List ZH
  Yz : List Int
  YX : List Int
  Next : Int
  YT : List Int
  deriving Inhabited, DecidableEq
@[simp] def Zc.row (x : Zc) : List Vm.D := [.sl 5 (x.Frame.YR.map YD.row), .sl 3 (x.Frame.ZL.map ZI.row), .sl 4 (x.Frame.Methods.map ZU.row), .int .i64 x.Frame.zu, .int .i64 x.Frame.Now, .sl 7 (x.Zx.map Z0.row), .sl 1 (x.Z5.map iR), .sl 2 (x.ZC.map ZH.row), .sl 1 (x.Yz.map iR), .sl 1 (x.YX.map iR), .int .i64 x.Next, .sl 1 (x.YT.map iR)]
instance : Cn Zc := ⟨fun x => cn x.Frame + cn x.Zx + cn x.Z5 + cn x.ZC + cn x.Yz + cn x.YX + cn x.Next + cn x.YT⟩
theorem Zc.YP (x : Zc) : cn x = cn x.Frame + cn x.Zx + cn x.Z5 + cn x.ZC + cn x.Yz + cn x.YX + cn x.Next + cn x.YT := rfl
instance : Sz Zc := ⟨fun n x => Sm n x.Frame ∧ Sm n x.Zx ∧ Sm n x.Z5 ∧ Sm n x.ZC ∧ Sm n x.Yz ∧ Sm n x.YX ∧ Sm n x.YT, fun n => ⟨Sz.zero n, Sz.zero n, Sz.zero n, Sz.zero n, Sz.zero n, Sz.zero n, Sz.zero n⟩, fun h k => ⟨Sz.mono h k.1, Sz.mono h k.2.1, Sz.mono h k.2.2.1, Sz.mono h k.2.2.2.1, Sz.mono h k.2.2.2.2.1, Sz.mono h k.2.2.2.2.2.1, Sz.mono h k.2.2.2.2.2.2⟩⟩
@[simp] theorem Zc.JE {n : Nat} {x : Zc} (h : Sm n x) : Sm n x.Frame := h.1
@[simp] theorem Zc.Fi {n : Nat} {x : Zc} (h : Sm n x) : Sm n x.Zx := h.2.1
@[simp] theorem Zc.Lr {n : Nat} {x : Zc} (h : Sm n x) : Sm n x.Z5 := h.2.2.1
@[simp] theorem Zc.zB {n : Nat} {x : Zc} (h : Sm n x) : Sm n x.ZC := h.2.2.2.1
@[simp] theorem Zc.GH {n : Nat} {x : Zc} (h : Sm n x) : Sm n x.Yz := h.2.2.2.2.1
@[simp] theorem Zc.HC {n : Nat} {x : Zc} (h : Sm n x) : Sm n x.YX := h.2.2.2.2.2.1
@[simp] theorem Zc.Np {n : Nat} {x : Zc} (h : Sm n x) : Sm n x.YT := h.2.2.2.2.2.2
@[simp] theorem Zc.kP {n : Nat} {Frame' : Z4} {Certs' : List Z0} {Ended' : List Int} {Archives' : List ZH} {Seqs' : List Int} {Lying' : List Int} {Next' : Int} {Forged' : List Int} : Sm n (Zc.mk Frame' Certs' Ended' Archives' Seqs' Lying' Next' Forged') = (Sm n Frame' ∧ Sm n Certs' ∧ Sm n Ended' ∧ Sm n Archives' ∧ Sm n Seqs' ∧ Sm n Lying' ∧ Sm n Forged') := rfl
structure xF where
  Kind : Int
  A : Int
  B : Int
  C : Int
  D : Int
  Doc : ZT
  Ids : List Int
  deriving Inhabited, DecidableEq
@[simp] def xF.row (x : xF) : List Vm.D := [.int .i64 x.Kind, .int .i64 x.A, .int .i64 x.B, .int .i64 x.C, .int .i64 x.D, .int .i64 x.Doc.Ka, .sl 1 (x.Doc.ZE.map sR), .sl 1 (x.Doc.ZG.map iR), .sl 1 (x.Ids.map iR)]
instance : Cn xF := ⟨fun x => cn x.Kind + cn x.A + cn x.B + cn x.C + cn x.D + cn x.Doc + cn x.Ids⟩
theorem xF.YP (x : xF) : cn x = cn x.Kind + cn x.A + cn x.B + cn x.C + cn x.D + cn x.Doc + cn x.Ids := rfl
instance : Sz xF := ⟨fun n x => Sm n x.Doc ∧ Sm n x.Ids, fun n => ⟨Sz.zero n, Sz.zero n⟩, fun h k => ⟨Sz.mono h k.1, Sz.mono h k.2⟩⟩
@[simp] theorem xF.U3 {n : Nat} {x : xF} (h : Sm n x) : Sm n x.Doc := h.1
@[simp] theorem xF.BK {n : Nat} {x : xF} (h : Sm n x) : Sm n x.Ids := h.2
@[simp] theorem xF.kP {n : Nat} {Kind' : Int} {A' : Int} {B' : Int} {C' : Int} {D' : Int} {Doc' : ZT} {Ids' : List Int} : Sm n (xF.mk Kind' A' B' C' D' Doc' Ids') = (Sm n Doc' ∧ Sm n Ids') := rfl
structure Ui where
  xQ : Int
  To : Int
  deriving Inhabited, DecidableEq
@[simp] def Ui.row (x : Ui) : List Vm.D := [.int .i64 x.xQ, .int .i64 x.To]
instance : Cn Ui := ⟨fun x => cn x.xQ + cn x.To⟩
theorem Ui.YP (x : Ui) : cn x = cn x.xQ + cn x.To := rfl
instance : Sz Ui := ⟨fun _ _ => True, fun _ => trivial, fun _ h => h⟩
@[simp] theorem Ui.qn {n : Nat} {x : Ui} : Sm n x := trivial
structure yn where
  Code : Int
  Reason : Int
  Span : Ui
  deriving Inhabited, DecidableEq
@[simp] def yn.row (x : yn) : List Vm.D := [.int .i64 x.Code, .int .i64 x.Reason, .int .i64 x.Span.xQ, .int .i64 x.Span.To]
instance : Cn yn := ⟨fun x => cn x.Code + cn x.Reason + cn x.Span⟩
theorem yn.YP (x : yn) : cn x = cn x.Code + cn x.Reason + cn x.Span := rfl
instance : Sz yn := ⟨fun _ _ => True, fun _ => trivial, fun _ h => h⟩
@[simp] theorem yn.qn {n : Nat} {x : yn} : Sm n x := trivial
structure XA where
  Ka : Int
  Methods : List Int
  Shown : List Bool
  ZE : List ByteArray
  ZG : List Int
  Vu : List (List Int)
  deriving Inhabited, DecidableEq
@[simp] def XA.row (x : XA) : List Vm.D := [.int .i64 x.Ka, .sl 1 (x.Methods.map iR), .sl 1 (x.Shown.map lR), .sl 1 (x.ZE.map sR), .sl 1 (x.ZG.map iR), .sl 1 (x.Vu.map (slR 1 iR))]
instance : Cn XA := ⟨fun x => cn x.Ka + cn x.Methods + cn x.Shown + cn x.ZE + cn x.ZG + cn x.Vu⟩
theorem XA.YP (x : XA) : cn x = cn x.Ka + cn x.Methods + cn x.Shown + cn x.ZE + cn x.ZG + cn x.Vu := rfl
instance : Sz XA := ⟨fun n x => Sm n x.Methods ∧ Sm n x.Shown ∧ Sm n x.ZE ∧ Sm n x.ZG ∧ Sm n x.Vu, fun n => ⟨Sz.zero n, Sz.zero n, Sz.zero n, Sz.zero n, Sz.zero n⟩, fun h k => ⟨Sz.mono h k.1, Sz.mono h k.2.1, Sz.mono h k.2.2.1, Sz.mono h k.2.2.2.1, Sz.mono h k.2.2.2.2⟩⟩
@[simp] theorem XA.Px {n : Nat} {x : XA} (h : Sm n x) : Sm n x.Methods := h.1
@[simp] theorem XA.Cv {n : Nat} {x : XA} (h : Sm n x) : Sm n x.Shown := h.2.1
@[simp] theorem XA.Us {n : Nat} {x : XA} (h : Sm n x) : Sm n x.ZE := h.2.2.1
@[simp] theorem XA.PN {n : Nat} {x : XA} (h : Sm n x) : Sm n x.ZG := h.2.2.2.1
@[simp] theorem XA.DX {n : Nat} {x : XA} (h : Sm n x) : Sm n x.Vu := h.2.2.2.2
@[simp] theorem XA.kP {n : Nat} {Title' : Int} {Methods' : List Int} {Shown' : List Bool} {Parts' : List ByteArray} {Salts' : List Int} {Digests' : List (List Int)} : Sm n (XA.mk Title' Methods' Shown' Parts' Salts' Digests') = (Sm n Methods' ∧ Sm n Shown' ∧ Sm n Parts' ∧ Sm n Salts' ∧ Sm n Digests') := rfl
structure Qd where
  UU : List ZY
  Lo : List (List ZX)
  deriving Inhabited, DecidableEq
@[simp] def Qd.row (x : Qd) : List Vm.D := [.sl 2 (x.UU.map ZY.row), .sl 1 (x.Lo.map (slR 5 ZX.row))]
instance : Cn Qd := ⟨fun x => cn x.UU + cn x.Lo⟩
theorem Qd.YP (x : Qd) : cn x = cn x.UU + cn x.Lo := rfl
instance : Sz Qd := ⟨fun n x => Sm n x.UU ∧ Sm n x.Lo, fun n => ⟨Sz.zero n, Sz.zero n⟩, fun h k => ⟨Sz.mono h k.1, Sz.mono h k.2⟩⟩
@[simp] theorem Qd.Df {n : Nat} {x : Qd} (h : Sm n x) : Sm n x.UU := h.1
@[simp] theorem Qd.CR {n : Nat} {x : Qd} (h : Sm n x) : Sm n x.Lo := h.2
@[simp] theorem Qd.kP {n : Nat} {Strands' : List ZY} {Fresh' : List (List ZX)} : Sm n (Qd.mk Strands' Fresh') = (Sm n Strands' ∧ Sm n Fresh') := rfl
structure qQ where
  QO : Int
  Dj : Int
  Z5 : Int
  J9 : Int
  Mark : Int
  deriving Inhabited, DecidableEq
@[simp] def qQ.row (x : qQ) : List Vm.D := [.int .i64 x.QO, .int .i64 x.Dj, .int .i64 x.Z5, .int .i64 x.J9, .int .i64 x.Mark]
instance : Cn qQ := ⟨fun x => cn x.QO + cn x.Dj + cn x.Z5 + cn x.J9 + cn x.Mark⟩
theorem qQ.YP (x : qQ) : cn x = cn x.QO + cn x.Dj + cn x.Z5 + cn x.J9 + cn x.Mark := rfl
instance : Sz qQ := ⟨fun _ _ => True, fun _ => trivial, fun _ h => h⟩
@[simp] theorem qQ.qn {n : Nat} {x : qQ} : Sm n x := trivial
structure VS where
  b : List UInt8
  i : Nat
  h : Int
  deriving Inhabited, DecidableEq
@[simp] def VS.row (x : VS) : List Vm.D := [.sl 1 (x.b.map bR), .int .i64 (x.i : Int), .int .i64 x.h]
instance : Sz VS := ⟨fun n x => Sm n x.b, fun n => Sz.zero n, fun h k => Sz.mono h k⟩
@[simp] theorem VS.Bi {n : Nat} {x : VS} (h : Sm n x) : Sm n x.b := h
@[simp] theorem VS.kP {n : Nat} {b' : List UInt8} {i' : Nat} {h' : Int} : Sm n (VS.mk b' i' h') = (Sm n b') := rfl
structure yh where
  xQ : Int
  To : Int
  ZS : List Zb
  YY : Int
  deriving Inhabited, DecidableEq
@[simp] def yh.row (x : yh) : List Vm.D := [.int .i64 x.xQ, .int .i64 x.To, .sl 16 (x.ZS.map Zb.row), .int .i64 x.YY]
instance : Cn yh := ⟨fun x => cn x.xQ + cn x.To + cn x.ZS + cn x.YY⟩
theorem yh.YP (x : yh) : cn x = cn x.xQ + cn x.To + cn x.ZS + cn x.YY := rfl
instance : Sz yh := ⟨fun n x => Sm n x.ZS, fun n => Sz.zero n, fun h k => Sz.mono h k⟩
@[simp] theorem yh.xk {n : Nat} {x : yh} (h : Sm n x) : Sm n x.ZS := h
@[simp] theorem yh.kP {n : Nat} {From' : Int} {To' : Int} {Items' : List Zb} {Digest' : Int} : Sm n (yh.mk From' To' Items' Digest') = (Sm n Items') := rfl
structure yv where
  Org : Int
  Ha : Int
  xQ : Int
  To : Int
  Key : Int
  Mark : Int
  deriving Inhabited, DecidableEq
@[simp] def yv.row (x : yv) : List Vm.D := [.int .i64 x.Org, .int .i64 x.Ha, .int .i64 x.xQ, .int .i64 x.To, .int .i64 x.Key, .int .i64 x.Mark]
instance : Cn yv := ⟨fun x => cn x.Org + cn x.Ha + cn x.xQ + cn x.To + cn x.Key + cn x.Mark⟩
theorem yv.YP (x : yv) : cn x = cn x.Org + cn x.Ha + cn x.xQ + cn x.To + cn x.Key + cn x.Mark := rfl
instance : Sz yv := ⟨fun _ _ => True, fun _ => trivial, fun _ h => h⟩
@[simp] theorem yv.qn {n : Nat} {x : yv} : Sm n x := trivial
end Go.Mo
namespace Go.Mo
open Go.Vm
theorem VQ {α : Type} [Inhabited α] {l : List α} {i : Nat} (h : i < l.length) : nth l i = l[i] := by simp [nth, h]
theorem H8 {α : Type} [Inhabited α] {l : List α} {i : Nat} (h : i < l.length) : nth l i ∈ l := by rw [VQ h]; exact List.getElem_mem h
theorem Kq {α : Type} [Inhabited α] {F : Nat → Nat → List α → List α} {a : List α} {g : α → α} (hg : ∀ x, g x = x)
    (h1 : ∀ n i v, F (n + 1) i v = bif decide ((i : Int) < (a.length : Int)) then F n (i + 1) (v.set i (g (nth a i))) else v) :
    ∀ n i v, v.length = a.length → a.length < n + i → i ≤ a.length → (∀ j, j < i → v[j]? = a[j]?) → F n i v = a := by
  intro n
  induction n with
  | zero => intro i v _ h2 h3; omega
  | succ n ih =>
    intro i v hl h2 h3 hj
    rw [h1]
    by_cases hi : i < a.length
    · have : decide ((i : Int) < (a.length : Int)) = true := by simp [hi]
      rw [this, cond_true]
      refine ih _ _ (by simp [hl]) (by omega) hi (fun j hlt => ?_)
      rw [List.getElem?_set]
      by_cases hji : i = j
      · subst hji; simp [hl, hi, hg, VQ hi]
      · rw [if_neg hji]; exact hj j (by omega)
    · have : decide ((i : Int) < (a.length : Int)) = false := by simp; omega
      rw [this, cond_false]
      apply List.ext_getElem?
      intro j
      by_cases hji : j < i
      · exact hj j hji
      · rw [List.getElem?_eq_none (by omega), List.getElem?_eq_none (by omega)]
theorem zN {α : Type} [Inhabited α] {F : Nat → List α → Nat → List α} {a : List α} {g : α → α} (hg : ∀ x, g x = x)
    (h1 : ∀ n v i, F (n + 1) v i = bif decide ((i : Int) < (a.length : Int)) then F n (v ++ [g (nth a i)]) (i + 1) else v) :
    ∀ n v i, a.length < n + i → i ≤ a.length → F n v i = v ++ a.drop i := by
  intro n
  induction n with
  | zero => intro v i h2 h3; omega
  | succ n ih =>
    intro v i h2 h3
    rw [h1]
    by_cases hi : i < a.length
    · rw [show decide ((i : Int) < (a.length : Int)) = true by simp [hi], cond_true, ih _ _ (by omega) hi, hg, VQ hi, List.append_assoc, List.singleton_append, ← List.drop_eq_getElem_cons hi]
    · rw [show decide ((i : Int) < (a.length : Int)) = false by simp; omega, cond_false, List.drop_eq_nil_of_le (by omega), List.append_nil]
theorem qj {F : Nat → Nat → Sum Int Unit} {L : Nat} {c : Nat → Bool} (h0 : ∀ i, F 0 i = .inr ())
    (h1 : ∀ n i, F (n + 1) i = bif decide ((i : Int) < (L : Int)) then (bif c i then .inl (i : Int) else F n (i + 1)) else .inr ()) :
    ∀ n i, (match F n i with | .inl r => r | .inr _ => -1) < (L : Int) := by
  intro n
  induction n with
  | zero => intro i; rw [h0]; show (-1 : Int) < _; omega
  | succ n ih =>
    intro i
    rw [h1]
    by_cases hi : (i : Int) < (L : Int)
    · rw [show decide ((i : Int) < (L : Int)) = true by simpa using hi, cond_true]
      cases hc : c i with
      | true => simpa using hi
      | false => exact ih (i + 1)
    · rw [show decide ((i : Int) < (L : Int)) = false by simpa using hi, cond_false]
      show (-1 : Int) < _; omega
theorem Zj {rows : List (List Vm.D)} {i : Nat} {r : List Vm.D} (h : i < rows.length) : Vm.rowAt (rows.set i r) i = r := by simp [Vm.rowAt, h]
/-- marks, from left to right -/
def mkL {α : Type} (f : α → Int → α × Int) : List α → Int → List α × Int
  | [], k => ([], k)
  | x :: l, k => ((f x k).1 :: (mkL f l (f x k).2).1, (mkL f l (f x k).2).2)
theorem XC {α : Type} (f : α → Int → α × Int) : ∀ (l : List α) (k : Int), (mkL f l k).1.length = l.length
  | [], _ => rfl
  | x :: l, k => by simp [mkL, XC f l]
theorem QZ {α : Type} [Inhabited α] {F : Nat → Int → Nat → List α → Int × List α} {f : α → Int → α × Int}
    (h1 : ∀ n k i v, F (n + 1) k i v = bif decide ((i : Int) < (v.length : Int)) then F n (f (nth v i) k).2 (i + 1) (v.set i (f (nth v i) k).1) else (k, v)) :
    ∀ (l pre : List α) (n : Nat) (k : Int), l.length < n → F n k pre.length (pre ++ l) = ((mkL f l k).2, pre ++ (mkL f l k).1) := by
  intro l
  induction l with
  | nil =>
    intro pre n k hn
    obtain ⟨m, rfl⟩ : ∃ m, n = m + 1 := ⟨n - 1, by simp at hn; omega⟩
    rw [h1]; simp [mkL]
  | cons x l ih =>
    intro pre n k hn
    obtain ⟨m, rfl⟩ : ∃ m, n = m + 1 := ⟨n - 1, by simp at hn; omega⟩
    have hx : nth (pre ++ x :: l) pre.length = x := by simp [nth]
    have hs : ∀ y, (pre ++ x :: l).set pre.length y = (pre ++ [y]) ++ l := by intro y; simp
    have hd : decide ((pre.length : Int) < ((pre ++ x :: l).length : Int)) = true := by simp; omega
    rw [h1, hd, cond_true, hx, hs]
    have := ih (pre ++ [(f x k).1]) m (f x k).2 (by simp at hn; omega)
    rw [List.length_append, List.length_singleton] at this
    rw [this]; simp [mkL]
theorem XF {α : Type} {f : α → Int → α × Int} {c : α → Nat} (hc : ∀ (x : α) (k : Int), 0 ≤ k → k + c x < 4611686018427387904 → (f x k).2 = k + c x) :
    ∀ (l : List α) (k : Int), 0 ≤ k → k + cnL c l < 4611686018427387904 → (mkL f l k).2 = k + cnL c l
  | [], k, _, _ => by simp [mkL, cnL]
  | x :: l, k, h0, h => by
    simp only [cnL, Int.natCast_add] at h
    have e := hc x k h0 (by omega)
    have := XF hc l (f x k).2 (by omega) (by omega)
    show (mkL f l (f x k).2).2 = _
    rw [this, e]; simp only [cnL, Int.natCast_add]; omega
theorem Qc {α : Type} [Inhabited α] {z : List α} {H : Nat → Int → Nat → Sum Int Int} {G : α → Int → (Int → Sum Int Int) → Sum Int Int} {f : α → Int → α × Int} {c : α → Nat}
    (h1 : ∀ n k i, H (n + 1) k i = bif decide ((i : Int) < (z.length : Int)) then G (nth z i) k (fun k' => H n k' (i + 1)) else .inr k)
    (hc : ∀ (x : α) (k : Int), 0 ≤ k → k + c x < 4611686018427387904 → (f x k).2 = k + c x) (hG : ∀ (x : α) (k : Int) (r : Int → Sum Int Int), 0 ≤ k → k + c x < 4611686018427387904 → G (f x k).1 k r = r (f x k).2) :
    ∀ (l pre : List α) (n : Nat) (k : Int), z = pre ++ (mkL f l k).1 → l.length < n → 0 ≤ k → k + cnL c l < 4611686018427387904 → H n k pre.length = .inr (mkL f l k).2 := by
  intro l
  induction l with
  | nil =>
    intro pre n k hz hn _ _
    obtain ⟨m, rfl⟩ : ∃ m, n = m + 1 := ⟨n - 1, by simp at hn; omega⟩
    rw [h1]; simp [mkL] at hz; subst hz; simp [mkL]
  | cons x l ih =>
    intro pre n k hz hn h0 h
    obtain ⟨m, rfl⟩ : ∃ m, n = m + 1 := ⟨n - 1, by simp at hn; omega⟩
    simp only [cnL, Int.natCast_add] at h
    have e := hc x k h0 (by omega)
    have hx : nth z pre.length = (f x k).1 := by rw [hz]; simp [nth, mkL]
    have hd : decide ((pre.length : Int) < (z.length : Int)) = true := by rw [hz]; simp [mkL]; omega
    rw [h1, hd, cond_true, hx, hG x k _ h0 (by omega)]
    have := ih (pre ++ [(f x k).1]) m (f x k).2 (by rw [hz]; simp [mkL]) (by simp at hn; omega) (by omega) (by omega)
    rw [List.length_append, List.length_singleton] at this
    rw [this]; rfl
/-- a length that is reckoned off a purse -/
def y7 {α : Type} [Inhabited α] [Sz α] (F : α → Int → Int) : Prop := ∀ a n, Sm maxLen a → 0 ≤ n → n ≤ 1048576 → ¬ F a n < 0 → Sm 1048576 a ∧ F a n ≤ 1048576
theorem Ny {n : Int} {l : Nat} (h0 : 0 ≤ n) (hn : n ≤ 1048576) (hl : l ≤ maxLen) : W (n - l) = n - l := by
  have hl : l ≤ 9223372036854775807 := hl
  exact Za (by omega) (by omega)
theorem kC {α : Type} [Inhabited α] [Sz α] (hs : ∀ (n : Nat) (x : α), Sm n x) {F : List α → Int → Int} (hF : ∀ a n, F a n = bif decide (W (n - (a.length : Int)) < 0) then (-1) else W (n - (a.length : Int))) : y7 F := by
  intro a n hm h0 hn h
  rw [hF, Ny h0 hn hm.1] at h ⊢
  by_cases hc : n - (a.length : Int) < 0
  · rw [show decide (n - (a.length : Int) < 0) = true by simpa using hc, cond_true] at h; omega
  · rw [show decide (n - (a.length : Int) < 0) = false by simpa using hc, cond_false] at h ⊢
    exact ⟨⟨by omega, fun x _ => hs _ x⟩, by omega⟩
theorem Dc {α : Type} [Inhabited α] [Sz α] {E : α → Int → Int} (hE : y7 E) {a : List α} (hm : Sm maxLen a) {G : Nat → Int → Nat → Sum Int Int}
    (h1 : ∀ n v i, G (n + 1) v i = bif decide ((i : Int) < (a.length : Int)) then (bif decide (E (nth a i) v < 0) then .inl (-1) else G n (E (nth a i) v) (i + 1)) else .inr v) :
    ∀ n v i, 0 ≤ v → v ≤ 1048576 → a.length < n + i → i ≤ a.length → ¬ (match G n v i with | .inl r => r | .inr z => z) < 0 → (∀ j, i ≤ j → j < a.length → Sm 1048576 (nth a j)) ∧ (match G n v i with | .inl r => r | .inr z => z) ≤ 1048576 := by
  intro n
  induction n with
  | zero => intro v i _ _ h2 h3; omega
  | succ n ih =>
    intro v i hv0 hv h2 h3 h
    rw [h1] at h ⊢
    by_cases hi : i < a.length
    · rw [show decide ((i : Int) < (a.length : Int)) = true by simp [hi], cond_true] at h ⊢
      by_cases hc : E (nth a i) v < 0
      · rw [show decide (E (nth a i) v < 0) = true by simpa using hc, cond_true] at h; simp at h
      · rw [show decide (E (nth a i) v < 0) = false by simpa using hc, cond_false] at h ⊢
        obtain ⟨e1, e2⟩ := hE (nth a i) v (hm.2 _ (H8 hi)) hv0 hv hc
        obtain ⟨r1, r2⟩ := ih _ (i + 1) (by omega) e2 (by omega) hi h
        refine ⟨fun j hj hjl => ?_, r2⟩
        by_cases hji : j = i
        · subst hji; exact e1
        · exact r1 j (by omega) hjl
    · rw [show decide ((i : Int) < (a.length : Int)) = false by simp; omega, cond_false] at h ⊢
      exact ⟨fun j hj hjl => by omega, hv⟩
theorem UX {α : Type} [Inhabited α] [Sz α] {E : α → Int → Int} (hE : y7 E) {F : List α → Int → Int} {G : List α → Nat → Int → Nat → Sum Int Int}
    (h1 : ∀ a n v i, G a (n + 1) v i = bif decide ((i : Int) < (a.length : Int)) then (bif decide (E (nth a i) v < 0) then .inl (-1) else G a n (E (nth a i) v) (i + 1)) else .inr v)
    (hF : ∀ a n, F a n = bif decide (W (n - (a.length : Int)) < 0) then (-1) else (match G a (a.length + 1) (W (n - (a.length : Int))) 0 with | .inl r => r | .inr z => z)) : y7 F := by
  intro a n hm h0 hn h
  rw [hF, Ny h0 hn hm.1] at h ⊢
  by_cases hc : n - (a.length : Int) < 0
  · rw [show decide (n - (a.length : Int) < 0) = true by simpa using hc, cond_true] at h; omega
  · rw [show decide (n - (a.length : Int) < 0) = false by simpa using hc, cond_false] at h ⊢
    obtain ⟨r1, r2⟩ := Dc hE hm (h1 a) (a.length + 1) _ 0 (by omega) (by omega) (by omega) (by omega) h
    refine ⟨⟨by omega, fun x hx => ?_⟩, r2⟩
    obtain ⟨j, hj, rfl⟩ := List.mem_iff_getElem.1 hx
    rw [← VQ hj]; exact r1 j (by omega) hj
theorem G1 : y7 (fun (s : ByteArray) n => W (n - (s.size : Int))) := by
  intro a n hm h0 hn h
  have hm : a.size ≤ maxLen := hm
  dsimp only at h ⊢
  rw [Ny h0 hn hm] at h ⊢
  exact ⟨show a.size ≤ 1048576 by omega, by omega⟩
/-- the purse pays for the marks -/
def y8 {α : Type} [Inhabited α] [Sz α] [Cn α] (F : α → Int → Int) (c : Nat) : Prop := ∀ a n, Sm maxLen a → 0 ≤ n → n ≤ 1048576 → ¬ F a n < 0 → (cn a : Int) ≤ 32 * (n - F a n) + c ∧ F a n ≤ n
theorem FR {α : Type} {c : α → Nat} {m : Nat} (h : ∀ x, c x ≤ m) : ∀ l : List α, cnL c l ≤ m * l.length
  | [] => by simp [cnL]
  | x :: l => by have := FR h l; have := h x; simp only [cnL, List.length_cons, Nat.mul_add]; omega
theorem Hv {α : Type} {c : α → Nat} (h : ∀ x, 1 ≤ c x) : ∀ l : List α, l.length ≤ cnL c l
  | [] => by simp [cnL]
  | x :: l => by have := Hv h l; have := h x; simp only [cnL, List.length_cons]; omega
theorem Pe {α : Type} {c : α → Nat} {m : Nat} (h : ∀ x, c x = m) : ∀ l : List α, cnL c l = m * l.length
  | [] => by simp [cnL]
  | x :: l => by simp only [cnL, h, Pe h l, List.length_cons, Nat.mul_add]; omega
theorem GN (l : List Int) : cn l = l.length := by rw [XT, Pe (c := (cn : Int → Nat)) (m := 1) (fun _ => rfl)]; simp
theorem jr {α : Type} {p : α → Prop} {c : Bool} {x y : α} (hx : p x) (hy : p y) : p (bif c then x else y) := by cases c; exact hy; exact hx
theorem Rl {α : Type} {F : Nat → List α → Nat → List α} {L : Nat} {c : Nat → Bool} {g : Nat → α} (h0 : ∀ v i, F 0 v i = [])
    (h1 : ∀ n v i, F (n + 1) v i = bif decide ((i : Int) < (L : Int)) then (bif c i then F n (v ++ [g i]) (i + 1) else F n v (i + 1)) else v) : ∀ n v i, (F n v i).length ≤ v.length + (L - i) := by
  intro n
  induction n with
  | zero => intro v i; rw [h0]; simp
  | succ n ih =>
    intro v i
    rw [h1]
    by_cases hi : i < L
    · rw [show decide ((i : Int) < (L : Int)) = true by simp [hi], cond_true]
      cases c i with
      | true => have := ih (v ++ [g i]) (i + 1); rw [cond_true]; simp at this; omega
      | false => have := ih v (i + 1); rw [cond_false]; omega
    · rw [show decide ((i : Int) < (L : Int)) = false by simp; omega, cond_false]; omega
theorem QE {n m : Nat} {s : ZY} {r : ZF} (hn : n + 1 ≤ m) (h : Sm n s) (hr : Sm m r) : Sm m (ZY.mk s.ZR (s.ZV ++ [r])) := by
  refine ⟨YO (by omega) h.1, ⟨?_, fun x hx => ?_⟩⟩
  · have := h.2.1; simp; omega
  · rcases List.mem_append.1 hx with hx | hx
    · exact YO (by omega) (h.2.2 x hx)
    · simp at hx; subst hx; exact hr
theorem j5 {α : Type} [Inhabited α] [Sz α] [Cn α] (hs : ∀ x : α, cn x ≤ 32) {F : List α → Int → Int} (hF : ∀ a n, F a n = bif decide (W (n - (a.length : Int)) < 0) then (-1) else W (n - (a.length : Int))) : y8 F 0 := by
  intro a n hm h0 hn h
  rw [hF, Ny h0 hn hm.1] at h ⊢
  by_cases hc : n - (a.length : Int) < 0
  · rw [show decide (n - (a.length : Int) < 0) = true by simpa using hc, cond_true] at h; omega
  · rw [show decide (n - (a.length : Int) < 0) = false by simpa using hc, cond_false] at h ⊢
    have := FR hs a
    rw [XT]; omega
theorem CC {α : Type} [Inhabited α] [Sz α] [Cn α] {E : α → Int → Int} {c : Nat} (hE : y8 E c) (hcc : c ≤ 32) {a : List α} (hm : Sm maxLen a) {G : Nat → Int → Nat → Sum Int Int}
    (h1 : ∀ n v i, G (n + 1) v i = bif decide ((i : Int) < (a.length : Int)) then (bif decide (E (nth a i) v < 0) then .inl (-1) else G n (E (nth a i) v) (i + 1)) else .inr v) :
    ∀ n v i, 0 ≤ v → v ≤ 1048576 → a.length < n + i → i ≤ a.length → ¬ (match G n v i with | .inl r => r | .inr z => z) < 0 →
      (cnL cn (a.drop i) : Int) ≤ 32 * (v - (match G n v i with | .inl r => r | .inr z => z)) + 32 * ((a.length : Int) - i) ∧ (match G n v i with | .inl r => r | .inr z => z) ≤ v := by
  intro n
  induction n with
  | zero => intro v i _ _ h2 h3; omega
  | succ n ih =>
    intro v i hv0 hv h2 h3 h
    rw [h1] at h ⊢
    by_cases hi : i < a.length
    · rw [show decide ((i : Int) < (a.length : Int)) = true by simp [hi], cond_true] at h ⊢
      by_cases hc : E (nth a i) v < 0
      · rw [show decide (E (nth a i) v < 0) = true by simpa using hc, cond_true] at h; simp at h
      · rw [show decide (E (nth a i) v < 0) = false by simpa using hc, cond_false] at h ⊢
        obtain ⟨e1, e2⟩ := hE (nth a i) v (hm.2 _ (H8 hi)) hv0 hv hc
        obtain ⟨r1, r2⟩ := ih _ (i + 1) (by omega) (by omega) (by omega) hi h
        rw [List.drop_eq_getElem_cons hi, cnL, ← VQ hi]
        refine ⟨?_, by omega⟩
        simp only [Int.natCast_add] at r1 ⊢
        omega
    · rw [show decide ((i : Int) < (a.length : Int)) = false by simp; omega, cond_false] at h ⊢
      rw [List.drop_eq_nil_of_le (by omega)]
      simp only [cnL]
      exact ⟨by omega, by omega⟩
theorem UG {α : Type} [Inhabited α] [Sz α] [Cn α] {E : α → Int → Int} {c : Nat} (hE : y8 E c) (hcc : c ≤ 32) {F : List α → Int → Int} {G : List α → Nat → Int → Nat → Sum Int Int}
    (h1 : ∀ a n v i, G a (n + 1) v i = bif decide ((i : Int) < (a.length : Int)) then (bif decide (E (nth a i) v < 0) then .inl (-1) else G a n (E (nth a i) v) (i + 1)) else .inr v)
    (hF : ∀ a n, F a n = bif decide (W (n - (a.length : Int)) < 0) then (-1) else (match G a (a.length + 1) (W (n - (a.length : Int))) 0 with | .inl r => r | .inr z => z)) : y8 F 0 := by
  intro a n hm h0 hn h
  rw [hF, Ny h0 hn hm.1] at h ⊢
  by_cases hc : n - (a.length : Int) < 0
  · rw [show decide (n - (a.length : Int) < 0) = true by simpa using hc, cond_true] at h; omega
  · rw [show decide (n - (a.length : Int) < 0) = false by simpa using hc, cond_false] at h ⊢
    obtain ⟨r1, r2⟩ := CC hE hcc hm (h1 a) (a.length + 1) _ 0 (by omega) (by omega) (by omega) (by omega) h
    rw [List.drop_zero] at r1
    rw [XT]
    exact ⟨by omega, by omega⟩
theorem FA : y8 (fun (s : ByteArray) n => W (n - (s.size : Int))) 1 := by
  intro a n hm h0 hn h
  have hm : a.size ≤ maxLen := hm
  dsimp only at h ⊢
  rw [Ny h0 hn hm] at h ⊢
  rw [Y1]
  exact ⟨by omega, by omega⟩
end Go.Mo
namespace Go.Mo
open Go.Vm
theorem Kw {F : Nat → Nat → Sum Bool Unit} {L : Nat} {c : Nat → Bool} (hc : ∀ i, c i = false) (h0 : ∀ i, F 0 i = .inr ())
    (h1 : ∀ n i, F (n + 1) i = bif decide ((i : Int) < (L : Int)) then (bif c i then .inl false else F n (i + 1)) else .inr ()) : ∀ n i, F n i = .inr () := by
  intro n
  induction n with
  | zero => exact h0
  | succ n ih =>
    intro i
    rw [h1, hc, cond_false, ih]
    cases decide ((i : Int) < (L : Int)) <;> rfl
end Go.Mo
namespace Go.Mo
open Go.Vm
theorem WQ (n : Int) : W n = (n + 9223372036854775808) % 18446744073709551616 - 9223372036854775808 := IntKind.wrap_i64 n
theorem E0 {α : Type} [Inhabited α] [DecidableEq α] {F : Nat → Nat → Sum Bool Unit} {a b : List α} {c : Nat → Bool} (hl : a.length = b.length) (hc : ∀ i, c i = !decide (nth a i = nth b i)) (h0 : ∀ i, F 0 i = .inr ())
    (h1 : ∀ n i, F (n + 1) i = bif decide ((i : Int) < (a.length : Int)) then (bif c i then .inl false else F n (i + 1)) else .inr ()) :
    F (a.length + 1) 0 = if a = b then .inr () else .inl false := by
  have key : ∀ n i, a.length < n + i → F n i = if a.drop i = b.drop i then .inr () else .inl false := by
    intro n
    induction n with
    | zero =>
      intro i h
      rw [h0, List.drop_eq_nil_of_le (by omega), List.drop_eq_nil_of_le (by omega), if_pos rfl]
    | succ n ih =>
      intro i h
      rw [h1]
      by_cases hi : i < a.length
      · have hib : i < b.length := by omega
        rw [show decide ((i : Int) < (a.length : Int)) = true by simp [hi], cond_true, hc, List.drop_eq_getElem_cons hi, List.drop_eq_getElem_cons hib, VQ hi, VQ hib]
        by_cases he : a[i] = b[i]
        · rw [he, show decide (b[i] = b[i]) = true by simp, Bool.not_true, cond_false, ih _ (by omega)]
          simp only [List.cons.injEq, true_and]
        · rw [show decide (a[i] = b[i]) = false by simp [he], if_neg (fun hh => he (List.cons.inj hh).1)]
          rfl
      · rw [show decide ((i : Int) < (a.length : Int)) = false by simp; omega, cond_false, List.drop_eq_nil_of_le (by omega), List.drop_eq_nil_of_le (by omega), if_pos rfl]
  have := key (a.length + 1) 0 (by omega)
  simpa using this
theorem DG {α : Type} [Inhabited α] [DecidableEq α] {F : Nat → Nat → Sum Bool Unit} {a b : List α} {c : Nat → Bool} (hc : ∀ i, c i = !decide (nth a i = nth b i)) (h0 : ∀ i, F 0 i = .inr ())
    (h1 : ∀ n i, F (n + 1) i = bif decide ((i : Int) < (a.length : Int)) then (bif c i then .inl false else F n (i + 1)) else .inr ()) :
    (bif ((a.length : Int) != (b.length : Int)) then false else (match F (a.length + 1) 0 with | .inl r => r | .inr _ => true)) = decide (a = b) := by
  by_cases hl : a.length = b.length
  · rw [E0 hl hc h0 h1]
    simp only [hl, bne_self_eq_false, cond_false]
    by_cases h : a = b <;> simp [h]
  · have hne : a ≠ b := fun h => hl (by rw [h])
    have : ((a.length : Int) != (b.length : Int)) = true := by simp; omega
    rw [this, cond_true]; simp [hne]
end Go.Mo
namespace Go.Mo
open Go.Vm
theorem JL {α : Type} [Inhabited α] [Sz α] {f : α → List D} {n : Nat} : ∀ {rows : List (List D)}, (∀ r, r ∈ rows → ∃ x : α, r = f x ∧ Sm n x) → ∃ l : List α, rows = l.map f ∧ ∀ x ∈ l, Sm n x
  | [], _ => ⟨[], rfl, fun _ h => by cases h⟩
  | r :: rows, h => by
    obtain ⟨x, hx, sx⟩ := h r (by simp)
    obtain ⟨l, hl, sl⟩ := JL (rows := rows) (fun r hr => h r (by simp [hr]))
    refine ⟨x :: l, by simp [hx, hl], fun y hy => ?_⟩
    rcases List.mem_cons.1 hy with rfl | hy
    · exact sx
    · exact sl y hy
theorem Zl (row : List D) (o s : Nat) : row.drop o = cut row o s ++ row.drop (o + s) := by
  rw [← List.drop_drop, cut, List.take_append_drop]
end Go.Mo
namespace Go.Mo
open Go.Vm
theorem Vj {P : Program} {n : Nat} {t : TypeId} {ts : List TypeId} : ∀ {rows : List (List D)}, Nz P n (t :: ts) rows → ∃ r rs, rows = r :: rs ∧ TyR P n t r ∧ Nz P n ts rs
  | r :: rs, h => ⟨r, rs, rfl, h.1, h.2⟩
  | [], h => h.elim
theorem G4 {P : Program} {n : Nat} : ∀ {rows : List (List D)}, Nz P n [] rows → rows = []
  | [], _ => rfl
  | _ :: _, h => h.elim
end Go.Mo
namespace Go.Mo
open Go.Vm
@[simp] theorem Cu (l : List UInt8) : X5 l = l.map bR := rfl
@[simp] theorem CV (x : Int) : ((UInt8.ofInt x).toNat : Int) = IntKind.u8.wrap x := by
  rw [IntKind.wrap_u8]
  simp [UInt8.ofInt]
  omega
theorem EE (x : Int) : (W (Int.tdiv x 10)).natAbs ≤ 9223372036854775808 ∧ (W (Int.tdiv x 10)).natAbs ≤ x.natAbs / 10 := by
  rw [WQ]
  have : (Int.tdiv x 10).natAbs = x.natAbs / 10 := by rw [Int.natAbs_tdiv]; rfl
  omega
theorem Fo {x : Int} {n : Nat} (h : n + 1 = 21 ∨ x.natAbs < 10 ^ (n + 1)) : (W (Int.tdiv x 10)).natAbs < 10 ^ n := by
  obtain ⟨h1, h2⟩ := EE x
  rcases h with h | h
  · have : n = 20 := by omega
    subst this
    have : (10 : Nat) ^ 20 = 100000000000000000000 := by decide
    omega
  · rw [Nat.pow_succ] at h; omega
end Go.Mo
namespace Go.Mo
open Go.Vm
theorem Cj {p : Nat} {x : Int} (hj : p + 1 = 22 ∨ x.natAbs < 10 ^ (p + 1 - 1)) (hx : (x != 0) = true) : 1 ≤ p ∧ (p = 22 ∨ (W (Int.tdiv x 10)).natAbs < 10 ^ (p - 1)) := by
  have hx : x ≠ 0 := by simpa using hx
  have hp : 1 ≤ p := by
    rcases hj with h | h
    · omega
    · rcases Nat.eq_zero_or_pos p with hz | hz
      · subst hz; simp at h; exact absurd h hx
      · exact hz
  refine ⟨hp, .inr ?_⟩
  obtain ⟨q, rfl⟩ : ∃ q, p = q + 1 := ⟨p - 1, by omega⟩
  exact Fo (x := x) (n := q) (hj.elim (fun h => .inl (by omega)) (fun h => .inr (by simpa using h)))
end Go.Mo
namespace Go.Mo
open Go.Vm
@[simp] theorem CO {α : Type} {l : List α} {n : Nat} (h : l.length ≤ n) : List.take n l = l := List.take_of_length_le h
@[simp] theorem Ek {α β : Type} (f : α → β) (l : List α) : List.take l.length (List.map f l) = List.map f l := List.take_of_length_le (by simp)
@[simp] theorem DF (n : Nat) : 1 + n = n + 1 := Nat.add_comm 1 n
@[simp] theorem Cy {α β : Type} (f : α → β) (l : List α) (x y : β) : List.take (2 + l.length) (x :: y :: List.map f l) = x :: y :: List.map f l := List.take_of_length_le (by simp; omega)
@[simp] theorem C0 {α β : Type} (f : α → β) (l : List α) (x y z : β) : List.take (3 + l.length) (x :: y :: z :: List.map f l) = x :: y :: z :: List.map f l := List.take_of_length_le (by simp; omega)
@[simp] theorem C6 {α β : Type} (f : α → β) (l : List α) (x y z u : β) : List.take (4 + l.length) (x :: y :: z :: u :: List.map f l) = x :: y :: z :: u :: List.map f l := List.take_of_length_le (by simp; omega)
@[simp] theorem C3 {α β : Type} (f : α → β) (l : List α) (x y z u v : β) : List.take (5 + l.length) (x :: y :: z :: u :: v :: List.map f l) = x :: y :: z :: u :: v :: List.map f l := List.take_of_length_le (by simp; omega)
@[simp] theorem C1 {α β : Type} (f : α → β) (l : List α) (x y z u v w : β) : List.take (6 + l.length) (x :: y :: z :: u :: v :: w :: List.map f l) = x :: y :: z :: u :: v :: w :: List.map f l := List.take_of_length_le (by simp; omega)
theorem F0 (n : Nat) (h : n ≤ 9223372036854775807) : W ((n : Int) - 1) = (n : Int) - 1 := Za (by omega) (by omega)
end Go.Mo
namespace Go.Mo
@[simp] theorem C4 (a : Array UInt8) : (ByteArray.mk a).size = a.size := rfl
@[simp] theorem Cq {α : Type} {l : List α} {x : α} {v n : Nat} (h : l.length = n) : List.take (min v n + 1 + (n - v)) (List.take v l ++ x :: List.drop v l) = List.take v l ++ x :: List.drop v l := by
  apply List.take_of_length_le; simp; omega
@[simp] theorem C7 (a b : Nat) : (min a b + 1 + (b - a) = min a b + (b - a + 1)) = True := by simp; omega
theorem GJ {α : Type} (a b : α) : cond true a b = a ∧ cond false a b = b := ⟨rfl, rfl⟩
theorem Ys {α : Type} (a b : α) : cond true a b = a := (GJ a b).1
theorem Yn {α : Type} (a b : α) : cond false a b = b := (GJ a b).2
/-- a side condition that is found by itself -/
theorem sd {a b : Prop} (h : b) (k : a := by (intros; first | omega | (simp only [decide_eq_true_eq, decide_eq_false_iff_not, beq_iff_eq, beq_eq_false_iff_ne, bne_iff_ne, ne_eq, Bool.or_eq_false_iff, Bool.or_eq_true, Bool.and_eq_true, Bool.not_eq_true', Bool.not_eq_false'] at *; omega) | ((try simp only [Go.Mo.WQ, show ∀ x, Go.IntKind.i64.wrap x = Go.Vm.W x from fun _ => rfl] at *); omega))) : a ∧ b := ⟨k, h⟩
theorem sdg {a b : Prop} (h : b) (k : a := by (intros; first | omega | (simp_all; done) | (simp_all; omega) | grind | ((try simp only [Go.Mo.WQ, show ∀ x, Go.IntKind.i64.wrap x = Go.Vm.W x from fun _ => rfl] at *); omega))) : a ∧ b := ⟨k, h⟩
theorem il {a b : Nat} (h : a < b := by first | omega | (simp only [decide_eq_true_eq, decide_eq_false_iff_not, beq_iff_eq, beq_eq_false_iff_ne, bne_iff_ne, ne_eq, Bool.or_eq_false_iff, Bool.not_eq_true', Bool.not_eq_false'] at *; omega) | (simp_all [List.length_pos_iff]; done) | (simp; omega) | (simp_all; omega) | ((try simp only [Go.Mo.WQ, show ∀ x, Go.IntKind.i64.wrap x = Go.Vm.W x from fun _ => rfl] at *); omega) | (simp; (try simp only [Go.Mo.WQ, show ∀ x, Go.IntKind.i64.wrap x = Go.Vm.W x from fun _ => rfl] at *); omega)) : a < b := h
theorem ik {α : Type} (a : Nat) (l : List α) (h : a < l.length := by first | omega | (simp only [decide_eq_true_eq, decide_eq_false_iff_not, beq_iff_eq, beq_eq_false_iff_ne, bne_iff_ne, ne_eq, Bool.or_eq_false_iff, Bool.not_eq_true', Bool.not_eq_false'] at *; omega) | (simp_all [List.length_pos_iff]; done) | (simp; omega) | (simp_all; omega) | ((try simp only [Go.Mo.WQ, show ∀ x, Go.IntKind.i64.wrap x = Go.Vm.W x from fun _ => rfl] at *); omega) | (simp; (try simp only [Go.Mo.WQ, show ∀ x, Go.IntKind.i64.wrap x = Go.Vm.W x from fun _ => rfl] at *); omega)) : a < l.length := h
theorem sl {α : Type} [Inhabited α] [Sz α] (n : Nat) (l : List α) {q : Prop} (u : q) (h : q → Sm n l := by (intro u; simp (maxDischargeDepth := 12) [u])) : l.length ≤ n := JQ (h u)
theorem sg {α : Type} [Inhabited α] [Sz α] {n m : Nat} {x : α} (h : Sm n x) (k : n ≤ m := by decide) : Sm m x := YO k h
theorem MI {α : Type} (c : α → Nat) : ∀ (l : List α) (i : Nat) (x : α), cnL c (l.set i x) ≤ cnL c l + c x
  | [], _, _ => by simp [cnL]
  | y :: l, 0, x => by simp only [List.set_cons_zero, cnL]; omega
  | y :: l, i + 1, x => by have := MI c l i x; simp only [List.set_cons_succ, cnL]; omega
theorem Mu {α : Type} [Inhabited α] (c : α → Nat) : ∀ (l : List α) (i : Nat), c (Vm.nth l i) ≤ cnL c l + c default
  | [], _ => by simp [Vm.nth, cnL]
  | y :: l, 0 => by simp only [Vm.nth, List.getD_cons_zero, cnL]; omega
  | y :: l, i + 1 => by have := Mu c l i; simp only [Vm.nth, List.getD_cons_succ, cnL] at this ⊢; omega
theorem RO {α : Type} (c : α → Nat) : ∀ (l m : List α), cnL c (l ++ m) = cnL c l + cnL c m
  | [], m => by simp [cnL]
  | y :: l, m => by have := RO c l m; simp only [List.cons_append, cnL]; omega
theorem G0 {α : Type} [Inhabited α] {l : List α} {i : Nat} (h : i < l.length) : l.drop i = Vm.nth l i :: l.drop (i + 1) := by
  rw [List.drop_eq_getElem_cons h]; simp [Vm.nth, List.getD_eq_getElem?_getD, List.getElem?_eq_getElem h]
theorem Pp {α β : Type} [Inhabited α] {as : List α} (f : α → List β) {F : Nat → Nat → List β → List β} (h1 : ∀ n i l, F (n + 1) i l = bif decide ((i : Int) < (as.length : Int)) then F n (i + 1) (l ++ f (Vm.nth as i)) else l) : ∀ n i l, as.length < n + i → i ≤ as.length → F n i l = l ++ (as.drop i).flatMap f
  | 0, i, l, h, h2 => by omega
  | n + 1, i, l, h, h2 => by
    rw [h1]
    by_cases hi : i < as.length
    · rw [show decide ((i : Int) < (as.length : Int)) = true by simpa using hi, Ys, Pp f h1 n (i + 1) _ (by omega) hi, G0 hi]; simp
    · rw [show decide ((i : Int) < (as.length : Int)) = false by simpa using hi, Yn, List.drop_eq_nil_of_le (by omega)]; simp
theorem Rg {α β : Type} (f : α → β) : ∀ l : List α, l.flatMap (fun a => [f a]) = l.map f
  | [] => rfl
  | x :: l => by rw [List.flatMap_cons, Rg f l]; rfl
end Go.Mo
