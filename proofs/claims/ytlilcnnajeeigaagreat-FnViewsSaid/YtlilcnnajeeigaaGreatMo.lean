/- The plain data of the program, typed, and uX they read as rows of the abstract machine. No condition. -/
import Derived.Test.YtlilcnnajeeigaaGreatVe
import Derived.Laws.BitsLemmas
namespace Go.Mo
open Go.Vm
@[simp] def iR (n : Int) : List Vm.D := [.int .i64 n]
@[simp] def bR (b : UInt8) : List Vm.D := [.int .u8 (b.toNat : Int)]
@[simp] def lR (b : Bool) : List Vm.D := [.bool b]
@[simp] def sR (s : ByteArray) : List Vm.D := [.str s]
@[simp] def slR {α : Type} (n : Nat) (f : α -> List D) (m : List α) : List Vm.D := [.sl n (m.map f)]
/-- everything in it is at most so long -/
class Sz (α : Type) [Inhabited α] where
  sm : Nat -> α -> Prop
  zero : ∀ n, sm n default
  mono : ∀ {n m : Nat} {x : α}, n <= m -> sm n x -> sm m x
/-- uX many marks it takes -/
class Cn (α : Type) where
  cn : α -> Nat
abbrev cn {α : Type} [Cn α] (x : α) : Nat := Cn.cn x
def cnL {α : Type} (c : α -> Nat) : List α -> Nat
  | [] => 0
  | x :: l => c x + cnL c l
instance : Cn Int := ⟨fun _ => 1⟩
instance : Cn Bool := ⟨fun _ => 1⟩
instance : Cn UInt8 := ⟨fun _ => 1⟩
instance : Cn ByteArray := ⟨fun _ => 1⟩
instance {α : Type} [Cn α] : Cn (List α) := ⟨cnL Cn.cn⟩
abbrev Sm {α : Type} [Inhabited α] [Sz α] (n : Nat) (x : α) : Prop := Sz.sm n x
instance : Sz Int := ⟨fun _ _ => True, fun _ => trivial, fun _ h => h⟩
instance : Sz Bool := ⟨fun _ _ => True, fun _ => trivial, fun _ h => h⟩
instance : Sz UInt8 := ⟨fun _ _ => True, fun _ => trivial, fun _ h => h⟩
instance : Sz ByteArray := ⟨fun n s => s.size <= n, fun _ => Nat.zero_le _, fun h k => Nat.le_trans k h⟩
instance {α : Type} [Inhabited α] [Sz α] : Sz (List α) := ⟨fun n l => l.length <= n /\ ∀ x ∈ l, Sz.sm n x, fun _ => ⟨Nat.zero_le _, fun _ h => by cases h⟩, fun h k => ⟨Nat.le_trans k.1 h, fun x hx => Sz.mono h (k.2 x hx)⟩⟩
theorem Ye {α : Type} [Inhabited α] [Sz α] {n : Nat} {l : List α} : Sm n l = (l.length <= n /\ ∀ x ∈ l, Sm n x) := rfl
theorem Yf {α : Type} [Inhabited α] [Sz α] {n : Nat} {l : List α} (h : Sm n l) : l.length <= n := h.1
theorem Mg {n : Nat} {s : ByteArray} (h : Sm n s) : s.size <= n := h
@[simp] theorem Dl {n : Nat} {x : Int} : Sm n x := trivial
@[simp] theorem Dc {n : Nat} {x : Bool} : Sm n x := trivial
@[simp] theorem D0 {n : Nat} {x : UInt8} : Sm n x := trivial
@[simp] theorem Ex {α : Type} [Inhabited α] [Sz α] {n : Nat} : Sm n ([] : List α) := ⟨Nat.zero_le _, fun _ h => by cases h⟩
@[simp] theorem Z2 {α : Type} [Inhabited α] [Sz α] {n i : Nat} {l : List α} (h : Sm n l) : Sm n (nth l i) := by
  unfold nth
  rw [List.getD_eq_getElem?_getD]
  cases hh : l[i]? with
  | none => exact Sz.zero n
  | some x => exact h.2 x (List.mem_of_getElem? hh)
@[simp] theorem F0 {α : Type} [Inhabited α] [Sz α] {n i : Nat} {l : List α} (h : Sm n l) : Sm n (l.take i) := ⟨Nat.le_trans (by simp; omega) h.1, fun x hx => h.2 x (List.mem_of_mem_take hx)⟩
@[simp] theorem Dd {α : Type} [Inhabited α] [Sz α] {n i : Nat} {l : List α} (h : Sm n l) : Sm n (l.drop i) := ⟨Nat.le_trans (by simp) h.1, fun x hx => h.2 x (List.mem_of_mem_drop hx)⟩
theorem XA {α : Type} [Inhabited α] [Sz α] {n : Nat} {l m : List α} : Sm n (l ++ m) = (l.length + m.length <= n /\ (∀ x ∈ l, Sm n x) /\ ∀ x ∈ m, Sm n x) := by
  rw [Ye]; simp [or_imp, forall_and]
theorem ZN {α : Type} [Inhabited α] [Sz α] {n m : Nat} {x : α} (h : n <= m) (k : Sm n x) : Sm m x := Sz.mono h k
structure ZV where
  Authority : Int
  Seq : Int
  Time : Int
  XC : Int
  Mark : Int
  deriving Inhabited, DecidableEq
@[simp] def ZV.row (x : ZV) : List Vm.D := [.int .i64 x.Authority, .int .i64 x.Seq, .int .i64 x.Time, .int .i64 x.XC, .int .i64 x.Mark]
instance : Cn ZV := ⟨fun x => cn x.Authority + cn x.Seq + cn x.Time + cn x.XC + cn x.Mark⟩
instance : Sz ZV := ⟨fun _ _ => True, fun _ => trivial, fun _ h => h⟩
@[simp] theorem ZV.kF {n : Nat} {x : ZV} : Sm n x := trivial
structure Yl where
  XC : Int
  Left : Bool
  deriving Inhabited, DecidableEq
@[simp] def Yl.row (x : Yl) : List Vm.D := [.int .i64 x.XC, .bool x.Left]
instance : Cn Yl := ⟨fun x => cn x.XC + cn x.Left⟩
instance : Sz Yl := ⟨fun _ _ => True, fun _ => trivial, fun _ h => h⟩
@[simp] theorem Yl.kF {n : Nat} {x : Yl} : Sm n x := trivial
structure ZK where
  Count : Int
  Method : Int
  LA : Int
  Path : List Yl
  Z7 : List ZV
  deriving Inhabited, DecidableEq
@[simp] def ZK.row (x : ZK) : List Vm.D := [.int .i64 x.Count, .int .i64 x.Method, .int .i64 x.LA, .sl 2 (x.Path.map Yl.row), .sl 5 (x.Z7.map ZV.row)]
instance : Cn ZK := ⟨fun x => cn x.Count + cn x.Method + cn x.LA + cn x.Path + cn x.Z7⟩
instance : Sz ZK := ⟨fun n x => Sm n x.Path /\ Sm n x.Z7, fun n => ⟨Sz.zero n, Sz.zero n⟩, fun h k => ⟨Sz.mono h k.1, Sz.mono h k.2⟩⟩
@[simp] theorem ZK.Df {n : Nat} {x : ZK} (h : Sm n x) : Sm n x.Path := h.1
@[simp] theorem ZK.Nk {n : Nat} {x : ZK} (h : Sm n x) : Sm n x.Z7 := h.2
@[simp] theorem ZK.kZ {n : Nat} {oI : Int} {pG : Int} {nf : Int} {pX : List Yl} {sP : List ZV} : Sm n (ZK.mk oI pG nf pX sP) = (Sm n pX /\ Sm n sP) := rfl
structure YJ where
  Number : Int
  yU : Int
  Method : Int
  Hq : Int
  Vl : Int
  deriving Inhabited, DecidableEq
@[simp] def YJ.row (x : YJ) : List Vm.D := [.int .i64 x.Number, .int .i64 x.yU, .int .i64 x.Method, .int .i64 x.Hq, .int .i64 x.Vl]
instance : Cn YJ := ⟨fun x => cn x.Number + cn x.yU + cn x.Method + cn x.Hq + cn x.Vl⟩
instance : Sz YJ := ⟨fun _ _ => True, fun _ => trivial, fun _ h => h⟩
@[simp] theorem YJ.kF {n : Nat} {x : YJ} : Sm n x := trivial
structure ZP where
  Id : Int
  Key : Int
  Error : Int
  deriving Inhabited, DecidableEq
@[simp] def ZP.row (x : ZP) : List Vm.D := [.int .i64 x.Id, .int .i64 x.Key, .int .i64 x.Error]
instance : Cn ZP := ⟨fun x => cn x.Id + cn x.Key + cn x.Error⟩
instance : Sz ZP := ⟨fun _ _ => True, fun _ => trivial, fun _ h => h⟩
@[simp] theorem ZP.kF {n : Nat} {x : ZP} : Sm n x := trivial
structure YV where
  Id : Int
  NW : Int
  Ends : Int
  T1 : Int
  deriving Inhabited, DecidableEq
@[simp] def YV.row (x : YV) : List Vm.D := [.int .i64 x.Id, .int .i64 x.NW, .int .i64 x.Ends, .int .i64 x.T1]
instance : Cn YV := ⟨fun x => cn x.Id + cn x.NW + cn x.Ends + cn x.T1⟩
instance : Sz YV := ⟨fun _ _ => True, fun _ => trivial, fun _ h => h⟩
@[simp] theorem YV.kF {n : Nat} {x : YV} : Sm n x := trivial
structure ZW where
  JW : List YJ
  Z6 : List ZP
  Methods : List YV
  xh : Int
  Now : Int
  deriving Inhabited, DecidableEq
@[simp] def ZW.row (x : ZW) : List Vm.D := [.sl 5 (x.JW.map YJ.row), .sl 3 (x.Z6.map ZP.row), .sl 4 (x.Methods.map YV.row), .int .i64 x.xh, .int .i64 x.Now]
instance : Cn ZW := ⟨fun x => cn x.JW + cn x.Z6 + cn x.Methods + cn x.xh + cn x.Now⟩
instance : Sz ZW := ⟨fun n x => Sm n x.JW /\ Sm n x.Z6 /\ Sm n x.Methods, fun n => ⟨Sz.zero n, Sz.zero n, Sz.zero n⟩, fun h k => ⟨Sz.mono h k.1, Sz.mono h k.2.1, Sz.mono h k.2.2⟩⟩
@[simp] theorem ZW.Yz {n : Nat} {x : ZW} (h : Sm n x) : Sm n x.JW := h.1
@[simp] theorem ZW.yC {n : Nat} {x : ZW} (h : Sm n x) : Sm n x.Z6 := h.2.1
@[simp] theorem ZW.Yn {n : Nat} {x : ZW} (h : Sm n x) : Sm n x.Methods := h.2.2
@[simp] theorem ZW.kZ {n : Nat} {pY : List YJ} {v5 : List ZP} {vm : List YV} {oJ : Int} {lU : Int} : Sm n (ZW.mk pY v5 vm oJ lU) = (Sm n pY /\ Sm n v5 /\ Sm n vm) := rfl
structure YR where
  Zv : Int
  Key : Int
  yU : Int
  Ys : Int
  To : Int
  Yo : Int
  Mark : Int
  deriving Inhabited, DecidableEq
@[simp] def YR.row (x : YR) : List Vm.D := [.int .i64 x.Zv, .int .i64 x.Key, .int .i64 x.yU, .int .i64 x.Ys, .int .i64 x.To, .int .i64 x.Yo, .int .i64 x.Mark]
instance : Cn YR := ⟨fun x => cn x.Zv + cn x.Key + cn x.yU + cn x.Ys + cn x.To + cn x.Yo + cn x.Mark⟩
instance : Sz YR := ⟨fun _ _ => True, fun _ => trivial, fun _ h => h⟩
@[simp] theorem YR.kF {n : Nat} {x : YR} : Sm n x := trivial
structure ZM where
  QF : Int
  Zd : List ByteArray
  Yh : List Int
  deriving Inhabited, DecidableEq
@[simp] def ZM.row (x : ZM) : List Vm.D := [.int .i64 x.QF, .sl 1 (x.Zd.map sR), .sl 1 (x.Yh.map iR)]
instance : Cn ZM := ⟨fun x => cn x.QF + cn x.Zd + cn x.Yh⟩
instance : Sz ZM := ⟨fun n x => Sm n x.Zd /\ Sm n x.Yh, fun n => ⟨Sz.zero n, Sz.zero n⟩, fun h k => ⟨Sz.mono h k.1, Sz.mono h k.2⟩⟩
@[simp] theorem ZM.qb {n : Nat} {x : ZM} (h : Sm n x) : Sm n x.Zd := h.1
@[simp] theorem ZM.PK {n : Nat} {x : ZM} (h : Sm n x) : Sm n x.Yh := h.2
@[simp] theorem ZM.kZ {n : Nat} {sF : Int} {uf : List ByteArray} {ug : List Int} : Sm n (ZM.mk sF uf ug) = (Sm n uf /\ Sm n ug) := rfl
structure ZX where
  Key : Int
  Zv : Int
  Method : Int
  XC : Int
  jk : Int
  Org : Int
  jt : Int
  ja : Int
  Mark : Int
  deriving Inhabited, DecidableEq
@[simp] def ZX.row (x : ZX) : List Vm.D := [.int .i64 x.Key, .int .i64 x.Zv, .int .i64 x.Method, .int .i64 x.XC, .int .i64 x.jk, .int .i64 x.Org, .int .i64 x.jt, .int .i64 x.ja, .int .i64 x.Mark]
instance : Cn ZX := ⟨fun x => cn x.Key + cn x.Zv + cn x.Method + cn x.XC + cn x.jk + cn x.Org + cn x.jt + cn x.ja + cn x.Mark⟩
instance : Sz ZX := ⟨fun _ _ => True, fun _ => trivial, fun _ h => h⟩
@[simp] theorem ZX.kF {n : Nat} {x : ZX} : Sm n x := trivial
structure ZE where
  Key : Int
  Z0 : List Int
  Mark : Int
  deriving Inhabited, DecidableEq
@[simp] def ZE.row (x : ZE) : List Vm.D := [.int .i64 x.Key, .sl 1 (x.Z0.map iR), .int .i64 x.Mark]
instance : Cn ZE := ⟨fun x => cn x.Key + cn x.Z0 + cn x.Mark⟩
instance : Sz ZE := ⟨fun n x => Sm n x.Z0, fun n => Sz.zero n, fun h k => Sz.mono h k⟩
@[simp] theorem ZE.WB {n : Nat} {x : ZE} (h : Sm n x) : Sm n x.Z0 := h
@[simp] theorem ZE.kZ {n : Nat} {lV : Int} {pZ : List Int} {ng : Int} : Sm n (ZE.mk lV pZ ng) = (Sm n pZ) := rfl
structure ZG where
  ZO : List ZE
  ZJ : List ZK
  deriving Inhabited, DecidableEq
@[simp] def ZG.row (x : ZG) : List Vm.D := [.sl 3 (x.ZO.map ZE.row), .sl 5 (x.ZJ.map ZK.row)]
instance : Cn ZG := ⟨fun x => cn x.ZO + cn x.ZJ⟩
instance : Sz ZG := ⟨fun n x => Sm n x.ZO /\ Sm n x.ZJ, fun n => ⟨Sz.zero n, Sz.zero n⟩, fun h k => ⟨Sz.mono h k.1, Sz.mono h k.2⟩⟩
@[simp] theorem ZG.XJ {n : Nat} {x : ZG} (h : Sm n x) : Sm n x.ZO := h.1
@[simp] theorem ZG.KB {n : Nat} {x : ZG} (h : Sm n x) : Sm n x.ZJ := h.2
@[simp] theorem ZG.kZ {n : Nat} {sQ : List ZE} {rV : List ZK} : Sm n (ZG.mk sQ rV) = (Sm n sQ /\ Sm n rV) := rfl
structure Zp where
  Id : Int
  Y0 : Int
  Doc : ZM
  Sig : ZX
  XM : ZG
  deriving Inhabited, DecidableEq
@[simp] def Zp.row (x : Zp) : List Vm.D := [.int .i64 x.Id, .int .i64 x.Y0, .int .i64 x.Doc.QF, .sl 1 (x.Doc.Zd.map sR), .sl 1 (x.Doc.Yh.map iR), .int .i64 x.Sig.Key, .int .i64 x.Sig.Zv, .int .i64 x.Sig.Method, .int .i64 x.Sig.XC, .int .i64 x.Sig.jk, .int .i64 x.Sig.Org, .int .i64 x.Sig.jt, .int .i64 x.Sig.ja, .int .i64 x.Sig.Mark, .sl 3 (x.XM.ZO.map ZE.row), .sl 5 (x.XM.ZJ.map ZK.row)]
instance : Cn Zp := ⟨fun x => cn x.Id + cn x.Y0 + cn x.Doc + cn x.Sig + cn x.XM⟩
instance : Sz Zp := ⟨fun n x => Sm n x.Doc /\ Sm n x.XM, fun n => ⟨Sz.zero n, Sz.zero n⟩, fun h k => ⟨Sz.mono h k.1, Sz.mono h k.2⟩⟩
@[simp] theorem Zp.U1 {n : Nat} {x : Zp} (h : Sm n x) : Sm n x.Doc := h.1
@[simp] theorem Zp.Qk {n : Nat} {x : Zp} (h : Sm n x) : Sm n x.XM := h.2
@[simp] theorem Zp.kZ {n : Nat} {lW : Int} {nh : Int} {rW : ZM} {lX : ZX} {sS : ZG} : Sm n (Zp.mk lW nh rW lX sS) = (Sm n rW /\ Sm n sS) := rfl
structure Zf where
  Id : Int
  Zl : List Zp
  deriving Inhabited, DecidableEq
@[simp] def Zf.row (x : Zf) : List Vm.D := [.int .i64 x.Id, .sl 16 (x.Zl.map Zp.row)]
instance : Cn Zf := ⟨fun x => cn x.Id + cn x.Zl⟩
instance : Sz Zf := ⟨fun n x => Sm n x.Zl, fun n => Sz.zero n, fun h k => Sz.mono h k⟩
@[simp] theorem Zf.KI {n : Nat} {x : Zf} (h : Sm n x) : Sm n x.Zl := h
@[simp] theorem Zf.kZ {n : Nat} {lW : Int} {uh : List Zp} : Sm n (Zf.mk lW uh) = (Sm n uh) := rfl
structure JL where
  Frame : ZW
  HX : List YR
  yb : List Int
  U7 : List Zf
  F5 : List Int
  HN : List Int
  Next : Int
  N8 : List Int
  deriving Inhabited, DecidableEq
@[simp] def JL.row (x : JL) : List Vm.D := [.sl 5 (x.Frame.JW.map YJ.row), .sl 3 (x.Frame.Z6.map ZP.row), .sl 4 (x.Frame.Methods.map YV.row), .int .i64 x.Frame.xh, .int .i64 x.Frame.Now, .sl 7 (x.HX.map YR.row), .sl 1 (x.yb.map iR), .sl 2 (x.U7.map Zf.row), .sl 1 (x.F5.map iR), .sl 1 (x.HN.map iR), .int .i64 x.Next, .sl 1 (x.N8.map iR)]
instance : Cn JL := ⟨fun x => cn x.Frame + cn x.HX + cn x.yb + cn x.U7 + cn x.F5 + cn x.HN + cn x.Next + cn x.N8⟩
instance : Sz JL := ⟨fun n x => Sm n x.Frame /\ Sm n x.HX /\ Sm n x.yb /\ Sm n x.U7 /\ Sm n x.F5 /\ Sm n x.HN /\ Sm n x.N8, fun n => ⟨Sz.zero n, Sz.zero n, Sz.zero n, Sz.zero n, Sz.zero n, Sz.zero n, Sz.zero n⟩, fun h k => ⟨Sz.mono h k.1, Sz.mono h k.2.1, Sz.mono h k.2.2.1, Sz.mono h k.2.2.2.1, Sz.mono h k.2.2.2.2.1, Sz.mono h k.2.2.2.2.2.1, Sz.mono h k.2.2.2.2.2.2⟩⟩
@[simp] theorem JL.DX {n : Nat} {x : JL} (h : Sm n x) : Sm n x.Frame := h.1
@[simp] theorem JL.DC {n : Nat} {x : JL} (h : Sm n x) : Sm n x.HX := h.2.1
@[simp] theorem JL.DN {n : Nat} {x : JL} (h : Sm n x) : Sm n x.yb := h.2.2.1
@[simp] theorem JL.EK {n : Nat} {x : JL} (h : Sm n x) : Sm n x.U7 := h.2.2.2.1
@[simp] theorem JL.Di {n : Nat} {x : JL} (h : Sm n x) : Sm n x.F5 := h.2.2.2.2.1
@[simp] theorem JL.DB {n : Nat} {x : JL} (h : Sm n x) : Sm n x.HN := h.2.2.2.2.2.1
@[simp] theorem JL.E3 {n : Nat} {x : JL} (h : Sm n x) : Sm n x.N8 := h.2.2.2.2.2.2
@[simp] theorem JL.kZ {n : Nat} {rX : ZW} {rY : List YR} {rZ : List Int} {tC : List Zf} {pa : List Int} {ra : List Int} {ni : Int} {sT : List Int} : Sm n (JL.mk rX rY rZ tC pa ra ni sT) = (Sm n rX /\ Sm n rY /\ Sm n rZ /\ Sm n tC /\ Sm n pa /\ Sm n ra /\ Sm n sT) := rfl
structure kC where
  Kind : Int
  A : Int
  B : Int
  C : Int
  D : Int
  Doc : ZM
  Ids : List Int
  deriving Inhabited, DecidableEq
@[simp] def kC.row (x : kC) : List Vm.D := [.int .i64 x.Kind, .int .i64 x.A, .int .i64 x.B, .int .i64 x.C, .int .i64 x.D, .int .i64 x.Doc.QF, .sl 1 (x.Doc.Zd.map sR), .sl 1 (x.Doc.Yh.map iR), .sl 1 (x.Ids.map iR)]
instance : Cn kC := ⟨fun x => cn x.Kind + cn x.A + cn x.B + cn x.C + cn x.D + cn x.Doc + cn x.Ids⟩
instance : Sz kC := ⟨fun n x => Sm n x.Doc /\ Sm n x.Ids, fun n => ⟨Sz.zero n, Sz.zero n⟩, fun h k => ⟨Sz.mono h k.1, Sz.mono h k.2⟩⟩
@[simp] theorem kC.U1 {n : Nat} {x : kC} (h : Sm n x) : Sm n x.Doc := h.1
@[simp] theorem kC.Ds {n : Nat} {x : kC} (h : Sm n x) : Sm n x.Ids := h.2
@[simp] theorem kC.kZ {n : Nat} {nj : Int} {A' : Int} {B' : Int} {C' : Int} {D' : Int} {rW : ZM} {nk : List Int} : Sm n (kC.mk nj A' B' C' D' rW nk) = (Sm n rW /\ Sm n nk) := rfl
structure ZL where
  Ys : Int
  To : Int
  deriving Inhabited, DecidableEq
@[simp] def ZL.row (x : ZL) : List Vm.D := [.int .i64 x.Ys, .int .i64 x.To]
instance : Cn ZL := ⟨fun x => cn x.Ys + cn x.To⟩
instance : Sz ZL := ⟨fun _ _ => True, fun _ => trivial, fun _ h => h⟩
@[simp] theorem ZL.kF {n : Nat} {x : ZL} : Sm n x := trivial
structure Xe where
  Code : Int
  Reason : Int
  Span : ZL
  deriving Inhabited, DecidableEq
@[simp] def Xe.row (x : Xe) : List Vm.D := [.int .i64 x.Code, .int .i64 x.Reason, .int .i64 x.Span.Ys, .int .i64 x.Span.To]
instance : Cn Xe := ⟨fun x => cn x.Code + cn x.Reason + cn x.Span⟩
instance : Sz Xe := ⟨fun _ _ => True, fun _ => trivial, fun _ h => h⟩
@[simp] theorem Xe.kF {n : Nat} {x : Xe} : Sm n x := trivial
structure Zi where
  QF : Int
  Methods : List Int
  Shown : List Bool
  Zd : List ByteArray
  Yh : List Int
  Xu : List (List Int)
  deriving Inhabited, DecidableEq
@[simp] def Zi.row (x : Zi) : List Vm.D := [.int .i64 x.QF, .sl 1 (x.Methods.map iR), .sl 1 (x.Shown.map lR), .sl 1 (x.Zd.map sR), .sl 1 (x.Yh.map iR), .sl 1 (x.Xu.map (slR 1 iR))]
instance : Cn Zi := ⟨fun x => cn x.QF + cn x.Methods + cn x.Shown + cn x.Zd + cn x.Yh + cn x.Xu⟩
instance : Sz Zi := ⟨fun n x => Sm n x.Methods /\ Sm n x.Shown /\ Sm n x.Zd /\ Sm n x.Yh /\ Sm n x.Xu, fun n => ⟨Sz.zero n, Sz.zero n, Sz.zero n, Sz.zero n, Sz.zero n⟩, fun h k => ⟨Sz.mono h k.1, Sz.mono h k.2.1, Sz.mono h k.2.2.1, Sz.mono h k.2.2.2.1, Sz.mono h k.2.2.2.2⟩⟩
@[simp] theorem Zi.Yn {n : Nat} {x : Zi} (h : Sm n x) : Sm n x.Methods := h.1
@[simp] theorem Zi.Gd {n : Nat} {x : Zi} (h : Sm n x) : Sm n x.Shown := h.2.1
@[simp] theorem Zi.qb {n : Nat} {x : Zi} (h : Sm n x) : Sm n x.Zd := h.2.2.1
@[simp] theorem Zi.PK {n : Nat} {x : Zi} (h : Sm n x) : Sm n x.Yh := h.2.2.2.1
@[simp] theorem Zi.EY {n : Nat} {x : Zi} (h : Sm n x) : Sm n x.Xu := h.2.2.2.2
@[simp] theorem Zi.kZ {n : Nat} {sF : Int} {vm : List Int} {rb : List Bool} {uf : List ByteArray} {ug : List Int} {tX : List (List Int)} : Sm n (Zi.mk sF vm rb uf ug tX) = (Sm n vm /\ Sm n rb /\ Sm n uf /\ Sm n ug /\ Sm n tX) := rfl
structure Zb where
  ZZ : List ZG
  YI : List (List ZV)
  deriving Inhabited, DecidableEq
@[simp] def Zb.row (x : Zb) : List Vm.D := [.sl 2 (x.ZZ.map ZG.row), .sl 1 (x.YI.map (slR 5 ZV.row))]
instance : Cn Zb := ⟨fun x => cn x.ZZ + cn x.YI⟩
instance : Sz Zb := ⟨fun n x => Sm n x.ZZ /\ Sm n x.YI, fun n => ⟨Sz.zero n, Sz.zero n⟩, fun h k => ⟨Sz.mono h k.1, Sz.mono h k.2⟩⟩
@[simp] theorem Zb.Y7 {n : Nat} {x : Zb} (h : Sm n x) : Sm n x.ZZ := h.1
@[simp] theorem Zb.TK {n : Nat} {x : Zb} (h : Sm n x) : Sm n x.YI := h.2
@[simp] theorem Zb.kZ {n : Nat} {tY : List ZG} {re : List (List ZV)} : Sm n (Zb.mk tY re) = (Sm n tY /\ Sm n re) := rfl
structure Zn where
  Zv : Int
  O0 : Int
  yb : Int
  Yo : Int
  Mark : Int
  deriving Inhabited, DecidableEq
@[simp] def Zn.row (x : Zn) : List Vm.D := [.int .i64 x.Zv, .int .i64 x.O0, .int .i64 x.yb, .int .i64 x.Yo, .int .i64 x.Mark]
instance : Cn Zn := ⟨fun x => cn x.Zv + cn x.O0 + cn x.yb + cn x.Yo + cn x.Mark⟩
instance : Sz Zn := ⟨fun _ _ => True, fun _ => trivial, fun _ h => h⟩
@[simp] theorem Zn.kF {n : Nat} {x : Zn} : Sm n x := trivial
structure ZI where
  b : List UInt8
  i : Nat
  h : Int
  deriving Inhabited, DecidableEq
@[simp] def ZI.row (x : ZI) : List Vm.D := [.sl 1 (x.b.map bR), .int .i64 (x.i : Int), .int .i64 x.h]
instance : Sz ZI := ⟨fun n x => Sm n x.b, fun n => Sz.zero n, fun h k => Sz.mono h k⟩
@[simp] theorem ZI.Cb {n : Nat} {x : ZI} (h : Sm n x) : Sm n x.b := h
@[simp] theorem ZI.kZ {n : Nat} {b' : List UInt8} {i' : Nat} {h' : Int} : Sm n (ZI.mk b' i' h') = (Sm n b') := rfl
structure jY where
  Ys : Int
  To : Int
  Zl : List Zp
  XC : Int
  deriving Inhabited, DecidableEq
@[simp] def jY.row (x : jY) : List Vm.D := [.int .i64 x.Ys, .int .i64 x.To, .sl 16 (x.Zl.map Zp.row), .int .i64 x.XC]
instance : Cn jY := ⟨fun x => cn x.Ys + cn x.To + cn x.Zl + cn x.XC⟩
instance : Sz jY := ⟨fun n x => Sm n x.Zl, fun n => Sz.zero n, fun h k => Sz.mono h k⟩
@[simp] theorem jY.KI {n : Nat} {x : jY} (h : Sm n x) : Sm n x.Zl := h
@[simp] theorem jY.kZ {n : Nat} {nm : Int} {gj : Int} {uh : List Zp} {pH : Int} : Sm n (jY.mk nm gj uh pH) = (Sm n uh) := rfl
structure Zx where
  Org : Int
  jx : Int
  Ys : Int
  To : Int
  Key : Int
  Mark : Int
  deriving Inhabited, DecidableEq
@[simp] def Zx.row (x : Zx) : List Vm.D := [.int .i64 x.Org, .int .i64 x.jx, .int .i64 x.Ys, .int .i64 x.To, .int .i64 x.Key, .int .i64 x.Mark]
instance : Cn Zx := ⟨fun x => cn x.Org + cn x.jx + cn x.Ys + cn x.To + cn x.Key + cn x.Mark⟩
instance : Sz Zx := ⟨fun _ _ => True, fun _ => trivial, fun _ h => h⟩
@[simp] theorem Zx.kF {n : Nat} {x : Zx} : Sm n x := trivial
end Go.Mo
namespace Go.Mo
open Go.Vm
theorem SU {α : Type} [Inhabited α] {l : List α} {i : Nat} (h : i < l.length) : nth l i = l[i] := by simp [nth, h]
theorem ke {α : Type} [Inhabited α] {F : Nat -> List α -> Nat -> List α} {a : List α} {g : α -> α} (hg : ∀ x, g x = x)
    (h1 : ∀ n v i, F (n + 1) v i = bif decide ((i : Int) < (a.length : Int)) then F n (v ++ [g (nth a i)]) (i + 1) else v) :
    ∀ n v i, a.length < n + i -> i <= a.length -> F n v i = v ++ a.drop i := by
  intro n
  induction n with
  | zero => intro v i h2 h3; omega
  | succ n ih =>
    intro v i h2 h3
    rw [h1]
    by_cases hi : i < a.length
    · rw [show decide ((i : Int) < (a.length : Int)) = true by simp [hi], cond_true, ih _ _ (by omega) hi, hg, SU hi, List.append_assoc, List.singleton_append, <- List.drop_eq_getElem_cons hi]
    · rw [show decide ((i : Int) < (a.length : Int)) = false by simp; omega, cond_false, List.drop_eq_nil_of_le (by omega), List.append_nil]
theorem Tb {F : Nat -> Nat -> Sum Int Unit} {L : Nat} {c : Nat -> Bool} (h0 : ∀ i, F 0 i = .inr ())
    (h1 : ∀ n i, F (n + 1) i = bif decide ((i : Int) < (L : Int)) then (bif c i then .inl (i : Int) else F n (i + 1)) else .inr ()) :
    ∀ n i, (match F n i with | .inl r => r | .inr _ => -1) < (L : Int) := by
  intro n
  induction n with
  | zero => intro i; rw [h0]; show (-1 : Int) < _; omega
  | succ n ih =>
    intro i
    rw [h1]
    by_cases hi : (i : Int) < (L : Int)
    · rw [show decide ((i : Int) < (L : Int)) = true by simpa using hi, cond_true]
      cases hc : c i with
      | true => simpa using hi
      | false => exact ih (i + 1)
    · rw [show decide ((i : Int) < (L : Int)) = false by simpa using hi, cond_false]
      show (-1 : Int) < _; omega
theorem W1 {rows : List (List Vm.D)} {i : Nat} {r : List Vm.D} (h : i < rows.length) : Vm.rowAt (rows.set i r) i = r := by simp [Vm.rowAt, h]
theorem OB {α : Type} {p : α -> Prop} {l : List α} {i : Nat} {a : α} (h1 : ∀ x ∈ l, p x) (h2 : p a) : ∀ x ∈ l.set i a, p x := by
  intro x hx
  rcases List.mem_or_eq_of_mem_set hx with h | h
  · exact h1 x h
  · rw [h]; exact h2
theorem ZR {α : Type} {p : α -> Prop} {c : Bool} {x y : α} (hx : p x) (hy : p y) : p (bif c then x else y) := by cases c; exact hy; exact hx
theorem jV {α : Type} {p : α -> Prop} {c : Bool} {x y : α} (hx : c = true -> p x) (hy : c = false -> p y) : p (bif c then x else y) := by cases c; exact hy rfl; exact hx rfl
theorem PI {α : Type} {F : Nat -> List α -> Nat -> List α} {L : Nat} {c : Nat -> Bool} {g : Nat -> α} (h0 : ∀ v i, F 0 v i = [])
    (h1 : ∀ n v i, F (n + 1) v i = bif decide ((i : Int) < (L : Int)) then (bif c i then F n (v ++ [g i]) (i + 1) else F n v (i + 1)) else v) : ∀ n v i, (F n v i).length <= v.length + (L - i) := by
  intro n
  induction n with
  | zero => intro v i; rw [h0]; simp
  | succ n ih =>
    intro v i
    rw [h1]
    by_cases hi : i < L
    · rw [show decide ((i : Int) < (L : Int)) = true by simp [hi], cond_true]
      cases c i with
      | true => have := ih (v ++ [g i]) (i + 1); rw [cond_true]; simp at this; omega
      | false => have := ih v (i + 1); rw [cond_false]; omega
    · rw [show decide ((i : Int) < (L : Int)) = false by simp; omega, cond_false]; omega
end Go.Mo
namespace Go.Mo
open Go.Vm
end Go.Mo
namespace Go.Mo
open Go.Vm
theorem Yw (n : Int) : W n = (n + 9223372036854775808) % 18446744073709551616 - 9223372036854775808 := IntKind.wrap_i64 n
end Go.Mo
namespace Go.Mo
open Go.Vm
theorem II {α : Type} [Inhabited α] [Sz α] {f : α -> List D} {n : Nat} : ∀ {rows : List (List D)}, (∀ r, r ∈ rows -> ∃ x : α, r = f x /\ Sm n x) -> ∃ l : List α, rows = l.map f /\ ∀ x ∈ l, Sm n x
  | [], _ => ⟨[], rfl, fun _ h => by cases h⟩
  | r :: rows, h => by
    obtain ⟨x, hx, sx⟩ := h r (by simp)
    obtain ⟨l, hl, sl⟩ := II (rows := rows) (fun r hr => h r (by simp [hr]))
    refine ⟨x :: l, by simp [hx, hl], fun y hy => ?_⟩
    rcases List.mem_cons.1 hy with rfl | hy
    · exact sx
    · exact sl y hy
end Go.Mo
namespace Go.Mo
open Go.Vm
theorem HD {P : Program} {n : Nat} {t : TypeId} {ts : List TypeId} : ∀ {rows : List (List D)}, Nu P n (t :: ts) rows -> ∃ r rs, rows = r :: rs /\ TyR P n t r /\ Nu P n ts rs
  | r :: rs, h => ⟨r, rs, rfl, h.1, h.2⟩
  | [], h => h.elim
theorem Hz {P : Program} {n : Nat} : ∀ {rows : List (List D)}, Nu P n [] rows -> rows = []
  | [], _ => rfl
  | _ :: _, h => h.elim
end Go.Mo
namespace Go.Mo
open Go.Vm
@[simp] theorem HU (l : List UInt8) : QE l = l.map bR := rfl
@[simp] theorem DK (x : Int) : ((UInt8.ofInt x).toNat : Int) = IntKind.u8.wrap x := by
  rw [IntKind.wrap_u8]
  simp [UInt8.ofInt]
  omega
theorem G8 (x : Int) : (W (Int.tdiv x 10)).natAbs <= 9223372036854775808 /\ (W (Int.tdiv x 10)).natAbs <= x.natAbs / 10 := by
  rw [Yw]
  have : (Int.tdiv x 10).natAbs = x.natAbs / 10 := by rw [Int.natAbs_tdiv]; rfl
  omega
theorem Gu {x : Int} {n : Nat} (h : n + 1 = 21 \/ x.natAbs < 10 ^ (n + 1)) : (W (Int.tdiv x 10)).natAbs < 10 ^ n := by
  obtain ⟨h1, h2⟩ := G8 x
  rcases h with h | h
  · have : n = 20 := by omega
    subst this
    have : (10 : Nat) ^ 20 = 100000000000000000000 := by decide
    omega
  · rw [Nat.pow_succ] at h; omega
end Go.Mo
namespace Go.Mo
open Go.Vm
theorem EU {p : Nat} {x : Int} (hj : p + 1 = 21 \/ x.natAbs < 10 ^ (p + 1)) (hx : ((W (Int.tdiv x 10)) == 0) = false) : 1 <= p /\ (p = 21 \/ (W (Int.tdiv x 10)).natAbs < 10 ^ p) := by
  have hx : W (Int.tdiv x 10) ≠ 0 := by simpa using hx
  have h := Gu hj
  refine ⟨?_, .inr h⟩
  rcases Nat.eq_zero_or_pos p with hz | hz
  · subst hz; simp at h; exact absurd h hx
  · exact hz
end Go.Mo
namespace Go.Mo
open Go.Vm
@[simp] theorem DS {α : Type} {l : List α} {n : Nat} (h : l.length <= n) : List.take n l = l := List.take_of_length_le h
@[simp] theorem F2 {α β : Type} (f : α -> β) (l : List α) : List.take l.length (List.map f l) = List.map f l := List.take_of_length_le (by simp)
@[simp] theorem EF (n : Nat) : 1 + n = n + 1 := Nat.add_comm 1 n
@[simp] theorem Dh {α β : Type} (f : α -> β) (l : List α) (x y : β) : List.take (2 + l.length) (x :: y :: List.map f l) = x :: y :: List.map f l := List.take_of_length_le (by simp; omega)
@[simp] theorem De {α β : Type} (f : α -> β) (l : List α) (x y z : β) : List.take (3 + l.length) (x :: y :: z :: List.map f l) = x :: y :: z :: List.map f l := List.take_of_length_le (by simp; omega)
@[simp] theorem Db {α β : Type} (f : α -> β) (l : List α) (x y z u : β) : List.take (4 + l.length) (x :: y :: z :: u :: List.map f l) = x :: y :: z :: u :: List.map f l := List.take_of_length_le (by simp; omega)
@[simp] theorem DZ {α β : Type} (f : α -> β) (l : List α) (x y z u v : β) : List.take (5 + l.length) (x :: y :: z :: u :: v :: List.map f l) = x :: y :: z :: u :: v :: List.map f l := List.take_of_length_le (by simp; omega)
@[simp] theorem Dg {α β : Type} (f : α -> β) (l : List α) (x y z u v w : β) : List.take (6 + l.length) (x :: y :: z :: u :: v :: w :: List.map f l) = x :: y :: z :: u :: v :: w :: List.map f l := List.take_of_length_le (by simp; omega)
theorem PZ (n : Nat) (h : n <= 9223372036854775807) : W ((n : Int) - 1) = (n : Int) - 1 := YS (by omega) (by omega)
end Go.Mo
namespace Go.Mo
@[simp] theorem DY (a : Array UInt8) : (ByteArray.mk a).size = a.size := rfl
@[simp] theorem E8 {α : Type} {l : List α} {x : α} {v n : Nat} (h : l.length = n) : List.take (min v n + 1 + (n - v)) (List.take v l ++ x :: List.drop v l) = List.take v l ++ x :: List.drop v l := by
  apply List.take_of_length_le; simp; omega
@[simp] theorem Da (a b : Nat) : (min a b + 1 + (b - a) = min a b + (b - a + 1)) = True := by simp; omega
theorem Ml {α : Type} [Inhabited α] [Sz α] {n i : Nat} {l : List α} {x : α} (h : Sm n l) (hx : Sm n x) : Sm n (l.set i x) :=
  ⟨by simpa using h.1, fun y hy => by
    rcases List.mem_or_eq_of_mem_set hy with hy | rfl
    · exact h.2 y hy
    · exact hx⟩
theorem HT {α : Type} (a b : α) : cond true a b = a /\ cond false a b = b := ⟨rfl, rfl⟩
theorem zS {α : Type} (a b : α) : cond true a b = a := (HT a b).1
theorem Qi {α : Type} (a b : α) : cond false a b = b := (HT a b).2
/-- a side condition that is found by itself -/
theorem sd {a b : Prop} (h : b) (k : a := by (intros; first | omega | (simp only [decide_eq_true_eq, decide_eq_false_iff_not, beq_iff_eq, beq_eq_false_iff_ne, bne_iff_ne, ne_eq, Bool.or_eq_false_iff, Bool.or_eq_true, Bool.and_eq_true, Bool.not_eq_true', Bool.not_eq_false'] at *; omega) | ((try simp only [Go.Mo.Yw, show ∀ x, Go.IntKind.i64.wrap x = Go.Vm.W x from fun _ => rfl] at *); omega))) : a /\ b := ⟨k, h⟩
theorem sdg {a b : Prop} (h : b) (k : a := by (intros; first | omega | (simp_all; done) | (simp_all; omega) | grind | ((try simp only [Go.Mo.Yw, show ∀ x, Go.IntKind.i64.wrap x = Go.Vm.W x from fun _ => rfl] at *); omega))) : a /\ b := ⟨k, h⟩
theorem il {a b : Nat} (h : a < b := by first | omega | (simp only [decide_eq_true_eq, decide_eq_false_iff_not, beq_iff_eq, beq_eq_false_iff_ne, bne_iff_ne, ne_eq, Bool.or_eq_false_iff, Bool.not_eq_true', Bool.not_eq_false'] at *; omega) | (simp_all [List.length_pos_iff]; done) | (simp; omega) | (simp_all; omega) | ((try simp only [Go.Mo.Yw, show ∀ x, Go.IntKind.i64.wrap x = Go.Vm.W x from fun _ => rfl] at *); omega) | (simp; (try simp only [Go.Mo.Yw, show ∀ x, Go.IntKind.i64.wrap x = Go.Vm.W x from fun _ => rfl] at *); omega)) : a < b := h
theorem ik {α : Type} (a : Nat) (l : List α) (h : a < l.length := by first | omega | (simp only [decide_eq_true_eq, decide_eq_false_iff_not, beq_iff_eq, beq_eq_false_iff_ne, bne_iff_ne, ne_eq, Bool.or_eq_false_iff, Bool.not_eq_true', Bool.not_eq_false'] at *; omega) | (simp_all [List.length_pos_iff]; done) | (simp; omega) | (simp_all; omega) | ((try simp only [Go.Mo.Yw, show ∀ x, Go.IntKind.i64.wrap x = Go.Vm.W x from fun _ => rfl] at *); omega) | (simp; (try simp only [Go.Mo.Yw, show ∀ x, Go.IntKind.i64.wrap x = Go.Vm.W x from fun _ => rfl] at *); omega)) : a < l.length := h
theorem sl {α : Type} [Inhabited α] [Sz α] (n : Nat) (l : List α) {q : Prop} (u : q) (h : q -> Sm n l := by (intro u; simp (maxDischargeDepth := 12) [u])) : l.length <= n := Yf (h u)
theorem sg {α : Type} [Inhabited α] [Sz α] {n m : Nat} {x : α} (h : Sm n x) (k : n <= m := by decide) : Sm m x := ZN k h
theorem Hs {α : Type} [Inhabited α] {l : List α} {i : Nat} (h : i < l.length) : l.drop i = Vm.nth l i :: l.drop (i + 1) := by
  rw [List.drop_eq_getElem_cons h]; simp [Vm.nth, List.getD_eq_getElem?_getD, List.getElem?_eq_getElem h]
theorem Hw {α : Type} [Inhabited α] (c : α -> Nat) {l : List α} {i : Nat} (h : i < l.length) : cnL c (l.drop i) = c (Vm.nth l i) + cnL c (l.drop (i + 1)) := by rw [Hs h]; rfl
theorem Ia {l : List ByteArray} {m : Nat} (h : ∀ x ∈ l, x.size <= m) (i : Nat) : (Vm.nth l i).size <= m := by
  by_cases hi : i < l.length
  · rw [show Vm.nth l i = l[i] by simp [Vm.nth, List.getD_eq_getElem?_getD, List.getElem?_eq_getElem hi]]; exact h _ (List.getElem_mem hi)
  · rw [show Vm.nth l i = default by simp [Vm.nth, List.getD_eq_getElem?_getD, List.getElem?_eq_none (Nat.le_of_not_lt hi)]]; exact Nat.zero_le _
theorem R7 {α : Type} {p : α -> Prop} {l m : List α} (h : ∀ x ∈ l, p x) (k : ∀ x ∈ m, p x) : ∀ x ∈ l ++ m, p x := fun x hx => (List.mem_append.1 hx).elim (h x) (k x)
theorem all_cons {α : Type} {p : α -> Prop} {a : α} {l : List α} (h : p a) (k : ∀ x ∈ l, p x) : ∀ x ∈ a :: l, p x := fun x hx => (List.mem_cons.1 hx).elim (fun e => e ▸ h) (k x)
theorem all_nil {α : Type} {p : α -> Prop} : ∀ x ∈ ([] : List α), p x := fun x hx => by cases hx
end Go.Mo
