/- The plain data of the program, typed, and gA they read as rows of the abstract machine. No condition. -/
import Derived.Test.YtdkobknehoecjaaGreatVe
import Derived.Laws.BitsLemmas
namespace Go.Mo
open Go.Vm
@[simp] def iR (n : Int) : List Vm.D := [.int .i64 n]
@[simp] def bR (b : UInt8) : List Vm.D := [.int .u8 (b.toNat : Int)]
@[simp] def lR (b : Bool) : List Vm.D := [.bool b]
@[simp] def sR (s : ByteArray) : List Vm.D := [.str s]
@[simp] def slR {α : Type} (n : Nat) (f : α -> List D) (m : List α) : List Vm.D := [.sl n (m.map f)]
/-- everything in it is at most so long -/
class Sz (α : Type) [Inhabited α] where
  sm : Nat -> α -> Prop
  zero : ∀ n, sm n default
  mono : ∀ {n m : Nat} {x : α}, n <= m -> sm n x -> sm m x
/-- gA many marks it takes -/
class Cn (α : Type) where
  cn : α -> Nat
abbrev cn {α : Type} [Cn α] (x : α) : Nat := Cn.cn x
def cnL {α : Type} (c : α -> Nat) : List α -> Nat
  | [] => 0
  | x :: l => c x + cnL c l
instance : Cn Int := ⟨fun _ => 1⟩
instance : Cn Bool := ⟨fun _ => 1⟩
instance : Cn UInt8 := ⟨fun _ => 1⟩
instance : Cn ByteArray := ⟨fun _ => 1⟩
instance {α : Type} [Cn α] : Cn (List α) := ⟨cnL Cn.cn⟩
theorem XO (x : Int) : cn x = 1 := rfl
theorem XY (x : Bool) : cn x = 1 := rfl
theorem yr (x : UInt8) : cn x = 1 := rfl
theorem X9 (x : ByteArray) : cn x = 1 := rfl
theorem XA {α : Type} [Cn α] (x : List α) : cn x = cnL cn x := rfl
abbrev Sm {α : Type} [Inhabited α] [Sz α] (n : Nat) (x : α) : Prop := Sz.sm n x
instance : Sz Int := ⟨fun _ _ => True, fun _ => trivial, fun _ h => h⟩
instance : Sz Bool := ⟨fun _ _ => True, fun _ => trivial, fun _ h => h⟩
instance : Sz UInt8 := ⟨fun _ _ => True, fun _ => trivial, fun _ h => h⟩
instance : Sz ByteArray := ⟨fun n s => s.size <= n, fun _ => Nat.zero_le _, fun h k => Nat.le_trans k h⟩
instance {α : Type} [Inhabited α] [Sz α] : Sz (List α) := ⟨fun n l => l.length <= n /\ ∀ x ∈ l, Sz.sm n x, fun _ => ⟨Nat.zero_le _, fun _ h => by cases h⟩, fun h k => ⟨Nat.le_trans k.1 h, fun x hx => Sz.mono h (k.2 x hx)⟩⟩
theorem XC {α : Type} [Inhabited α] [Sz α] {n : Nat} {l : List α} : Sm n l = (l.length <= n /\ ∀ x ∈ l, Sm n x) := rfl
theorem JA {α : Type} [Inhabited α] [Sz α] {n : Nat} {l : List α} (h : Sm n l) : l.length <= n := h.1
theorem Ca {n : Nat} {s : ByteArray} (h : Sm n s) : s.size <= n := h
@[simp] theorem ny {n : Nat} {x : Int} : Sm n x := trivial
@[simp] theorem nj {n : Nat} {x : Bool} : Sm n x := trivial
@[simp] theorem mQ {n : Nat} {x : UInt8} : Sm n x := trivial
@[simp] theorem MS {α : Type} [Inhabited α] [Sz α] {n : Nat} : Sm n ([] : List α) := ⟨Nat.zero_le _, fun _ h => by cases h⟩
@[simp] theorem Yf {α : Type} [Inhabited α] [Sz α] {n i : Nat} {l : List α} (h : Sm n l) : Sm n (nth l i) := by
  unfold nth
  rw [List.getD_eq_getElem?_getD]
  cases hh : l[i]? with
  | none => exact Sz.zero n
  | some x => exact h.2 x (List.mem_of_getElem? hh)
@[simp] theorem nf {α : Type} [Inhabited α] [Sz α] {n i : Nat} {l : List α} (h : Sm n l) : Sm n (l.take i) := ⟨Nat.le_trans (by simp; omega) h.1, fun x hx => h.2 x (List.mem_of_mem_take hx)⟩
@[simp] theorem nh {α : Type} [Inhabited α] [Sz α] {n i : Nat} {l : List α} (h : Sm n l) : Sm n (l.drop i) := ⟨Nat.le_trans (by simp) h.1, fun x hx => h.2 x (List.mem_of_mem_drop hx)⟩
theorem K0 {α : Type} [Inhabited α] [Sz α] {n : Nat} {l m : List α} : Sm n (l ++ m) = (l.length + m.length <= n /\ (∀ x ∈ l, Sm n x) /\ ∀ x ∈ m, Sm n x) := by
  rw [XC]; simp [or_imp, forall_and]
theorem Zk {α : Type} [Inhabited α] [Sz α] {n m : Nat} {x : α} (h : n <= m) (k : Sm n x) : Sm m x := Sz.mono h k
structure ZX where
  Authority : Int
  Seq : Int
  Time : Int
  XN : Int
  Mark : Int
  deriving Inhabited, DecidableEq
@[simp] def ZX.row (x : ZX) : List Vm.D := [.int .i64 x.Authority, .int .i64 x.Seq, .int .i64 x.Time, .int .i64 x.XN, .int .i64 x.Mark]
instance : Cn ZX := ⟨fun x => cn x.Authority + cn x.Seq + cn x.Time + cn x.XN + cn x.Mark⟩
theorem ZX.Yb (x : ZX) : cn x = cn x.Authority + cn x.Seq + cn x.Time + cn x.XN + cn x.Mark := rfl
instance : Sz ZX := ⟨fun _ _ => True, fun _ => trivial, fun _ h => h⟩
@[simp] theorem ZX.UZ {n : Nat} {x : ZX} : Sm n x := trivial
structure Zv where
  XN : Int
  Left : Bool
  deriving Inhabited, DecidableEq
@[simp] def Zv.row (x : Zv) : List Vm.D := [.int .i64 x.XN, .bool x.Left]
instance : Cn Zv := ⟨fun x => cn x.XN + cn x.Left⟩
theorem Zv.Yb (x : Zv) : cn x = cn x.XN + cn x.Left := rfl
instance : Sz Zv := ⟨fun _ _ => True, fun _ => trivial, fun _ h => h⟩
@[simp] theorem Zv.UZ {n : Nat} {x : Zv} : Sm n x := trivial
structure ZK where
  Count : Int
  Method : Int
  ID : Int
  Path : List Zv
  YE : List ZX
  deriving Inhabited, DecidableEq
@[simp] def ZK.row (x : ZK) : List Vm.D := [.int .i64 x.Count, .int .i64 x.Method, .int .i64 x.ID, .sl 2 (x.Path.map Zv.row), .sl 5 (x.YE.map ZX.row)]
instance : Cn ZK := ⟨fun x => cn x.Count + cn x.Method + cn x.ID + cn x.Path + cn x.YE⟩
theorem ZK.Yb (x : ZK) : cn x = cn x.Count + cn x.Method + cn x.ID + cn x.Path + cn x.YE := rfl
instance : Sz ZK := ⟨fun n x => Sm n x.Path /\ Sm n x.YE, fun n => ⟨Sz.zero n, Sz.zero n⟩, fun h k => ⟨Sz.mono h k.1, Sz.mono h k.2⟩⟩
@[simp] theorem ZK.rJ {n : Nat} {x : ZK} (h : Sm n x) : Sm n x.Path := h.1
@[simp] theorem ZK.Dg {n : Nat} {x : ZK} (h : Sm n x) : Sm n x.YE := h.2
@[simp] theorem ZK.SS {n : Nat} {bj : Int} {cM : Int} {ay : Int} {cq : List Zv} {eK : List ZX} : Sm n (ZK.mk bj cM ay cq eK) = (Sm n cq /\ Sm n eK) := rfl
structure YR where
  Number : Int
  ji : Int
  Method : Int
  Wn : Int
  WN : Int
  deriving Inhabited, DecidableEq
@[simp] def YR.row (x : YR) : List Vm.D := [.int .i64 x.Number, .int .i64 x.ji, .int .i64 x.Method, .int .i64 x.Wn, .int .i64 x.WN]
instance : Cn YR := ⟨fun x => cn x.Number + cn x.ji + cn x.Method + cn x.Wn + cn x.WN⟩
theorem YR.Yb (x : YR) : cn x = cn x.Number + cn x.ji + cn x.Method + cn x.Wn + cn x.WN := rfl
instance : Sz YR := ⟨fun _ _ => True, fun _ => trivial, fun _ h => h⟩
@[simp] theorem YR.UZ {n : Nat} {x : YR} : Sm n x := trivial
structure ZQ where
  Id : Int
  Key : Int
  Error : Int
  deriving Inhabited, DecidableEq
@[simp] def ZQ.row (x : ZQ) : List Vm.D := [.int .i64 x.Id, .int .i64 x.Key, .int .i64 x.Error]
instance : Cn ZQ := ⟨fun x => cn x.Id + cn x.Key + cn x.Error⟩
theorem ZQ.Yb (x : ZQ) : cn x = cn x.Id + cn x.Key + cn x.Error := rfl
instance : Sz ZQ := ⟨fun _ _ => True, fun _ => trivial, fun _ h => h⟩
@[simp] theorem ZQ.UZ {n : Nat} {x : ZQ} : Sm n x := trivial
structure Zf where
  Id : Int
  Pn : Int
  Ends : Int
  UR : Int
  deriving Inhabited, DecidableEq
@[simp] def Zf.row (x : Zf) : List Vm.D := [.int .i64 x.Id, .int .i64 x.Pn, .int .i64 x.Ends, .int .i64 x.UR]
instance : Cn Zf := ⟨fun x => cn x.Id + cn x.Pn + cn x.Ends + cn x.UR⟩
theorem Zf.Yb (x : Zf) : cn x = cn x.Id + cn x.Pn + cn x.Ends + cn x.UR := rfl
instance : Sz Zf := ⟨fun _ _ => True, fun _ => trivial, fun _ h => h⟩
@[simp] theorem Zf.UZ {n : Nat} {x : Zf} : Sm n x := trivial
structure Z8 where
  Zq : List YR
  ZG : List ZQ
  Methods : List Zf
  y9 : Int
  Now : Int
  deriving Inhabited, DecidableEq
@[simp] def Z8.row (x : Z8) : List Vm.D := [.sl 5 (x.Zq.map YR.row), .sl 3 (x.ZG.map ZQ.row), .sl 4 (x.Methods.map Zf.row), .int .i64 x.y9, .int .i64 x.Now]
instance : Cn Z8 := ⟨fun x => cn x.Zq + cn x.ZG + cn x.Methods + cn x.y9 + cn x.Now⟩
theorem Z8.Yb (x : Z8) : cn x = cn x.Zq + cn x.ZG + cn x.Methods + cn x.y9 + cn x.Now := rfl
instance : Sz Z8 := ⟨fun n x => Sm n x.Zq /\ Sm n x.ZG /\ Sm n x.Methods, fun n => ⟨Sz.zero n, Sz.zero n, Sz.zero n⟩, fun h k => ⟨Sz.mono h k.1, Sz.mono h k.2.1, Sz.mono h k.2.2⟩⟩
@[simp] theorem Z8.xw {n : Nat} {x : Z8} (h : Sm n x) : Sm n x.Zq := h.1
@[simp] theorem Z8.Xo {n : Nat} {x : Z8} (h : Sm n x) : Sm n x.ZG := h.2.1
@[simp] theorem Z8.G6 {n : Nat} {x : Z8} (h : Sm n x) : Sm n x.Methods := h.2.2
@[simp] theorem Z8.SS {n : Nat} {cr : List YR} {hU : List ZQ} {iq : List Zf} {bk : Int} {Now' : Int} : Sm n (Z8.mk cr hU iq bk Now') = (Sm n cr /\ Sm n hU /\ Sm n iq) := rfl
structure Z1 where
  Zg : Int
  Key : Int
  ji : Int
  VN : Int
  To : Int
  Z5 : Int
  Mark : Int
  deriving Inhabited, DecidableEq
@[simp] def Z1.row (x : Z1) : List Vm.D := [.int .i64 x.Zg, .int .i64 x.Key, .int .i64 x.ji, .int .i64 x.VN, .int .i64 x.To, .int .i64 x.Z5, .int .i64 x.Mark]
instance : Cn Z1 := ⟨fun x => cn x.Zg + cn x.Key + cn x.ji + cn x.VN + cn x.To + cn x.Z5 + cn x.Mark⟩
theorem Z1.Yb (x : Z1) : cn x = cn x.Zg + cn x.Key + cn x.ji + cn x.VN + cn x.To + cn x.Z5 + cn x.Mark := rfl
instance : Sz Z1 := ⟨fun _ _ => True, fun _ => trivial, fun _ h => h⟩
@[simp] theorem Z1.UZ {n : Nat} {x : Z1} : Sm n x := trivial
structure ZV where
  zA : Int
  ZN : List ByteArray
  ZR : List Int
  deriving Inhabited, DecidableEq
@[simp] def ZV.row (x : ZV) : List Vm.D := [.int .i64 x.zA, .sl 1 (x.ZN.map sR), .sl 1 (x.ZR.map iR)]
instance : Cn ZV := ⟨fun x => cn x.zA + cn x.ZN + cn x.ZR⟩
theorem ZV.Yb (x : ZV) : cn x = cn x.zA + cn x.ZN + cn x.ZR := rfl
instance : Sz ZV := ⟨fun n x => Sm n x.ZN /\ Sm n x.ZR, fun n => ⟨Sz.zero n, Sz.zero n⟩, fun h k => ⟨Sz.mono h k.1, Sz.mono h k.2⟩⟩
@[simp] theorem ZV.NC {n : Nat} {x : ZV} (h : Sm n x) : Sm n x.ZN := h.1
@[simp] theorem ZV.Hg {n : Nat} {x : ZV} (h : Sm n x) : Sm n x.ZR := h.2
@[simp] theorem ZV.SS {n : Nat} {fx : Int} {ga : List ByteArray} {gb : List Int} : Sm n (ZV.mk fx ga gb) = (Sm n ga /\ Sm n gb) := rfl
structure ZY where
  Key : Int
  Zg : Int
  Method : Int
  XN : Int
  xH : Int
  Org : Int
  xL : Int
  kx : Int
  Mark : Int
  deriving Inhabited, DecidableEq
@[simp] def ZY.row (x : ZY) : List Vm.D := [.int .i64 x.Key, .int .i64 x.Zg, .int .i64 x.Method, .int .i64 x.XN, .int .i64 x.xH, .int .i64 x.Org, .int .i64 x.xL, .int .i64 x.kx, .int .i64 x.Mark]
instance : Cn ZY := ⟨fun x => cn x.Key + cn x.Zg + cn x.Method + cn x.XN + cn x.xH + cn x.Org + cn x.xL + cn x.kx + cn x.Mark⟩
theorem ZY.Yb (x : ZY) : cn x = cn x.Key + cn x.Zg + cn x.Method + cn x.XN + cn x.xH + cn x.Org + cn x.xL + cn x.kx + cn x.Mark := rfl
instance : Sz ZY := ⟨fun _ _ => True, fun _ => trivial, fun _ h => h⟩
@[simp] theorem ZY.UZ {n : Nat} {x : ZY} : Sm n x := trivial
structure ZO where
  Key : Int
  YP : List Int
  Mark : Int
  deriving Inhabited, DecidableEq
@[simp] def ZO.row (x : ZO) : List Vm.D := [.int .i64 x.Key, .sl 1 (x.YP.map iR), .int .i64 x.Mark]
instance : Cn ZO := ⟨fun x => cn x.Key + cn x.YP + cn x.Mark⟩
theorem ZO.Yb (x : ZO) : cn x = cn x.Key + cn x.YP + cn x.Mark := rfl
instance : Sz ZO := ⟨fun n x => Sm n x.YP, fun n => Sz.zero n, fun h k => Sz.mono h k⟩
@[simp] theorem ZO.vK {n : Nat} {x : ZO} (h : Sm n x) : Sm n x.YP := h
@[simp] theorem ZO.SS {n : Nat} {Key' : Int} {cu : List Int} {az : Int} : Sm n (ZO.mk Key' cu az) = (Sm n cu) := rfl
structure Za where
  ZL : List ZO
  Zd : List ZK
  deriving Inhabited, DecidableEq
@[simp] def Za.row (x : Za) : List Vm.D := [.sl 3 (x.ZL.map ZO.row), .sl 5 (x.Zd.map ZK.row)]
instance : Cn Za := ⟨fun x => cn x.ZL + cn x.Zd⟩
theorem Za.Yb (x : Za) : cn x = cn x.ZL + cn x.Zd := rfl
instance : Sz Za := ⟨fun n x => Sm n x.ZL /\ Sm n x.Zd, fun n => ⟨Sz.zero n, Sz.zero n⟩, fun h k => ⟨Sz.mono h k.1, Sz.mono h k.2⟩⟩
@[simp] theorem Za.kB {n : Nat} {x : Za} (h : Sm n x) : Sm n x.ZL := h.1
@[simp] theorem Za.jO {n : Nat} {x : Za} (h : Sm n x) : Sm n x.Zd := h.2
@[simp] theorem Za.SS {n : Nat} {eM : List ZO} {dP : List ZK} : Sm n (Za.mk eM dP) = (Sm n eM /\ Sm n dP) := rfl
structure ZM where
  Id : Int
  Y7 : Int
  Doc : ZV
  Sig : ZY
  ZI : Za
  deriving Inhabited, DecidableEq
@[simp] def ZM.row (x : ZM) : List Vm.D := [.int .i64 x.Id, .int .i64 x.Y7, .int .i64 x.Doc.zA, .sl 1 (x.Doc.ZN.map sR), .sl 1 (x.Doc.ZR.map iR), .int .i64 x.Sig.Key, .int .i64 x.Sig.Zg, .int .i64 x.Sig.Method, .int .i64 x.Sig.XN, .int .i64 x.Sig.xH, .int .i64 x.Sig.Org, .int .i64 x.Sig.xL, .int .i64 x.Sig.kx, .int .i64 x.Sig.Mark, .sl 3 (x.ZI.ZL.map ZO.row), .sl 5 (x.ZI.Zd.map ZK.row)]
instance : Cn ZM := ⟨fun x => cn x.Id + cn x.Y7 + cn x.Doc + cn x.Sig + cn x.ZI⟩
theorem ZM.Yb (x : ZM) : cn x = cn x.Id + cn x.Y7 + cn x.Doc + cn x.Sig + cn x.ZI := rfl
instance : Sz ZM := ⟨fun n x => Sm n x.Doc /\ Sm n x.ZI, fun n => ⟨Sz.zero n, Sz.zero n⟩, fun h k => ⟨Sz.mono h k.1, Sz.mono h k.2⟩⟩
@[simp] theorem ZM.kH {n : Nat} {x : ZM} (h : Sm n x) : Sm n x.Doc := h.1
@[simp] theorem ZM.Jf {n : Nat} {x : ZM} (h : Sm n x) : Sm n x.ZI := h.2
@[simp] theorem ZM.SS {n : Nat} {Id' : Int} {a8 : Int} {dQ : ZV} {Sig' : ZY} {eN : Za} : Sm n (ZM.mk Id' a8 dQ Sig' eN) = (Sm n dQ /\ Sm n eN) := rfl
structure ZD where
  Id : Int
  ZF : List ZM
  deriving Inhabited, DecidableEq
@[simp] def ZD.row (x : ZD) : List Vm.D := [.int .i64 x.Id, .sl 16 (x.ZF.map ZM.row)]
instance : Cn ZD := ⟨fun x => cn x.Id + cn x.ZF⟩
theorem ZD.Yb (x : ZD) : cn x = cn x.Id + cn x.ZF := rfl
instance : Sz ZD := ⟨fun n x => Sm n x.ZF, fun n => Sz.zero n, fun h k => Sz.mono h k⟩
@[simp] theorem ZD.Ys {n : Nat} {x : ZD} (h : Sm n x) : Sm n x.ZF := h
@[simp] theorem ZD.SS {n : Nat} {Id' : Int} {gd : List ZM} : Sm n (ZD.mk Id' gd) = (Sm n gd) := rfl
structure ZJ where
  Frame : Z8
  ZS : List Z1
  Zr : List Int
  ZA : List ZD
  Ym : List Int
  YW : List Int
  Next : Int
  YN : List Int
  deriving Inhabited, DecidableEq
@[simp] def ZJ.row (x : ZJ) : List Vm.D := [.sl 5 (x.Frame.Zq.map YR.row), .sl 3 (x.Frame.ZG.map ZQ.row), .sl 4 (x.Frame.Methods.map Zf.row), .int .i64 x.Frame.y9, .int .i64 x.Frame.Now, .sl 7 (x.ZS.map Z1.row), .sl 1 (x.Zr.map iR), .sl 2 (x.ZA.map ZD.row), .sl 1 (x.Ym.map iR), .sl 1 (x.YW.map iR), .int .i64 x.Next, .sl 1 (x.YN.map iR)]
instance : Cn ZJ := ⟨fun x => cn x.Frame + cn x.ZS + cn x.Zr + cn x.ZA + cn x.Ym + cn x.YW + cn x.Next + cn x.YN⟩
theorem ZJ.Yb (x : ZJ) : cn x = cn x.Frame + cn x.ZS + cn x.Zr + cn x.ZA + cn x.Ym + cn x.YW + cn x.Next + cn x.YN := rfl
instance : Sz ZJ := ⟨fun n x => Sm n x.Frame /\ Sm n x.ZS /\ Sm n x.Zr /\ Sm n x.ZA /\ Sm n x.Ym /\ Sm n x.YW /\ Sm n x.YN, fun n => ⟨Sz.zero n, Sz.zero n, Sz.zero n, Sz.zero n, Sz.zero n, Sz.zero n, Sz.zero n⟩, fun h k => ⟨Sz.mono h k.1, Sz.mono h k.2.1, Sz.mono h k.2.2.1, Sz.mono h k.2.2.2.1, Sz.mono h k.2.2.2.2.1, Sz.mono h k.2.2.2.2.2.1, Sz.mono h k.2.2.2.2.2.2⟩⟩
@[simp] theorem ZJ.Xq {n : Nat} {x : ZJ} (h : Sm n x) : Sm n x.Frame := h.1
@[simp] theorem ZJ.sV {n : Nat} {x : ZJ} (h : Sm n x) : Sm n x.ZS := h.2.1
@[simp] theorem ZJ.Bu {n : Nat} {x : ZJ} (h : Sm n x) : Sm n x.Zr := h.2.2.1
@[simp] theorem ZJ.Y1 {n : Nat} {x : ZJ} (h : Sm n x) : Sm n x.ZA := h.2.2.2.1
@[simp] theorem ZJ.vi {n : Nat} {x : ZJ} (h : Sm n x) : Sm n x.Ym := h.2.2.2.2.1
@[simp] theorem ZJ.Af {n : Nat} {x : ZJ} (h : Sm n x) : Sm n x.YW := h.2.2.2.2.2.1
@[simp] theorem ZJ.MN {n : Nat} {x : ZJ} (h : Sm n x) : Sm n x.YN := h.2.2.2.2.2.2
@[simp] theorem ZJ.SS {n : Nat} {dR : Z8} {dS : List Z1} {dT : List Int} {gz : List ZD} {cv : List Int} {dU : List Int} {a9 : Int} {eO : List Int} : Sm n (ZJ.mk dR dS dT gz cv dU a9 eO) = (Sm n dR /\ Sm n dS /\ Sm n dT /\ Sm n gz /\ Sm n cv /\ Sm n dU /\ Sm n eO) := rfl
structure Yu where
  Kind : Int
  A : Int
  B : Int
  C : Int
  D : Int
  Doc : ZV
  Ids : List Int
  deriving Inhabited, DecidableEq
@[simp] def Yu.row (x : Yu) : List Vm.D := [.int .i64 x.Kind, .int .i64 x.A, .int .i64 x.B, .int .i64 x.C, .int .i64 x.D, .int .i64 x.Doc.zA, .sl 1 (x.Doc.ZN.map sR), .sl 1 (x.Doc.ZR.map iR), .sl 1 (x.Ids.map iR)]
instance : Cn Yu := ⟨fun x => cn x.Kind + cn x.A + cn x.B + cn x.C + cn x.D + cn x.Doc + cn x.Ids⟩
theorem Yu.Yb (x : Yu) : cn x = cn x.Kind + cn x.A + cn x.B + cn x.C + cn x.D + cn x.Doc + cn x.Ids := rfl
instance : Sz Yu := ⟨fun n x => Sm n x.Doc /\ Sm n x.Ids, fun n => ⟨Sz.zero n, Sz.zero n⟩, fun h k => ⟨Sz.mono h k.1, Sz.mono h k.2⟩⟩
@[simp] theorem Yu.kH {n : Nat} {x : Yu} (h : Sm n x) : Sm n x.Doc := h.1
@[simp] theorem Yu.wU {n : Nat} {x : Yu} (h : Sm n x) : Sm n x.Ids := h.2
@[simp] theorem Yu.SS {n : Nat} {Kind' : Int} {A' : Int} {B' : Int} {C' : Int} {D' : Int} {dQ : ZV} {Ids' : List Int} : Sm n (Yu.mk Kind' A' B' C' D' dQ Ids') = (Sm n dQ /\ Sm n Ids') := rfl
structure OX where
  VN : Int
  To : Int
  deriving Inhabited, DecidableEq
@[simp] def OX.row (x : OX) : List Vm.D := [.int .i64 x.VN, .int .i64 x.To]
instance : Cn OX := ⟨fun x => cn x.VN + cn x.To⟩
theorem OX.Yb (x : OX) : cn x = cn x.VN + cn x.To := rfl
instance : Sz OX := ⟨fun _ _ => True, fun _ => trivial, fun _ h => h⟩
@[simp] theorem OX.UZ {n : Nat} {x : OX} : Sm n x := trivial
structure WB where
  Code : Int
  Reason : Int
  Span : OX
  deriving Inhabited, DecidableEq
@[simp] def WB.row (x : WB) : List Vm.D := [.int .i64 x.Code, .int .i64 x.Reason, .int .i64 x.Span.VN, .int .i64 x.Span.To]
instance : Cn WB := ⟨fun x => cn x.Code + cn x.Reason + cn x.Span⟩
theorem WB.Yb (x : WB) : cn x = cn x.Code + cn x.Reason + cn x.Span := rfl
instance : Sz WB := ⟨fun _ _ => True, fun _ => trivial, fun _ h => h⟩
@[simp] theorem WB.UZ {n : Nat} {x : WB} : Sm n x := trivial
structure Qs where
  zA : Int
  Methods : List Int
  Shown : List Bool
  ZN : List ByteArray
  ZR : List Int
  O8 : List (List Int)
  deriving Inhabited, DecidableEq
@[simp] def Qs.row (x : Qs) : List Vm.D := [.int .i64 x.zA, .sl 1 (x.Methods.map iR), .sl 1 (x.Shown.map lR), .sl 1 (x.ZN.map sR), .sl 1 (x.ZR.map iR), .sl 1 (x.O8.map (slR 1 iR))]
instance : Cn Qs := ⟨fun x => cn x.zA + cn x.Methods + cn x.Shown + cn x.ZN + cn x.ZR + cn x.O8⟩
theorem Qs.Yb (x : Qs) : cn x = cn x.zA + cn x.Methods + cn x.Shown + cn x.ZN + cn x.ZR + cn x.O8 := rfl
instance : Sz Qs := ⟨fun n x => Sm n x.Methods /\ Sm n x.Shown /\ Sm n x.ZN /\ Sm n x.ZR /\ Sm n x.O8, fun n => ⟨Sz.zero n, Sz.zero n, Sz.zero n, Sz.zero n, Sz.zero n⟩, fun h k => ⟨Sz.mono h k.1, Sz.mono h k.2.1, Sz.mono h k.2.2.1, Sz.mono h k.2.2.2.1, Sz.mono h k.2.2.2.2⟩⟩
@[simp] theorem Qs.G6 {n : Nat} {x : Qs} (h : Sm n x) : Sm n x.Methods := h.1
@[simp] theorem Qs.nY {n : Nat} {x : Qs} (h : Sm n x) : Sm n x.Shown := h.2.1
@[simp] theorem Qs.NC {n : Nat} {x : Qs} (h : Sm n x) : Sm n x.ZN := h.2.2.1
@[simp] theorem Qs.Hg {n : Nat} {x : Qs} (h : Sm n x) : Sm n x.ZR := h.2.2.2.1
@[simp] theorem Qs.pb {n : Nat} {x : Qs} (h : Sm n x) : Sm n x.O8 := h.2.2.2.2
@[simp] theorem Qs.SS {n : Nat} {fx : Int} {iq : List Int} {dV : List Bool} {ga : List ByteArray} {gb : List Int} {fZ : List (List Int)} : Sm n (Qs.mk fx iq dV ga gb fZ) = (Sm n iq /\ Sm n dV /\ Sm n ga /\ Sm n gb /\ Sm n fZ) := rfl
structure K3 where
  O4 : List Za
  Ay : List (List ZX)
  deriving Inhabited, DecidableEq
@[simp] def K3.row (x : K3) : List Vm.D := [.sl 2 (x.O4.map Za.row), .sl 1 (x.Ay.map (slR 5 ZX.row))]
instance : Cn K3 := ⟨fun x => cn x.O4 + cn x.Ay⟩
theorem K3.Yb (x : K3) : cn x = cn x.O4 + cn x.Ay := rfl
instance : Sz K3 := ⟨fun n x => Sm n x.O4 /\ Sm n x.Ay, fun n => ⟨Sz.zero n, Sz.zero n⟩, fun h k => ⟨Sz.mono h k.1, Sz.mono h k.2⟩⟩
@[simp] theorem K3.oM {n : Nat} {x : K3} (h : Sm n x) : Sm n x.O4 := h.1
@[simp] theorem K3.nD {n : Nat} {x : K3} (h : Sm n x) : Sm n x.Ay := h.2
@[simp] theorem K3.SS {n : Nat} {fa : List Za} {dW : List (List ZX)} : Sm n (K3.mk fa dW) = (Sm n fa /\ Sm n dW) := rfl
structure Z4 where
  Zg : Int
  OC : Int
  Zr : Int
  Z5 : Int
  Mark : Int
  deriving Inhabited, DecidableEq
@[simp] def Z4.row (x : Z4) : List Vm.D := [.int .i64 x.Zg, .int .i64 x.OC, .int .i64 x.Zr, .int .i64 x.Z5, .int .i64 x.Mark]
instance : Cn Z4 := ⟨fun x => cn x.Zg + cn x.OC + cn x.Zr + cn x.Z5 + cn x.Mark⟩
theorem Z4.Yb (x : Z4) : cn x = cn x.Zg + cn x.OC + cn x.Zr + cn x.Z5 + cn x.Mark := rfl
instance : Sz Z4 := ⟨fun _ _ => True, fun _ => trivial, fun _ h => h⟩
@[simp] theorem Z4.UZ {n : Nat} {x : Z4} : Sm n x := trivial
structure OA where
  b : List UInt8
  i : Nat
  h : Int
  deriving Inhabited, DecidableEq
@[simp] def OA.row (x : OA) : List Vm.D := [.sl 1 (x.b.map bR), .int .i64 (x.i : Int), .int .i64 x.h]
instance : Sz OA := ⟨fun n x => Sm n x.b, fun n => Sz.zero n, fun h k => Sz.mono h k⟩
@[simp] theorem OA.my {n : Nat} {x : OA} (h : Sm n x) : Sm n x.b := h
@[simp] theorem OA.SS {n : Nat} {b' : List UInt8} {i' : Nat} {h' : Int} : Sm n (OA.mk b' i' h') = (Sm n b') := rfl
structure YM where
  VN : Int
  To : Int
  ZF : List ZM
  XN : Int
  deriving Inhabited, DecidableEq
@[simp] def YM.row (x : YM) : List Vm.D := [.int .i64 x.VN, .int .i64 x.To, .sl 16 (x.ZF.map ZM.row), .int .i64 x.XN]
instance : Cn YM := ⟨fun x => cn x.VN + cn x.To + cn x.ZF + cn x.XN⟩
theorem YM.Yb (x : YM) : cn x = cn x.VN + cn x.To + cn x.ZF + cn x.XN := rfl
instance : Sz YM := ⟨fun n x => Sm n x.ZF, fun n => Sz.zero n, fun h k => Sz.mono h k⟩
@[simp] theorem YM.Ys {n : Nat} {x : YM} (h : Sm n x) : Sm n x.ZF := h
@[simp] theorem YM.SS {n : Nat} {From' : Int} {To' : Int} {gd : List ZM} {cN : Int} : Sm n (YM.mk From' To' gd cN) = (Sm n gd) := rfl
structure kq where
  Org : Int
  wo : Int
  VN : Int
  To : Int
  Key : Int
  Mark : Int
  deriving Inhabited, DecidableEq
@[simp] def kq.row (x : kq) : List Vm.D := [.int .i64 x.Org, .int .i64 x.wo, .int .i64 x.VN, .int .i64 x.To, .int .i64 x.Key, .int .i64 x.Mark]
instance : Cn kq := ⟨fun x => cn x.Org + cn x.wo + cn x.VN + cn x.To + cn x.Key + cn x.Mark⟩
theorem kq.Yb (x : kq) : cn x = cn x.Org + cn x.wo + cn x.VN + cn x.To + cn x.Key + cn x.Mark := rfl
instance : Sz kq := ⟨fun _ _ => True, fun _ => trivial, fun _ h => h⟩
@[simp] theorem kq.UZ {n : Nat} {x : kq} : Sm n x := trivial
end Go.Mo
namespace Go.Mo
open Go.Vm
theorem P8 {α : Type} [Inhabited α] {l : List α} {i : Nat} (h : i < l.length) : nth l i = l[i] := by simp [nth, h]
theorem vh {α : Type} [Inhabited α] {l : List α} {i : Nat} (h : i < l.length) : nth l i ∈ l := by rw [P8 h]; exact List.getElem_mem h
theorem qV {α : Type} [Inhabited α] {F : Nat -> Nat -> List α -> List α} {a : List α} {g : α -> α} (hg : ∀ x, g x = x)
    (h1 : ∀ n i v, F (n + 1) i v = bif decide ((i : Int) < (a.length : Int)) then F n (i + 1) (v.set i (g (nth a i))) else v) :
    ∀ n i v, v.length = a.length -> a.length < n + i -> i <= a.length -> (∀ j, j < i -> v[j]? = a[j]?) -> F n i v = a := by
  intro n
  induction n with
  | zero => intro i v _ h2 h3; omega
  | succ n ih =>
    intro i v hl h2 h3 hj
    rw [h1]
    by_cases hi : i < a.length
    · have : decide ((i : Int) < (a.length : Int)) = true := by simp [hi]
      rw [this, cond_true]
      refine ih _ _ (by simp [hl]) (by omega) hi (fun j lN => ?_)
      rw [List.getElem?_set]
      by_cases dw : i = j
      · subst dw; simp [hl, hi, hg, P8 hi]
      · rw [if_neg dw]; exact hj j (by omega)
    · have : decide ((i : Int) < (a.length : Int)) = false := by simp; omega
      rw [this, cond_false]
      apply List.ext_getElem?
      intro j
      by_cases dw : j < i
      · exact hj j dw
      · rw [List.getElem?_eq_none (by omega), List.getElem?_eq_none (by omega)]
theorem jD {α : Type} [Inhabited α] {F : Nat -> List α -> Nat -> List α} {a : List α} {g : α -> α} (hg : ∀ x, g x = x)
    (h1 : ∀ n v i, F (n + 1) v i = bif decide ((i : Int) < (a.length : Int)) then F n (v ++ [g (nth a i)]) (i + 1) else v) :
    ∀ n v i, a.length < n + i -> i <= a.length -> F n v i = v ++ a.drop i := by
  intro n
  induction n with
  | zero => intro v i h2 h3; omega
  | succ n ih =>
    intro v i h2 h3
    rw [h1]
    by_cases hi : i < a.length
    · rw [show decide ((i : Int) < (a.length : Int)) = true by simp [hi], cond_true, ih _ _ (by omega) hi, hg, P8 hi, List.append_assoc, List.singleton_append, <- List.drop_eq_getElem_cons hi]
    · rw [show decide ((i : Int) < (a.length : Int)) = false by simp; omega, cond_false, List.drop_eq_nil_of_le (by omega), List.append_nil]
theorem jd {F : Nat -> Nat -> Sum Int Unit} {L : Nat} {c : Nat -> Bool} (h0 : ∀ i, F 0 i = .inr ())
    (h1 : ∀ n i, F (n + 1) i = bif decide ((i : Int) < (L : Int)) then (bif c i then .inl (i : Int) else F n (i + 1)) else .inr ()) :
    ∀ n i, (match F n i with | .inl r => r | .inr _ => -1) < (L : Int) := by
  intro n
  induction n with
  | zero => intro i; rw [h0]; show (-1 : Int) < _; omega
  | succ n ih =>
    intro i
    rw [h1]
    by_cases hi : (i : Int) < (L : Int)
    · rw [show decide ((i : Int) < (L : Int)) = true by simpa using hi, cond_true]
      cases hc : c i with
      | true => simpa using hi
      | false => exact ih (i + 1)
    · rw [show decide ((i : Int) < (L : Int)) = false by simpa using hi, cond_false]
      show (-1 : Int) < _; omega
theorem Zj {rows : List (List Vm.D)} {i : Nat} {r : List Vm.D} (h : i < rows.length) : Vm.rowAt (rows.set i r) i = r := by simp [Vm.rowAt, h]
theorem Hn {α : Type} {p : α -> Prop} {l : List α} {i : Nat} {a : α} (h1 : ∀ x ∈ l, p x) (h2 : p a) : ∀ x ∈ l.set i a, p x := by
  intro x hx
  rcases List.mem_or_eq_of_mem_set hx with h | h
  · exact h1 x h
  · rw [h]; exact h2
/-- marks, from left to right -/
def mkL {α : Type} (f : α -> Int -> α × Int) : List α -> Int -> List α × Int
  | [], k => ([], k)
  | x :: l, k => ((f x k).1 :: (mkL f l (f x k).2).1, (mkL f l (f x k).2).2)
theorem Q5 {α : Type} (f : α -> Int -> α × Int) : ∀ (l : List α) (k : Int), (mkL f l k).1.length = l.length
  | [], _ => rfl
  | x :: l, k => by simp [mkL, Q5 f l]
theorem K5 {α : Type} [Inhabited α] {F : Nat -> Int -> Nat -> List α -> Int × List α} {f : α -> Int -> α × Int}
    (h1 : ∀ n k i v, F (n + 1) k i v = bif decide ((i : Int) < (v.length : Int)) then F n (f (nth v i) k).2 (i + 1) (v.set i (f (nth v i) k).1) else (k, v)) :
    ∀ (l pre : List α) (n : Nat) (k : Int), l.length < n -> F n k pre.length (pre ++ l) = ((mkL f l k).2, pre ++ (mkL f l k).1) := by
  intro l
  induction l with
  | nil =>
    intro pre n k hn
    obtain ⟨m, rfl⟩ : ∃ m, n = m + 1 := ⟨n - 1, by simp at hn; omega⟩
    rw [h1]; simp [mkL]
  | cons x l ih =>
    intro pre n k hn
    obtain ⟨m, rfl⟩ : ∃ m, n = m + 1 := ⟨n - 1, by simp at hn; omega⟩
    have hx : nth (pre ++ x :: l) pre.length = x := by simp [nth]
    have hs : ∀ y, (pre ++ x :: l).set pre.length y = (pre ++ [y]) ++ l := by intro y; simp
    have hd : decide ((pre.length : Int) < ((pre ++ x :: l).length : Int)) = true := by simp; omega
    rw [h1, hd, cond_true, hx, hs]
    have := ih (pre ++ [(f x k).1]) m (f x k).2 (by simp at hn; omega)
    rw [List.length_append, List.length_singleton] at this
    rw [this]; simp [mkL]
theorem Q0 {α : Type} {f : α -> Int -> α × Int} {c : α -> Nat} (hc : ∀ (x : α) (k : Int), 0 <= k -> k + c x < 4611686018427387904 -> (f x k).2 = k + c x) :
    ∀ (l : List α) (k : Int), 0 <= k -> k + cnL c l < 4611686018427387904 -> (mkL f l k).2 = k + cnL c l
  | [], k, _, _ => by simp [mkL, cnL]
  | x :: l, k, h0, h => by
    simp only [cnL, Int.natCast_add] at h
    have e := hc x k h0 (by omega)
    have := Q0 hc l (f x k).2 (by omega) (by omega)
    show (mkL f l (f x k).2).2 = _
    rw [this, e]; simp only [cnL, Int.natCast_add]; omega
theorem K1 {α : Type} [Inhabited α] {z : List α} {H : Nat -> Int -> Nat -> Sum Int Int} {G : α -> Int -> (Int -> Sum Int Int) -> Sum Int Int} {f : α -> Int -> α × Int} {c : α -> Nat}
    (h1 : ∀ n k i, H (n + 1) k i = bif decide ((i : Int) < (z.length : Int)) then G (nth z i) k (fun k' => H n k' (i + 1)) else .inr k)
    (hc : ∀ (x : α) (k : Int), 0 <= k -> k + c x < 4611686018427387904 -> (f x k).2 = k + c x) (hG : ∀ (x : α) (k : Int) (r : Int -> Sum Int Int), 0 <= k -> k + c x < 4611686018427387904 -> G (f x k).1 k r = r (f x k).2) :
    ∀ (l pre : List α) (n : Nat) (k : Int), z = pre ++ (mkL f l k).1 -> l.length < n -> 0 <= k -> k + cnL c l < 4611686018427387904 -> H n k pre.length = .inr (mkL f l k).2 := by
  intro l
  induction l with
  | nil =>
    intro pre n k hz hn _ _
    obtain ⟨m, rfl⟩ : ∃ m, n = m + 1 := ⟨n - 1, by simp at hn; omega⟩
    rw [h1]; simp [mkL] at hz; subst hz; simp [mkL]
  | cons x l ih =>
    intro pre n k hz hn h0 h
    obtain ⟨m, rfl⟩ : ∃ m, n = m + 1 := ⟨n - 1, by simp at hn; omega⟩
    simp only [cnL, Int.natCast_add] at h
    have e := hc x k h0 (by omega)
    have hx : nth z pre.length = (f x k).1 := by rw [hz]; simp [nth, mkL]
    have hd : decide ((pre.length : Int) < (z.length : Int)) = true := by rw [hz]; simp [mkL]; omega
    rw [h1, hd, cond_true, hx, hG x k _ h0 (by omega)]
    have := ih (pre ++ [(f x k).1]) m (f x k).2 (by rw [hz]; simp [mkL]) (by simp at hn; omega) (by omega) (by omega)
    rw [List.length_append, List.length_singleton] at this
    rw [this]; rfl
/-- a length that is reckoned off a purse -/
def WD {α : Type} [Inhabited α] [Sz α] (F : α -> Int -> Int) : Prop := ∀ a n, Sm maxLen a -> 0 <= n -> n <= 1048576 -> ¬ F a n < 0 -> Sm 1048576 a /\ F a n <= 1048576
theorem DO {n : Int} {l : Nat} (h0 : 0 <= n) (hn : n <= 1048576) (hl : l <= maxLen) : W (n - l) = n - l := by
  have hl : l <= 9223372036854775807 := hl
  exact Zb (by omega) (by omega)
theorem Ti {α : Type} [Inhabited α] [Sz α] (hs : ∀ (n : Nat) (x : α), Sm n x) {F : List α -> Int -> Int} (hF : ∀ a n, F a n = bif decide (W (n - (a.length : Int)) < 0) then (-1) else W (n - (a.length : Int))) : WD F := by
  intro a n hm h0 hn h
  rw [hF, DO h0 hn hm.1] at h ⊢
  by_cases hc : n - (a.length : Int) < 0
  · rw [show decide (n - (a.length : Int) < 0) = true by simpa using hc, cond_true] at h; omega
  · rw [show decide (n - (a.length : Int) < 0) = false by simpa using hc, cond_false] at h ⊢
    exact ⟨⟨by omega, fun x _ => hs _ x⟩, by omega⟩
theorem pk {α : Type} [Inhabited α] [Sz α] {E : α -> Int -> Int} (hE : WD E) {a : List α} (hm : Sm maxLen a) {G : Nat -> Int -> Nat -> Sum Int Int}
    (h1 : ∀ n v i, G (n + 1) v i = bif decide ((i : Int) < (a.length : Int)) then (bif decide (E (nth a i) v < 0) then .inl (-1) else G n (E (nth a i) v) (i + 1)) else .inr v) :
    ∀ n v i, 0 <= v -> v <= 1048576 -> a.length < n + i -> i <= a.length -> ¬ (match G n v i with | .inl r => r | .inr z => z) < 0 -> (∀ j, i <= j -> j < a.length -> Sm 1048576 (nth a j)) /\ (match G n v i with | .inl r => r | .inr z => z) <= 1048576 := by
  intro n
  induction n with
  | zero => intro v i _ _ h2 h3; omega
  | succ n ih =>
    intro v i ef hv h2 h3 h
    rw [h1] at h ⊢
    by_cases hi : i < a.length
    · rw [show decide ((i : Int) < (a.length : Int)) = true by simp [hi], cond_true] at h ⊢
      by_cases hc : E (nth a i) v < 0
      · rw [show decide (E (nth a i) v < 0) = true by simpa using hc, cond_true] at h; simp at h
      · rw [show decide (E (nth a i) v < 0) = false by simpa using hc, cond_false] at h ⊢
        obtain ⟨e1, e2⟩ := hE (nth a i) v (hm.2 _ (vh hi)) ef hv hc
        obtain ⟨r1, r2⟩ := ih _ (i + 1) (by omega) e2 (by omega) hi h
        refine ⟨fun j hj hjl => ?_, r2⟩
        by_cases dw : j = i
        · subst dw; exact e1
        · exact r1 j (by omega) hjl
    · rw [show decide ((i : Int) < (a.length : Int)) = false by simp; omega, cond_false] at h ⊢
      exact ⟨fun j hj hjl => by omega, hv⟩
theorem NO {α : Type} [Inhabited α] [Sz α] {E : α -> Int -> Int} (hE : WD E) {F : List α -> Int -> Int} {G : List α -> Nat -> Int -> Nat -> Sum Int Int}
    (h1 : ∀ a n v i, G a (n + 1) v i = bif decide ((i : Int) < (a.length : Int)) then (bif decide (E (nth a i) v < 0) then .inl (-1) else G a n (E (nth a i) v) (i + 1)) else .inr v)
    (hF : ∀ a n, F a n = bif decide (W (n - (a.length : Int)) < 0) then (-1) else (match G a (a.length + 1) (W (n - (a.length : Int))) 0 with | .inl r => r | .inr z => z)) : WD F := by
  intro a n hm h0 hn h
  rw [hF, DO h0 hn hm.1] at h ⊢
  by_cases hc : n - (a.length : Int) < 0
  · rw [show decide (n - (a.length : Int) < 0) = true by simpa using hc, cond_true] at h; omega
  · rw [show decide (n - (a.length : Int) < 0) = false by simpa using hc, cond_false] at h ⊢
    obtain ⟨r1, r2⟩ := pk hE hm (h1 a) (a.length + 1) _ 0 (by omega) (by omega) (by omega) (by omega) h
    refine ⟨⟨by omega, fun x hx => ?_⟩, r2⟩
    obtain ⟨j, hj, rfl⟩ := List.mem_iff_getElem.1 hx
    rw [<- P8 hj]; exact r1 j (by omega) hj
theorem v7 : WD (fun (s : ByteArray) n => W (n - (s.size : Int))) := by
  intro a n hm h0 hn h
  have hm : a.size <= maxLen := hm
  dsimp only at h ⊢
  rw [DO h0 hn hm] at h ⊢
  exact ⟨show a.size <= 1048576 by omega, by omega⟩
/-- the purse pays for the marks -/
def kz {α : Type} [Inhabited α] [Sz α] [Cn α] (F : α -> Int -> Int) (c : Nat) : Prop := ∀ a n, Sm maxLen a -> 0 <= n -> n <= 1048576 -> ¬ F a n < 0 -> (cn a : Int) <= 32 * (n - F a n) + c /\ F a n <= n
theorem sC {α : Type} {c : α -> Nat} {m : Nat} (h : ∀ x, c x <= m) : ∀ l : List α, cnL c l <= m * l.length
  | [] => by simp [cnL]
  | x :: l => by have := sC h l; have := h x; simp only [cnL, List.length_cons, Nat.mul_add]; omega
theorem Ix {α : Type} {c : α -> Nat} (h : ∀ x, 1 <= c x) : ∀ l : List α, l.length <= cnL c l
  | [] => by simp [cnL]
  | x :: l => by have := Ix h l; have := h x; simp only [cnL, List.length_cons]; omega
theorem NG {α : Type} {c : α -> Nat} {m : Nat} (h : ∀ x, c x = m) : ∀ l : List α, cnL c l = m * l.length
  | [] => by simp [cnL]
  | x :: l => by simp only [cnL, h, NG h l, List.length_cons, Nat.mul_add]; omega
theorem PG (l : List Int) : cn l = l.length := by rw [XA, NG (c := (cn : Int -> Nat)) (m := 1) (fun _ => rfl)]; simp
theorem Zm {α : Type} {p : α -> Prop} {c : Bool} {x y : α} (hx : p x) (hy : p y) : p (bif c then x else y) := by cases c; exact hy; exact hx
theorem y4 {α : Type} {p : α -> Prop} {c : Bool} {x y : α} (hx : c = true -> p x) (hy : c = false -> p y) : p (bif c then x else y) := by cases c; exact hy rfl; exact hx rfl
theorem G3 {α : Type} {F : Nat -> List α -> Nat -> List α} {L : Nat} {c : Nat -> Bool} {g : Nat -> α} (h0 : ∀ v i, F 0 v i = [])
    (h1 : ∀ n v i, F (n + 1) v i = bif decide ((i : Int) < (L : Int)) then (bif c i then F n (v ++ [g i]) (i + 1) else F n v (i + 1)) else v) : ∀ n v i, (F n v i).length <= v.length + (L - i) := by
  intro n
  induction n with
  | zero => intro v i; rw [h0]; simp
  | succ n ih =>
    intro v i
    rw [h1]
    by_cases hi : i < L
    · rw [show decide ((i : Int) < (L : Int)) = true by simp [hi], cond_true]
      cases c i with
      | true => have := ih (v ++ [g i]) (i + 1); rw [cond_true]; simp at this; omega
      | false => have := ih v (i + 1); rw [cond_false]; omega
    · rw [show decide ((i : Int) < (L : Int)) = false by simp; omega, cond_false]; omega
theorem Bm {α : Type} {F : Nat -> List α -> Nat -> List α} {L : Nat} {g : Nat -> α} (h0 : ∀ v i, F 0 v i = [])
    (h1 : ∀ n v i, F (n + 1) v i = bif decide ((i : Int) < (L : Int)) then F n (v ++ [g i]) (i + 1) else v) : ∀ n v i, (F n v i).length <= v.length + (L - i) := by
  intro n
  induction n with
  | zero => intro v i; rw [h0]; simp
  | succ n ih =>
    intro v i
    rw [h1]
    by_cases hi : i < L
    · rw [show decide ((i : Int) < (L : Int)) = true by simp [hi], cond_true]
      have := ih (v ++ [g i]) (i + 1); simp at this; omega
    · rw [show decide ((i : Int) < (L : Int)) = false by simp; omega, cond_false]; omega
theorem Ka {n m : Nat} {s : Za} {r : ZK} (hn : n + 1 <= m) (h : Sm n s) (hr : Sm m r) : Sm m (Za.mk s.ZL (s.Zd ++ [r])) := by
  refine ⟨Zk (by omega) h.1, ⟨?_, fun x hx => ?_⟩⟩
  · have := h.2.1; simp; omega
  · rcases List.mem_append.1 hx with hx | hx
    · exact Zk (by omega) (h.2.2 x hx)
    · simp at hx; subst hx; exact hr
theorem Tt {α : Type} [Inhabited α] [Sz α] [Cn α] (hs : ∀ x : α, cn x <= 32) {F : List α -> Int -> Int} (hF : ∀ a n, F a n = bif decide (W (n - (a.length : Int)) < 0) then (-1) else W (n - (a.length : Int))) : kz F 0 := by
  intro a n hm h0 hn h
  rw [hF, DO h0 hn hm.1] at h ⊢
  by_cases hc : n - (a.length : Int) < 0
  · rw [show decide (n - (a.length : Int) < 0) = true by simpa using hc, cond_true] at h; omega
  · rw [show decide (n - (a.length : Int) < 0) = false by simpa using hc, cond_false] at h ⊢
    have := sC hs a
    rw [XA]; omega
theorem pe {α : Type} [Inhabited α] [Sz α] [Cn α] {E : α -> Int -> Int} {c : Nat} (hE : kz E c) (hcc : c <= 32) {a : List α} (hm : Sm maxLen a) {G : Nat -> Int -> Nat -> Sum Int Int}
    (h1 : ∀ n v i, G (n + 1) v i = bif decide ((i : Int) < (a.length : Int)) then (bif decide (E (nth a i) v < 0) then .inl (-1) else G n (E (nth a i) v) (i + 1)) else .inr v) :
    ∀ n v i, 0 <= v -> v <= 1048576 -> a.length < n + i -> i <= a.length -> ¬ (match G n v i with | .inl r => r | .inr z => z) < 0 ->
      (cnL cn (a.drop i) : Int) <= 32 * (v - (match G n v i with | .inl r => r | .inr z => z)) + 32 * ((a.length : Int) - i) /\ (match G n v i with | .inl r => r | .inr z => z) <= v := by
  intro n
  induction n with
  | zero => intro v i _ _ h2 h3; omega
  | succ n ih =>
    intro v i ef hv h2 h3 h
    rw [h1] at h ⊢
    by_cases hi : i < a.length
    · rw [show decide ((i : Int) < (a.length : Int)) = true by simp [hi], cond_true] at h ⊢
      by_cases hc : E (nth a i) v < 0
      · rw [show decide (E (nth a i) v < 0) = true by simpa using hc, cond_true] at h; simp at h
      · rw [show decide (E (nth a i) v < 0) = false by simpa using hc, cond_false] at h ⊢
        obtain ⟨e1, e2⟩ := hE (nth a i) v (hm.2 _ (vh hi)) ef hv hc
        obtain ⟨r1, r2⟩ := ih _ (i + 1) (by omega) (by omega) (by omega) hi h
        rw [List.drop_eq_getElem_cons hi, cnL, <- P8 hi]
        refine ⟨?_, by omega⟩
        simp only [Int.natCast_add] at r1 ⊢
        omega
    · rw [show decide ((i : Int) < (a.length : Int)) = false by simp; omega, cond_false] at h ⊢
      rw [List.drop_eq_nil_of_le (by omega)]
      simp only [cnL]
      exact ⟨by omega, by omega⟩
theorem Oy {α : Type} [Inhabited α] [Sz α] [Cn α] {E : α -> Int -> Int} {c : Nat} (hE : kz E c) (hcc : c <= 32) {F : List α -> Int -> Int} {G : List α -> Nat -> Int -> Nat -> Sum Int Int}
    (h1 : ∀ a n v i, G a (n + 1) v i = bif decide ((i : Int) < (a.length : Int)) then (bif decide (E (nth a i) v < 0) then .inl (-1) else G a n (E (nth a i) v) (i + 1)) else .inr v)
    (hF : ∀ a n, F a n = bif decide (W (n - (a.length : Int)) < 0) then (-1) else (match G a (a.length + 1) (W (n - (a.length : Int))) 0 with | .inl r => r | .inr z => z)) : kz F 0 := by
  intro a n hm h0 hn h
  rw [hF, DO h0 hn hm.1] at h ⊢
  by_cases hc : n - (a.length : Int) < 0
  · rw [show decide (n - (a.length : Int) < 0) = true by simpa using hc, cond_true] at h; omega
  · rw [show decide (n - (a.length : Int) < 0) = false by simpa using hc, cond_false] at h ⊢
    obtain ⟨r1, r2⟩ := pe hE hcc hm (h1 a) (a.length + 1) _ 0 (by omega) (by omega) (by omega) (by omega) h
    rw [List.drop_zero] at r1
    rw [XA]
    exact ⟨by omega, by omega⟩
theorem vx : kz (fun (s : ByteArray) n => W (n - (s.size : Int))) 1 := by
  intro a n hm h0 hn h
  have hm : a.size <= maxLen := hm
  dsimp only at h ⊢
  rw [DO h0 hn hm] at h ⊢
  rw [X9]
  exact ⟨by omega, by omega⟩
end Go.Mo
namespace Go.Mo
open Go.Vm
theorem qW {F : Nat -> Nat -> Sum Bool Unit} {L : Nat} {c : Nat -> Bool} (hc : ∀ i, c i = false) (h0 : ∀ i, F 0 i = .inr ())
    (h1 : ∀ n i, F (n + 1) i = bif decide ((i : Int) < (L : Int)) then (bif c i then .inl false else F n (i + 1)) else .inr ()) : ∀ n i, F n i = .inr () := by
  intro n
  induction n with
  | zero => exact h0
  | succ n ih =>
    intro i
    rw [h1, hc, cond_false, ih]
    cases decide ((i : Int) < (L : Int)) <;> rfl
end Go.Mo
namespace Go.Mo
open Go.Vm
theorem Kc (n : Int) : W n = (n + 9223372036854775808) % 18446744073709551616 - 9223372036854775808 := IntKind.wrap_i64 n
theorem rh {α : Type} [Inhabited α] [DecidableEq α] {F : Nat -> Nat -> Sum Bool Unit} {a b : List α} {c : Nat -> Bool} (hl : a.length = b.length) (hc : ∀ i, c i = !decide (nth a i = nth b i)) (h0 : ∀ i, F 0 i = .inr ())
    (h1 : ∀ n i, F (n + 1) i = bif decide ((i : Int) < (a.length : Int)) then (bif c i then .inl false else F n (i + 1)) else .inr ()) :
    F (a.length + 1) 0 = if a = b then .inr () else .inl false := by
  have key : ∀ n i, a.length < n + i -> F n i = if a.drop i = b.drop i then .inr () else .inl false := by
    intro n
    induction n with
    | zero =>
      intro i h
      rw [h0, List.drop_eq_nil_of_le (by omega), List.drop_eq_nil_of_le (by omega), if_pos rfl]
    | succ n ih =>
      intro i h
      rw [h1]
      by_cases hi : i < a.length
      · have hib : i < b.length := by omega
        rw [show decide ((i : Int) < (a.length : Int)) = true by simp [hi], cond_true, hc, List.drop_eq_getElem_cons hi, List.drop_eq_getElem_cons hib, P8 hi, P8 hib]
        by_cases he : a[i] = b[i]
        · rw [he, show decide (b[i] = b[i]) = true by simp, Bool.not_true, cond_false, ih _ (by omega)]
          simp only [List.cons.injEq, true_and]
        · rw [show decide (a[i] = b[i]) = false by simp [he], if_neg (fun hh => he (List.cons.inj hh).1)]
          rfl
      · rw [show decide ((i : Int) < (a.length : Int)) = false by simp; omega, cond_false, List.drop_eq_nil_of_le (by omega), List.drop_eq_nil_of_le (by omega), if_pos rfl]
  have := key (a.length + 1) 0 (by omega)
  simpa using this
theorem pD {α : Type} [Inhabited α] [DecidableEq α] {F : Nat -> Nat -> Sum Bool Unit} {a b : List α} {c : Nat -> Bool} (hc : ∀ i, c i = !decide (nth a i = nth b i)) (h0 : ∀ i, F 0 i = .inr ())
    (h1 : ∀ n i, F (n + 1) i = bif decide ((i : Int) < (a.length : Int)) then (bif c i then .inl false else F n (i + 1)) else .inr ()) :
    (bif ((a.length : Int) != (b.length : Int)) then false else (match F (a.length + 1) 0 with | .inl r => r | .inr _ => true)) = decide (a = b) := by
  by_cases hl : a.length = b.length
  · rw [rh hl hc h0 h1]
    simp only [hl, bne_self_eq_false, cond_false]
    by_cases h : a = b <;> simp [h]
  · have lD : a ≠ b := fun h => hl (by rw [h])
    have : ((a.length : Int) != (b.length : Int)) = true := by simp; omega
    rw [this, cond_true]; simp [lD]
end Go.Mo
namespace Go.Mo
open Go.Vm
theorem zp {α : Type} [Inhabited α] [Sz α] {f : α -> List D} {n : Nat} : ∀ {rows : List (List D)}, (∀ r, r ∈ rows -> ∃ x : α, r = f x /\ Sm n x) -> ∃ l : List α, rows = l.map f /\ ∀ x ∈ l, Sm n x
  | [], _ => ⟨[], rfl, fun _ h => by cases h⟩
  | r :: rows, h => by
    obtain ⟨x, hx, sx⟩ := h r (by simp)
    obtain ⟨l, hl, sl⟩ := zp (rows := rows) (fun r hr => h r (by simp [hr]))
    refine ⟨x :: l, by simp [hx, hl], fun y hy => ?_⟩
    rcases List.mem_cons.1 hy with rfl | hy
    · exact sx
    · exact sl y hy
theorem Zw (row : List D) (o s : Nat) : row.drop o = cut row o s ++ row.drop (o + s) := by
  rw [<- List.drop_drop, cut, List.take_append_drop]
end Go.Mo
namespace Go.Mo
open Go.Vm
theorem GI {P : Program} {n : Nat} {t : TypeId} {ts : List TypeId} : ∀ {rows : List (List D)}, E3 P n (t :: ts) rows -> ∃ r rs, rows = r :: rs /\ TyR P n t r /\ E3 P n ts rs
  | r :: rs, h => ⟨r, rs, rfl, h.1, h.2⟩
  | [], h => h.elim
theorem vr {P : Program} {n : Nat} : ∀ {rows : List (List D)}, E3 P n [] rows -> rows = []
  | [], _ => rfl
  | _ :: _, h => h.elim
end Go.Mo
namespace Go.Mo
open Go.Vm
@[simp] theorem nF (l : List UInt8) : KM l = l.map bR := rfl
@[simp] theorem od (x : Int) : ((UInt8.ofInt x).toNat : Int) = IntKind.u8.wrap x := by
  rw [IntKind.wrap_u8]
  simp [UInt8.ofInt]
  omega
theorem tb (x : Int) : (W (Int.tdiv x 10)).natAbs <= 9223372036854775808 /\ (W (Int.tdiv x 10)).natAbs <= x.natAbs / 10 := by
  rw [Kc]
  have : (Int.tdiv x 10).natAbs = x.natAbs / 10 := by rw [Int.natAbs_tdiv]; rfl
  omega
theorem th {x : Int} {n : Nat} (h : n + 1 = 21 \/ x.natAbs < 10 ^ (n + 1)) : (W (Int.tdiv x 10)).natAbs < 10 ^ n := by
  obtain ⟨h1, h2⟩ := tb x
  rcases h with h | h
  · have : n = 20 := by omega
    subst this
    have : (10 : Nat) ^ 20 = 100000000000000000000 := by decide
    omega
  · rw [Nat.pow_succ] at h; omega
end Go.Mo
namespace Go.Mo
open Go.Vm
theorem oh {p : Nat} {x : Int} (hj : p + 1 = 22 \/ x.natAbs < 10 ^ (p + 1 - 1)) (hx : (x != 0) = true) : 1 <= p /\ (p = 22 \/ (W (Int.tdiv x 10)).natAbs < 10 ^ (p - 1)) := by
  have hx : x ≠ 0 := by simpa using hx
  have hp : 1 <= p := by
    rcases hj with h | h
    · omega
    · rcases Nat.eq_zero_or_pos p with hz | hz
      · subst hz; simp at h; exact absurd h hx
      · exact hz
  refine ⟨hp, .inr ?_⟩
  obtain ⟨q, rfl⟩ : ∃ q, p = q + 1 := ⟨p - 1, by omega⟩
  exact th (x := x) (n := q) (hj.elim (fun h => .inl (by omega)) (fun h => .inr (by simpa using h)))
end Go.Mo
namespace Go.Mo
open Go.Vm
@[simp] theorem oy {α : Type} {l : List α} {n : Nat} (h : l.length <= n) : List.take n l = l := List.take_of_length_le h
@[simp] theorem rY {α β : Type} (f : α -> β) (l : List α) : List.take l.length (List.map f l) = List.map f l := List.take_of_length_le (by simp)
@[simp] theorem pK (n : Nat) : 1 + n = n + 1 := Nat.add_comm 1 n
@[simp] theorem na {α β : Type} (f : α -> β) (l : List α) (x y : β) : List.take (2 + l.length) (x :: y :: List.map f l) = x :: y :: List.map f l := List.take_of_length_le (by simp; omega)
@[simp] theorem ng {α β : Type} (f : α -> β) (l : List α) (x y z : β) : List.take (3 + l.length) (x :: y :: z :: List.map f l) = x :: y :: z :: List.map f l := List.take_of_length_le (by simp; omega)
@[simp] theorem nd {α β : Type} (f : α -> β) (l : List α) (x y z u : β) : List.take (4 + l.length) (x :: y :: z :: u :: List.map f l) = x :: y :: z :: u :: List.map f l := List.take_of_length_le (by simp; omega)
@[simp] theorem ni {α β : Type} (f : α -> β) (l : List α) (x y z u v : β) : List.take (5 + l.length) (x :: y :: z :: u :: v :: List.map f l) = x :: y :: z :: u :: v :: List.map f l := List.take_of_length_le (by simp; omega)
@[simp] theorem nc {α β : Type} (f : α -> β) (l : List α) (x y z u v w : β) : List.take (6 + l.length) (x :: y :: z :: u :: v :: w :: List.map f l) = x :: y :: z :: u :: v :: w :: List.map f l := List.take_of_length_le (by simp; omega)
theorem tU (n : Nat) (h : n <= 9223372036854775807) : W ((n : Int) - 1) = (n : Int) - 1 := Zb (by omega) (by omega)
end Go.Mo
namespace Go.Mo
@[simp] theorem nb (a : Array UInt8) : (ByteArray.mk a).size = a.size := rfl
@[simp] theorem oz {α : Type} {l : List α} {x : α} {v n : Nat} (h : l.length = n) : List.take (min v n + 1 + (n - v)) (List.take v l ++ x :: List.drop v l) = List.take v l ++ x :: List.drop v l := by
  apply List.take_of_length_le; simp; omega
@[simp] theorem nk (a b : Nat) : (min a b + 1 + (b - a) = min a b + (b - a + 1)) = True := by simp; omega
theorem oN {α : Type} [Inhabited α] [Sz α] {n i : Nat} {l : List α} {x : α} (h : Sm n l) (hx : Sm n x) : Sm n (l.set i x) :=
  ⟨by simpa using h.1, fun y hy => by
    rcases List.mem_or_eq_of_mem_set hy with hy | rfl
    · exact h.2 y hy
    · exact hx⟩
theorem ve {α : Type} (a b : α) : cond true a b = a /\ cond false a b = b := ⟨rfl, rfl⟩
theorem Y0 {α : Type} (a b : α) : cond true a b = a := (ve a b).1
theorem Yi {α : Type} (a b : α) : cond false a b = b := (ve a b).2
/-- a side condition that is found by itself -/
theorem sd {a b : Prop} (h : b) (k : a := by (intros; first | omega | (simp only [decide_eq_true_eq, decide_eq_false_iff_not, beq_iff_eq, beq_eq_false_iff_ne, bne_iff_ne, ne_eq, Bool.or_eq_false_iff, Bool.or_eq_true, Bool.and_eq_true, Bool.not_eq_true', Bool.not_eq_false'] at *; omega) | ((try simp only [Go.Mo.Kc, show ∀ x, Go.IntKind.i64.wrap x = Go.Vm.W x from fun _ => rfl] at *); omega))) : a /\ b := ⟨k, h⟩
theorem sdg {a b : Prop} (h : b) (k : a := by (intros; first | omega | (simp_all; done) | (simp_all; omega) | grind | ((try simp only [Go.Mo.Kc, show ∀ x, Go.IntKind.i64.wrap x = Go.Vm.W x from fun _ => rfl] at *); omega))) : a /\ b := ⟨k, h⟩
theorem il {a b : Nat} (h : a < b := by first | omega | (simp only [decide_eq_true_eq, decide_eq_false_iff_not, beq_iff_eq, beq_eq_false_iff_ne, bne_iff_ne, ne_eq, Bool.or_eq_false_iff, Bool.not_eq_true', Bool.not_eq_false'] at *; omega) | (simp_all [List.length_pos_iff]; done) | (simp; omega) | (simp_all; omega) | ((try simp only [Go.Mo.Kc, show ∀ x, Go.IntKind.i64.wrap x = Go.Vm.W x from fun _ => rfl] at *); omega) | (simp; (try simp only [Go.Mo.Kc, show ∀ x, Go.IntKind.i64.wrap x = Go.Vm.W x from fun _ => rfl] at *); omega)) : a < b := h
theorem ik {α : Type} (a : Nat) (l : List α) (h : a < l.length := by first | omega | (simp only [decide_eq_true_eq, decide_eq_false_iff_not, beq_iff_eq, beq_eq_false_iff_ne, bne_iff_ne, ne_eq, Bool.or_eq_false_iff, Bool.not_eq_true', Bool.not_eq_false'] at *; omega) | (simp_all [List.length_pos_iff]; done) | (simp; omega) | (simp_all; omega) | ((try simp only [Go.Mo.Kc, show ∀ x, Go.IntKind.i64.wrap x = Go.Vm.W x from fun _ => rfl] at *); omega) | (simp; (try simp only [Go.Mo.Kc, show ∀ x, Go.IntKind.i64.wrap x = Go.Vm.W x from fun _ => rfl] at *); omega)) : a < l.length := h
theorem sl {α : Type} [Inhabited α] [Sz α] (n : Nat) (l : List α) {q : Prop} (u : q) (h : q -> Sm n l := by (intro u; simp (maxDischargeDepth := 12) [u])) : l.length <= n := JA (h u)
theorem sg {α : Type} [Inhabited α] [Sz α] {n m : Nat} {x : α} (h : Sm n x) (k : n <= m := by decide) : Sm m x := Zk k h
theorem Wi {α : Type} (c : α -> Nat) : ∀ (l : List α) (i : Nat) (x : α), cnL c (l.set i x) <= cnL c l + c x
  | [], _, _ => by simp [cnL]
  | y :: l, 0, x => by simp only [List.set_cons_zero, cnL]; omega
  | y :: l, i + 1, x => by have := Wi c l i x; simp only [List.set_cons_succ, cnL]; omega
theorem UG {α : Type} [Inhabited α] (c : α -> Nat) : ∀ (l : List α) (i : Nat), c (Vm.nth l i) <= cnL c l + c default
  | [], _ => by simp [Vm.nth, cnL]
  | y :: l, 0 => by simp only [Vm.nth, List.getD_cons_zero, cnL]; omega
  | y :: l, i + 1 => by have := UG c l i; simp only [Vm.nth, List.getD_cons_succ, cnL] at this ⊢; omega
theorem JR {α : Type} (c : α -> Nat) : ∀ (l m : List α), cnL c (l ++ m) = cnL c l + cnL c m
  | [], m => by simp [cnL]
  | y :: l, m => by have := JR c l m; simp only [List.cons_append, cnL]; omega
theorem TV (a0 : ZJ) (i : Nat) (x : ZD) (b : Bool) : cn ((ZJ.mk a0.Frame a0.ZS a0.Zr (a0.ZA.set i x) a0.Ym a0.YW a0.Next a0.YN), b).1 <= cn a0 + cn x := by
  have := Wi (cn : ZD -> Nat) a0.ZA i x
  simp only [ZJ.Yb, XA] at this ⊢; omega
theorem Tg (a0 : ZJ) (i : Nat) : cn (Vm.nth a0.ZA i) <= cn a0 + 100 := by
  have h1 := UG (cn : ZD -> Nat) a0.ZA i
  have hd : cn (default : ZD) <= 100 := Nat.le_of_ble_eq_true rfl
  simp only [ZJ.Yb, XA] at h1 ⊢; omega
theorem R8 {α : Type} [Inhabited α] {l : List α} {i : Nat} (h : i < l.length) : l.drop i = Vm.nth l i :: l.drop (i + 1) := by
  rw [List.drop_eq_getElem_cons h]; simp [Vm.nth, List.getD_eq_getElem?_getD, List.getElem?_eq_getElem h]
theorem Nu {α : Type} [Inhabited α] (c : α -> Nat) {l : List α} {i : Nat} (h : i < l.length) : cnL c (l.drop i) = c (Vm.nth l i) + cnL c (l.drop (i + 1)) := by rw [R8 h]; rfl
theorem H2 {α β : Type} [Inhabited α] {as : List α} (f : α -> List β) {F : Nat -> Nat -> List β -> List β} (h1 : ∀ n i l, F (n + 1) i l = bif decide ((i : Int) < (as.length : Int)) then F n (i + 1) (l ++ f (Vm.nth as i)) else l) : ∀ n i l, as.length < n + i -> i <= as.length -> F n i l = l ++ (as.drop i).flatMap f
  | 0, i, l, h, h2 => by omega
  | n + 1, i, l, h, h2 => by
    rw [h1]
    by_cases hi : i < as.length
    · rw [show decide ((i : Int) < (as.length : Int)) = true by simpa using hi, Y0, H2 f h1 n (i + 1) _ (by omega) hi, R8 hi]; simp
    · rw [show decide ((i : Int) < (as.length : Int)) = false by simpa using hi, Yi, List.drop_eq_nil_of_le (by omega)]; simp
theorem Hw {α β : Type} (f : α -> β) : ∀ l : List α, l.flatMap (fun a => [f a]) = l.map f
  | [] => rfl
  | x :: l => by rw [List.flatMap_cons, Hw f l]; rfl
end Go.Mo
