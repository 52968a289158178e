/- The plain data of the program, typed, and fV they read as rows of the abstract machine. No condition. -/
import Derived.Test.YtngnbcmfckmklaaGreatVe
import Derived.Laws.BitsLemmas
namespace Go.Mo
open Go.Vm
@[simp] def iR (n : Int) : List Vm.D := [.int .i64 n]
@[simp] def bR (b : UInt8) : List Vm.D := [.int .u8 (b.toNat : Int)]
@[simp] def lR (b : Bool) : List Vm.D := [.bool b]
@[simp] def sR (s : ByteArray) : List Vm.D := [.str s]
@[simp] def slR {α : Type} (n : Nat) (f : α -> List D) (m : List α) : List Vm.D := [.sl n (m.map f)]
/-- everything in it is at most so long -/
class Sz (α : Type) [Inhabited α] where
  sm : Nat -> α -> Prop
  zero : ∀ n, sm n default
  mono : ∀ {n m : Nat} {x : α}, n <= m -> sm n x -> sm m x
/-- fV many marks it takes -/
class Cn (α : Type) where
  cn : α -> Nat
abbrev cn {α : Type} [Cn α] (x : α) : Nat := Cn.cn x
def cnL {α : Type} (c : α -> Nat) : List α -> Nat
  | [] => 0
  | x :: l => c x + cnL c l
instance : Cn Int := ⟨fun _ => 1⟩
instance : Cn Bool := ⟨fun _ => 1⟩
instance : Cn UInt8 := ⟨fun _ => 1⟩
instance : Cn ByteArray := ⟨fun _ => 1⟩
instance {α : Type} [Cn α] : Cn (List α) := ⟨cnL Cn.cn⟩
theorem Xk (x : Int) : cn x = 1 := rfl
theorem Xd (x : Bool) : cn x = 1 := rfl
theorem yy (x : UInt8) : cn x = 1 := rfl
theorem QL (x : ByteArray) : cn x = 1 := rfl
theorem X5 {α : Type} [Cn α] (x : List α) : cn x = cnL cn x := rfl
abbrev Sm {α : Type} [Inhabited α] [Sz α] (n : Nat) (x : α) : Prop := Sz.sm n x
instance : Sz Int := ⟨fun _ _ => True, fun _ => trivial, fun _ h => h⟩
instance : Sz Bool := ⟨fun _ _ => True, fun _ => trivial, fun _ h => h⟩
instance : Sz UInt8 := ⟨fun _ _ => True, fun _ => trivial, fun _ h => h⟩
instance : Sz ByteArray := ⟨fun n s => s.size <= n, fun _ => Nat.zero_le _, fun h k => Nat.le_trans k h⟩
instance {α : Type} [Inhabited α] [Sz α] : Sz (List α) := ⟨fun n l => l.length <= n /\ ∀ x ∈ l, Sz.sm n x, fun _ => ⟨Nat.zero_le _, fun _ h => by cases h⟩, fun h k => ⟨Nat.le_trans k.1 h, fun x hx => Sz.mono h (k.2 x hx)⟩⟩
theorem XC {α : Type} [Inhabited α] [Sz α] {n : Nat} {l : List α} : Sm n l = (l.length <= n /\ ∀ x ∈ l, Sm n x) := rfl
theorem XP {α : Type} [Inhabited α] [Sz α] {n : Nat} {l : List α} (h : Sm n l) : l.length <= n := h.1
theorem Bu {n : Nat} {s : ByteArray} (h : Sm n s) : s.size <= n := h
@[simp] theorem lH {n : Nat} {x : Int} : Sm n x := trivial
@[simp] theorem mz {n : Nat} {x : Bool} : Sm n x := trivial
@[simp] theorem lb {n : Nat} {x : UInt8} : Sm n x := trivial
@[simp] theorem SQ {α : Type} [Inhabited α] [Sz α] {n : Nat} : Sm n ([] : List α) := ⟨Nat.zero_le _, fun _ h => by cases h⟩
@[simp] theorem Z7 {α : Type} [Inhabited α] [Sz α] {n i : Nat} {l : List α} (h : Sm n l) : Sm n (nth l i) := by
  unfold nth
  rw [List.getD_eq_getElem?_getD]
  cases hh : l[i]? with
  | none => exact Sz.zero n
  | some x => exact h.2 x (List.mem_of_getElem? hh)
@[simp] theorem m9 {α : Type} [Inhabited α] [Sz α] {n i : Nat} {l : List α} (h : Sm n l) : Sm n (l.take i) := ⟨Nat.le_trans (by simp; omega) h.1, fun x hx => h.2 x (List.mem_of_mem_take hx)⟩
@[simp] theorem mw {α : Type} [Inhabited α] [Sz α] {n i : Nat} {l : List α} (h : Sm n l) : Sm n (l.drop i) := ⟨Nat.le_trans (by simp) h.1, fun x hx => h.2 x (List.mem_of_mem_drop hx)⟩
theorem zN {α : Type} [Inhabited α] [Sz α] {n : Nat} {l m : List α} : Sm n (l ++ m) = (l.length + m.length <= n /\ (∀ x ∈ l, Sm n x) /\ ∀ x ∈ m, Sm n x) := by
  rw [XC]; simp [or_imp, forall_and]
theorem ZZ {α : Type} [Inhabited α] [Sz α] {n m : Nat} {x : α} (h : n <= m) (k : Sm n x) : Sm m x := Sz.mono h k
structure ZW where
  Authority : Int
  Seq : Int
  Time : Int
  Xa : Int
  Mark : Int
  deriving Inhabited, DecidableEq
@[simp] def ZW.row (x : ZW) : List Vm.D := [.int .i64 x.Authority, .int .i64 x.Seq, .int .i64 x.Time, .int .i64 x.Xa, .int .i64 x.Mark]
instance : Cn ZW := ⟨fun x => cn x.Authority + cn x.Seq + cn x.Time + cn x.Xa + cn x.Mark⟩
theorem ZW.Yz (x : ZW) : cn x = cn x.Authority + cn x.Seq + cn x.Time + cn x.Xa + cn x.Mark := rfl
instance : Sz ZW := ⟨fun _ _ => True, fun _ => trivial, fun _ h => h⟩
@[simp] theorem ZW.TO {n : Nat} {x : ZW} : Sm n x := trivial
structure Zy where
  Xa : Int
  Left : Bool
  deriving Inhabited, DecidableEq
@[simp] def Zy.row (x : Zy) : List Vm.D := [.int .i64 x.Xa, .bool x.Left]
instance : Cn Zy := ⟨fun x => cn x.Xa + cn x.Left⟩
theorem Zy.Yz (x : Zy) : cn x = cn x.Xa + cn x.Left := rfl
instance : Sz Zy := ⟨fun _ _ => True, fun _ => trivial, fun _ h => h⟩
@[simp] theorem Zy.TO {n : Nat} {x : Zy} : Sm n x := trivial
structure ZK where
  Count : Int
  Method : Int
  GK : Int
  Path : List Zy
  Yi : List ZW
  deriving Inhabited, DecidableEq
@[simp] def ZK.row (x : ZK) : List Vm.D := [.int .i64 x.Count, .int .i64 x.Method, .int .i64 x.GK, .sl 2 (x.Path.map Zy.row), .sl 5 (x.Yi.map ZW.row)]
instance : Cn ZK := ⟨fun x => cn x.Count + cn x.Method + cn x.GK + cn x.Path + cn x.Yi⟩
theorem ZK.Yz (x : ZK) : cn x = cn x.Count + cn x.Method + cn x.GK + cn x.Path + cn x.Yi := rfl
instance : Sz ZK := ⟨fun n x => Sm n x.Path /\ Sm n x.Yi, fun n => ⟨Sz.zero n, Sz.zero n⟩, fun h k => ⟨Sz.mono h k.1, Sz.mono h k.2⟩⟩
@[simp] theorem ZK.pz {n : Nat} {x : ZK} (h : Sm n x) : Sm n x.Path := h.1
@[simp] theorem ZK.Cv {n : Nat} {x : ZK} (h : Sm n x) : Sm n x.Yi := h.2
@[simp] theorem ZK.RN {n : Nat} {Count' : Int} {aF : Int} {Root' : Int} {aa : List Zy} {cG : List ZW} : Sm n (ZK.mk Count' aF Root' aa cG) = (Sm n aa /\ Sm n cG) := rfl
structure YZ where
  Number : Int
  WY : Int
  Method : Int
  Vz : Int
  V8 : Int
  deriving Inhabited, DecidableEq
@[simp] def YZ.row (x : YZ) : List Vm.D := [.int .i64 x.Number, .int .i64 x.WY, .int .i64 x.Method, .int .i64 x.Vz, .int .i64 x.V8]
instance : Cn YZ := ⟨fun x => cn x.Number + cn x.WY + cn x.Method + cn x.Vz + cn x.V8⟩
theorem YZ.Yz (x : YZ) : cn x = cn x.Number + cn x.WY + cn x.Method + cn x.Vz + cn x.V8 := rfl
instance : Sz YZ := ⟨fun _ _ => True, fun _ => trivial, fun _ h => h⟩
@[simp] theorem YZ.TO {n : Nat} {x : YZ} : Sm n x := trivial
structure ZR where
  Id : Int
  Key : Int
  Error : Int
  deriving Inhabited, DecidableEq
@[simp] def ZR.row (x : ZR) : List Vm.D := [.int .i64 x.Id, .int .i64 x.Key, .int .i64 x.Error]
instance : Cn ZR := ⟨fun x => cn x.Id + cn x.Key + cn x.Error⟩
theorem ZR.Yz (x : ZR) : cn x = cn x.Id + cn x.Key + cn x.Error := rfl
instance : Sz ZR := ⟨fun _ _ => True, fun _ => trivial, fun _ h => h⟩
@[simp] theorem ZR.TO {n : Nat} {x : ZR} : Sm n x := trivial
structure Zj where
  Id : Int
  Nc : Int
  Ends : Int
  Si : Int
  deriving Inhabited, DecidableEq
@[simp] def Zj.row (x : Zj) : List Vm.D := [.int .i64 x.Id, .int .i64 x.Nc, .int .i64 x.Ends, .int .i64 x.Si]
instance : Cn Zj := ⟨fun x => cn x.Id + cn x.Nc + cn x.Ends + cn x.Si⟩
theorem Zj.Yz (x : Zj) : cn x = cn x.Id + cn x.Nc + cn x.Ends + cn x.Si := rfl
instance : Sz Zj := ⟨fun _ _ => True, fun _ => trivial, fun _ h => h⟩
@[simp] theorem Zj.TO {n : Nat} {x : Zj} : Sm n x := trivial
structure Zq where
  Zm : List YZ
  ZE : List ZR
  Methods : List Zj
  KZ : Int
  Now : Int
  deriving Inhabited, DecidableEq
@[simp] def Zq.row (x : Zq) : List Vm.D := [.sl 5 (x.Zm.map YZ.row), .sl 3 (x.ZE.map ZR.row), .sl 4 (x.Methods.map Zj.row), .int .i64 x.KZ, .int .i64 x.Now]
instance : Cn Zq := ⟨fun x => cn x.Zm + cn x.ZE + cn x.Methods + cn x.KZ + cn x.Now⟩
theorem Zq.Yz (x : Zq) : cn x = cn x.Zm + cn x.ZE + cn x.Methods + cn x.KZ + cn x.Now := rfl
instance : Sz Zq := ⟨fun n x => Sm n x.Zm /\ Sm n x.ZE /\ Sm n x.Methods, fun n => ⟨Sz.zero n, Sz.zero n, Sz.zero n⟩, fun h k => ⟨Sz.mono h k.1, Sz.mono h k.2.1, Sz.mono h k.2.2⟩⟩
@[simp] theorem Zq.xw {n : Nat} {x : Zq} (h : Sm n x) : Sm n x.Zm := h.1
@[simp] theorem Zq.XV {n : Nat} {x : Zq} (h : Sm n x) : Sm n x.ZE := h.2.1
@[simp] theorem Zq.GZ {n : Nat} {x : Zq} (h : Sm n x) : Sm n x.Methods := h.2.2
@[simp] theorem Zq.RN {n : Nat} {ab : List YZ} {fT : List ZR} {fF : List Zj} {Liars' : Int} {Now' : Int} : Sm n (Zq.mk ab fT fF Liars' Now') = (Sm n ab /\ Sm n fT /\ Sm n fF) := rfl
structure Z1 where
  Zi : Int
  Key : Int
  WY : Int
  UM : Int
  To : Int
  Z2 : Int
  Mark : Int
  deriving Inhabited, DecidableEq
@[simp] def Z1.row (x : Z1) : List Vm.D := [.int .i64 x.Zi, .int .i64 x.Key, .int .i64 x.WY, .int .i64 x.UM, .int .i64 x.To, .int .i64 x.Z2, .int .i64 x.Mark]
instance : Cn Z1 := ⟨fun x => cn x.Zi + cn x.Key + cn x.WY + cn x.UM + cn x.To + cn x.Z2 + cn x.Mark⟩
theorem Z1.Yz (x : Z1) : cn x = cn x.Zi + cn x.Key + cn x.WY + cn x.UM + cn x.To + cn x.Z2 + cn x.Mark := rfl
instance : Sz Z1 := ⟨fun _ _ => True, fun _ => trivial, fun _ h => h⟩
@[simp] theorem Z1.TO {n : Nat} {x : Z1} : Sm n x := trivial
structure ZT where
  qn : Int
  ZU : List ByteArray
  Zk : List Int
  deriving Inhabited, DecidableEq
@[simp] def ZT.row (x : ZT) : List Vm.D := [.int .i64 x.qn, .sl 1 (x.ZU.map sR), .sl 1 (x.Zk.map iR)]
instance : Cn ZT := ⟨fun x => cn x.qn + cn x.ZU + cn x.Zk⟩
theorem ZT.Yz (x : ZT) : cn x = cn x.qn + cn x.ZU + cn x.Zk := rfl
instance : Sz ZT := ⟨fun n x => Sm n x.ZU /\ Sm n x.Zk, fun n => ⟨Sz.zero n, Sz.zero n⟩, fun h k => ⟨Sz.mono h k.1, Sz.mono h k.2⟩⟩
@[simp] theorem ZT.NZ {n : Nat} {x : ZT} (h : Sm n x) : Sm n x.ZU := h.1
@[simp] theorem ZT.GM {n : Nat} {x : ZT} (h : Sm n x) : Sm n x.Zk := h.2
@[simp] theorem ZT.RN {n : Nat} {dq : Int} {eJ : List ByteArray} {eK : List Int} : Sm n (ZT.mk dq eJ eK) = (Sm n eJ /\ Sm n eK) := rfl
structure Zc where
  Key : Int
  Zi : Int
  Method : Int
  Xa : Int
  qX : Int
  Org : Int
  qW : Int
  Wy : Int
  Mark : Int
  deriving Inhabited, DecidableEq
@[simp] def Zc.row (x : Zc) : List Vm.D := [.int .i64 x.Key, .int .i64 x.Zi, .int .i64 x.Method, .int .i64 x.Xa, .int .i64 x.qX, .int .i64 x.Org, .int .i64 x.qW, .int .i64 x.Wy, .int .i64 x.Mark]
instance : Cn Zc := ⟨fun x => cn x.Key + cn x.Zi + cn x.Method + cn x.Xa + cn x.qX + cn x.Org + cn x.qW + cn x.Wy + cn x.Mark⟩
theorem Zc.Yz (x : Zc) : cn x = cn x.Key + cn x.Zi + cn x.Method + cn x.Xa + cn x.qX + cn x.Org + cn x.qW + cn x.Wy + cn x.Mark := rfl
instance : Sz Zc := ⟨fun _ _ => True, fun _ => trivial, fun _ h => h⟩
@[simp] theorem Zc.TO {n : Nat} {x : Zc} : Sm n x := trivial
structure ZO where
  Key : Int
  Ys : List Int
  Mark : Int
  deriving Inhabited, DecidableEq
@[simp] def ZO.row (x : ZO) : List Vm.D := [.int .i64 x.Key, .sl 1 (x.Ys.map iR), .int .i64 x.Mark]
instance : Cn ZO := ⟨fun x => cn x.Key + cn x.Ys + cn x.Mark⟩
theorem ZO.Yz (x : ZO) : cn x = cn x.Key + cn x.Ys + cn x.Mark := rfl
instance : Sz ZO := ⟨fun n x => Sm n x.Ys, fun n => Sz.zero n, fun h k => Sz.mono h k⟩
@[simp] theorem ZO.uv {n : Nat} {x : ZO} (h : Sm n x) : Sm n x.Ys := h
@[simp] theorem ZO.RN {n : Nat} {Key' : Int} {ae : List Int} {Mark' : Int} : Sm n (ZO.mk Key' ae Mark') = (Sm n ae) := rfl
structure Za where
  ZL : List ZO
  Zf : List ZK
  deriving Inhabited, DecidableEq
@[simp] def Za.row (x : Za) : List Vm.D := [.sl 3 (x.ZL.map ZO.row), .sl 5 (x.Zf.map ZK.row)]
instance : Cn Za := ⟨fun x => cn x.ZL + cn x.Zf⟩
theorem Za.Yz (x : Za) : cn x = cn x.ZL + cn x.Zf := rfl
instance : Sz Za := ⟨fun n x => Sm n x.ZL /\ Sm n x.Zf, fun n => ⟨Sz.zero n, Sz.zero n⟩, fun h k => ⟨Sz.mono h k.1, Sz.mono h k.2⟩⟩
@[simp] theorem Za.km {n : Nat} {x : Za} (h : Sm n x) : Sm n x.ZL := h.1
@[simp] theorem Za.kH {n : Nat} {x : Za} (h : Sm n x) : Sm n x.Zf := h.2
@[simp] theorem Za.RN {n : Nat} {cH : List ZO} {bN : List ZK} : Sm n (Za.mk cH bN) = (Sm n cH /\ Sm n bN) := rfl
structure ZM where
  Id : Int
  XB : Int
  Doc : ZT
  Sig : Zc
  ZJ : Za
  deriving Inhabited, DecidableEq
@[simp] def ZM.row (x : ZM) : List Vm.D := [.int .i64 x.Id, .int .i64 x.XB, .int .i64 x.Doc.qn, .sl 1 (x.Doc.ZU.map sR), .sl 1 (x.Doc.Zk.map iR), .int .i64 x.Sig.Key, .int .i64 x.Sig.Zi, .int .i64 x.Sig.Method, .int .i64 x.Sig.Xa, .int .i64 x.Sig.qX, .int .i64 x.Sig.Org, .int .i64 x.Sig.qW, .int .i64 x.Sig.Wy, .int .i64 x.Sig.Mark, .sl 3 (x.ZJ.ZL.map ZO.row), .sl 5 (x.ZJ.Zf.map ZK.row)]
instance : Cn ZM := ⟨fun x => cn x.Id + cn x.XB + cn x.Doc + cn x.Sig + cn x.ZJ⟩
theorem ZM.Yz (x : ZM) : cn x = cn x.Id + cn x.XB + cn x.Doc + cn x.Sig + cn x.ZJ := rfl
instance : Sz ZM := ⟨fun n x => Sm n x.Doc /\ Sm n x.ZJ, fun n => ⟨Sz.zero n, Sz.zero n⟩, fun h k => ⟨Sz.mono h k.1, Sz.mono h k.2⟩⟩
@[simp] theorem ZM.kp {n : Nat} {x : ZM} (h : Sm n x) : Sm n x.Doc := h.1
@[simp] theorem ZM.Jo {n : Nat} {x : ZM} (h : Sm n x) : Sm n x.ZJ := h.2
@[simp] theorem ZM.RN {n : Nat} {Id' : Int} {Keep' : Int} {bO : ZT} {Sig' : Zc} {cI : Za} : Sm n (ZM.mk Id' Keep' bO Sig' cI) = (Sm n bO /\ Sm n cI) := rfl
structure ZC where
  Id : Int
  ZD : List ZM
  deriving Inhabited, DecidableEq
@[simp] def ZC.row (x : ZC) : List Vm.D := [.int .i64 x.Id, .sl 16 (x.ZD.map ZM.row)]
instance : Cn ZC := ⟨fun x => cn x.Id + cn x.ZD⟩
theorem ZC.Yz (x : ZC) : cn x = cn x.Id + cn x.ZD := rfl
instance : Sz ZC := ⟨fun n x => Sm n x.ZD, fun n => Sz.zero n, fun h k => Sz.mono h k⟩
@[simp] theorem ZC.YO {n : Nat} {x : ZC} (h : Sm n x) : Sm n x.ZD := h
@[simp] theorem ZC.RN {n : Nat} {Id' : Int} {eM : List ZM} : Sm n (ZC.mk Id' eM) = (Sm n eM) := rfl
structure ZH where
  Frame : Zq
  ZN : List Z1
  Zl : List Int
  ZA : List ZC
  YX : List Int
  YJ : List Int
  Next : Int
  Z4 : List Int
  deriving Inhabited, DecidableEq
@[simp] def ZH.row (x : ZH) : List Vm.D := [.sl 5 (x.Frame.Zm.map YZ.row), .sl 3 (x.Frame.ZE.map ZR.row), .sl 4 (x.Frame.Methods.map Zj.row), .int .i64 x.Frame.KZ, .int .i64 x.Frame.Now, .sl 7 (x.ZN.map Z1.row), .sl 1 (x.Zl.map iR), .sl 2 (x.ZA.map ZC.row), .sl 1 (x.YX.map iR), .sl 1 (x.YJ.map iR), .int .i64 x.Next, .sl 1 (x.Z4.map iR)]
instance : Cn ZH := ⟨fun x => cn x.Frame + cn x.ZN + cn x.Zl + cn x.ZA + cn x.YX + cn x.YJ + cn x.Next + cn x.Z4⟩
theorem ZH.Yz (x : ZH) : cn x = cn x.Frame + cn x.ZN + cn x.Zl + cn x.ZA + cn x.YX + cn x.YJ + cn x.Next + cn x.Z4 := rfl
instance : Sz ZH := ⟨fun n x => Sm n x.Frame /\ Sm n x.ZN /\ Sm n x.Zl /\ Sm n x.ZA /\ Sm n x.YX /\ Sm n x.YJ /\ Sm n x.Z4, fun n => ⟨Sz.zero n, Sz.zero n, Sz.zero n, Sz.zero n, Sz.zero n, Sz.zero n, Sz.zero n⟩, fun h k => ⟨Sz.mono h k.1, Sz.mono h k.2.1, Sz.mono h k.2.2.1, Sz.mono h k.2.2.2.1, Sz.mono h k.2.2.2.2.1, Sz.mono h k.2.2.2.2.2.1, Sz.mono h k.2.2.2.2.2.2⟩⟩
@[simp] theorem ZH.Xj {n : Nat} {x : ZH} (h : Sm n x) : Sm n x.Frame := h.1
@[simp] theorem ZH.sj {n : Nat} {x : ZH} (h : Sm n x) : Sm n x.ZN := h.2.1
@[simp] theorem ZH.wL {n : Nat} {x : ZH} (h : Sm n x) : Sm n x.Zl := h.2.2.1
@[simp] theorem ZH.YW {n : Nat} {x : ZH} (h : Sm n x) : Sm n x.ZA := h.2.2.2.1
@[simp] theorem ZH.Cy {n : Nat} {x : ZH} (h : Sm n x) : Sm n x.YX := h.2.2.2.2.1
@[simp] theorem ZH.wC {n : Nat} {x : ZH} (h : Sm n x) : Sm n x.YJ := h.2.2.2.2.2.1
@[simp] theorem ZH.Pw {n : Nat} {x : ZH} (h : Sm n x) : Sm n x.Z4 := h.2.2.2.2.2.2
@[simp] theorem ZH.RN {n : Nat} {bP : Zq} {bQ : List Z1} {bS : List Int} {eg : List ZC} {af : List Int} {bT : List Int} {Next' : Int} {cJ : List Int} : Sm n (ZH.mk bP bQ bS eg af bT Next' cJ) = (Sm n bP /\ Sm n bQ /\ Sm n bS /\ Sm n eg /\ Sm n af /\ Sm n bT /\ Sm n cJ) := rfl
structure Zp where
  Kind : Int
  A : Int
  B : Int
  C : Int
  D : Int
  Doc : ZT
  Ids : List Int
  deriving Inhabited, DecidableEq
@[simp] def Zp.row (x : Zp) : List Vm.D := [.int .i64 x.Kind, .int .i64 x.A, .int .i64 x.B, .int .i64 x.C, .int .i64 x.D, .int .i64 x.Doc.qn, .sl 1 (x.Doc.ZU.map sR), .sl 1 (x.Doc.Zk.map iR), .sl 1 (x.Ids.map iR)]
instance : Cn Zp := ⟨fun x => cn x.Kind + cn x.A + cn x.B + cn x.C + cn x.D + cn x.Doc + cn x.Ids⟩
theorem Zp.Yz (x : Zp) : cn x = cn x.Kind + cn x.A + cn x.B + cn x.C + cn x.D + cn x.Doc + cn x.Ids := rfl
instance : Sz Zp := ⟨fun n x => Sm n x.Doc /\ Sm n x.Ids, fun n => ⟨Sz.zero n, Sz.zero n⟩, fun h k => ⟨Sz.mono h k.1, Sz.mono h k.2⟩⟩
@[simp] theorem Zp.kp {n : Nat} {x : Zp} (h : Sm n x) : Sm n x.Doc := h.1
@[simp] theorem Zp.vu {n : Nat} {x : Zp} (h : Sm n x) : Sm n x.Ids := h.2
@[simp] theorem Zp.RN {n : Nat} {Kind' : Int} {A' : Int} {B' : Int} {C' : Int} {D' : Int} {bO : ZT} {Ids' : List Int} : Sm n (Zp.mk Kind' A' B' C' D' bO Ids') = (Sm n bO /\ Sm n Ids') := rfl
structure N3 where
  UM : Int
  To : Int
  deriving Inhabited, DecidableEq
@[simp] def N3.row (x : N3) : List Vm.D := [.int .i64 x.UM, .int .i64 x.To]
instance : Cn N3 := ⟨fun x => cn x.UM + cn x.To⟩
theorem N3.Yz (x : N3) : cn x = cn x.UM + cn x.To := rfl
instance : Sz N3 := ⟨fun _ _ => True, fun _ => trivial, fun _ h => h⟩
@[simp] theorem N3.TO {n : Nat} {x : N3} : Sm n x := trivial
structure Wb where
  Code : Int
  Reason : Int
  Span : N3
  deriving Inhabited, DecidableEq
@[simp] def Wb.row (x : Wb) : List Vm.D := [.int .i64 x.Code, .int .i64 x.Reason, .int .i64 x.Span.UM, .int .i64 x.Span.To]
instance : Cn Wb := ⟨fun x => cn x.Code + cn x.Reason + cn x.Span⟩
theorem Wb.Yz (x : Wb) : cn x = cn x.Code + cn x.Reason + cn x.Span := rfl
instance : Sz Wb := ⟨fun _ _ => True, fun _ => trivial, fun _ h => h⟩
@[simp] theorem Wb.TO {n : Nat} {x : Wb} : Sm n x := trivial
structure Qz where
  qn : Int
  Methods : List Int
  Shown : List Bool
  ZU : List ByteArray
  Zk : List Int
  N0 : List (List Int)
  deriving Inhabited, DecidableEq
@[simp] def Qz.row (x : Qz) : List Vm.D := [.int .i64 x.qn, .sl 1 (x.Methods.map iR), .sl 1 (x.Shown.map lR), .sl 1 (x.ZU.map sR), .sl 1 (x.Zk.map iR), .sl 1 (x.N0.map (slR 1 iR))]
instance : Cn Qz := ⟨fun x => cn x.qn + cn x.Methods + cn x.Shown + cn x.ZU + cn x.Zk + cn x.N0⟩
theorem Qz.Yz (x : Qz) : cn x = cn x.qn + cn x.Methods + cn x.Shown + cn x.ZU + cn x.Zk + cn x.N0 := rfl
instance : Sz Qz := ⟨fun n x => Sm n x.Methods /\ Sm n x.Shown /\ Sm n x.ZU /\ Sm n x.Zk /\ Sm n x.N0, fun n => ⟨Sz.zero n, Sz.zero n, Sz.zero n, Sz.zero n, Sz.zero n⟩, fun h k => ⟨Sz.mono h k.1, Sz.mono h k.2.1, Sz.mono h k.2.2.1, Sz.mono h k.2.2.2.1, Sz.mono h k.2.2.2.2⟩⟩
@[simp] theorem Qz.GZ {n : Nat} {x : Qz} (h : Sm n x) : Sm n x.Methods := h.1
@[simp] theorem Qz.nz {n : Nat} {x : Qz} (h : Sm n x) : Sm n x.Shown := h.2.1
@[simp] theorem Qz.NZ {n : Nat} {x : Qz} (h : Sm n x) : Sm n x.ZU := h.2.2.1
@[simp] theorem Qz.GM {n : Nat} {x : Qz} (h : Sm n x) : Sm n x.Zk := h.2.2.2.1
@[simp] theorem Qz.nY {n : Nat} {x : Qz} (h : Sm n x) : Sm n x.N0 := h.2.2.2.2
@[simp] theorem Qz.RN {n : Nat} {dq : Int} {fF : List Int} {bU : List Bool} {eJ : List ByteArray} {eK : List Int} {dR : List (List Int)} : Sm n (Qz.mk dq fF bU eJ eK dR) = (Sm n fF /\ Sm n bU /\ Sm n eJ /\ Sm n eK /\ Sm n dR) := rfl
structure zL where
  NV : List Za
  wA : List (List ZW)
  deriving Inhabited, DecidableEq
@[simp] def zL.row (x : zL) : List Vm.D := [.sl 2 (x.NV.map Za.row), .sl 1 (x.wA.map (slR 5 ZW.row))]
instance : Cn zL := ⟨fun x => cn x.NV + cn x.wA⟩
theorem zL.Yz (x : zL) : cn x = cn x.NV + cn x.wA := rfl
instance : Sz zL := ⟨fun n x => Sm n x.NV /\ Sm n x.wA, fun n => ⟨Sz.zero n, Sz.zero n⟩, fun h k => ⟨Sz.mono h k.1, Sz.mono h k.2⟩⟩
@[simp] theorem zL.nm {n : Nat} {x : zL} (h : Sm n x) : Sm n x.NV := h.1
@[simp] theorem zL.mG {n : Nat} {x : zL} (h : Sm n x) : Sm n x.wA := h.2
@[simp] theorem zL.RN {n : Nat} {dS : List Za} {bV : List (List ZW)} : Sm n (zL.mk dS bV) = (Sm n dS /\ Sm n bV) := rfl
structure Z0 where
  Zi : Int
  O4 : Int
  Zl : Int
  Z2 : Int
  Mark : Int
  deriving Inhabited, DecidableEq
@[simp] def Z0.row (x : Z0) : List Vm.D := [.int .i64 x.Zi, .int .i64 x.O4, .int .i64 x.Zl, .int .i64 x.Z2, .int .i64 x.Mark]
instance : Cn Z0 := ⟨fun x => cn x.Zi + cn x.O4 + cn x.Zl + cn x.Z2 + cn x.Mark⟩
theorem Z0.Yz (x : Z0) : cn x = cn x.Zi + cn x.O4 + cn x.Zl + cn x.Z2 + cn x.Mark := rfl
instance : Sz Z0 := ⟨fun _ _ => True, fun _ => trivial, fun _ h => h⟩
@[simp] theorem Z0.TO {n : Nat} {x : Z0} : Sm n x := trivial
structure NJ where
  b : List UInt8
  i : Nat
  h : Int
  deriving Inhabited, DecidableEq
@[simp] def NJ.row (x : NJ) : List Vm.D := [.sl 1 (x.b.map bR), .int .i64 (x.i : Int), .int .i64 x.h]
instance : Sz NJ := ⟨fun n x => Sm n x.b, fun n => Sz.zero n, fun h k => Sz.mono h k⟩
@[simp] theorem NJ.iP {n : Nat} {x : NJ} (h : Sm n x) : Sm n x.b := h
@[simp] theorem NJ.RN {n : Nat} {b' : List UInt8} {i' : Nat} {h' : Int} : Sm n (NJ.mk b' i' h') = (Sm n b') := rfl
structure YP where
  UM : Int
  To : Int
  ZD : List ZM
  Xa : Int
  deriving Inhabited, DecidableEq
@[simp] def YP.row (x : YP) : List Vm.D := [.int .i64 x.UM, .int .i64 x.To, .sl 16 (x.ZD.map ZM.row), .int .i64 x.Xa]
instance : Cn YP := ⟨fun x => cn x.UM + cn x.To + cn x.ZD + cn x.Xa⟩
theorem YP.Yz (x : YP) : cn x = cn x.UM + cn x.To + cn x.ZD + cn x.Xa := rfl
instance : Sz YP := ⟨fun n x => Sm n x.ZD, fun n => Sz.zero n, fun h k => Sz.mono h k⟩
@[simp] theorem YP.YO {n : Nat} {x : YP} (h : Sm n x) : Sm n x.ZD := h
@[simp] theorem YP.RN {n : Nat} {From' : Int} {To' : Int} {eM : List ZM} {aG : Int} : Sm n (YP.mk From' To' eM aG) = (Sm n eM) := rfl
structure Wa where
  Org : Int
  vv : Int
  UM : Int
  To : Int
  Key : Int
  Mark : Int
  deriving Inhabited, DecidableEq
@[simp] def Wa.row (x : Wa) : List Vm.D := [.int .i64 x.Org, .int .i64 x.vv, .int .i64 x.UM, .int .i64 x.To, .int .i64 x.Key, .int .i64 x.Mark]
instance : Cn Wa := ⟨fun x => cn x.Org + cn x.vv + cn x.UM + cn x.To + cn x.Key + cn x.Mark⟩
theorem Wa.Yz (x : Wa) : cn x = cn x.Org + cn x.vv + cn x.UM + cn x.To + cn x.Key + cn x.Mark := rfl
instance : Sz Wa := ⟨fun _ _ => True, fun _ => trivial, fun _ h => h⟩
@[simp] theorem Wa.TO {n : Nat} {x : Wa} : Sm n x := trivial
end Go.Mo
namespace Go.Mo
open Go.Vm
theorem On {α : Type} [Inhabited α] {l : List α} {i : Nat} (h : i < l.length) : nth l i = l[i] := by simp [nth, h]
theorem ur {α : Type} [Inhabited α] {l : List α} {i : Nat} (h : i < l.length) : nth l i ∈ l := by rw [On h]; exact List.getElem_mem h
theorem qO {α : Type} [Inhabited α] {F : Nat -> Nat -> List α -> List α} {a : List α} {g : α -> α} (hg : ∀ x, g x = x)
    (h1 : ∀ n i v, F (n + 1) i v = bif decide ((i : Int) < (a.length : Int)) then F n (i + 1) (v.set i (g (nth a i))) else v) :
    ∀ n i v, v.length = a.length -> a.length < n + i -> i <= a.length -> (∀ j, j < i -> v[j]? = a[j]?) -> F n i v = a := by
  intro n
  induction n with
  | zero => intro i v _ h2 h3; omega
  | succ n ih =>
    intro i v hl h2 h3 hj
    rw [h1]
    by_cases hi : i < a.length
    · have : decide ((i : Int) < (a.length : Int)) = true := by simp [hi]
      rw [this, cond_true]
      refine ih _ _ (by simp [hl]) (by omega) hi (fun j ij => ?_)
      rw [List.getElem?_set]
      by_cases aD : i = j
      · subst aD; simp [hl, hi, hg, On hi]
      · rw [if_neg aD]; exact hj j (by omega)
    · have : decide ((i : Int) < (a.length : Int)) = false := by simp; omega
      rw [this, cond_false]
      apply List.ext_getElem?
      intro j
      by_cases aD : j < i
      · exact hj j aD
      · rw [List.getElem?_eq_none (by omega), List.getElem?_eq_none (by omega)]
theorem jP {α : Type} [Inhabited α] {F : Nat -> List α -> Nat -> List α} {a : List α} {g : α -> α} (hg : ∀ x, g x = x)
    (h1 : ∀ n v i, F (n + 1) v i = bif decide ((i : Int) < (a.length : Int)) then F n (v ++ [g (nth a i)]) (i + 1) else v) :
    ∀ n v i, a.length < n + i -> i <= a.length -> F n v i = v ++ a.drop i := by
  intro n
  induction n with
  | zero => intro v i h2 h3; omega
  | succ n ih =>
    intro v i h2 h3
    rw [h1]
    by_cases hi : i < a.length
    · rw [show decide ((i : Int) < (a.length : Int)) = true by simp [hi], cond_true, ih _ _ (by omega) hi, hg, On hi, List.append_assoc, List.singleton_append, <- List.drop_eq_getElem_cons hi]
    · rw [show decide ((i : Int) < (a.length : Int)) = false by simp; omega, cond_false, List.drop_eq_nil_of_le (by omega), List.append_nil]
theorem kF {F : Nat -> Nat -> Sum Int Unit} {L : Nat} {c : Nat -> Bool} (h0 : ∀ i, F 0 i = .inr ())
    (h1 : ∀ n i, F (n + 1) i = bif decide ((i : Int) < (L : Int)) then (bif c i then .inl (i : Int) else F n (i + 1)) else .inr ()) :
    ∀ n i, (match F n i with | .inl r => r | .inr _ => -1) < (L : Int) := by
  intro n
  induction n with
  | zero => intro i; rw [h0]; show (-1 : Int) < _; omega
  | succ n ih =>
    intro i
    rw [h1]
    by_cases hi : (i : Int) < (L : Int)
    · rw [show decide ((i : Int) < (L : Int)) = true by simpa using hi, cond_true]
      cases hc : c i with
      | true => simpa using hi
      | false => exact ih (i + 1)
    · rw [show decide ((i : Int) < (L : Int)) = false by simpa using hi, cond_false]
      show (-1 : Int) < _; omega
theorem Zd {rows : List (List Vm.D)} {i : Nat} {r : List Vm.D} (h : i < rows.length) : Vm.rowAt (rows.set i r) i = r := by simp [Vm.rowAt, h]
theorem GU {α : Type} {p : α -> Prop} {l : List α} {i : Nat} {a : α} (h1 : ∀ x ∈ l, p x) (h2 : p a) : ∀ x ∈ l.set i a, p x := by
  intro x hx
  rcases List.mem_or_eq_of_mem_set hx with h | h
  · exact h1 x h
  · rw [h]; exact h2
/-- marks, from left to right -/
def mkL {α : Type} (f : α -> Int -> α × Int) : List α -> Int -> List α × Int
  | [], k => ([], k)
  | x :: l, k => ((f x k).1 :: (mkL f l (f x k).2).1, (mkL f l (f x k).2).2)
theorem Qu {α : Type} (f : α -> Int -> α × Int) : ∀ (l : List α) (k : Int), (mkL f l k).1.length = l.length
  | [], _ => rfl
  | x :: l, k => by simp [mkL, Qu f l]
theorem K2 {α : Type} [Inhabited α] {F : Nat -> Int -> Nat -> List α -> Int × List α} {f : α -> Int -> α × Int}
    (h1 : ∀ n k i v, F (n + 1) k i v = bif decide ((i : Int) < (v.length : Int)) then F n (f (nth v i) k).2 (i + 1) (v.set i (f (nth v i) k).1) else (k, v)) :
    ∀ (l pre : List α) (n : Nat) (k : Int), l.length < n -> F n k pre.length (pre ++ l) = ((mkL f l k).2, pre ++ (mkL f l k).1) := by
  intro l
  induction l with
  | nil =>
    intro pre n k hn
    obtain ⟨m, rfl⟩ : ∃ m, n = m + 1 := ⟨n - 1, by simp at hn; omega⟩
    rw [h1]; simp [mkL]
  | cons x l ih =>
    intro pre n k hn
    obtain ⟨m, rfl⟩ : ∃ m, n = m + 1 := ⟨n - 1, by simp at hn; omega⟩
    have hx : nth (pre ++ x :: l) pre.length = x := by simp [nth]
    have hs : ∀ y, (pre ++ x :: l).set pre.length y = (pre ++ [y]) ++ l := by intro y; simp
    have hd : decide ((pre.length : Int) < ((pre ++ x :: l).length : Int)) = true := by simp; omega
    rw [h1, hd, cond_true, hx, hs]
    have := ih (pre ++ [(f x k).1]) m (f x k).2 (by simp at hn; omega)
    rw [List.length_append, List.length_singleton] at this
    rw [this]; simp [mkL]
theorem Wz {z : Int} (h : 0 <= z) (h2 : z < 4611686018427387904) : W (z + 1) = z + 1 := YG (by omega) (by omega)
theorem Qt {α : Type} {f : α -> Int -> α × Int} {c : α -> Nat} (hc : ∀ (x : α) (k : Int), 0 <= k -> k + c x < 4611686018427387904 -> (f x k).2 = k + c x) :
    ∀ (l : List α) (k : Int), 0 <= k -> k + cnL c l < 4611686018427387904 -> (mkL f l k).2 = k + cnL c l
  | [], k, _, _ => by simp [mkL, cnL]
  | x :: l, k, h0, h => by
    simp only [cnL, Int.natCast_add] at h
    have e := hc x k h0 (by omega)
    have := Qt hc l (f x k).2 (by omega) (by omega)
    show (mkL f l (f x k).2).2 = _
    rw [this, e]; simp only [cnL, Int.natCast_add]; omega
theorem zQ {α : Type} [Inhabited α] {z : List α} {H : Nat -> Int -> Nat -> Sum Int Int} {G : α -> Int -> (Int -> Sum Int Int) -> Sum Int Int} {f : α -> Int -> α × Int} {c : α -> Nat}
    (h1 : ∀ n k i, H (n + 1) k i = bif decide ((i : Int) < (z.length : Int)) then G (nth z i) k (fun k' => H n k' (i + 1)) else .inr k)
    (hc : ∀ (x : α) (k : Int), 0 <= k -> k + c x < 4611686018427387904 -> (f x k).2 = k + c x) (hG : ∀ (x : α) (k : Int) (r : Int -> Sum Int Int), 0 <= k -> k + c x < 4611686018427387904 -> G (f x k).1 k r = r (f x k).2) :
    ∀ (l pre : List α) (n : Nat) (k : Int), z = pre ++ (mkL f l k).1 -> l.length < n -> 0 <= k -> k + cnL c l < 4611686018427387904 -> H n k pre.length = .inr (mkL f l k).2 := by
  intro l
  induction l with
  | nil =>
    intro pre n k hz hn _ _
    obtain ⟨m, rfl⟩ : ∃ m, n = m + 1 := ⟨n - 1, by simp at hn; omega⟩
    rw [h1]; simp [mkL] at hz; subst hz; simp [mkL]
  | cons x l ih =>
    intro pre n k hz hn h0 h
    obtain ⟨m, rfl⟩ : ∃ m, n = m + 1 := ⟨n - 1, by simp at hn; omega⟩
    simp only [cnL, Int.natCast_add] at h
    have e := hc x k h0 (by omega)
    have hx : nth z pre.length = (f x k).1 := by rw [hz]; simp [nth, mkL]
    have hd : decide ((pre.length : Int) < (z.length : Int)) = true := by rw [hz]; simp [mkL]; omega
    rw [h1, hd, cond_true, hx, hG x k _ h0 (by omega)]
    have := ih (pre ++ [(f x k).1]) m (f x k).2 (by rw [hz]; simp [mkL]) (by simp at hn; omega) (by omega) (by omega)
    rw [List.length_append, List.length_singleton] at this
    rw [this]; rfl
/-- a length that is reckoned off a purse -/
def ks {α : Type} [Inhabited α] [Sz α] (F : α -> Int -> Int) : Prop := ∀ a n, Sm maxLen a -> 0 <= n -> n <= 1048576 -> ¬ F a n < 0 -> Sm 1048576 a /\ F a n <= 1048576
theorem CE {n : Int} {l : Nat} (h0 : 0 <= n) (hn : n <= 1048576) (hl : l <= maxLen) : W (n - l) = n - l := by
  have hl : l <= 9223372036854775807 := hl
  exact YG (by omega) (by omega)
theorem Sq {α : Type} [Inhabited α] [Sz α] (hs : ∀ (n : Nat) (x : α), Sm n x) {F : List α -> Int -> Int} (hF : ∀ a n, F a n = bif decide (W (n - (a.length : Int)) < 0) then (-1) else W (n - (a.length : Int))) : ks F := by
  intro a n hm h0 hn h
  rw [hF, CE h0 hn hm.1] at h ⊢
  by_cases hc : n - (a.length : Int) < 0
  · rw [show decide (n - (a.length : Int) < 0) = true by simpa using hc, cond_true] at h; omega
  · rw [show decide (n - (a.length : Int) < 0) = false by simpa using hc, cond_false] at h ⊢
    exact ⟨⟨by omega, fun x _ => hs _ x⟩, by omega⟩
theorem ng {α : Type} [Inhabited α] [Sz α] {E : α -> Int -> Int} (hE : ks E) {a : List α} (hm : Sm maxLen a) {G : Nat -> Int -> Nat -> Sum Int Int}
    (h1 : ∀ n v i, G (n + 1) v i = bif decide ((i : Int) < (a.length : Int)) then (bif decide (E (nth a i) v < 0) then .inl (-1) else G n (E (nth a i) v) (i + 1)) else .inr v) :
    ∀ n v i, 0 <= v -> v <= 1048576 -> a.length < n + i -> i <= a.length -> ¬ (match G n v i with | .inl r => r | .inr z => z) < 0 -> (∀ j, i <= j -> j < a.length -> Sm 1048576 (nth a j)) /\ (match G n v i with | .inl r => r | .inr z => z) <= 1048576 := by
  intro n
  induction n with
  | zero => intro v i _ _ h2 h3; omega
  | succ n ih =>
    intro v i ck hv h2 h3 h
    rw [h1] at h ⊢
    by_cases hi : i < a.length
    · rw [show decide ((i : Int) < (a.length : Int)) = true by simp [hi], cond_true] at h ⊢
      by_cases hc : E (nth a i) v < 0
      · rw [show decide (E (nth a i) v < 0) = true by simpa using hc, cond_true] at h; simp at h
      · rw [show decide (E (nth a i) v < 0) = false by simpa using hc, cond_false] at h ⊢
        obtain ⟨e1, e2⟩ := hE (nth a i) v (hm.2 _ (ur hi)) ck hv hc
        obtain ⟨r1, r2⟩ := ih _ (i + 1) (by omega) e2 (by omega) hi h
        refine ⟨fun j hj hjl => ?_, r2⟩
        by_cases aD : j = i
        · subst aD; exact e1
        · exact r1 j (by omega) hjl
    · rw [show decide ((i : Int) < (a.length : Int)) = false by simp; omega, cond_false] at h ⊢
      exact ⟨fun j hj hjl => by omega, hv⟩
theorem Pp {α : Type} [Inhabited α] [Sz α] {E : α -> Int -> Int} (hE : ks E) {F : List α -> Int -> Int} {G : List α -> Nat -> Int -> Nat -> Sum Int Int}
    (h1 : ∀ a n v i, G a (n + 1) v i = bif decide ((i : Int) < (a.length : Int)) then (bif decide (E (nth a i) v < 0) then .inl (-1) else G a n (E (nth a i) v) (i + 1)) else .inr v)
    (hF : ∀ a n, F a n = bif decide (W (n - (a.length : Int)) < 0) then (-1) else (match G a (a.length + 1) (W (n - (a.length : Int))) 0 with | .inl r => r | .inr z => z)) : ks F := by
  intro a n hm h0 hn h
  rw [hF, CE h0 hn hm.1] at h ⊢
  by_cases hc : n - (a.length : Int) < 0
  · rw [show decide (n - (a.length : Int) < 0) = true by simpa using hc, cond_true] at h; omega
  · rw [show decide (n - (a.length : Int) < 0) = false by simpa using hc, cond_false] at h ⊢
    obtain ⟨r1, r2⟩ := ng hE hm (h1 a) (a.length + 1) _ 0 (by omega) (by omega) (by omega) (by omega) h
    refine ⟨⟨by omega, fun x hx => ?_⟩, r2⟩
    obtain ⟨j, hj, rfl⟩ := List.mem_iff_getElem.1 hx
    rw [<- On hj]; exact r1 j (by omega) hj
theorem sC : ks (fun (s : ByteArray) n => W (n - (s.size : Int))) := by
  intro a n hm h0 hn h
  have hm : a.size <= maxLen := hm
  dsimp only at h ⊢
  rw [CE h0 hn hm] at h ⊢
  exact ⟨show a.size <= 1048576 by omega, by omega⟩
/-- the purse pays for the marks -/
def kb {α : Type} [Inhabited α] [Sz α] [Cn α] (F : α -> Int -> Int) (c : Nat) : Prop := ∀ a n, Sm maxLen a -> 0 <= n -> n <= 1048576 -> ¬ F a n < 0 -> (cn a : Int) <= 32 * (n - F a n) + c /\ F a n <= n
theorem rX {α : Type} {c : α -> Nat} {m : Nat} (h : ∀ x, c x <= m) : ∀ l : List α, cnL c l <= m * l.length
  | [] => by simp [cnL]
  | x :: l => by have := rX h l; have := h x; simp only [cnL, List.length_cons, Nat.mul_add]; omega
theorem Nn {α : Type} {c : α -> Nat} {m : Nat} (h : ∀ x, c x = m) : ∀ l : List α, cnL c l = m * l.length
  | [] => by simp [cnL]
  | x :: l => by simp only [cnL, h, Nn h l, List.length_cons, Nat.mul_add]; omega
theorem Hq (l : List Int) : cn l = l.length := by rw [X5, Nn (c := (cn : Int -> Nat)) (m := 1) (fun _ => rfl)]; simp
theorem ZS {α : Type} {p : α -> Prop} {c : Bool} {x y : α} (hx : p x) (hy : p y) : p (bif c then x else y) := by cases c; exact hy; exact hx
theorem Jp {α : Type} {p : α -> Prop} {c : Bool} {x y : α} (hx : c = true -> p x) (hy : c = false -> p y) : p (bif c then x else y) := by cases c; exact hy rfl; exact hx rfl
theorem vV {α : Type} {F : Nat -> List α -> Nat -> List α} {L : Nat} {c : Nat -> Bool} {g : Nat -> α} (h0 : ∀ v i, F 0 v i = [])
    (h1 : ∀ n v i, F (n + 1) v i = bif decide ((i : Int) < (L : Int)) then (bif c i then F n (v ++ [g i]) (i + 1) else F n v (i + 1)) else v) : ∀ n v i, (F n v i).length <= v.length + (L - i) := by
  intro n
  induction n with
  | zero => intro v i; rw [h0]; simp
  | succ n ih =>
    intro v i
    rw [h1]
    by_cases hi : i < L
    · rw [show decide ((i : Int) < (L : Int)) = true by simp [hi], cond_true]
      cases c i with
      | true => have := ih (v ++ [g i]) (i + 1); rw [cond_true]; simp at this; omega
      | false => have := ih v (i + 1); rw [cond_false]; omega
    · rw [show decide ((i : Int) < (L : Int)) = false by simp; omega, cond_false]; omega
theorem wv {α : Type} {F : Nat -> List α -> Nat -> List α} {L : Nat} {g : Nat -> α} (h0 : ∀ v i, F 0 v i = [])
    (h1 : ∀ n v i, F (n + 1) v i = bif decide ((i : Int) < (L : Int)) then F n (v ++ [g i]) (i + 1) else v) : ∀ n v i, (F n v i).length <= v.length + (L - i) := by
  intro n
  induction n with
  | zero => intro v i; rw [h0]; simp
  | succ n ih =>
    intro v i
    rw [h1]
    by_cases hi : i < L
    · rw [show decide ((i : Int) < (L : Int)) = true by simp [hi], cond_true]
      have := ih (v ++ [g i]) (i + 1); simp at this; omega
    · rw [show decide ((i : Int) < (L : Int)) = false by simp; omega, cond_false]; omega
theorem Kx {n m : Nat} {s : Za} {r : ZK} (hn : n + 1 <= m) (h : Sm n s) (hr : Sm m r) : Sm m (Za.mk s.ZL (s.Zf ++ [r])) := by
  refine ⟨ZZ (by omega) h.1, ⟨?_, fun x hx => ?_⟩⟩
  · have := h.2.1; simp; omega
  · rcases List.mem_append.1 hx with hx | hx
    · exact ZZ (by omega) (h.2.2 x hx)
    · simp at hx; subst hx; exact hr
theorem Sj {α : Type} [Inhabited α] [Sz α] [Cn α] (hs : ∀ x : α, cn x <= 32) {F : List α -> Int -> Int} (hF : ∀ a n, F a n = bif decide (W (n - (a.length : Int)) < 0) then (-1) else W (n - (a.length : Int))) : kb F 0 := by
  intro a n hm h0 hn h
  rw [hF, CE h0 hn hm.1] at h ⊢
  by_cases hc : n - (a.length : Int) < 0
  · rw [show decide (n - (a.length : Int) < 0) = true by simpa using hc, cond_true] at h; omega
  · rw [show decide (n - (a.length : Int) < 0) = false by simpa using hc, cond_false] at h ⊢
    have := rX hs a
    rw [X5]; omega
theorem nX {α : Type} [Inhabited α] [Sz α] [Cn α] {E : α -> Int -> Int} {c : Nat} (hE : kb E c) (hcc : c <= 32) {a : List α} (hm : Sm maxLen a) {G : Nat -> Int -> Nat -> Sum Int Int}
    (h1 : ∀ n v i, G (n + 1) v i = bif decide ((i : Int) < (a.length : Int)) then (bif decide (E (nth a i) v < 0) then .inl (-1) else G n (E (nth a i) v) (i + 1)) else .inr v) :
    ∀ n v i, 0 <= v -> v <= 1048576 -> a.length < n + i -> i <= a.length -> ¬ (match G n v i with | .inl r => r | .inr z => z) < 0 ->
      (cnL cn (a.drop i) : Int) <= 32 * (v - (match G n v i with | .inl r => r | .inr z => z)) + 32 * ((a.length : Int) - i) /\ (match G n v i with | .inl r => r | .inr z => z) <= v := by
  intro n
  induction n with
  | zero => intro v i _ _ h2 h3; omega
  | succ n ih =>
    intro v i ck hv h2 h3 h
    rw [h1] at h ⊢
    by_cases hi : i < a.length
    · rw [show decide ((i : Int) < (a.length : Int)) = true by simp [hi], cond_true] at h ⊢
      by_cases hc : E (nth a i) v < 0
      · rw [show decide (E (nth a i) v < 0) = true by simpa using hc, cond_true] at h; simp at h
      · rw [show decide (E (nth a i) v < 0) = false by simpa using hc, cond_false] at h ⊢
        obtain ⟨e1, e2⟩ := hE (nth a i) v (hm.2 _ (ur hi)) ck hv hc
        obtain ⟨r1, r2⟩ := ih _ (i + 1) (by omega) (by omega) (by omega) hi h
        rw [List.drop_eq_getElem_cons hi, cnL, <- On hi]
        refine ⟨?_, by omega⟩
        simp only [Int.natCast_add] at r1 ⊢
        omega
    · rw [show decide ((i : Int) < (a.length : Int)) = false by simp; omega, cond_false] at h ⊢
      rw [List.drop_eq_nil_of_le (by omega)]
      simp only [cnL]
      exact ⟨by omega, by omega⟩
theorem Pr {α : Type} [Inhabited α] [Sz α] [Cn α] {E : α -> Int -> Int} {c : Nat} (hE : kb E c) (hcc : c <= 32) {F : List α -> Int -> Int} {G : List α -> Nat -> Int -> Nat -> Sum Int Int}
    (h1 : ∀ a n v i, G a (n + 1) v i = bif decide ((i : Int) < (a.length : Int)) then (bif decide (E (nth a i) v < 0) then .inl (-1) else G a n (E (nth a i) v) (i + 1)) else .inr v)
    (hF : ∀ a n, F a n = bif decide (W (n - (a.length : Int)) < 0) then (-1) else (match G a (a.length + 1) (W (n - (a.length : Int))) 0 with | .inl r => r | .inr z => z)) : kb F 0 := by
  intro a n hm h0 hn h
  rw [hF, CE h0 hn hm.1] at h ⊢
  by_cases hc : n - (a.length : Int) < 0
  · rw [show decide (n - (a.length : Int) < 0) = true by simpa using hc, cond_true] at h; omega
  · rw [show decide (n - (a.length : Int) < 0) = false by simpa using hc, cond_false] at h ⊢
    obtain ⟨r1, r2⟩ := nX hE hcc hm (h1 a) (a.length + 1) _ 0 (by omega) (by omega) (by omega) (by omega) h
    rw [List.drop_zero] at r1
    rw [X5]
    exact ⟨by omega, by omega⟩
theorem tE : kb (fun (s : ByteArray) n => W (n - (s.size : Int))) 1 := by
  intro a n hm h0 hn h
  have hm : a.size <= maxLen := hm
  dsimp only at h ⊢
  rw [CE h0 hn hm] at h ⊢
  rw [QL]
  exact ⟨by omega, by omega⟩
end Go.Mo
namespace Go.Mo
open Go.Vm
theorem qQ {F : Nat -> Nat -> Sum Bool Unit} {L : Nat} {c : Nat -> Bool} (hc : ∀ i, c i = false) (h0 : ∀ i, F 0 i = .inr ())
    (h1 : ∀ n i, F (n + 1) i = bif decide ((i : Int) < (L : Int)) then (bif c i then .inl false else F n (i + 1)) else .inr ()) : ∀ n i, F n i = .inr () := by
  intro n
  induction n with
  | zero => exact h0
  | succ n ih =>
    intro i
    rw [h1, hc, cond_false, ih]
    cases decide ((i : Int) < (L : Int)) <;> rfl
end Go.Mo
namespace Go.Mo
open Go.Vm
theorem K1 (n : Int) : W n = (n + 9223372036854775808) % 18446744073709551616 - 9223372036854775808 := IntKind.wrap_i64 n
theorem pb {α : Type} [Inhabited α] [DecidableEq α] {F : Nat -> Nat -> Sum Bool Unit} {a b : List α} {c : Nat -> Bool} (hl : a.length = b.length) (hc : ∀ i, c i = !decide (nth a i = nth b i)) (h0 : ∀ i, F 0 i = .inr ())
    (h1 : ∀ n i, F (n + 1) i = bif decide ((i : Int) < (a.length : Int)) then (bif c i then .inl false else F n (i + 1)) else .inr ()) :
    F (a.length + 1) 0 = if a = b then .inr () else .inl false := by
  have key : ∀ n i, a.length < n + i -> F n i = if a.drop i = b.drop i then .inr () else .inl false := by
    intro n
    induction n with
    | zero =>
      intro i h
      rw [h0, List.drop_eq_nil_of_le (by omega), List.drop_eq_nil_of_le (by omega), if_pos rfl]
    | succ n ih =>
      intro i h
      rw [h1]
      by_cases hi : i < a.length
      · have hib : i < b.length := by omega
        rw [show decide ((i : Int) < (a.length : Int)) = true by simp [hi], cond_true, hc, List.drop_eq_getElem_cons hi, List.drop_eq_getElem_cons hib, On hi, On hib]
        by_cases he : a[i] = b[i]
        · rw [he, show decide (b[i] = b[i]) = true by simp, Bool.not_true, cond_false, ih _ (by omega)]
          simp only [List.cons.injEq, true_and]
        · rw [show decide (a[i] = b[i]) = false by simp [he], if_neg (fun hh => he (List.cons.inj hh).1)]
          rfl
      · rw [show decide ((i : Int) < (a.length : Int)) = false by simp; omega, cond_false, List.drop_eq_nil_of_le (by omega), List.drop_eq_nil_of_le (by omega), if_pos rfl]
  have := key (a.length + 1) 0 (by omega)
  simpa using this
theorem oX {α : Type} [Inhabited α] [DecidableEq α] {F : Nat -> Nat -> Sum Bool Unit} {a b : List α} {c : Nat -> Bool} (hc : ∀ i, c i = !decide (nth a i = nth b i)) (h0 : ∀ i, F 0 i = .inr ())
    (h1 : ∀ n i, F (n + 1) i = bif decide ((i : Int) < (a.length : Int)) then (bif c i then .inl false else F n (i + 1)) else .inr ()) :
    (bif ((a.length : Int) != (b.length : Int)) then false else (match F (a.length + 1) 0 with | .inl r => r | .inr _ => true)) = decide (a = b) := by
  by_cases hl : a.length = b.length
  · rw [pb hl hc h0 h1]
    simp only [hl, bne_self_eq_false, cond_false]
    by_cases h : a = b <;> simp [h]
  · have iU : a ≠ b := fun h => hl (by rw [h])
    have : ((a.length : Int) != (b.length : Int)) = true := by simp; omega
    rw [this, cond_true]; simp [iU]
end Go.Mo
namespace Go.Mo
open Go.Vm
theorem zS {α : Type} [Inhabited α] [Sz α] {f : α -> List D} {n : Nat} : ∀ {rows : List (List D)}, (∀ r, r ∈ rows -> ∃ x : α, r = f x /\ Sm n x) -> ∃ l : List α, rows = l.map f /\ ∀ x ∈ l, Sm n x
  | [], _ => ⟨[], rfl, fun _ h => by cases h⟩
  | r :: rows, h => by
    obtain ⟨x, hx, sx⟩ := h r (by simp)
    obtain ⟨l, hl, sl⟩ := zS (rows := rows) (fun r hr => h r (by simp [hr]))
    refine ⟨x :: l, by simp [hx, hl], fun y hy => ?_⟩
    rcases List.mem_cons.1 hy with rfl | hy
    · exact sx
    · exact sl y hy
theorem Zs (row : List D) (o s : Nat) : row.drop o = cut row o s ++ row.drop (o + s) := by
  rw [<- List.drop_drop, cut, List.take_append_drop]
end Go.Mo
namespace Go.Mo
open Go.Vm
theorem Gz {P : Program} {n : Nat} {t : TypeId} {ts : List TypeId} : ∀ {rows : List (List D)}, CK P n (t :: ts) rows -> ∃ r rs, rows = r :: rs /\ TyR P n t r /\ CK P n ts rs
  | r :: rs, h => ⟨r, rs, rfl, h.1, h.2⟩
  | [], h => h.elim
theorem tu {P : Program} {n : Nat} : ∀ {rows : List (List D)}, CK P n [] rows -> rows = []
  | [], _ => rfl
  | _ :: _, h => h.elim
end Go.Mo
namespace Go.Mo
open Go.Vm
@[simp] theorem nr (l : List UInt8) : Ka l = l.map bR := rfl
@[simp] theorem nu (x : Int) : ((UInt8.ofInt x).toNat : Int) = IntKind.u8.wrap x := by
  rw [IntKind.wrap_u8]
  simp [UInt8.ofInt]
  omega
theorem rK (x : Int) : (W (Int.tdiv x 10)).natAbs <= 9223372036854775808 /\ (W (Int.tdiv x 10)).natAbs <= x.natAbs / 10 := by
  rw [K1]
  have : (Int.tdiv x 10).natAbs = x.natAbs / 10 := by rw [Int.natAbs_tdiv]; rfl
  omega
theorem pC {x : Int} {n : Nat} (h : n + 1 = 21 \/ x.natAbs < 10 ^ (n + 1)) : (W (Int.tdiv x 10)).natAbs < 10 ^ n := by
  obtain ⟨h1, h2⟩ := rK x
  rcases h with h | h
  · have : n = 20 := by omega
    subst this
    have : (10 : Nat) ^ 20 = 100000000000000000000 := by decide
    omega
  · rw [Nat.pow_succ] at h; omega
end Go.Mo
namespace Go.Mo
open Go.Vm
theorem np {p : Nat} {x : Int} (hj : p + 1 = 22 \/ x.natAbs < 10 ^ (p + 1 - 1)) (hx : (x != 0) = true) : 1 <= p /\ (p = 22 \/ (W (Int.tdiv x 10)).natAbs < 10 ^ (p - 1)) := by
  have hx : x ≠ 0 := by simpa using hx
  have hp : 1 <= p := by
    rcases hj with h | h
    · omega
    · rcases Nat.eq_zero_or_pos p with hz | hz
      · subst hz; simp at h; exact absurd h hx
      · exact hz
  refine ⟨hp, .inr ?_⟩
  obtain ⟨q, rfl⟩ : ∃ q, p = q + 1 := ⟨p - 1, by omega⟩
  exact pC (x := x) (n := q) (hj.elim (fun h => .inl (by omega)) (fun h => .inr (by simpa using h)))
end Go.Mo
namespace Go.Mo
open Go.Vm
@[simp] theorem mR {α : Type} {l : List α} {n : Nat} (h : l.length <= n) : List.take n l = l := List.take_of_length_le h
@[simp] theorem pV {α β : Type} (f : α -> β) (l : List α) : List.take l.length (List.map f l) = List.map f l := List.take_of_length_le (by simp)
@[simp] theorem oL (n : Nat) : 1 + n = n + 1 := Nat.add_comm 1 n
@[simp] theorem mv {α β : Type} (f : α -> β) (l : List α) (x y : β) : List.take (2 + l.length) (x :: y :: List.map f l) = x :: y :: List.map f l := List.take_of_length_le (by simp; omega)
@[simp] theorem lA {α β : Type} (f : α -> β) (l : List α) (x y z : β) : List.take (3 + l.length) (x :: y :: z :: List.map f l) = x :: y :: z :: List.map f l := List.take_of_length_le (by simp; omega)
@[simp] theorem mq {α β : Type} (f : α -> β) (l : List α) (x y z u : β) : List.take (4 + l.length) (x :: y :: z :: u :: List.map f l) = x :: y :: z :: u :: List.map f l := List.take_of_length_le (by simp; omega)
@[simp] theorem my {α β : Type} (f : α -> β) (l : List α) (x y z u v : β) : List.take (5 + l.length) (x :: y :: z :: u :: v :: List.map f l) = x :: y :: z :: u :: v :: List.map f l := List.take_of_length_le (by simp; omega)
@[simp] theorem mu {α β : Type} (f : α -> β) (l : List α) (x y z u v w : β) : List.take (6 + l.length) (x :: y :: z :: u :: v :: w :: List.map f l) = x :: y :: z :: u :: v :: w :: List.map f l := List.take_of_length_le (by simp; omega)
theorem rz (n : Nat) (h : n <= 9223372036854775807) : W ((n : Int) - 1) = (n : Int) - 1 := YG (by omega) (by omega)
end Go.Mo
namespace Go.Mo
@[simp] theorem m7 (a : Array UInt8) : (ByteArray.mk a).size = a.size := rfl
@[simp] theorem mm {α : Type} {l : List α} {x : α} {v n : Nat} (h : l.length = n) : List.take (min v n + 1 + (n - v)) (List.take v l ++ x :: List.drop v l) = List.take v l ++ x :: List.drop v l := by
  apply List.take_of_length_le; simp; omega
@[simp] theorem mr (a b : Nat) : (min a b + 1 + (b - a) = min a b + (b - a + 1)) = True := by simp; omega
theorem Pc {α : Type} [Inhabited α] [Sz α] {n i : Nat} {l : List α} {x : α} (h : Sm n l) (hx : Sm n x) : Sm n (l.set i x) :=
  ⟨by simpa using h.1, fun y hy => by
    rcases List.mem_or_eq_of_mem_set hy with hy | rfl
    · exact h.2 y hy
    · exact hx⟩
theorem ue {α : Type} (a b : α) : cond true a b = a /\ cond false a b = b := ⟨rfl, rfl⟩
theorem Yu {α : Type} (a b : α) : cond true a b = a := (ue a b).1
theorem YY {α : Type} (a b : α) : cond false a b = b := (ue a b).2
/-- a side condition that is found by itself -/
theorem sd {a b : Prop} (h : b) (k : a := by (intros; first | omega | (simp only [decide_eq_true_eq, decide_eq_false_iff_not, beq_iff_eq, beq_eq_false_iff_ne, bne_iff_ne, ne_eq, Bool.or_eq_false_iff, Bool.or_eq_true, Bool.and_eq_true, Bool.not_eq_true', Bool.not_eq_false'] at *; omega) | ((try simp only [Go.Mo.K1, show ∀ x, Go.IntKind.i64.wrap x = Go.Vm.W x from fun _ => rfl] at *); omega))) : a /\ b := ⟨k, h⟩
theorem sdg {a b : Prop} (h : b) (k : a := by (intros; first | omega | (simp_all; done) | (simp_all; omega) | grind | ((try simp only [Go.Mo.K1, show ∀ x, Go.IntKind.i64.wrap x = Go.Vm.W x from fun _ => rfl] at *); omega))) : a /\ b := ⟨k, h⟩
theorem il {a b : Nat} (h : a < b := by first | omega | (simp only [decide_eq_true_eq, decide_eq_false_iff_not, beq_iff_eq, beq_eq_false_iff_ne, bne_iff_ne, ne_eq, Bool.or_eq_false_iff, Bool.not_eq_true', Bool.not_eq_false'] at *; omega) | (simp_all [List.length_pos_iff]; done) | (simp; omega) | (simp_all; omega) | ((try simp only [Go.Mo.K1, show ∀ x, Go.IntKind.i64.wrap x = Go.Vm.W x from fun _ => rfl] at *); omega) | (simp; (try simp only [Go.Mo.K1, show ∀ x, Go.IntKind.i64.wrap x = Go.Vm.W x from fun _ => rfl] at *); omega)) : a < b := h
theorem ik {α : Type} (a : Nat) (l : List α) (h : a < l.length := by first | omega | (simp only [decide_eq_true_eq, decide_eq_false_iff_not, beq_iff_eq, beq_eq_false_iff_ne, bne_iff_ne, ne_eq, Bool.or_eq_false_iff, Bool.not_eq_true', Bool.not_eq_false'] at *; omega) | (simp_all [List.length_pos_iff]; done) | (simp; omega) | (simp_all; omega) | ((try simp only [Go.Mo.K1, show ∀ x, Go.IntKind.i64.wrap x = Go.Vm.W x from fun _ => rfl] at *); omega) | (simp; (try simp only [Go.Mo.K1, show ∀ x, Go.IntKind.i64.wrap x = Go.Vm.W x from fun _ => rfl] at *); omega)) : a < l.length := h
theorem sl {α : Type} [Inhabited α] [Sz α] (n : Nat) (l : List α) {q : Prop} (u : q) (h : q -> Sm n l := by (intro u; simp (maxDischargeDepth := 12) [u])) : l.length <= n := XP (h u)
theorem sg {α : Type} [Inhabited α] [Sz α] {n m : Nat} {x : α} (h : Sm n x) (k : n <= m := by decide) : Sm m x := ZZ k h
theorem zq {α : Type} (c : α -> Nat) : ∀ (l m : List α), cnL c (l ++ m) = cnL c l + cnL c m
  | [], m => by simp [cnL]
  | y :: l, m => by have := zq c l m; simp only [List.cons_append, cnL]; omega
theorem T1 {α : Type} [Inhabited α] {l : List α} {i : Nat} (h : i < l.length) : l.drop i = Vm.nth l i :: l.drop (i + 1) := by
  rw [List.drop_eq_getElem_cons h]; simp [Vm.nth, List.getD_eq_getElem?_getD, List.getElem?_eq_getElem h]
theorem Lf {α : Type} [Inhabited α] (c : α -> Nat) {l : List α} {i : Nat} (h : i < l.length) : cnL c (l.drop i) = c (Vm.nth l i) + cnL c (l.drop (i + 1)) := by rw [T1 h]; rfl
theorem EC {α β : Type} [Inhabited α] {as : List α} (f : α -> List β) {F : Nat -> Nat -> List β -> List β} (h1 : ∀ n i l, F (n + 1) i l = bif decide ((i : Int) < (as.length : Int)) then F n (i + 1) (l ++ f (Vm.nth as i)) else l) : ∀ n i l, as.length < n + i -> i <= as.length -> F n i l = l ++ (as.drop i).flatMap f
  | 0, i, l, h, h2 => by omega
  | n + 1, i, l, h, h2 => by
    rw [h1]
    by_cases hi : i < as.length
    · rw [show decide ((i : Int) < (as.length : Int)) = true by simpa using hi, Yu, EC f h1 n (i + 1) _ (by omega) hi, T1 hi]; simp
    · rw [show decide ((i : Int) < (as.length : Int)) = false by simpa using hi, YY, List.drop_eq_nil_of_le (by omega)]; simp
theorem Hy {α β : Type} (f : α -> β) : ∀ l : List α, l.flatMap (fun a => [f a]) = l.map f
  | [] => rfl
  | x :: l => by rw [List.flatMap_cons, Hy f l]; rfl
end Go.Mo
